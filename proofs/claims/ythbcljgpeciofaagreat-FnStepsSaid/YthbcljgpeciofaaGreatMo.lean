/- The plain data of the program, typed, and rG they read as rows of the abstract machine. No condition. -/
import Derived.Test.YthbcljgpeciofaaGreatVe
import Derived.Laws.BitsLemmas
namespace Go.Mo
open Go.Vm
@[simp] def iR (n : Int) : List Vm.D := [.int .i64 n]
@[simp] def bR (b : UInt8) : List Vm.D := [.int .u8 (b.toNat : Int)]
@[simp] def lR (b : Bool) : List Vm.D := [.bool b]
@[simp] def sR (s : ByteArray) : List Vm.D := [.str s]
@[simp] def slR {α : Type} (n : Nat) (f : α -> List D) (m : List α) : List Vm.D := [.sl n (m.map f)]
/-- everything in it is at most so long -/
class Sz (α : Type) [Inhabited α] where
  sm : Nat -> α -> Prop
  zero : ∀ n, sm n default
  mono : ∀ {n m : Nat} {x : α}, n <= m -> sm n x -> sm m x
/-- rG many marks it takes -/
class Cn (α : Type) where
  cn : α -> Nat
abbrev cn {α : Type} [Cn α] (x : α) : Nat := Cn.cn x
def cnL {α : Type} (c : α -> Nat) : List α -> Nat
  | [] => 0
  | x :: l => c x + cnL c l
instance : Cn Int := ⟨fun _ => 1⟩
instance : Cn Bool := ⟨fun _ => 1⟩
instance : Cn UInt8 := ⟨fun _ => 1⟩
instance : Cn ByteArray := ⟨fun _ => 1⟩
instance {α : Type} [Cn α] : Cn (List α) := ⟨cnL Cn.cn⟩
abbrev Sm {α : Type} [Inhabited α] [Sz α] (n : Nat) (x : α) : Prop := Sz.sm n x
instance : Sz Int := ⟨fun _ _ => True, fun _ => trivial, fun _ h => h⟩
instance : Sz Bool := ⟨fun _ _ => True, fun _ => trivial, fun _ h => h⟩
instance : Sz UInt8 := ⟨fun _ _ => True, fun _ => trivial, fun _ h => h⟩
instance : Sz ByteArray := ⟨fun n s => s.size <= n, fun _ => Nat.zero_le _, fun h k => Nat.le_trans k h⟩
instance {α : Type} [Inhabited α] [Sz α] : Sz (List α) := ⟨fun n l => l.length <= n /\ ∀ x ∈ l, Sz.sm n x, fun _ => ⟨Nat.zero_le _, fun _ h => by cases h⟩, fun h k => ⟨Nat.le_trans k.1 h, fun x hx => Sz.mono h (k.2 x hx)⟩⟩
theorem XO {α : Type} [Inhabited α] [Sz α] {n : Nat} {l : List α} : Sm n l = (l.length <= n /\ ∀ x ∈ l, Sm n x) := rfl
theorem XZ {α : Type} [Inhabited α] [Sz α] {n : Nat} {l : List α} (h : Sm n l) : l.length <= n := h.1
theorem Ia {n : Nat} {s : ByteArray} (h : Sm n s) : s.size <= n := h
@[simp] theorem wj {n : Nat} {x : Int} : Sm n x := trivial
@[simp] theorem wV {n : Nat} {x : Bool} : Sm n x := trivial
@[simp] theorem vA {n : Nat} {x : UInt8} : Sm n x := trivial
@[simp] theorem Ud {α : Type} [Inhabited α] [Sz α] {n : Nat} : Sm n ([] : List α) := ⟨Nat.zero_le _, fun _ h => by cases h⟩
@[simp] theorem YU {α : Type} [Inhabited α] [Sz α] {n i : Nat} {l : List α} (h : Sm n l) : Sm n (nth l i) := by
  unfold nth
  rw [List.getD_eq_getElem?_getD]
  cases hh : l[i]? with
  | none => exact Sz.zero n
  | some x => exact h.2 x (List.mem_of_getElem? hh)
@[simp] theorem wX {α : Type} [Inhabited α] [Sz α] {n i : Nat} {l : List α} (h : Sm n l) : Sm n (l.take i) := ⟨Nat.le_trans (by simp; omega) h.1, fun x hx => h.2 x (List.mem_of_mem_take hx)⟩
@[simp] theorem wS {α : Type} [Inhabited α] [Sz α] {n i : Nat} {l : List α} (h : Sm n l) : Sm n (l.drop i) := ⟨Nat.le_trans (by simp) h.1, fun x hx => h.2 x (List.mem_of_mem_drop hx)⟩
theorem Jz {α : Type} [Inhabited α] [Sz α] {n : Nat} {l m : List α} : Sm n (l ++ m) = (l.length + m.length <= n /\ (∀ x ∈ l, Sm n x) /\ ∀ x ∈ m, Sm n x) := by
  rw [XO]; simp [or_imp, forall_and]
theorem Zb {α : Type} [Inhabited α] [Sz α] {n m : Nat} {x : α} (h : n <= m) (k : Sm n x) : Sm m x := Sz.mono h k
structure Zo where
  Authority : Int
  Seq : Int
  Time : Int
  XJ : Int
  Mark : Int
  deriving Inhabited, DecidableEq
@[simp] def Zo.row (x : Zo) : List Vm.D := [.int .i64 x.Authority, .int .i64 x.Seq, .int .i64 x.Time, .int .i64 x.XJ, .int .i64 x.Mark]
instance : Cn Zo := ⟨fun x => cn x.Authority + cn x.Seq + cn x.Time + cn x.XJ + cn x.Mark⟩
instance : Sz Zo := ⟨fun _ _ => True, fun _ => trivial, fun _ h => h⟩
@[simp] theorem Zo.kz {n : Nat} {x : Zo} : Sm n x := trivial
structure X4 where
  XJ : Int
  Left : Bool
  deriving Inhabited, DecidableEq
@[simp] def X4.row (x : X4) : List Vm.D := [.int .i64 x.XJ, .bool x.Left]
instance : Cn X4 := ⟨fun x => cn x.XJ + cn x.Left⟩
instance : Sz X4 := ⟨fun _ _ => True, fun _ => trivial, fun _ h => h⟩
@[simp] theorem X4.kz {n : Nat} {x : X4} : Sm n x := trivial
structure Zc where
  Count : Int
  Method : Int
  GB : Int
  Path : List X4
  Xe : List Zo
  deriving Inhabited, DecidableEq
@[simp] def Zc.row (x : Zc) : List Vm.D := [.int .i64 x.Count, .int .i64 x.Method, .int .i64 x.GB, .sl 2 (x.Path.map X4.row), .sl 5 (x.Xe.map Zo.row)]
instance : Cn Zc := ⟨fun x => cn x.Count + cn x.Method + cn x.GB + cn x.Path + cn x.Xe⟩
instance : Sz Zc := ⟨fun n x => Sm n x.Path /\ Sm n x.Xe, fun n => ⟨Sz.zero n, Sz.zero n⟩, fun h k => ⟨Sz.mono h k.1, Sz.mono h k.2⟩⟩
@[simp] theorem Zc.wY {n : Nat} {x : Zc} (h : Sm n x) : Sm n x.Path := h.1
@[simp] theorem Zc.Ex {n : Nat} {x : Zc} (h : Sm n x) : Sm n x.Xe := h.2
@[simp] theorem Zc.kY {n : Nat} {m5 : Int} {nr : Int} {ij : Int} {mH : List X4} {oE : List Zo} : Sm n (Zc.mk m5 nr ij mH oE) = (Sm n mH /\ Sm n oE) := rfl
structure Y4 where
  Number : Int
  zY : Int
  Method : Int
  qN : Int
  jC : Int
  deriving Inhabited, DecidableEq
@[simp] def Y4.row (x : Y4) : List Vm.D := [.int .i64 x.Number, .int .i64 x.zY, .int .i64 x.Method, .int .i64 x.qN, .int .i64 x.jC]
instance : Cn Y4 := ⟨fun x => cn x.Number + cn x.zY + cn x.Method + cn x.qN + cn x.jC⟩
instance : Sz Y4 := ⟨fun _ _ => True, fun _ => trivial, fun _ h => h⟩
@[simp] theorem Y4.kz {n : Nat} {x : Y4} : Sm n x := trivial
structure Zr where
  Id : Int
  Key : Int
  Error : Int
  deriving Inhabited, DecidableEq
@[simp] def Zr.row (x : Zr) : List Vm.D := [.int .i64 x.Id, .int .i64 x.Key, .int .i64 x.Error]
instance : Cn Zr := ⟨fun x => cn x.Id + cn x.Key + cn x.Error⟩
instance : Sz Zr := ⟨fun _ _ => True, fun _ => trivial, fun _ h => h⟩
@[simp] theorem Zr.kz {n : Nat} {x : Zr} : Sm n x := trivial
structure YH where
  Id : Int
  Wn : Int
  Ends : Int
  WJ : Int
  deriving Inhabited, DecidableEq
@[simp] def YH.row (x : YH) : List Vm.D := [.int .i64 x.Id, .int .i64 x.Wn, .int .i64 x.Ends, .int .i64 x.WJ]
instance : Cn YH := ⟨fun x => cn x.Id + cn x.Wn + cn x.Ends + cn x.WJ⟩
instance : Sz YH := ⟨fun _ _ => True, fun _ => trivial, fun _ h => h⟩
@[simp] theorem YH.kz {n : Nat} {x : YH} : Sm n x := trivial
structure Zv where
  Zk : List Y4
  ZD : List Zr
  Methods : List YH
  Ky : Int
  Now : Int
  deriving Inhabited, DecidableEq
@[simp] def Zv.row (x : Zv) : List Vm.D := [.sl 5 (x.Zk.map Y4.row), .sl 3 (x.ZD.map Zr.row), .sl 4 (x.Methods.map YH.row), .int .i64 x.Ky, .int .i64 x.Now]
instance : Cn Zv := ⟨fun x => cn x.Zk + cn x.ZD + cn x.Methods + cn x.Ky + cn x.Now⟩
instance : Sz Zv := ⟨fun n x => Sm n x.Zk /\ Sm n x.ZD /\ Sm n x.Methods, fun n => ⟨Sz.zero n, Sz.zero n, Sz.zero n⟩, fun h k => ⟨Sz.mono h k.1, Sz.mono h k.2.1, Sz.mono h k.2.2⟩⟩
@[simp] theorem Zv.zc {n : Nat} {x : Zv} (h : Sm n x) : Sm n x.Zk := h.1
@[simp] theorem Zv.Jf {n : Nat} {x : Zv} (h : Sm n x) : Sm n x.ZD := h.2.1
@[simp] theorem Zv.Ft {n : Nat} {x : Zv} (h : Sm n x) : Sm n x.Methods := h.2.2
@[simp] theorem Zv.kY {n : Nat} {mI : List Y4} {sS : List Zr} {sA : List YH} {m7 : Int} {fg : Int} : Sm n (Zv.mk mI sS sA m7 fg) = (Sm n mI /\ Sm n sS /\ Sm n sA) := rfl
structure Ye where
  ZV : Int
  Key : Int
  zY : Int
  qA : Int
  To : Int
  Zn : Int
  Mark : Int
  deriving Inhabited, DecidableEq
@[simp] def Ye.row (x : Ye) : List Vm.D := [.int .i64 x.ZV, .int .i64 x.Key, .int .i64 x.zY, .int .i64 x.qA, .int .i64 x.To, .int .i64 x.Zn, .int .i64 x.Mark]
instance : Cn Ye := ⟨fun x => cn x.ZV + cn x.Key + cn x.zY + cn x.qA + cn x.To + cn x.Zn + cn x.Mark⟩
instance : Sz Ye := ⟨fun _ _ => True, fun _ => trivial, fun _ h => h⟩
@[simp] theorem Ye.kz {n : Nat} {x : Ye} : Sm n x := trivial
structure Zd where
  yS : Int
  YR : List ByteArray
  XP : List Int
  deriving Inhabited, DecidableEq
@[simp] def Zd.row (x : Zd) : List Vm.D := [.int .i64 x.yS, .sl 1 (x.YR.map sR), .sl 1 (x.XP.map iR)]
instance : Cn Zd := ⟨fun x => cn x.yS + cn x.YR + cn x.XP⟩
instance : Sz Zd := ⟨fun n x => Sm n x.YR /\ Sm n x.XP, fun n => ⟨Sz.zero n, Sz.zero n⟩, fun h k => ⟨Sz.mono h k.1, Sz.mono h k.2⟩⟩
@[simp] theorem Zd.Um {n : Nat} {x : Zd} (h : Sm n x) : Sm n x.YR := h.1
@[simp] theorem Zd.GM {n : Nat} {x : Zd} (h : Sm n x) : Sm n x.XP := h.2
@[simp] theorem Zd.kY {n : Nat} {p7 : Int} {rC : List ByteArray} {rD : List Int} : Sm n (Zd.mk p7 rC rD) = (Sm n rC /\ Sm n rD) := rfl
structure Zm where
  Key : Int
  ZV : Int
  Method : Int
  XJ : Int
  y6 : Int
  Org : Int
  y1 : Int
  j6 : Int
  Mark : Int
  deriving Inhabited, DecidableEq
@[simp] def Zm.row (x : Zm) : List Vm.D := [.int .i64 x.Key, .int .i64 x.ZV, .int .i64 x.Method, .int .i64 x.XJ, .int .i64 x.y6, .int .i64 x.Org, .int .i64 x.y1, .int .i64 x.j6, .int .i64 x.Mark]
instance : Cn Zm := ⟨fun x => cn x.Key + cn x.ZV + cn x.Method + cn x.XJ + cn x.y6 + cn x.Org + cn x.y1 + cn x.j6 + cn x.Mark⟩
instance : Sz Zm := ⟨fun _ _ => True, fun _ => trivial, fun _ h => h⟩
@[simp] theorem Zm.kz {n : Nat} {x : Zm} : Sm n x := trivial
structure Zf where
  Key : Int
  Y0 : List Int
  Mark : Int
  deriving Inhabited, DecidableEq
@[simp] def Zf.row (x : Zf) : List Vm.D := [.int .i64 x.Key, .sl 1 (x.Y0.map iR), .int .i64 x.Mark]
instance : Cn Zf := ⟨fun x => cn x.Key + cn x.Y0 + cn x.Mark⟩
instance : Sz Zf := ⟨fun n x => Sm n x.Y0, fun n => Sz.zero n, fun h k => Sz.mono h k⟩
@[simp] theorem Zf.BA {n : Nat} {x : Zf} (h : Sm n x) : Sm n x.Y0 := h
@[simp] theorem Zf.kY {n : Nat} {fh : Int} {mJ : List Int} {im : Int} : Sm n (Zf.mk fh mJ im) = (Sm n mJ) := rfl
structure Zi where
  ZO : List Zf
  Zj : List Zc
  deriving Inhabited, DecidableEq
@[simp] def Zi.row (x : Zi) : List Vm.D := [.sl 3 (x.ZO.map Zf.row), .sl 5 (x.Zj.map Zc.row)]
instance : Cn Zi := ⟨fun x => cn x.ZO + cn x.Zj⟩
instance : Sz Zi := ⟨fun n x => Sm n x.ZO /\ Sm n x.Zj, fun n => ⟨Sz.zero n, Sz.zero n⟩, fun h k => ⟨Sz.mono h k.1, Sz.mono h k.2⟩⟩
@[simp] theorem Zi.WX {n : Nat} {x : Zi} (h : Sm n x) : Sm n x.ZO := h.1
@[simp] theorem Zi.j0 {n : Nat} {x : Zi} (h : Sm n x) : Sm n x.Zj := h.2
@[simp] theorem Zi.kY {n : Nat} {oF : List Zf} {nH : List Zc} : Sm n (Zi.mk oF nH) = (Sm n oF /\ Sm n nH) := rfl
structure ZZ where
  Id : Int
  Y9 : Int
  Doc : Zd
  Sig : Zm
  ZM : Zi
  deriving Inhabited, DecidableEq
@[simp] def ZZ.row (x : ZZ) : List Vm.D := [.int .i64 x.Id, .int .i64 x.Y9, .int .i64 x.Doc.yS, .sl 1 (x.Doc.YR.map sR), .sl 1 (x.Doc.XP.map iR), .int .i64 x.Sig.Key, .int .i64 x.Sig.ZV, .int .i64 x.Sig.Method, .int .i64 x.Sig.XJ, .int .i64 x.Sig.y6, .int .i64 x.Sig.Org, .int .i64 x.Sig.y1, .int .i64 x.Sig.j6, .int .i64 x.Sig.Mark, .sl 3 (x.ZM.ZO.map Zf.row), .sl 5 (x.ZM.Zj.map Zc.row)]
instance : Cn ZZ := ⟨fun x => cn x.Id + cn x.Y9 + cn x.Doc + cn x.Sig + cn x.ZM⟩
instance : Sz ZZ := ⟨fun n x => Sm n x.Doc /\ Sm n x.ZM, fun n => ⟨Sz.zero n, Sz.zero n⟩, fun h k => ⟨Sz.mono h k.1, Sz.mono h k.2⟩⟩
@[simp] theorem ZZ.PG {n : Nat} {x : ZZ} (h : Sm n x) : Sm n x.Doc := h.1
@[simp] theorem ZZ.JY {n : Nat} {x : ZZ} (h : Sm n x) : Sm n x.ZM := h.2
@[simp] theorem ZZ.kY {n : Nat} {fj : Int} {iq : Int} {nI : Zd} {fk : Zm} {oG : Zi} : Sm n (ZZ.mk fj iq nI fk oG) = (Sm n nI /\ Sm n oG) := rfl
structure ZF where
  Id : Int
  ZC : List ZZ
  deriving Inhabited, DecidableEq
@[simp] def ZF.row (x : ZF) : List Vm.D := [.int .i64 x.Id, .sl 16 (x.ZC.map ZZ.row)]
instance : Cn ZF := ⟨fun x => cn x.Id + cn x.ZC⟩
instance : Sz ZF := ⟨fun n x => Sm n x.ZC, fun n => Sz.zero n, fun h k => Sz.mono h k⟩
@[simp] theorem ZF.Yn {n : Nat} {x : ZF} (h : Sm n x) : Sm n x.ZC := h
@[simp] theorem ZF.kY {n : Nat} {fj : Int} {rE : List ZZ} : Sm n (ZF.mk fj rE) = (Sm n rE) := rfl
structure ZH where
  Frame : Zv
  ZR : List Ye
  Zu : List Int
  ZA : List ZF
  YG : List Int
  YW : List Int
  Next : Int
  Yk : List Int
  deriving Inhabited, DecidableEq
@[simp] def ZH.row (x : ZH) : List Vm.D := [.sl 5 (x.Frame.Zk.map Y4.row), .sl 3 (x.Frame.ZD.map Zr.row), .sl 4 (x.Frame.Methods.map YH.row), .int .i64 x.Frame.Ky, .int .i64 x.Frame.Now, .sl 7 (x.ZR.map Ye.row), .sl 1 (x.Zu.map iR), .sl 2 (x.ZA.map ZF.row), .sl 1 (x.YG.map iR), .sl 1 (x.YW.map iR), .int .i64 x.Next, .sl 1 (x.Yk.map iR)]
instance : Cn ZH := ⟨fun x => cn x.Frame + cn x.ZR + cn x.Zu + cn x.ZA + cn x.YG + cn x.YW + cn x.Next + cn x.Yk⟩
instance : Sz ZH := ⟨fun n x => Sm n x.Frame /\ Sm n x.ZR /\ Sm n x.Zu /\ Sm n x.ZA /\ Sm n x.YG /\ Sm n x.YW /\ Sm n x.Yk, fun n => ⟨Sz.zero n, Sz.zero n, Sz.zero n, Sz.zero n, Sz.zero n, Sz.zero n, Sz.zero n⟩, fun h k => ⟨Sz.mono h k.1, Sz.mono h k.2.1, Sz.mono h k.2.2.1, Sz.mono h k.2.2.2.1, Sz.mono h k.2.2.2.2.1, Sz.mono h k.2.2.2.2.2.1, Sz.mono h k.2.2.2.2.2.2⟩⟩
@[simp] theorem ZH.XY {n : Nat} {x : ZH} (h : Sm n x) : Sm n x.Frame := h.1
@[simp] theorem ZH.Av {n : Nat} {x : ZH} (h : Sm n x) : Sm n x.ZR := h.2.1
@[simp] theorem ZH.Gi {n : Nat} {x : ZH} (h : Sm n x) : Sm n x.Zu := h.2.2.1
@[simp] theorem ZH.YX {n : Nat} {x : ZH} (h : Sm n x) : Sm n x.ZA := h.2.2.2.1
@[simp] theorem ZH.Iu {n : Nat} {x : ZH} (h : Sm n x) : Sm n x.YG := h.2.2.2.2.1
@[simp] theorem ZH.CV {n : Nat} {x : ZH} (h : Sm n x) : Sm n x.YW := h.2.2.2.2.2.1
@[simp] theorem ZH.Eg {n : Nat} {x : ZH} (h : Sm n x) : Sm n x.Yk := h.2.2.2.2.2.2
@[simp] theorem ZH.kY {n : Nat} {nJ : Zv} {nK : List Ye} {nL : List Int} {rl : List ZF} {mK : List Int} {nM : List Int} {ir : Int} {oH : List Int} : Sm n (ZH.mk nJ nK nL rl mK nM ir oH) = (Sm n nJ /\ Sm n nK /\ Sm n nL /\ Sm n rl /\ Sm n mK /\ Sm n nM /\ Sm n oH) := rfl
structure WE where
  Kind : Int
  A : Int
  B : Int
  C : Int
  D : Int
  Doc : Zd
  Ids : List Int
  deriving Inhabited, DecidableEq
@[simp] def WE.row (x : WE) : List Vm.D := [.int .i64 x.Kind, .int .i64 x.A, .int .i64 x.B, .int .i64 x.C, .int .i64 x.D, .int .i64 x.Doc.yS, .sl 1 (x.Doc.YR.map sR), .sl 1 (x.Doc.XP.map iR), .sl 1 (x.Ids.map iR)]
instance : Cn WE := ⟨fun x => cn x.Kind + cn x.A + cn x.B + cn x.C + cn x.D + cn x.Doc + cn x.Ids⟩
instance : Sz WE := ⟨fun n x => Sm n x.Doc /\ Sm n x.Ids, fun n => ⟨Sz.zero n, Sz.zero n⟩, fun h k => ⟨Sz.mono h k.1, Sz.mono h k.2⟩⟩
@[simp] theorem WE.PG {n : Nat} {x : WE} (h : Sm n x) : Sm n x.Doc := h.1
@[simp] theorem WE.wu {n : Nat} {x : WE} (h : Sm n x) : Sm n x.Ids := h.2
@[simp] theorem WE.kY {n : Nat} {iu : Int} {A' : Int} {B' : Int} {C' : Int} {D' : Int} {nI : Zd} {iv : List Int} : Sm n (WE.mk iu A' B' C' D' nI iv) = (Sm n nI /\ Sm n iv) := rfl
structure jI where
  qA : Int
  To : Int
  deriving Inhabited, DecidableEq
@[simp] def jI.row (x : jI) : List Vm.D := [.int .i64 x.qA, .int .i64 x.To]
instance : Cn jI := ⟨fun x => cn x.qA + cn x.To⟩
instance : Sz jI := ⟨fun _ _ => True, fun _ => trivial, fun _ h => h⟩
@[simp] theorem jI.kz {n : Nat} {x : jI} : Sm n x := trivial
structure Wi where
  Code : Int
  Reason : Int
  Span : jI
  deriving Inhabited, DecidableEq
@[simp] def Wi.row (x : Wi) : List Vm.D := [.int .i64 x.Code, .int .i64 x.Reason, .int .i64 x.Span.qA, .int .i64 x.Span.To]
instance : Cn Wi := ⟨fun x => cn x.Code + cn x.Reason + cn x.Span⟩
instance : Sz Wi := ⟨fun _ _ => True, fun _ => trivial, fun _ h => h⟩
@[simp] theorem Wi.kz {n : Nat} {x : Wi} : Sm n x := trivial
structure Qd where
  yS : Int
  Methods : List Int
  Shown : List Bool
  YR : List ByteArray
  XP : List Int
  Ok : List (List Int)
  deriving Inhabited, DecidableEq
@[simp] def Qd.row (x : Qd) : List Vm.D := [.int .i64 x.yS, .sl 1 (x.Methods.map iR), .sl 1 (x.Shown.map lR), .sl 1 (x.YR.map sR), .sl 1 (x.XP.map iR), .sl 1 (x.Ok.map (slR 1 iR))]
instance : Cn Qd := ⟨fun x => cn x.yS + cn x.Methods + cn x.Shown + cn x.YR + cn x.XP + cn x.Ok⟩
instance : Sz Qd := ⟨fun n x => Sm n x.Methods /\ Sm n x.Shown /\ Sm n x.YR /\ Sm n x.XP /\ Sm n x.Ok, fun n => ⟨Sz.zero n, Sz.zero n, Sz.zero n, Sz.zero n, Sz.zero n⟩, fun h k => ⟨Sz.mono h k.1, Sz.mono h k.2.1, Sz.mono h k.2.2.1, Sz.mono h k.2.2.2.1, Sz.mono h k.2.2.2.2⟩⟩
@[simp] theorem Qd.Ft {n : Nat} {x : Qd} (h : Sm n x) : Sm n x.Methods := h.1
@[simp] theorem Qd.Ao {n : Nat} {x : Qd} (h : Sm n x) : Sm n x.Shown := h.2.1
@[simp] theorem Qd.Um {n : Nat} {x : Qd} (h : Sm n x) : Sm n x.YR := h.2.2.1
@[simp] theorem Qd.GM {n : Nat} {x : Qd} (h : Sm n x) : Sm n x.XP := h.2.2.2.1
@[simp] theorem Qd.AH {n : Nat} {x : Qd} (h : Sm n x) : Sm n x.Ok := h.2.2.2.2
@[simp] theorem Qd.kY {n : Nat} {p7 : Int} {sA : List Int} {nN : List Bool} {rC : List ByteArray} {rD : List Int} {pX : List (List Int)} : Sm n (Qd.mk p7 sA nN rC rD pX) = (Sm n sA /\ Sm n nN /\ Sm n rC /\ Sm n rD /\ Sm n pX) := rfl
structure zM where
  Oh : List Zi
  EJ : List (List Zo)
  deriving Inhabited, DecidableEq
@[simp] def zM.row (x : zM) : List Vm.D := [.sl 2 (x.Oh.map Zi.row), .sl 1 (x.EJ.map (slR 5 Zo.row))]
instance : Cn zM := ⟨fun x => cn x.Oh + cn x.EJ⟩
instance : Sz zM := ⟨fun n x => Sm n x.Oh /\ Sm n x.EJ, fun n => ⟨Sz.zero n, Sz.zero n⟩, fun h k => ⟨Sz.mono h k.1, Sz.mono h k.2⟩⟩
@[simp] theorem zM.Ai {n : Nat} {x : zM} (h : Sm n x) : Sm n x.Oh := h.1
@[simp] theorem zM.wD {n : Nat} {x : zM} (h : Sm n x) : Sm n x.EJ := h.2
@[simp] theorem zM.kY {n : Nat} {pY : List Zi} {nO : List (List Zo)} : Sm n (zM.mk pY nO) = (Sm n pY /\ Sm n nO) := rfl
structure Zp where
  ZV : Int
  Sr : Int
  Zu : Int
  Zn : Int
  Mark : Int
  deriving Inhabited, DecidableEq
@[simp] def Zp.row (x : Zp) : List Vm.D := [.int .i64 x.ZV, .int .i64 x.Sr, .int .i64 x.Zu, .int .i64 x.Zn, .int .i64 x.Mark]
instance : Cn Zp := ⟨fun x => cn x.ZV + cn x.Sr + cn x.Zu + cn x.Zn + cn x.Mark⟩
instance : Sz Zp := ⟨fun _ _ => True, fun _ => trivial, fun _ h => h⟩
@[simp] theorem Zp.kz {n : Nat} {x : Zp} : Sm n x := trivial
structure ZS where
  b : List UInt8
  i : Nat
  h : Int
  deriving Inhabited, DecidableEq
@[simp] def ZS.row (x : ZS) : List Vm.D := [.sl 1 (x.b.map bR), .int .i64 (x.i : Int), .int .i64 x.h]
instance : Sz ZS := ⟨fun n x => Sm n x.b, fun n => Sz.zero n, fun h k => Sz.mono h k⟩
@[simp] theorem ZS.v5 {n : Nat} {x : ZS} (h : Sm n x) : Sm n x.b := h
@[simp] theorem ZS.kY {n : Nat} {b' : List UInt8} {i' : Nat} {h' : Int} : Sm n (ZS.mk b' i' h') = (Sm n b') := rfl
structure XE where
  qA : Int
  To : Int
  ZC : List ZZ
  XJ : Int
  deriving Inhabited, DecidableEq
@[simp] def XE.row (x : XE) : List Vm.D := [.int .i64 x.qA, .int .i64 x.To, .sl 16 (x.ZC.map ZZ.row), .int .i64 x.XJ]
instance : Cn XE := ⟨fun x => cn x.qA + cn x.To + cn x.ZC + cn x.XJ⟩
instance : Sz XE := ⟨fun n x => Sm n x.ZC, fun n => Sz.zero n, fun h k => Sz.mono h k⟩
@[simp] theorem XE.Yn {n : Nat} {x : XE} (h : Sm n x) : Sm n x.ZC := h
@[simp] theorem XE.kY {n : Nat} {iw : Int} {cb : Int} {rE : List ZZ} {nt : Int} : Sm n (XE.mk iw cb rE nt) = (Sm n rE) := rfl
structure Wp where
  Org : Int
  D5 : Int
  qA : Int
  To : Int
  Key : Int
  Mark : Int
  deriving Inhabited, DecidableEq
@[simp] def Wp.row (x : Wp) : List Vm.D := [.int .i64 x.Org, .int .i64 x.D5, .int .i64 x.qA, .int .i64 x.To, .int .i64 x.Key, .int .i64 x.Mark]
instance : Cn Wp := ⟨fun x => cn x.Org + cn x.D5 + cn x.qA + cn x.To + cn x.Key + cn x.Mark⟩
instance : Sz Wp := ⟨fun _ _ => True, fun _ => trivial, fun _ h => h⟩
@[simp] theorem Wp.kz {n : Nat} {x : Wp} : Sm n x := trivial
end Go.Mo
namespace Go.Mo
open Go.Vm
theorem Jr {α : Type} [Inhabited α] {l : List α} {i : Nat} (h : i < l.length) : nth l i = l[i] := by simp [nth, h]
theorem xB {α : Type} [Inhabited α] {F : Nat -> List α -> Nat -> List α} {a : List α} {g : α -> α} (hg : ∀ x, g x = x)
    (h1 : ∀ n v i, F (n + 1) v i = bif decide ((i : Int) < (a.length : Int)) then F n (v ++ [g (nth a i)]) (i + 1) else v) :
    ∀ n v i, a.length < n + i -> i <= a.length -> F n v i = v ++ a.drop i := by
  intro n
  induction n with
  | zero => intro v i h2 h3; omega
  | succ n ih =>
    intro v i h2 h3
    rw [h1]
    by_cases hi : i < a.length
    · rw [show decide ((i : Int) < (a.length : Int)) = true by simp [hi], cond_true, ih _ _ (by omega) hi, hg, Jr hi, List.append_assoc, List.singleton_append, <- List.drop_eq_getElem_cons hi]
    · rw [show decide ((i : Int) < (a.length : Int)) = false by simp; omega, cond_false, List.drop_eq_nil_of_le (by omega), List.append_nil]
theorem qT {F : Nat -> Nat -> Sum Int Unit} {L : Nat} {c : Nat -> Bool} (h0 : ∀ i, F 0 i = .inr ())
    (h1 : ∀ n i, F (n + 1) i = bif decide ((i : Int) < (L : Int)) then (bif c i then .inl (i : Int) else F n (i + 1)) else .inr ()) :
    ∀ n i, (match F n i with | .inl r => r | .inr _ => -1) < (L : Int) := by
  intro n
  induction n with
  | zero => intro i; rw [h0]; show (-1 : Int) < _; omega
  | succ n ih =>
    intro i
    rw [h1]
    by_cases hi : (i : Int) < (L : Int)
    · rw [show decide ((i : Int) < (L : Int)) = true by simpa using hi, cond_true]
      cases hc : c i with
      | true => simpa using hi
      | false => exact ih (i + 1)
    · rw [show decide ((i : Int) < (L : Int)) = false by simpa using hi, cond_false]
      show (-1 : Int) < _; omega
theorem YZ {rows : List (List Vm.D)} {i : Nat} {r : List Vm.D} (h : i < rows.length) : Vm.rowAt (rows.set i r) i = r := by simp [Vm.rowAt, h]
theorem qE {α : Type} {p : α -> Prop} {l : List α} {i : Nat} {a : α} (h1 : ∀ x ∈ l, p x) (h2 : p a) : ∀ x ∈ l.set i a, p x := by
  intro x hx
  rcases List.mem_or_eq_of_mem_set hx with h | h
  · exact h1 x h
  · rw [h]; exact h2
theorem Ze {α : Type} {p : α -> Prop} {c : Bool} {x y : α} (hx : p x) (hy : p y) : p (bif c then x else y) := by cases c; exact hy; exact hx
theorem Yb {α : Type} {p : α -> Prop} {c : Bool} {x y : α} (hx : c = true -> p x) (hy : c = false -> p y) : p (bif c then x else y) := by cases c; exact hy rfl; exact hx rfl
theorem H8 {α : Type} {F : Nat -> List α -> Nat -> List α} {L : Nat} {g : Nat -> α} (h0 : ∀ v i, F 0 v i = [])
    (h1 : ∀ n v i, F (n + 1) v i = bif decide ((i : Int) < (L : Int)) then F n (v ++ [g i]) (i + 1) else v) : ∀ n v i, (F n v i).length <= v.length + (L - i) := by
  intro n
  induction n with
  | zero => intro v i; rw [h0]; simp
  | succ n ih =>
    intro v i
    rw [h1]
    by_cases hi : i < L
    · rw [show decide ((i : Int) < (L : Int)) = true by simp [hi], cond_true]
      have := ih (v ++ [g i]) (i + 1); simp at this; omega
    · rw [show decide ((i : Int) < (L : Int)) = false by simp; omega, cond_false]; omega
theorem JS {n m : Nat} {s : Zi} {r : Zc} (hn : n + 1 <= m) (h : Sm n s) (hr : Sm m r) : Sm m (Zi.mk s.ZO (s.Zj ++ [r])) := by
  refine ⟨Zb (by omega) h.1, ⟨?_, fun x hx => ?_⟩⟩
  · have := h.2.1; simp; omega
  · rcases List.mem_append.1 hx with hx | hx
    · exact Zb (by omega) (h.2.2 x hx)
    · simp at hx; subst hx; exact hr
end Go.Mo
namespace Go.Mo
open Go.Vm
end Go.Mo
namespace Go.Mo
open Go.Vm
theorem Xc (n : Int) : W n = (n + 9223372036854775808) % 18446744073709551616 - 9223372036854775808 := IntKind.wrap_i64 n
theorem jN {α : Type} [Inhabited α] [DecidableEq α] {F : Nat -> Nat -> Sum Bool Unit} {a b : List α} {c : Nat -> Bool} (hl : a.length = b.length) (hc : ∀ i, c i = !decide (nth a i = nth b i)) (h0 : ∀ i, F 0 i = .inr ())
    (h1 : ∀ n i, F (n + 1) i = bif decide ((i : Int) < (a.length : Int)) then (bif c i then .inl false else F n (i + 1)) else .inr ()) :
    F (a.length + 1) 0 = if a = b then .inr () else .inl false := by
  have key : ∀ n i, a.length < n + i -> F n i = if a.drop i = b.drop i then .inr () else .inl false := by
    intro n
    induction n with
    | zero =>
      intro i h
      rw [h0, List.drop_eq_nil_of_le (by omega), List.drop_eq_nil_of_le (by omega), if_pos rfl]
    | succ n ih =>
      intro i h
      rw [h1]
      by_cases hi : i < a.length
      · have ea : i < b.length := by omega
        rw [show decide ((i : Int) < (a.length : Int)) = true by simp [hi], cond_true, hc, List.drop_eq_getElem_cons hi, List.drop_eq_getElem_cons ea, Jr hi, Jr ea]
        by_cases he : a[i] = b[i]
        · rw [he, show decide (b[i] = b[i]) = true by simp, Bool.not_true, cond_false, ih _ (by omega)]
          simp only [List.cons.injEq, true_and]
        · rw [show decide (a[i] = b[i]) = false by simp [he], if_neg (fun hh => he (List.cons.inj hh).1)]
          rfl
      · rw [show decide ((i : Int) < (a.length : Int)) = false by simp; omega, cond_false, List.drop_eq_nil_of_le (by omega), List.drop_eq_nil_of_le (by omega), if_pos rfl]
  have := key (a.length + 1) 0 (by omega)
  simpa using this
theorem HZ {α : Type} [Inhabited α] [DecidableEq α] {F : Nat -> Nat -> Sum Bool Unit} {a b : List α} {c : Nat -> Bool} (hc : ∀ i, c i = !decide (nth a i = nth b i)) (h0 : ∀ i, F 0 i = .inr ())
    (h1 : ∀ n i, F (n + 1) i = bif decide ((i : Int) < (a.length : Int)) then (bif c i then .inl false else F n (i + 1)) else .inr ()) :
    (bif ((a.length : Int) != (b.length : Int)) then false else (match F (a.length + 1) 0 with | .inl r => r | .inr _ => true)) = decide (a = b) := by
  by_cases hl : a.length = b.length
  · rw [jN hl hc h0 h1]
    simp only [hl, bne_self_eq_false, cond_false]
    by_cases h : a = b <;> simp [h]
  · have uD : a ≠ b := fun h => hl (by rw [h])
    have : ((a.length : Int) != (b.length : Int)) = true := by simp; omega
    rw [this, cond_true]; simp [uD]
end Go.Mo
namespace Go.Mo
open Go.Vm
theorem GI {α : Type} [Inhabited α] [Sz α] {f : α -> List D} {n : Nat} : ∀ {rows : List (List D)}, (∀ r, r ∈ rows -> ∃ x : α, r = f x /\ Sm n x) -> ∃ l : List α, rows = l.map f /\ ∀ x ∈ l, Sm n x
  | [], _ => ⟨[], rfl, fun _ h => by cases h⟩
  | r :: rows, h => by
    obtain ⟨x, hx, sx⟩ := h r (by simp)
    obtain ⟨l, hl, sl⟩ := GI (rows := rows) (fun r hr => h r (by simp [hr]))
    refine ⟨x :: l, by simp [hx, hl], fun y hy => ?_⟩
    rcases List.mem_cons.1 hy with rfl | hy
    · exact sx
    · exact sl y hy
end Go.Mo
namespace Go.Mo
open Go.Vm
theorem G7 {P : Program} {n : Nat} {t : TypeId} {ts : List TypeId} : ∀ {rows : List (List D)}, L5 P n (t :: ts) rows -> ∃ r rs, rows = r :: rs /\ TyR P n t r /\ L5 P n ts rs
  | r :: rs, h => ⟨r, rs, rfl, h.1, h.2⟩
  | [], h => h.elim
theorem Ez {P : Program} {n : Nat} : ∀ {rows : List (List D)}, L5 P n [] rows -> rows = []
  | [], _ => rfl
  | _ :: _, h => h.elim
end Go.Mo
namespace Go.Mo
open Go.Vm
@[simp] theorem vB (l : List UInt8) : J1 l = l.map bR := rfl
@[simp] theorem Ax (x : Int) : ((UInt8.ofInt x).toNat : Int) = IntKind.u8.wrap x := by
  rw [IntKind.wrap_u8]
  simp [UInt8.ofInt]
  omega
end Go.Mo
namespace Go.Mo
open Go.Vm
end Go.Mo
namespace Go.Mo
open Go.Vm
@[simp] theorem Az {α : Type} {l : List α} {n : Nat} (h : l.length <= n) : List.take n l = l := List.take_of_length_le h
@[simp] theorem Ba {α β : Type} (f : α -> β) (l : List α) : List.take l.length (List.map f l) = List.map f l := List.take_of_length_le (by simp)
@[simp] theorem AD (n : Nat) : 1 + n = n + 1 := Nat.add_comm 1 n
@[simp] theorem wQ {α β : Type} (f : α -> β) (l : List α) (x y : β) : List.take (2 + l.length) (x :: y :: List.map f l) = x :: y :: List.map f l := List.take_of_length_le (by simp; omega)
@[simp] theorem wZ {α β : Type} (f : α -> β) (l : List α) (x y z : β) : List.take (3 + l.length) (x :: y :: z :: List.map f l) = x :: y :: z :: List.map f l := List.take_of_length_le (by simp; omega)
@[simp] theorem wW {α β : Type} (f : α -> β) (l : List α) (x y z u : β) : List.take (4 + l.length) (x :: y :: z :: u :: List.map f l) = x :: y :: z :: u :: List.map f l := List.take_of_length_le (by simp; omega)
@[simp] theorem wR {α β : Type} (f : α -> β) (l : List α) (x y z u v : β) : List.take (5 + l.length) (x :: y :: z :: u :: v :: List.map f l) = x :: y :: z :: u :: v :: List.map f l := List.take_of_length_le (by simp; omega)
@[simp] theorem wU {α β : Type} (f : α -> β) (l : List α) (x y z u v w : β) : List.take (6 + l.length) (x :: y :: z :: u :: v :: w :: List.map f l) = x :: y :: z :: u :: v :: w :: List.map f l := List.take_of_length_le (by simp; omega)
theorem D1 (n : Nat) (h : n <= 9223372036854775807) : W ((n : Int) - 1) = (n : Int) - 1 := Yg (by omega) (by omega)
end Go.Mo
namespace Go.Mo
@[simp] theorem wa (a : Array UInt8) : (ByteArray.mk a).size = a.size := rfl
@[simp] theorem wK {α : Type} {l : List α} {x : α} {v n : Nat} (h : l.length = n) : List.take (min v n + 1 + (n - v)) (List.take v l ++ x :: List.drop v l) = List.take v l ++ x :: List.drop v l := by
  apply List.take_of_length_le; simp; omega
@[simp] theorem wT (a b : Nat) : (min a b + 1 + (b - a) = min a b + (b - a + 1)) = True := by simp; omega
theorem xM {α : Type} [Inhabited α] [Sz α] {n i : Nat} {l : List α} {x : α} (h : Sm n l) (hx : Sm n x) : Sm n (l.set i x) :=
  ⟨by simpa using h.1, fun y hy => by
    rcases List.mem_or_eq_of_mem_set hy with hy | rfl
    · exact h.2 y hy
    · exact hx⟩
theorem EV {α : Type} (a b : α) : cond true a b = a /\ cond false a b = b := ⟨rfl, rfl⟩
theorem Xh {α : Type} (a b : α) : cond true a b = a := (EV a b).1
theorem Y8 {α : Type} (a b : α) : cond false a b = b := (EV a b).2
/-- a side condition that is found by itself -/
theorem bf {a : Bool} {c : Prop} (h : a = true -> c) : a = false \/ c := by cases a with | false => exact .inl rfl | true => exact .inr (h rfl)
theorem sd {a b : Prop} (h : b) (k : a := by (intros; first | omega | exact ⟨by assumption, fun k => ⟨by assumption, k⟩⟩ | exact bf (by assumption) | (simp only [decide_eq_true_eq, decide_eq_false_iff_not, beq_iff_eq, beq_eq_false_iff_ne, bne_iff_ne, ne_eq, Bool.or_eq_false_iff, Bool.or_eq_true, Bool.and_eq_true, Bool.not_eq_true', Bool.not_eq_false'] at *; omega) | ((try simp only [Go.Mo.Xc, show ∀ x, Go.IntKind.i64.wrap x = Go.Vm.W x from fun _ => rfl] at *); omega) | exact List.ne_nil_of_length_pos (by assumption))) : a /\ b := ⟨k, h⟩
theorem sdg {a b : Prop} (h : b) (k : a := by (intros; first | omega | (simp_all; done) | (simp_all; omega) | grind | ((try simp only [Go.Mo.Xc, show ∀ x, Go.IntKind.i64.wrap x = Go.Vm.W x from fun _ => rfl] at *); omega))) : a /\ b := ⟨k, h⟩
theorem il {a b : Nat} (h : a < b := by first | omega | (simp only [decide_eq_true_eq, decide_eq_false_iff_not, beq_iff_eq, beq_eq_false_iff_ne, bne_iff_ne, ne_eq, Bool.or_eq_false_iff, Bool.not_eq_true', Bool.not_eq_false'] at *; omega) | (simp_all [List.length_pos_iff]; done) | (simp; omega) | (simp_all; omega) | ((try simp only [Go.Mo.Xc, show ∀ x, Go.IntKind.i64.wrap x = Go.Vm.W x from fun _ => rfl] at *); omega) | (simp; (try simp only [Go.Mo.Xc, show ∀ x, Go.IntKind.i64.wrap x = Go.Vm.W x from fun _ => rfl] at *); omega)) : a < b := h
theorem ik {α : Type} (a : Nat) (l : List α) (h : a < l.length := by first | omega | (simp only [decide_eq_true_eq, decide_eq_false_iff_not, beq_iff_eq, beq_eq_false_iff_ne, bne_iff_ne, ne_eq, Bool.or_eq_false_iff, Bool.not_eq_true', Bool.not_eq_false'] at *; omega) | (simp_all [List.length_pos_iff]; done) | (simp; omega) | (simp_all; omega) | ((try simp only [Go.Mo.Xc, show ∀ x, Go.IntKind.i64.wrap x = Go.Vm.W x from fun _ => rfl] at *); omega) | (simp; (try simp only [Go.Mo.Xc, show ∀ x, Go.IntKind.i64.wrap x = Go.Vm.W x from fun _ => rfl] at *); omega)) : a < l.length := h
theorem sl {α : Type} [Inhabited α] [Sz α] (n : Nat) (l : List α) {q : Prop} (u : q) (h : q -> Sm n l := by (intro u; simp (maxDischargeDepth := 12) [u])) : l.length <= n := XZ (h u)
theorem sg {α : Type} [Inhabited α] [Sz α] {n m : Nat} {x : α} (h : Sm n x) (k : n <= m := by decide) : Sm m x := Zb k h
theorem Eo {α : Type} [Inhabited α] {l : List α} {i : Nat} (h : i < l.length) : l.drop i = Vm.nth l i :: l.drop (i + 1) := by
  rw [List.drop_eq_getElem_cons h]; simp [Vm.nth, List.getD_eq_getElem?_getD, List.getElem?_eq_getElem h]
theorem H0 {α β : Type} [Inhabited α] {as : List α} (f : α -> List β) {F : Nat -> Nat -> List β -> List β} (h1 : ∀ n i l, F (n + 1) i l = bif decide ((i : Int) < (as.length : Int)) then F n (i + 1) (l ++ f (Vm.nth as i)) else l) : ∀ n i l, as.length < n + i -> i <= as.length -> F n i l = l ++ (as.drop i).flatMap f
  | 0, i, l, h, h2 => by omega
  | n + 1, i, l, h, h2 => by
    rw [h1]
    by_cases hi : i < as.length
    · rw [show decide ((i : Int) < (as.length : Int)) = true by simpa using hi, Xh, H0 f h1 n (i + 1) _ (by omega) hi, Eo hi]; simp
    · rw [show decide ((i : Int) < (as.length : Int)) = false by simpa using hi, Y8, List.drop_eq_nil_of_le (by omega)]; simp
theorem GY {α β : Type} (f : α -> β) : ∀ l : List α, l.flatMap (fun a => [f a]) = l.map f
  | [] => rfl
  | x :: l => by rw [List.flatMap_cons, GY f l]; rfl
theorem Ah {l : List ByteArray} {m : Nat} (h : ∀ x ∈ l, x.size <= m) (i : Nat) : (Vm.nth l i).size <= m := by
  by_cases hi : i < l.length
  · rw [show Vm.nth l i = l[i] by simp [Vm.nth, List.getD_eq_getElem?_getD, List.getElem?_eq_getElem hi]]; exact h _ (List.getElem_mem hi)
  · rw [show Vm.nth l i = default by simp [Vm.nth, List.getD_eq_getElem?_getD, List.getElem?_eq_none (Nat.le_of_not_lt hi)]]; exact Nat.zero_le _
theorem BB {α : Type} {p : α -> Prop} {l m : List α} (h : ∀ x ∈ l, p x) (k : ∀ x ∈ m, p x) : ∀ x ∈ l ++ m, p x := fun x hx => (List.mem_append.1 hx).elim (h x) (k x)
theorem all_cons {α : Type} {p : α -> Prop} {a : α} {l : List α} (h : p a) (k : ∀ x ∈ l, p x) : ∀ x ∈ a :: l, p x := fun x hx => (List.mem_cons.1 hx).elim (fun e => e ▸ h) (k x)
theorem all_nil {α : Type} {p : α -> Prop} : ∀ x ∈ ([] : List α), p x := fun x hx => by cases hx
end Go.Mo
