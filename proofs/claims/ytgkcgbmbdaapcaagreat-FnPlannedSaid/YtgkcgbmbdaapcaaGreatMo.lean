/- The plain data of the program, typed, and u5 they read as rows of the abstract machine. No condition. -/
import Derived.Test.YtgkcgbmbdaapcaaGreatVe
import Derived.Laws.BitsLemmas
namespace Go.Mo
open Go.Vm
@[simp] def iR (n : Int) : List Vm.D := [.int .i64 n]
@[simp] def bR (b : UInt8) : List Vm.D := [.int .u8 (b.toNat : Int)]
@[simp] def lR (b : Bool) : List Vm.D := [.bool b]
@[simp] def sR (s : ByteArray) : List Vm.D := [.str s]
@[simp] def slR {α : Type} (n : Nat) (f : α -> List D) (m : List α) : List Vm.D := [.sl n (m.map f)]
/-- everything in it is at most so long -/
class Sz (α : Type) [Inhabited α] where
  sm : Nat -> α -> Prop
  zero : ∀ n, sm n default
  mono : ∀ {n m : Nat} {x : α}, n <= m -> sm n x -> sm m x
/-- u5 many marks it takes -/
class Cn (α : Type) where
  cn : α -> Nat
abbrev cn {α : Type} [Cn α] (x : α) : Nat := Cn.cn x
def cnL {α : Type} (c : α -> Nat) : List α -> Nat
  | [] => 0
  | x :: l => c x + cnL c l
instance : Cn Int := ⟨fun _ => 1⟩
instance : Cn Bool := ⟨fun _ => 1⟩
instance : Cn UInt8 := ⟨fun _ => 1⟩
instance : Cn ByteArray := ⟨fun _ => 1⟩
instance {α : Type} [Cn α] : Cn (List α) := ⟨cnL Cn.cn⟩
abbrev Sm {α : Type} [Inhabited α] [Sz α] (n : Nat) (x : α) : Prop := Sz.sm n x
instance : Sz Int := ⟨fun _ _ => True, fun _ => trivial, fun _ h => h⟩
instance : Sz Bool := ⟨fun _ _ => True, fun _ => trivial, fun _ h => h⟩
instance : Sz UInt8 := ⟨fun _ _ => True, fun _ => trivial, fun _ h => h⟩
instance : Sz ByteArray := ⟨fun n s => s.size <= n, fun _ => Nat.zero_le _, fun h k => Nat.le_trans k h⟩
instance {α : Type} [Inhabited α] [Sz α] : Sz (List α) := ⟨fun n l => l.length <= n /\ ∀ x ∈ l, Sz.sm n x, fun _ => ⟨Nat.zero_le _, fun _ h => by cases h⟩, fun h k => ⟨Nat.le_trans k.1 h, fun x hx => Sz.mono h (k.2 x hx)⟩⟩
theorem XM {α : Type} [Inhabited α] [Sz α] {n : Nat} {l : List α} : Sm n l = (l.length <= n /\ ∀ x ∈ l, Sm n x) := rfl
theorem Je {α : Type} [Inhabited α] [Sz α] {n : Nat} {l : List α} (h : Sm n l) : l.length <= n := h.1
theorem Lt {n : Nat} {s : ByteArray} (h : Sm n s) : s.size <= n := h
@[simp] theorem Fq {n : Nat} {x : Int} : Sm n x := trivial
@[simp] theorem Fi {n : Nat} {x : Bool} : Sm n x := trivial
@[simp] theorem EA {n : Nat} {x : UInt8} : Sm n x := trivial
@[simp] theorem Fy {α : Type} [Inhabited α] [Sz α] {n : Nat} : Sm n ([] : List α) := ⟨Nat.zero_le _, fun _ h => by cases h⟩
@[simp] theorem yX {α : Type} [Inhabited α] [Sz α] {n i : Nat} {l : List α} (h : Sm n l) : Sm n (nth l i) := by
  unfold nth
  rw [List.getD_eq_getElem?_getD]
  cases hh : l[i]? with
  | none => exact Sz.zero n
  | some x => exact h.2 x (List.mem_of_getElem? hh)
@[simp] theorem Fk {α : Type} [Inhabited α] [Sz α] {n i : Nat} {l : List α} (h : Sm n l) : Sm n (l.take i) := ⟨Nat.le_trans (by simp; omega) h.1, fun x hx => h.2 x (List.mem_of_mem_take hx)⟩
@[simp] theorem FY {α : Type} [Inhabited α] [Sz α] {n i : Nat} {l : List α} (h : Sm n l) : Sm n (l.drop i) := ⟨Nat.le_trans (by simp) h.1, fun x hx => h.2 x (List.mem_of_mem_drop hx)⟩
theorem Xx {α : Type} [Inhabited α] [Sz α] {n : Nat} {l m : List α} : Sm n (l ++ m) = (l.length + m.length <= n /\ (∀ x ∈ l, Sm n x) /\ ∀ x ∈ m, Sm n x) := by
  rw [XM]; simp [or_imp, forall_and]
theorem ZW {α : Type} [Inhabited α] [Sz α] {n m : Nat} {x : α} (h : n <= m) (k : Sm n x) : Sm m x := Sz.mono h k
structure Zf where
  Authority : Int
  Seq : Int
  Time : Int
  Yn : Int
  Mark : Int
  deriving Inhabited, DecidableEq
@[simp] def Zf.row (x : Zf) : List Vm.D := [.int .i64 x.Authority, .int .i64 x.Seq, .int .i64 x.Time, .int .i64 x.Yn, .int .i64 x.Mark]
instance : Cn Zf := ⟨fun x => cn x.Authority + cn x.Seq + cn x.Time + cn x.Yn + cn x.Mark⟩
instance : Sz Zf := ⟨fun _ _ => True, fun _ => trivial, fun _ h => h⟩
@[simp] theorem Zf.qS {n : Nat} {x : Zf} : Sm n x := trivial
structure Ya where
  Yn : Int
  Left : Bool
  deriving Inhabited, DecidableEq
@[simp] def Ya.row (x : Ya) : List Vm.D := [.int .i64 x.Yn, .bool x.Left]
instance : Cn Ya := ⟨fun x => cn x.Yn + cn x.Left⟩
instance : Sz Ya := ⟨fun _ _ => True, fun _ => trivial, fun _ h => h⟩
@[simp] theorem Ya.qS {n : Nat} {x : Ya} : Sm n x := trivial
structure ZM where
  Count : Int
  Method : Int
  IA : Int
  Path : List Ya
  Z8 : List Zf
  deriving Inhabited, DecidableEq
@[simp] def ZM.row (x : ZM) : List Vm.D := [.int .i64 x.Count, .int .i64 x.Method, .int .i64 x.IA, .sl 2 (x.Path.map Ya.row), .sl 5 (x.Z8.map Zf.row)]
instance : Cn ZM := ⟨fun x => cn x.Count + cn x.Method + cn x.IA + cn x.Path + cn x.Z8⟩
instance : Sz ZM := ⟨fun n x => Sm n x.Path /\ Sm n x.Z8, fun n => ⟨Sz.zero n, Sz.zero n⟩, fun h k => ⟨Sz.mono h k.1, Sz.mono h k.2⟩⟩
@[simp] theorem ZM.Fg {n : Nat} {x : ZM} (h : Sm n x) : Sm n x.Path := h.1
@[simp] theorem ZM.IB {n : Nat} {x : ZM} (h : Sm n x) : Sm n x.Z8 := h.2
@[simp] theorem ZM.zE {n : Nat} {po : Int} {rl : Int} {nH : Int} {pI : List Ya} {sD : List Zf} : Sm n (ZM.mk po rl nH pI sD) = (Sm n pI /\ Sm n sD) := rfl
structure Z3 where
  Number : Int
  Xn : Int
  Method : Int
  jw : Int
  Qe : Int
  deriving Inhabited, DecidableEq
@[simp] def Z3.row (x : Z3) : List Vm.D := [.int .i64 x.Number, .int .i64 x.Xn, .int .i64 x.Method, .int .i64 x.jw, .int .i64 x.Qe]
instance : Cn Z3 := ⟨fun x => cn x.Number + cn x.Xn + cn x.Method + cn x.jw + cn x.Qe⟩
instance : Sz Z3 := ⟨fun _ _ => True, fun _ => trivial, fun _ h => h⟩
@[simp] theorem Z3.qS {n : Nat} {x : Z3} : Sm n x := trivial
structure ZJ where
  Id : Int
  Key : Int
  Error : Int
  deriving Inhabited, DecidableEq
@[simp] def ZJ.row (x : ZJ) : List Vm.D := [.int .i64 x.Id, .int .i64 x.Key, .int .i64 x.Error]
instance : Cn ZJ := ⟨fun x => cn x.Id + cn x.Key + cn x.Error⟩
instance : Sz ZJ := ⟨fun _ _ => True, fun _ => trivial, fun _ h => h⟩
@[simp] theorem ZJ.qS {n : Nat} {x : ZJ} : Sm n x := trivial
structure Zj where
  Id : Int
  yF : Int
  Ends : Int
  Ju : Int
  deriving Inhabited, DecidableEq
@[simp] def Zj.row (x : Zj) : List Vm.D := [.int .i64 x.Id, .int .i64 x.yF, .int .i64 x.Ends, .int .i64 x.Ju]
instance : Cn Zj := ⟨fun x => cn x.Id + cn x.yF + cn x.Ends + cn x.Ju⟩
instance : Sz Zj := ⟨fun _ _ => True, fun _ => trivial, fun _ h => h⟩
@[simp] theorem Zj.qS {n : Nat} {x : Zj} : Sm n x := trivial
structure ZY where
  YE : List Z3
  ZF : List ZJ
  Methods : List Zj
  zZ : Int
  Now : Int
  deriving Inhabited, DecidableEq
@[simp] def ZY.row (x : ZY) : List Vm.D := [.sl 5 (x.YE.map Z3.row), .sl 3 (x.ZF.map ZJ.row), .sl 4 (x.Methods.map Zj.row), .int .i64 x.zZ, .int .i64 x.Now]
instance : Cn ZY := ⟨fun x => cn x.YE + cn x.ZF + cn x.Methods + cn x.zZ + cn x.Now⟩
instance : Sz ZY := ⟨fun n x => Sm n x.YE /\ Sm n x.ZF /\ Sm n x.Methods, fun n => ⟨Sz.zero n, Sz.zero n, Sz.zero n⟩, fun h k => ⟨Sz.mono h k.1, Sz.mono h k.2.1, Sz.mono h k.2.2⟩⟩
@[simp] theorem ZY.OV {n : Nat} {x : ZY} (h : Sm n x) : Sm n x.YE := h.1
@[simp] theorem ZY.xb {n : Nat} {x : ZY} (h : Sm n x) : Sm n x.ZF := h.2.1
@[simp] theorem ZY.Vg {n : Nat} {x : ZY} (h : Sm n x) : Sm n x.Methods := h.2.2
@[simp] theorem ZY.zE {n : Nat} {pJ : List Z3} {vr : List ZJ} {va : List Zj} {pq : Int} {lA : Int} : Sm n (ZY.mk pJ vr va pq lA) = (Sm n pJ /\ Sm n vr /\ Sm n va) := rfl
structure Z1 where
  Z9 : Int
  Key : Int
  Xn : Int
  Jz : Int
  To : Int
  YI : Int
  Mark : Int
  deriving Inhabited, DecidableEq
@[simp] def Z1.row (x : Z1) : List Vm.D := [.int .i64 x.Z9, .int .i64 x.Key, .int .i64 x.Xn, .int .i64 x.Jz, .int .i64 x.To, .int .i64 x.YI, .int .i64 x.Mark]
instance : Cn Z1 := ⟨fun x => cn x.Z9 + cn x.Key + cn x.Xn + cn x.Jz + cn x.To + cn x.YI + cn x.Mark⟩
instance : Sz Z1 := ⟨fun _ _ => True, fun _ => trivial, fun _ h => h⟩
@[simp] theorem Z1.qS {n : Nat} {x : Z1} : Sm n x := trivial
structure ZV where
  yH : Int
  YO : List ByteArray
  XB : List Int
  deriving Inhabited, DecidableEq
@[simp] def ZV.row (x : ZV) : List Vm.D := [.int .i64 x.yH, .sl 1 (x.YO.map sR), .sl 1 (x.XB.map iR)]
instance : Cn ZV := ⟨fun x => cn x.yH + cn x.YO + cn x.XB⟩
instance : Sz ZV := ⟨fun n x => Sm n x.YO /\ Sm n x.XB, fun n => ⟨Sz.zero n, Sz.zero n⟩, fun h k => ⟨Sz.mono h k.1, Sz.mono h k.2⟩⟩
@[simp] theorem ZV.MH {n : Nat} {x : ZV} (h : Sm n x) : Sm n x.YO := h.1
@[simp] theorem ZV.Hh {n : Nat} {x : ZV} (h : Sm n x) : Sm n x.XB := h.2
@[simp] theorem ZV.zE {n : Nat} {tn : Int} {uM : List ByteArray} {uN : List Int} : Sm n (ZV.mk tn uM uN) = (Sm n uM /\ Sm n uN) := rfl
structure Zk where
  Key : Int
  Z9 : Int
  Method : Int
  Yn : Int
  ye : Int
  Org : Int
  yd : Int
  jn : Int
  Mark : Int
  deriving Inhabited, DecidableEq
@[simp] def Zk.row (x : Zk) : List Vm.D := [.int .i64 x.Key, .int .i64 x.Z9, .int .i64 x.Method, .int .i64 x.Yn, .int .i64 x.ye, .int .i64 x.Org, .int .i64 x.yd, .int .i64 x.jn, .int .i64 x.Mark]
instance : Cn Zk := ⟨fun x => cn x.Key + cn x.Z9 + cn x.Method + cn x.Yn + cn x.ye + cn x.Org + cn x.yd + cn x.jn + cn x.Mark⟩
instance : Sz Zk := ⟨fun _ _ => True, fun _ => trivial, fun _ h => h⟩
@[simp] theorem Zk.qS {n : Nat} {x : Zk} : Sm n x := trivial
structure ZS where
  Key : Int
  Wm : List Int
  Mark : Int
  deriving Inhabited, DecidableEq
@[simp] def ZS.row (x : ZS) : List Vm.D := [.int .i64 x.Key, .sl 1 (x.Wm.map iR), .int .i64 x.Mark]
instance : Cn ZS := ⟨fun x => cn x.Key + cn x.Wm + cn x.Mark⟩
instance : Sz ZS := ⟨fun n x => Sm n x.Wm, fun n => Sz.zero n, fun h k => Sz.mono h k⟩
@[simp] theorem ZS.FZ {n : Nat} {x : ZS} (h : Sm n x) : Sm n x.Wm := h
@[simp] theorem ZS.zE {n : Nat} {lB : Int} {pK : List Int} {nI : Int} : Sm n (ZS.mk lB pK nI) = (Sm n pK) := rfl
structure ZO where
  ZT : List ZS
  ZN : List ZM
  deriving Inhabited, DecidableEq
@[simp] def ZO.row (x : ZO) : List Vm.D := [.sl 3 (x.ZT.map ZS.row), .sl 5 (x.ZN.map ZM.row)]
instance : Cn ZO := ⟨fun x => cn x.ZT + cn x.ZN⟩
instance : Sz ZO := ⟨fun n x => Sm n x.ZT /\ Sm n x.ZN, fun n => ⟨Sz.zero n, Sz.zero n⟩, fun h k => ⟨Sz.mono h k.1, Sz.mono h k.2⟩⟩
@[simp] theorem ZO.IV {n : Nat} {x : ZO} (h : Sm n x) : Sm n x.ZT := h.1
@[simp] theorem ZO.V2 {n : Nat} {x : ZO} (h : Sm n x) : Sm n x.ZN := h.2
@[simp] theorem ZO.zE {n : Nat} {sE : List ZS} {s4 : List ZM} : Sm n (ZO.mk sE s4) = (Sm n sE /\ Sm n s4) := rfl
structure Za where
  Id : Int
  Yj : Int
  Doc : ZV
  Sig : Zk
  YD : ZO
  deriving Inhabited, DecidableEq
@[simp] def Za.row (x : Za) : List Vm.D := [.int .i64 x.Id, .int .i64 x.Yj, .int .i64 x.Doc.yH, .sl 1 (x.Doc.YO.map sR), .sl 1 (x.Doc.XB.map iR), .int .i64 x.Sig.Key, .int .i64 x.Sig.Z9, .int .i64 x.Sig.Method, .int .i64 x.Sig.Yn, .int .i64 x.Sig.ye, .int .i64 x.Sig.Org, .int .i64 x.Sig.yd, .int .i64 x.Sig.jn, .int .i64 x.Sig.Mark, .sl 3 (x.YD.ZT.map ZS.row), .sl 5 (x.YD.ZN.map ZM.row)]
instance : Cn Za := ⟨fun x => cn x.Id + cn x.Yj + cn x.Doc + cn x.Sig + cn x.YD⟩
instance : Sz Za := ⟨fun n x => Sm n x.Doc /\ Sm n x.YD, fun n => ⟨Sz.zero n, Sz.zero n⟩, fun h k => ⟨Sz.mono h k.1, Sz.mono h k.2⟩⟩
@[simp] theorem Za.Iw {n : Nat} {x : Za} (h : Sm n x) : Sm n x.Doc := h.1
@[simp] theorem Za.L5 {n : Nat} {x : Za} (h : Sm n x) : Sm n x.YD := h.2
@[simp] theorem Za.zE {n : Nat} {lC : Int} {nJ : Int} {s5 : ZV} {lD : Zk} {sF : ZO} : Sm n (Za.mk lC nJ s5 lD sF) = (Sm n s5 /\ Sm n sF) := rfl
structure ZH where
  Id : Int
  ZK : List Za
  deriving Inhabited, DecidableEq
@[simp] def ZH.row (x : ZH) : List Vm.D := [.int .i64 x.Id, .sl 16 (x.ZK.map Za.row)]
instance : Cn ZH := ⟨fun x => cn x.Id + cn x.ZK⟩
instance : Sz ZH := ⟨fun n x => Sm n x.ZK, fun n => Sz.zero n, fun h k => Sz.mono h k⟩
@[simp] theorem ZH.xg {n : Nat} {x : ZH} (h : Sm n x) : Sm n x.ZK := h
@[simp] theorem ZH.zE {n : Nat} {lC : Int} {uO : List Za} : Sm n (ZH.mk lC uO) = (Sm n uO) := rfl
structure Zw where
  Frame : ZY
  YV : List Z1
  QB : List Int
  ZL : List ZH
  KL : List Int
  X9 : List Int
  Next : Int
  Jp : List Int
  deriving Inhabited, DecidableEq
@[simp] def Zw.row (x : Zw) : List Vm.D := [.sl 5 (x.Frame.YE.map Z3.row), .sl 3 (x.Frame.ZF.map ZJ.row), .sl 4 (x.Frame.Methods.map Zj.row), .int .i64 x.Frame.zZ, .int .i64 x.Frame.Now, .sl 7 (x.YV.map Z1.row), .sl 1 (x.QB.map iR), .sl 2 (x.ZL.map ZH.row), .sl 1 (x.KL.map iR), .sl 1 (x.X9.map iR), .int .i64 x.Next, .sl 1 (x.Jp.map iR)]
instance : Cn Zw := ⟨fun x => cn x.Frame + cn x.YV + cn x.QB + cn x.ZL + cn x.KL + cn x.X9 + cn x.Next + cn x.Jp⟩
instance : Sz Zw := ⟨fun n x => Sm n x.Frame /\ Sm n x.YV /\ Sm n x.QB /\ Sm n x.ZL /\ Sm n x.KL /\ Sm n x.X9 /\ Sm n x.Jp, fun n => ⟨Sz.zero n, Sz.zero n, Sz.zero n, Sz.zero n, Sz.zero n, Sz.zero n, Sz.zero n⟩, fun h k => ⟨Sz.mono h k.1, Sz.mono h k.2.1, Sz.mono h k.2.2.1, Sz.mono h k.2.2.2.1, Sz.mono h k.2.2.2.2.1, Sz.mono h k.2.2.2.2.2.1, Sz.mono h k.2.2.2.2.2.2⟩⟩
@[simp] theorem Zw.Mi {n : Nat} {x : Zw} (h : Sm n x) : Sm n x.Frame := h.1
@[simp] theorem Zw.FC {n : Nat} {x : Zw} (h : Sm n x) : Sm n x.YV := h.2.1
@[simp] theorem Zw.FI {n : Nat} {x : Zw} (h : Sm n x) : Sm n x.QB := h.2.2.1
@[simp] theorem Zw.Tp {n : Nat} {x : Zw} (h : Sm n x) : Sm n x.ZL := h.2.2.2.1
@[simp] theorem Zw.Ff {n : Nat} {x : Zw} (h : Sm n x) : Sm n x.KL := h.2.2.2.2.1
@[simp] theorem Zw.FF {n : Nat} {x : Zw} (h : Sm n x) : Sm n x.X9 := h.2.2.2.2.2.1
@[simp] theorem Zw.G6 {n : Nat} {x : Zw} (h : Sm n x) : Sm n x.Jp := h.2.2.2.2.2.2
@[simp] theorem Zw.zE {n : Nat} {s6 : ZY} {s7 : List Z1} {s8 : List Int} {uu : List ZH} {pL : List Int} {s9 : List Int} {nK : Int} {sG : List Int} : Sm n (Zw.mk s6 s7 s8 uu pL s9 nK sG) = (Sm n s6 /\ Sm n s7 /\ Sm n s8 /\ Sm n uu /\ Sm n pL /\ Sm n s9 /\ Sm n sG) := rfl
structure qe where
  Kind : Int
  A : Int
  B : Int
  C : Int
  D : Int
  Doc : ZV
  Ids : List Int
  deriving Inhabited, DecidableEq
@[simp] def qe.row (x : qe) : List Vm.D := [.int .i64 x.Kind, .int .i64 x.A, .int .i64 x.B, .int .i64 x.C, .int .i64 x.D, .int .i64 x.Doc.yH, .sl 1 (x.Doc.YO.map sR), .sl 1 (x.Doc.XB.map iR), .sl 1 (x.Ids.map iR)]
instance : Cn qe := ⟨fun x => cn x.Kind + cn x.A + cn x.B + cn x.C + cn x.D + cn x.Doc + cn x.Ids⟩
instance : Sz qe := ⟨fun n x => Sm n x.Doc /\ Sm n x.Ids, fun n => ⟨Sz.zero n, Sz.zero n⟩, fun h k => ⟨Sz.mono h k.1, Sz.mono h k.2⟩⟩
@[simp] theorem qe.Iw {n : Nat} {x : qe} (h : Sm n x) : Sm n x.Doc := h.1
@[simp] theorem qe.Fs {n : Nat} {x : qe} (h : Sm n x) : Sm n x.Ids := h.2
@[simp] theorem qe.zE {n : Nat} {nL : Int} {A' : Int} {B' : Int} {C' : Int} {D' : Int} {s5 : ZV} {nM : List Int} : Sm n (qe.mk nL A' B' C' D' s5 nM) = (Sm n s5 /\ Sm n nM) := rfl
structure Yk where
  Jz : Int
  To : Int
  deriving Inhabited, DecidableEq
@[simp] def Yk.row (x : Yk) : List Vm.D := [.int .i64 x.Jz, .int .i64 x.To]
instance : Cn Yk := ⟨fun x => cn x.Jz + cn x.To⟩
instance : Sz Yk := ⟨fun _ _ => True, fun _ => trivial, fun _ h => h⟩
@[simp] theorem Yk.qS {n : Nat} {x : Yk} : Sm n x := trivial
structure qn where
  Code : Int
  Reason : Int
  Span : Yk
  deriving Inhabited, DecidableEq
@[simp] def qn.row (x : qn) : List Vm.D := [.int .i64 x.Code, .int .i64 x.Reason, .int .i64 x.Span.Jz, .int .i64 x.Span.To]
instance : Cn qn := ⟨fun x => cn x.Code + cn x.Reason + cn x.Span⟩
instance : Sz qn := ⟨fun _ _ => True, fun _ => trivial, fun _ h => h⟩
@[simp] theorem qn.qS {n : Nat} {x : qn} : Sm n x := trivial
structure XW where
  yH : Int
  Methods : List Int
  Shown : List Bool
  YO : List ByteArray
  XB : List Int
  SK : List (List Int)
  deriving Inhabited, DecidableEq
@[simp] def XW.row (x : XW) : List Vm.D := [.int .i64 x.yH, .sl 1 (x.Methods.map iR), .sl 1 (x.Shown.map lR), .sl 1 (x.YO.map sR), .sl 1 (x.XB.map iR), .sl 1 (x.SK.map (slR 1 iR))]
instance : Cn XW := ⟨fun x => cn x.yH + cn x.Methods + cn x.Shown + cn x.YO + cn x.XB + cn x.SK⟩
instance : Sz XW := ⟨fun n x => Sm n x.Methods /\ Sm n x.Shown /\ Sm n x.YO /\ Sm n x.XB /\ Sm n x.SK, fun n => ⟨Sz.zero n, Sz.zero n, Sz.zero n, Sz.zero n, Sz.zero n⟩, fun h k => ⟨Sz.mono h k.1, Sz.mono h k.2.1, Sz.mono h k.2.2.1, Sz.mono h k.2.2.2.1, Sz.mono h k.2.2.2.2⟩⟩
@[simp] theorem XW.Vg {n : Nat} {x : XW} (h : Sm n x) : Sm n x.Methods := h.1
@[simp] theorem XW.FV {n : Nat} {x : XW} (h : Sm n x) : Sm n x.Shown := h.2.1
@[simp] theorem XW.MH {n : Nat} {x : XW} (h : Sm n x) : Sm n x.YO := h.2.2.1
@[simp] theorem XW.Hh {n : Nat} {x : XW} (h : Sm n x) : Sm n x.XB := h.2.2.2.1
@[simp] theorem XW.Gs {n : Nat} {x : XW} (h : Sm n x) : Sm n x.SK := h.2.2.2.2
@[simp] theorem XW.zE {n : Nat} {tn : Int} {va : List Int} {rA : List Bool} {uM : List ByteArray} {uN : List Int} {tK : List (List Int)} : Sm n (XW.mk tn va rA uM uN tK) = (Sm n va /\ Sm n rA /\ Sm n uM /\ Sm n uN /\ Sm n tK) := rfl
structure JP where
  SL : List ZO
  Lg : List (List Zf)
  deriving Inhabited, DecidableEq
@[simp] def JP.row (x : JP) : List Vm.D := [.sl 2 (x.SL.map ZO.row), .sl 1 (x.Lg.map (slR 5 Zf.row))]
instance : Cn JP := ⟨fun x => cn x.SL + cn x.Lg⟩
instance : Sz JP := ⟨fun n x => Sm n x.SL /\ Sm n x.Lg, fun n => ⟨Sz.zero n, Sz.zero n⟩, fun h k => ⟨Sz.mono h k.1, Sz.mono h k.2⟩⟩
@[simp] theorem JP.Gr {n : Nat} {x : JP} (h : Sm n x) : Sm n x.SL := h.1
@[simp] theorem JP.FA {n : Nat} {x : JP} (h : Sm n x) : Sm n x.Lg := h.2
@[simp] theorem JP.zE {n : Nat} {tL : List ZO} {rC : List (List Zf)} : Sm n (JP.mk tL rC) = (Sm n tL /\ Sm n rC) := rfl
structure YY where
  Z9 : Int
  Mf : Int
  QB : Int
  YI : Int
  Mark : Int
  deriving Inhabited, DecidableEq
@[simp] def YY.row (x : YY) : List Vm.D := [.int .i64 x.Z9, .int .i64 x.Mf, .int .i64 x.QB, .int .i64 x.YI, .int .i64 x.Mark]
instance : Cn YY := ⟨fun x => cn x.Z9 + cn x.Mf + cn x.QB + cn x.YI + cn x.Mark⟩
instance : Sz YY := ⟨fun _ _ => True, fun _ => trivial, fun _ h => h⟩
@[simp] theorem YY.qS {n : Nat} {x : YY} : Sm n x := trivial
structure ZI where
  b : List UInt8
  i : Nat
  h : Int
  deriving Inhabited, DecidableEq
@[simp] def ZI.row (x : ZI) : List Vm.D := [.sl 1 (x.b.map bR), .int .i64 (x.i : Int), .int .i64 x.h]
instance : Sz ZI := ⟨fun n x => Sm n x.b, fun n => Sz.zero n, fun h k => Sz.mono h k⟩
@[simp] theorem ZI.EP {n : Nat} {x : ZI} (h : Sm n x) : Sm n x.b := h
@[simp] theorem ZI.zE {n : Nat} {b' : List UInt8} {i' : Nat} {h' : Int} : Sm n (ZI.mk b' i' h') = (Sm n b') := rfl
structure xo where
  Jz : Int
  To : Int
  ZK : List Za
  Yn : Int
  deriving Inhabited, DecidableEq
@[simp] def xo.row (x : xo) : List Vm.D := [.int .i64 x.Jz, .int .i64 x.To, .sl 16 (x.ZK.map Za.row), .int .i64 x.Yn]
instance : Cn xo := ⟨fun x => cn x.Jz + cn x.To + cn x.ZK + cn x.Yn⟩
instance : Sz xo := ⟨fun n x => Sm n x.ZK, fun n => Sz.zero n, fun h k => Sz.mono h k⟩
@[simp] theorem xo.xg {n : Nat} {x : xo} (h : Sm n x) : Sm n x.ZK := h
@[simp] theorem xo.zE {n : Nat} {nN : Int} {gD : Int} {uO : List Za} {rm : Int} : Sm n (xo.mk nN gD uO rm) = (Sm n uO) := rfl
structure Yu where
  Org : Int
  TN : Int
  Jz : Int
  To : Int
  Key : Int
  Mark : Int
  deriving Inhabited, DecidableEq
@[simp] def Yu.row (x : Yu) : List Vm.D := [.int .i64 x.Org, .int .i64 x.TN, .int .i64 x.Jz, .int .i64 x.To, .int .i64 x.Key, .int .i64 x.Mark]
instance : Cn Yu := ⟨fun x => cn x.Org + cn x.TN + cn x.Jz + cn x.To + cn x.Key + cn x.Mark⟩
instance : Sz Yu := ⟨fun _ _ => True, fun _ => trivial, fun _ h => h⟩
@[simp] theorem Yu.qS {n : Nat} {x : Yu} : Sm n x := trivial
end Go.Mo
namespace Go.Mo
open Go.Vm
theorem qX {α : Type} [Inhabited α] {l : List α} {i : Nat} (h : i < l.length) : nth l i = l[i] := by simp [nth, h]
theorem We {α : Type} [Inhabited α] {F : Nat -> List α -> Nat -> List α} {a : List α} {g : α -> α} (hg : ∀ x, g x = x)
    (h1 : ∀ n v i, F (n + 1) v i = bif decide ((i : Int) < (a.length : Int)) then F n (v ++ [g (nth a i)]) (i + 1) else v) :
    ∀ n v i, a.length < n + i -> i <= a.length -> F n v i = v ++ a.drop i := by
  intro n
  induction n with
  | zero => intro v i h2 h3; omega
  | succ n ih =>
    intro v i h2 h3
    rw [h1]
    by_cases hi : i < a.length
    · rw [show decide ((i : Int) < (a.length : Int)) = true by simp [hi], cond_true, ih _ _ (by omega) hi, hg, qX hi, List.append_assoc, List.singleton_append, <- List.drop_eq_getElem_cons hi]
    · rw [show decide ((i : Int) < (a.length : Int)) = false by simp; omega, cond_false, List.drop_eq_nil_of_le (by omega), List.append_nil]
theorem WZ {F : Nat -> Nat -> Sum Int Unit} {L : Nat} {c : Nat -> Bool} (h0 : ∀ i, F 0 i = .inr ())
    (h1 : ∀ n i, F (n + 1) i = bif decide ((i : Int) < (L : Int)) then (bif c i then .inl (i : Int) else F n (i + 1)) else .inr ()) :
    ∀ n i, (match F n i with | .inl r => r | .inr _ => -1) < (L : Int) := by
  intro n
  induction n with
  | zero => intro i; rw [h0]; show (-1 : Int) < _; omega
  | succ n ih =>
    intro i
    rw [h1]
    by_cases hi : (i : Int) < (L : Int)
    · rw [show decide ((i : Int) < (L : Int)) = true by simpa using hi, cond_true]
      cases hc : c i with
      | true => simpa using hi
      | false => exact ih (i + 1)
    · rw [show decide ((i : Int) < (L : Int)) = false by simpa using hi, cond_false]
      show (-1 : Int) < _; omega
theorem SO {rows : List (List Vm.D)} {i : Nat} {r : List Vm.D} (h : i < rows.length) : Vm.rowAt (rows.set i r) i = r := by simp [Vm.rowAt, h]
theorem XQ {α : Type} {p : α -> Prop} {l : List α} {i : Nat} {a : α} (h1 : ∀ x ∈ l, p x) (h2 : p a) : ∀ x ∈ l.set i a, p x := by
  intro x hx
  rcases List.mem_or_eq_of_mem_set hx with h | h
  · exact h1 x h
  · rw [h]; exact h2
theorem O4 {α : Type} [Inhabited α] {l : List α} {i : Nat} {x : α} (h : i < l.length) : nth (l.set i x) i = x := by simp [nth, h]
theorem Zd {α : Type} {p : α -> Prop} {c : Bool} {x y : α} (hx : p x) (hy : p y) : p (bif c then x else y) := by cases c; exact hy; exact hx
theorem yI {α : Type} {p : α -> Prop} {c : Bool} {x y : α} (hx : c = true -> p x) (hy : c = false -> p y) : p (bif c then x else y) := by cases c; exact hy rfl; exact hx rfl
end Go.Mo
namespace Go.Mo
open Go.Vm
end Go.Mo
namespace Go.Mo
open Go.Vm
theorem XJ (n : Int) : W n = (n + 9223372036854775808) % 18446744073709551616 - 9223372036854775808 := IntKind.wrap_i64 n
theorem yk {α : Type} [Inhabited α] [DecidableEq α] {F : Nat -> Nat -> Sum Bool Unit} {a b : List α} {c : Nat -> Bool} (hl : a.length = b.length) (hc : ∀ i, c i = !decide (nth a i = nth b i)) (h0 : ∀ i, F 0 i = .inr ())
    (h1 : ∀ n i, F (n + 1) i = bif decide ((i : Int) < (a.length : Int)) then (bif c i then .inl false else F n (i + 1)) else .inr ()) :
    F (a.length + 1) 0 = if a = b then .inr () else .inl false := by
  have key : ∀ n i, a.length < n + i -> F n i = if a.drop i = b.drop i then .inr () else .inl false := by
    intro n
    induction n with
    | zero =>
      intro i h
      rw [h0, List.drop_eq_nil_of_le (by omega), List.drop_eq_nil_of_le (by omega), if_pos rfl]
    | succ n ih =>
      intro i h
      rw [h1]
      by_cases hi : i < a.length
      · have l7 : i < b.length := by omega
        rw [show decide ((i : Int) < (a.length : Int)) = true by simp [hi], cond_true, hc, List.drop_eq_getElem_cons hi, List.drop_eq_getElem_cons l7, qX hi, qX l7]
        by_cases he : a[i] = b[i]
        · rw [he, show decide (b[i] = b[i]) = true by simp, Bool.not_true, cond_false, ih _ (by omega)]
          simp only [List.cons.injEq, true_and]
        · rw [show decide (a[i] = b[i]) = false by simp [he], if_neg (fun hh => he (List.cons.inj hh).1)]
          rfl
      · rw [show decide ((i : Int) < (a.length : Int)) = false by simp; omega, cond_false, List.drop_eq_nil_of_le (by omega), List.drop_eq_nil_of_le (by omega), if_pos rfl]
  have := key (a.length + 1) 0 (by omega)
  simpa using this
theorem Ln {α : Type} [Inhabited α] [DecidableEq α] {F : Nat -> Nat -> Sum Bool Unit} {a b : List α} {c : Nat -> Bool} (hc : ∀ i, c i = !decide (nth a i = nth b i)) (h0 : ∀ i, F 0 i = .inr ())
    (h1 : ∀ n i, F (n + 1) i = bif decide ((i : Int) < (a.length : Int)) then (bif c i then .inl false else F n (i + 1)) else .inr ()) :
    (bif ((a.length : Int) != (b.length : Int)) then false else (match F (a.length + 1) 0 with | .inl r => r | .inr _ => true)) = decide (a = b) := by
  by_cases hl : a.length = b.length
  · rw [yk hl hc h0 h1]
    simp only [hl, bne_self_eq_false, cond_false]
    by_cases h : a = b <;> simp [h]
  · have wD : a ≠ b := fun h => hl (by rw [h])
    have : ((a.length : Int) != (b.length : Int)) = true := by simp; omega
    rw [this, cond_true]; simp [wD]
end Go.Mo
namespace Go.Mo
open Go.Vm
theorem ME {α : Type} [Inhabited α] [Sz α] {f : α -> List D} {n : Nat} : ∀ {rows : List (List D)}, (∀ r, r ∈ rows -> ∃ x : α, r = f x /\ Sm n x) -> ∃ l : List α, rows = l.map f /\ ∀ x ∈ l, Sm n x
  | [], _ => ⟨[], rfl, fun _ h => by cases h⟩
  | r :: rows, h => by
    obtain ⟨x, hx, sx⟩ := h r (by simp)
    obtain ⟨l, hl, sl⟩ := ME (rows := rows) (fun r hr => h r (by simp [hr]))
    refine ⟨x :: l, by simp [hx, hl], fun y hy => ?_⟩
    rcases List.mem_cons.1 hy with rfl | hy
    · exact sx
    · exact sl y hy
end Go.Mo
namespace Go.Mo
open Go.Vm
theorem RX {P : Program} {n : Nat} {t : TypeId} {ts : List TypeId} : ∀ {rows : List (List D)}, RT P n (t :: ts) rows -> ∃ r rs, rows = r :: rs /\ TyR P n t r /\ RT P n ts rs
  | r :: rs, h => ⟨r, rs, rfl, h.1, h.2⟩
  | [], h => h.elim
theorem Pe {P : Program} {n : Nat} : ∀ {rows : List (List D)}, RT P n [] rows -> rows = []
  | [], _ => rfl
  | _ :: _, h => h.elim
end Go.Mo
namespace Go.Mo
open Go.Vm
@[simp] theorem EB (l : List UInt8) : JG l = l.map bR := rfl
@[simp] theorem FH (x : Int) : ((UInt8.ofInt x).toNat : Int) = IntKind.u8.wrap x := by
  rw [IntKind.wrap_u8]
  simp [UInt8.ofInt]
  omega
end Go.Mo
namespace Go.Mo
open Go.Vm
end Go.Mo
namespace Go.Mo
open Go.Vm
@[simp] theorem FE {α : Type} {l : List α} {n : Nat} (h : l.length <= n) : List.take n l = l := List.take_of_length_le h
@[simp] theorem H9 {α β : Type} (f : α -> β) (l : List α) : List.take l.length (List.map f l) = List.map f l := List.take_of_length_le (by simp)
@[simp] theorem GZ (n : Nat) : 1 + n = n + 1 := Nat.add_comm 1 n
@[simp] theorem Fe {α β : Type} (f : α -> β) (l : List α) (x y : β) : List.take (2 + l.length) (x :: y :: List.map f l) = x :: y :: List.map f l := List.take_of_length_le (by simp; omega)
@[simp] theorem FX {α β : Type} (f : α -> β) (l : List α) (x y z : β) : List.take (3 + l.length) (x :: y :: z :: List.map f l) = x :: y :: z :: List.map f l := List.take_of_length_le (by simp; omega)
@[simp] theorem Fh {α β : Type} (f : α -> β) (l : List α) (x y z u : β) : List.take (4 + l.length) (x :: y :: z :: u :: List.map f l) = x :: y :: z :: u :: List.map f l := List.take_of_length_le (by simp; omega)
@[simp] theorem Fb {α β : Type} (f : α -> β) (l : List α) (x y z u v : β) : List.take (5 + l.length) (x :: y :: z :: u :: v :: List.map f l) = x :: y :: z :: u :: v :: List.map f l := List.take_of_length_le (by simp; omega)
@[simp] theorem Fc {α β : Type} (f : α -> β) (l : List α) (x y z u v w : β) : List.take (6 + l.length) (x :: y :: z :: u :: v :: w :: List.map f l) = x :: y :: z :: u :: v :: w :: List.map f l := List.take_of_length_le (by simp; omega)
theorem Oy (n : Nat) (h : n <= 9223372036854775807) : W ((n : Int) - 1) = (n : Int) - 1 := Yi (by omega) (by omega)
end Go.Mo
namespace Go.Mo
@[simp] theorem Fj (a : Array UInt8) : (ByteArray.mk a).size = a.size := rfl
@[simp] theorem FB {α : Type} {l : List α} {x : α} {v n : Nat} (h : l.length = n) : List.take (min v n + 1 + (n - v)) (List.take v l ++ x :: List.drop v l) = List.take v l ++ x :: List.drop v l := by
  apply List.take_of_length_le; simp; omega
@[simp] theorem Fa (a b : Nat) : (min a b + 1 + (b - a) = min a b + (b - a + 1)) = True := by simp; omega
theorem Gy {α : Type} [Inhabited α] [Sz α] {n i : Nat} {l : List α} {x : α} (h : Sm n l) (hx : Sm n x) : Sm n (l.set i x) :=
  ⟨by simpa using h.1, fun y hy => by
    rcases List.mem_or_eq_of_mem_set hy with hy | rfl
    · exact h.2 y hy
    · exact hx⟩
theorem Ll {α : Type} (a b : α) : cond true a b = a /\ cond false a b = b := ⟨rfl, rfl⟩
theorem qU {α : Type} (a b : α) : cond true a b = a := (Ll a b).1
theorem zn {α : Type} (a b : α) : cond false a b = b := (Ll a b).2
/-- a side condition that is found by itself -/
theorem sd {a b : Prop} (h : b) (k : a := by (intros; first | omega | (simp only [decide_eq_true_eq, decide_eq_false_iff_not, beq_iff_eq, beq_eq_false_iff_ne, bne_iff_ne, ne_eq, Bool.or_eq_false_iff, Bool.or_eq_true, Bool.and_eq_true, Bool.not_eq_true', Bool.not_eq_false'] at *; omega) | ((try simp only [Go.Mo.XJ, show ∀ x, Go.IntKind.i64.wrap x = Go.Vm.W x from fun _ => rfl] at *); omega))) : a /\ b := ⟨k, h⟩
theorem sdg {a b : Prop} (h : b) (k : a := by (intros; first | omega | (simp_all; done) | (simp_all; omega) | grind | ((try simp only [Go.Mo.XJ, show ∀ x, Go.IntKind.i64.wrap x = Go.Vm.W x from fun _ => rfl] at *); omega))) : a /\ b := ⟨k, h⟩
theorem il {a b : Nat} (h : a < b := by first | omega | (simp only [decide_eq_true_eq, decide_eq_false_iff_not, beq_iff_eq, beq_eq_false_iff_ne, bne_iff_ne, ne_eq, Bool.or_eq_false_iff, Bool.not_eq_true', Bool.not_eq_false'] at *; omega) | (simp_all [List.length_pos_iff]; done) | (simp; omega) | (simp_all; omega) | ((try simp only [Go.Mo.XJ, show ∀ x, Go.IntKind.i64.wrap x = Go.Vm.W x from fun _ => rfl] at *); omega) | (simp; (try simp only [Go.Mo.XJ, show ∀ x, Go.IntKind.i64.wrap x = Go.Vm.W x from fun _ => rfl] at *); omega)) : a < b := h
theorem ik {α : Type} (a : Nat) (l : List α) (h : a < l.length := by first | omega | (simp only [decide_eq_true_eq, decide_eq_false_iff_not, beq_iff_eq, beq_eq_false_iff_ne, bne_iff_ne, ne_eq, Bool.or_eq_false_iff, Bool.not_eq_true', Bool.not_eq_false'] at *; omega) | (simp_all [List.length_pos_iff]; done) | (simp; omega) | (simp_all; omega) | ((try simp only [Go.Mo.XJ, show ∀ x, Go.IntKind.i64.wrap x = Go.Vm.W x from fun _ => rfl] at *); omega) | (simp; (try simp only [Go.Mo.XJ, show ∀ x, Go.IntKind.i64.wrap x = Go.Vm.W x from fun _ => rfl] at *); omega)) : a < l.length := h
theorem sl {α : Type} [Inhabited α] [Sz α] (n : Nat) (l : List α) {q : Prop} (u : q) (h : q -> Sm n l := by (intro u; simp (maxDischargeDepth := 12) [u])) : l.length <= n := Je (h u)
theorem sg {α : Type} [Inhabited α] [Sz α] {n m : Nat} {x : α} (h : Sm n x) (k : n <= m := by decide) : Sm m x := ZW k h
theorem Gl {l : List ByteArray} {m : Nat} (h : ∀ x ∈ l, x.size <= m) (i : Nat) : (Vm.nth l i).size <= m := by
  by_cases hi : i < l.length
  · rw [show Vm.nth l i = l[i] by simp [Vm.nth, List.getD_eq_getElem?_getD, List.getElem?_eq_getElem hi]]; exact h _ (List.getElem_mem hi)
  · rw [show Vm.nth l i = default by simp [Vm.nth, List.getD_eq_getElem?_getD, List.getElem?_eq_none (Nat.le_of_not_lt hi)]]; exact Nat.zero_le _
end Go.Mo
