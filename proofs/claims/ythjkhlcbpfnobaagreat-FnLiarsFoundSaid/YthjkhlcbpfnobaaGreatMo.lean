/- The plain data of the program, typed, and uR they read as rows of the abstract machine. No condition. -/
import Derived.Test.YthjkhlcbpfnobaaGreatVe
import Derived.Laws.BitsLemmas
namespace Go.Mo
open Go.Vm
@[simp] def iR (n : Int) : List Vm.D := [.int .i64 n]
@[simp] def bR (b : UInt8) : List Vm.D := [.int .u8 (b.toNat : Int)]
@[simp] def lR (b : Bool) : List Vm.D := [.bool b]
@[simp] def sR (s : ByteArray) : List Vm.D := [.str s]
@[simp] def slR {α : Type} (n : Nat) (f : α -> List D) (m : List α) : List Vm.D := [.sl n (m.map f)]
/-- everything in it is at most so long -/
class Sz (α : Type) [Inhabited α] where
  sm : Nat -> α -> Prop
  zero : ∀ n, sm n default
  mono : ∀ {n m : Nat} {x : α}, n <= m -> sm n x -> sm m x
/-- uR many marks it takes -/
class Cn (α : Type) where
  cn : α -> Nat
abbrev cn {α : Type} [Cn α] (x : α) : Nat := Cn.cn x
def cnL {α : Type} (c : α -> Nat) : List α -> Nat
  | [] => 0
  | x :: l => c x + cnL c l
instance : Cn Int := ⟨fun _ => 1⟩
instance : Cn Bool := ⟨fun _ => 1⟩
instance : Cn UInt8 := ⟨fun _ => 1⟩
instance : Cn ByteArray := ⟨fun _ => 1⟩
instance {α : Type} [Cn α] : Cn (List α) := ⟨cnL Cn.cn⟩
abbrev Sm {α : Type} [Inhabited α] [Sz α] (n : Nat) (x : α) : Prop := Sz.sm n x
instance : Sz Int := ⟨fun _ _ => True, fun _ => trivial, fun _ h => h⟩
instance : Sz Bool := ⟨fun _ _ => True, fun _ => trivial, fun _ h => h⟩
instance : Sz UInt8 := ⟨fun _ _ => True, fun _ => trivial, fun _ h => h⟩
instance : Sz ByteArray := ⟨fun n s => s.size <= n, fun _ => Nat.zero_le _, fun h k => Nat.le_trans k h⟩
instance {α : Type} [Inhabited α] [Sz α] : Sz (List α) := ⟨fun n l => l.length <= n /\ ∀ x ∈ l, Sz.sm n x, fun _ => ⟨Nat.zero_le _, fun _ h => by cases h⟩, fun h k => ⟨Nat.le_trans k.1 h, fun x hx => Sz.mono h (k.2 x hx)⟩⟩
theorem Xg {α : Type} [Inhabited α] [Sz α] {n : Nat} {l : List α} : Sm n l = (l.length <= n /\ ∀ x ∈ l, Sm n x) := rfl
theorem XM {α : Type} [Inhabited α] [Sz α] {n : Nat} {l : List α} (h : Sm n l) : l.length <= n := h.1
theorem FB {n : Nat} {s : ByteArray} (h : Sm n s) : s.size <= n := h
@[simp] theorem DF {n : Nat} {x : Int} : Sm n x := trivial
@[simp] theorem Er {n : Nat} {x : Bool} : Sm n x := trivial
@[simp] theorem De {n : Nat} {x : UInt8} : Sm n x := trivial
@[simp] theorem zO {α : Type} [Inhabited α] [Sz α] {n : Nat} : Sm n ([] : List α) := ⟨Nat.zero_le _, fun _ h => by cases h⟩
@[simp] theorem Yi {α : Type} [Inhabited α] [Sz α] {n i : Nat} {l : List α} (h : Sm n l) : Sm n (nth l i) := by
  unfold nth
  rw [List.getD_eq_getElem?_getD]
  cases hh : l[i]? with
  | none => exact Sz.zero n
  | some x => exact h.2 x (List.mem_of_getElem? hh)
@[simp] theorem Lt {α : Type} [Inhabited α] [Sz α] {n i : Nat} {l : List α} (h : Sm n l) : Sm n (l.take i) := ⟨Nat.le_trans (by simp; omega) h.1, fun x hx => h.2 x (List.mem_of_mem_take hx)⟩
@[simp] theorem Gz {α : Type} [Inhabited α] [Sz α] {n i : Nat} {l : List α} (h : Sm n l) : Sm n (l.drop i) := ⟨Nat.le_trans (by simp) h.1, fun x hx => h.2 x (List.mem_of_mem_drop hx)⟩
theorem Kc {α : Type} [Inhabited α] [Sz α] {n : Nat} {l m : List α} : Sm n (l ++ m) = (l.length + m.length <= n /\ (∀ x ∈ l, Sm n x) /\ ∀ x ∈ m, Sm n x) := by
  rw [Xg]; simp [or_imp, forall_and]
theorem ZW {α : Type} [Inhabited α] [Sz α] {n m : Nat} {x : α} (h : n <= m) (k : Sm n x) : Sm m x := Sz.mono h k
structure ZQ where
  Authority : Int
  Seq : Int
  Time : Int
  XL : Int
  Mark : Int
  deriving Inhabited, DecidableEq
@[simp] def ZQ.row (x : ZQ) : List Vm.D := [.int .i64 x.Authority, .int .i64 x.Seq, .int .i64 x.Time, .int .i64 x.XL, .int .i64 x.Mark]
instance : Cn ZQ := ⟨fun x => cn x.Authority + cn x.Seq + cn x.Time + cn x.XL + cn x.Mark⟩
instance : Sz ZQ := ⟨fun _ _ => True, fun _ => trivial, fun _ h => h⟩
@[simp] theorem ZQ.qM {n : Nat} {x : ZQ} : Sm n x := trivial
structure JR where
  XL : Int
  Left : Bool
  deriving Inhabited, DecidableEq
@[simp] def JR.row (x : JR) : List Vm.D := [.int .i64 x.XL, .bool x.Left]
instance : Cn JR := ⟨fun x => cn x.XL + cn x.Left⟩
instance : Sz JR := ⟨fun _ _ => True, fun _ => trivial, fun _ h => h⟩
@[simp] theorem JR.qM {n : Nat} {x : JR} : Sm n x := trivial
structure Za where
  Count : Int
  Method : Int
  GW : Int
  Path : List JR
  Y7 : List ZQ
  deriving Inhabited, DecidableEq
@[simp] def Za.row (x : Za) : List Vm.D := [.int .i64 x.Count, .int .i64 x.Method, .int .i64 x.GW, .sl 2 (x.Path.map JR.row), .sl 5 (x.Y7.map ZQ.row)]
instance : Cn Za := ⟨fun x => cn x.Count + cn x.Method + cn x.GW + cn x.Path + cn x.Y7⟩
instance : Sz Za := ⟨fun n x => Sm n x.Path /\ Sm n x.Y7, fun n => ⟨Sz.zero n, Sz.zero n⟩, fun h k => ⟨Sz.mono h k.1, Sz.mono h k.2⟩⟩
@[simp] theorem Za.Ez {n : Nat} {x : Za} (h : Sm n x) : Sm n x.Path := h.1
@[simp] theorem Za.Um {n : Nat} {x : Za} (h : Sm n x) : Sm n x.Y7 := h.2
@[simp] theorem Za.xx {n : Nat} {oo : Int} {po : Int} {mI : Int} {oF : List JR} {s8 : List ZQ} : Sm n (Za.mk oo po mI oF s8) = (Sm n oF /\ Sm n s8) := rfl
structure Yq where
  Number : Int
  xi : Int
  Method : Int
  NU : Int
  W5 : Int
  deriving Inhabited, DecidableEq
@[simp] def Yq.row (x : Yq) : List Vm.D := [.int .i64 x.Number, .int .i64 x.xi, .int .i64 x.Method, .int .i64 x.NU, .int .i64 x.W5]
instance : Cn Yq := ⟨fun x => cn x.Number + cn x.xi + cn x.Method + cn x.NU + cn x.W5⟩
instance : Sz Yq := ⟨fun _ _ => True, fun _ => trivial, fun _ h => h⟩
@[simp] theorem Yq.qM {n : Nat} {x : Yq} : Sm n x := trivial
structure ZZ where
  Id : Int
  Key : Int
  Error : Int
  deriving Inhabited, DecidableEq
@[simp] def ZZ.row (x : ZZ) : List Vm.D := [.int .i64 x.Id, .int .i64 x.Key, .int .i64 x.Error]
instance : Cn ZZ := ⟨fun x => cn x.Id + cn x.Key + cn x.Error⟩
instance : Sz ZZ := ⟨fun _ _ => True, fun _ => trivial, fun _ h => h⟩
@[simp] theorem ZZ.qM {n : Nat} {x : ZZ} : Sm n x := trivial
structure YJ where
  Id : Int
  OC : Int
  Ends : Int
  T4 : Int
  deriving Inhabited, DecidableEq
@[simp] def YJ.row (x : YJ) : List Vm.D := [.int .i64 x.Id, .int .i64 x.OC, .int .i64 x.Ends, .int .i64 x.T4]
instance : Cn YJ := ⟨fun x => cn x.Id + cn x.OC + cn x.Ends + cn x.T4⟩
instance : Sz YJ := ⟨fun _ _ => True, fun _ => trivial, fun _ h => h⟩
@[simp] theorem YJ.qM {n : Nat} {x : YJ} : Sm n x := trivial
structure Z2 where
  Z9 : List Yq
  ZG : List ZZ
  Methods : List YJ
  zm : Int
  Now : Int
  deriving Inhabited, DecidableEq
@[simp] def Z2.row (x : Z2) : List Vm.D := [.sl 5 (x.Z9.map Yq.row), .sl 3 (x.ZG.map ZZ.row), .sl 4 (x.Methods.map YJ.row), .int .i64 x.zm, .int .i64 x.Now]
instance : Cn Z2 := ⟨fun x => cn x.Z9 + cn x.ZG + cn x.Methods + cn x.zm + cn x.Now⟩
instance : Sz Z2 := ⟨fun n x => Sm n x.Z9 /\ Sm n x.ZG /\ Sm n x.Methods, fun n => ⟨Sz.zero n, Sz.zero n, Sz.zero n⟩, fun h k => ⟨Sz.mono h k.1, Sz.mono h k.2.1, Sz.mono h k.2.2⟩⟩
@[simp] theorem Z2.xw {n : Nat} {x : Z2} (h : Sm n x) : Sm n x.Z9 := h.1
@[simp] theorem Z2.XZ {n : Nat} {x : Z2} (h : Sm n x) : Sm n x.ZG := h.2.1
@[simp] theorem Z2.LF {n : Nat} {x : Z2} (h : Sm n x) : Sm n x.Methods := h.2.2
@[simp] theorem Z2.xx {n : Nat} {oG : List Yq} {uX : List ZZ} {uB : List YJ} {oq : Int} {l9 : Int} : Sm n (Z2.mk oG uX uB oq l9) = (Sm n oG /\ Sm n uX /\ Sm n uB) := rfl
structure Ym where
  YD : Int
  Key : Int
  xi : Int
  xb : Int
  To : Int
  YZ : Int
  Mark : Int
  deriving Inhabited, DecidableEq
@[simp] def Ym.row (x : Ym) : List Vm.D := [.int .i64 x.YD, .int .i64 x.Key, .int .i64 x.xi, .int .i64 x.xb, .int .i64 x.To, .int .i64 x.YZ, .int .i64 x.Mark]
instance : Cn Ym := ⟨fun x => cn x.YD + cn x.Key + cn x.xi + cn x.xb + cn x.To + cn x.YZ + cn x.Mark⟩
instance : Sz Ym := ⟨fun _ _ => True, fun _ => trivial, fun _ h => h⟩
@[simp] theorem Ym.qM {n : Nat} {x : Ym} : Sm n x := trivial
structure ZP where
  qn : Int
  XA : List ByteArray
  Qr : List Int
  deriving Inhabited, DecidableEq
@[simp] def ZP.row (x : ZP) : List Vm.D := [.int .i64 x.qn, .sl 1 (x.XA.map sR), .sl 1 (x.Qr.map iR)]
instance : Cn ZP := ⟨fun x => cn x.qn + cn x.XA + cn x.Qr⟩
instance : Sz ZP := ⟨fun n x => Sm n x.XA /\ Sm n x.Qr, fun n => ⟨Sz.zero n, Sz.zero n⟩, fun h k => ⟨Sz.mono h k.1, Sz.mono h k.2⟩⟩
@[simp] theorem ZP.N2 {n : Nat} {x : ZP} (h : Sm n x) : Sm n x.XA := h.1
@[simp] theorem ZP.NN {n : Nat} {x : ZP} (h : Sm n x) : Sm n x.Qr := h.2
@[simp] theorem ZP.xx {n : Nat} {sn : Int} {u5 : List ByteArray} {u6 : List Int} : Sm n (ZP.mk sn u5 u6) = (Sm n u5 /\ Sm n u6) := rfl
structure Zr where
  Key : Int
  YD : Int
  Method : Int
  XL : Int
  VA : Int
  Org : Int
  Wy : Int
  RQ : Int
  Mark : Int
  deriving Inhabited, DecidableEq
@[simp] def Zr.row (x : Zr) : List Vm.D := [.int .i64 x.Key, .int .i64 x.YD, .int .i64 x.Method, .int .i64 x.XL, .int .i64 x.VA, .int .i64 x.Org, .int .i64 x.Wy, .int .i64 x.RQ, .int .i64 x.Mark]
instance : Cn Zr := ⟨fun x => cn x.Key + cn x.YD + cn x.Method + cn x.XL + cn x.VA + cn x.Org + cn x.Wy + cn x.RQ + cn x.Mark⟩
instance : Sz Zr := ⟨fun _ _ => True, fun _ => trivial, fun _ h => h⟩
@[simp] theorem Zr.qM {n : Nat} {x : Zr} : Sm n x := trivial
structure Zl where
  Key : Int
  QP : List Int
  Mark : Int
  deriving Inhabited, DecidableEq
@[simp] def Zl.row (x : Zl) : List Vm.D := [.int .i64 x.Key, .sl 1 (x.QP.map iR), .int .i64 x.Mark]
instance : Cn Zl := ⟨fun x => cn x.Key + cn x.QP + cn x.Mark⟩
instance : Sz Zl := ⟨fun n x => Sm n x.QP, fun n => Sz.zero n, fun h k => Sz.mono h k⟩
@[simp] theorem Zl.Gx {n : Nat} {x : Zl} (h : Sm n x) : Sm n x.QP := h
@[simp] theorem Zl.xx {n : Nat} {iA : Int} {oH : List Int} {mJ : Int} : Sm n (Zl.mk iA oH mJ) = (Sm n oH) := rfl
structure Zf where
  Zp : List Zl
  Zn : List Za
  deriving Inhabited, DecidableEq
@[simp] def Zf.row (x : Zf) : List Vm.D := [.sl 3 (x.Zp.map Zl.row), .sl 5 (x.Zn.map Za.row)]
instance : Cn Zf := ⟨fun x => cn x.Zp + cn x.Zn⟩
instance : Sz Zf := ⟨fun n x => Sm n x.Zp /\ Sm n x.Zn, fun n => ⟨Sz.zero n, Sz.zero n⟩, fun h k => ⟨Sz.mono h k.1, Sz.mono h k.2⟩⟩
@[simp] theorem Zf.kh {n : Nat} {x : Zf} (h : Sm n x) : Sm n x.Zp := h.1
@[simp] theorem Zf.j6 {n : Nat} {x : Zf} (h : Sm n x) : Sm n x.Zn := h.2
@[simp] theorem Zf.xx {n : Nat} {s9 : List Zl} {r9 : List Za} : Sm n (Zf.mk s9 r9) = (Sm n s9 /\ Sm n r9) := rfl
structure ZS where
  Id : Int
  YQ : Int
  Doc : ZP
  Sig : Zr
  Zc : Zf
  deriving Inhabited, DecidableEq
@[simp] def ZS.row (x : ZS) : List Vm.D := [.int .i64 x.Id, .int .i64 x.YQ, .int .i64 x.Doc.qn, .sl 1 (x.Doc.XA.map sR), .sl 1 (x.Doc.Qr.map iR), .int .i64 x.Sig.Key, .int .i64 x.Sig.YD, .int .i64 x.Sig.Method, .int .i64 x.Sig.XL, .int .i64 x.Sig.VA, .int .i64 x.Sig.Org, .int .i64 x.Sig.Wy, .int .i64 x.Sig.RQ, .int .i64 x.Sig.Mark, .sl 3 (x.Zc.Zp.map Zl.row), .sl 5 (x.Zc.Zn.map Za.row)]
instance : Cn ZS := ⟨fun x => cn x.Id + cn x.YQ + cn x.Doc + cn x.Sig + cn x.Zc⟩
instance : Sz ZS := ⟨fun n x => Sm n x.Doc /\ Sm n x.Zc, fun n => ⟨Sz.zero n, Sz.zero n⟩, fun h k => ⟨Sz.mono h k.1, Sz.mono h k.2⟩⟩
@[simp] theorem ZS.W7 {n : Nat} {x : ZS} (h : Sm n x) : Sm n x.Doc := h.1
@[simp] theorem ZS.J8 {n : Nat} {x : ZS} (h : Sm n x) : Sm n x.Zc := h.2
@[simp] theorem ZS.xx {n : Nat} {iB : Int} {mK : Int} {pA : ZP} {iC : Zr} {rA : Zf} : Sm n (ZS.mk iB mK pA iC rA) = (Sm n pA /\ Sm n rA) := rfl
structure ZD where
  Id : Int
  ZF : List ZS
  deriving Inhabited, DecidableEq
@[simp] def ZD.row (x : ZD) : List Vm.D := [.int .i64 x.Id, .sl 16 (x.ZF.map ZS.row)]
instance : Cn ZD := ⟨fun x => cn x.Id + cn x.ZF⟩
instance : Sz ZD := ⟨fun n x => Sm n x.ZF, fun n => Sz.zero n, fun h k => Sz.mono h k⟩
@[simp] theorem ZD.Yc {n : Nat} {x : ZD} (h : Sm n x) : Sm n x.ZF := h
@[simp] theorem ZD.xx {n : Nat} {iB : Int} {u7 : List ZS} : Sm n (ZD.mk iB u7) = (Sm n u7) := rfl
structure ZE where
  Frame : Z2
  Zb : List Ym
  YC : List Int
  ZA : List ZD
  YP : List Int
  YN : List Int
  Next : Int
  YE : List Int
  deriving Inhabited, DecidableEq
@[simp] def ZE.row (x : ZE) : List Vm.D := [.sl 5 (x.Frame.Z9.map Yq.row), .sl 3 (x.Frame.ZG.map ZZ.row), .sl 4 (x.Frame.Methods.map YJ.row), .int .i64 x.Frame.zm, .int .i64 x.Frame.Now, .sl 7 (x.Zb.map Ym.row), .sl 1 (x.YC.map iR), .sl 2 (x.ZA.map ZD.row), .sl 1 (x.YP.map iR), .sl 1 (x.YN.map iR), .int .i64 x.Next, .sl 1 (x.YE.map iR)]
instance : Cn ZE := ⟨fun x => cn x.Frame + cn x.Zb + cn x.YC + cn x.ZA + cn x.YP + cn x.YN + cn x.Next + cn x.YE⟩
instance : Sz ZE := ⟨fun n x => Sm n x.Frame /\ Sm n x.Zb /\ Sm n x.YC /\ Sm n x.ZA /\ Sm n x.YP /\ Sm n x.YN /\ Sm n x.YE, fun n => ⟨Sz.zero n, Sz.zero n, Sz.zero n, Sz.zero n, Sz.zero n, Sz.zero n, Sz.zero n⟩, fun h k => ⟨Sz.mono h k.1, Sz.mono h k.2.1, Sz.mono h k.2.2.1, Sz.mono h k.2.2.2.1, Sz.mono h k.2.2.2.2.1, Sz.mono h k.2.2.2.2.2.1, Sz.mono h k.2.2.2.2.2.2⟩⟩
@[simp] theorem ZE.Xx {n : Nat} {x : ZE} (h : Sm n x) : Sm n x.Frame := h.1
@[simp] theorem ZE.Ef {n : Nat} {x : ZE} (h : Sm n x) : Sm n x.Zb := h.2.1
@[simp] theorem ZE.H4 {n : Nat} {x : ZE} (h : Sm n x) : Sm n x.YC := h.2.2.1
@[simp] theorem ZE.Yu {n : Nat} {x : ZE} (h : Sm n x) : Sm n x.ZA := h.2.2.2.1
@[simp] theorem ZE.Le {n : Nat} {x : ZE} (h : Sm n x) : Sm n x.YP := h.2.2.2.2.1
@[simp] theorem ZE.Ht {n : Nat} {x : ZE} (h : Sm n x) : Sm n x.YN := h.2.2.2.2.2.1
@[simp] theorem ZE.UU {n : Nat} {x : ZE} (h : Sm n x) : Sm n x.YE := h.2.2.2.2.2.2
@[simp] theorem ZE.xx {n : Nat} {pB : Z2} {pC : List Ym} {pD : List Int} {tb : List ZD} {oI : List Int} {pE : List Int} {mL : Int} {rC : List Int} : Sm n (ZE.mk pB pC pD tb oI pE mL rC) = (Sm n pB /\ Sm n pC /\ Sm n pD /\ Sm n tb /\ Sm n oI /\ Sm n pE /\ Sm n rC) := rfl
structure ZR where
  Kind : Int
  A : Int
  B : Int
  C : Int
  D : Int
  Doc : ZP
  Ids : List Int
  deriving Inhabited, DecidableEq
@[simp] def ZR.row (x : ZR) : List Vm.D := [.int .i64 x.Kind, .int .i64 x.A, .int .i64 x.B, .int .i64 x.C, .int .i64 x.D, .int .i64 x.Doc.qn, .sl 1 (x.Doc.XA.map sR), .sl 1 (x.Doc.Qr.map iR), .sl 1 (x.Ids.map iR)]
instance : Cn ZR := ⟨fun x => cn x.Kind + cn x.A + cn x.B + cn x.C + cn x.D + cn x.Doc + cn x.Ids⟩
instance : Sz ZR := ⟨fun n x => Sm n x.Doc /\ Sm n x.Ids, fun n => ⟨Sz.zero n, Sz.zero n⟩, fun h k => ⟨Sz.mono h k.1, Sz.mono h k.2⟩⟩
@[simp] theorem ZR.W7 {n : Nat} {x : ZR} (h : Sm n x) : Sm n x.Doc := h.1
@[simp] theorem ZR.H0 {n : Nat} {x : ZR} (h : Sm n x) : Sm n x.Ids := h.2
@[simp] theorem ZR.xx {n : Nat} {mM : Int} {A' : Int} {B' : Int} {C' : Int} {D' : Int} {pA : ZP} {mN : List Int} : Sm n (ZR.mk mM A' B' C' D' pA mN) = (Sm n pA /\ Sm n mN) := rfl
structure qI where
  xb : Int
  To : Int
  deriving Inhabited, DecidableEq
@[simp] def qI.row (x : qI) : List Vm.D := [.int .i64 x.xb, .int .i64 x.To]
instance : Cn qI := ⟨fun x => cn x.xb + cn x.To⟩
instance : Sz qI := ⟨fun _ _ => True, fun _ => trivial, fun _ h => h⟩
@[simp] theorem qI.qM {n : Nat} {x : qI} : Sm n x := trivial
structure ql where
  Code : Int
  Reason : Int
  Span : qI
  deriving Inhabited, DecidableEq
@[simp] def ql.row (x : ql) : List Vm.D := [.int .i64 x.Code, .int .i64 x.Reason, .int .i64 x.Span.xb, .int .i64 x.Span.To]
instance : Cn ql := ⟨fun x => cn x.Code + cn x.Reason + cn x.Span⟩
instance : Sz ql := ⟨fun _ _ => True, fun _ => trivial, fun _ h => h⟩
@[simp] theorem ql.qM {n : Nat} {x : ql} : Sm n x := trivial
structure X0 where
  qn : Int
  Methods : List Int
  Shown : List Bool
  XA : List ByteArray
  Qr : List Int
  T1 : List (List Int)
  deriving Inhabited, DecidableEq
@[simp] def X0.row (x : X0) : List Vm.D := [.int .i64 x.qn, .sl 1 (x.Methods.map iR), .sl 1 (x.Shown.map lR), .sl 1 (x.XA.map sR), .sl 1 (x.Qr.map iR), .sl 1 (x.T1.map (slR 1 iR))]
instance : Cn X0 := ⟨fun x => cn x.qn + cn x.Methods + cn x.Shown + cn x.XA + cn x.Qr + cn x.T1⟩
instance : Sz X0 := ⟨fun n x => Sm n x.Methods /\ Sm n x.Shown /\ Sm n x.XA /\ Sm n x.Qr /\ Sm n x.T1, fun n => ⟨Sz.zero n, Sz.zero n, Sz.zero n, Sz.zero n, Sz.zero n⟩, fun h k => ⟨Sz.mono h k.1, Sz.mono h k.2.1, Sz.mono h k.2.2.1, Sz.mono h k.2.2.2.1, Sz.mono h k.2.2.2.2⟩⟩
@[simp] theorem X0.LF {n : Nat} {x : X0} (h : Sm n x) : Sm n x.Methods := h.1
@[simp] theorem X0.ET {n : Nat} {x : X0} (h : Sm n x) : Sm n x.Shown := h.2.1
@[simp] theorem X0.N2 {n : Nat} {x : X0} (h : Sm n x) : Sm n x.XA := h.2.2.1
@[simp] theorem X0.NN {n : Nat} {x : X0} (h : Sm n x) : Sm n x.Qr := h.2.2.2.1
@[simp] theorem X0.Fp {n : Nat} {x : X0} (h : Sm n x) : Sm n x.T1 := h.2.2.2.2
@[simp] theorem X0.xx {n : Nat} {sn : Int} {uB : List Int} {pF : List Bool} {u5 : List ByteArray} {u6 : List Int} {sG : List (List Int)} : Sm n (X0.mk sn uB pF u5 u6 sG) = (Sm n uB /\ Sm n pF /\ Sm n u5 /\ Sm n u6 /\ Sm n sG) := rfl
structure Z8 where
  Zt : List Zf
  J5 : List (List ZQ)
  deriving Inhabited, DecidableEq
@[simp] def Z8.row (x : Z8) : List Vm.D := [.sl 2 (x.Zt.map Zf.row), .sl 1 (x.J5.map (slR 5 ZQ.row))]
instance : Cn Z8 := ⟨fun x => cn x.Zt + cn x.J5⟩
instance : Sz Z8 := ⟨fun n x => Sm n x.Zt /\ Sm n x.J5, fun n => ⟨Sz.zero n, Sz.zero n⟩, fun h k => ⟨Sz.mono h k.1, Sz.mono h k.2⟩⟩
@[simp] theorem Z8.LQ {n : Nat} {x : Z8} (h : Sm n x) : Sm n x.Zt := h.1
@[simp] theorem Z8.Hn {n : Nat} {x : Z8} (h : Sm n x) : Sm n x.J5 := h.2
@[simp] theorem Z8.xx {n : Nat} {sH : List Zf} {pG : List (List ZQ)} : Sm n (Z8.mk sH pG) = (Sm n sH /\ Sm n pG) := rfl
structure Yb where
  YD : Int
  NW : Int
  YC : Int
  YZ : Int
  Mark : Int
  deriving Inhabited, DecidableEq
@[simp] def Yb.row (x : Yb) : List Vm.D := [.int .i64 x.YD, .int .i64 x.NW, .int .i64 x.YC, .int .i64 x.YZ, .int .i64 x.Mark]
instance : Cn Yb := ⟨fun x => cn x.YD + cn x.NW + cn x.YC + cn x.YZ + cn x.Mark⟩
instance : Sz Yb := ⟨fun _ _ => True, fun _ => trivial, fun _ h => h⟩
@[simp] theorem Yb.qM {n : Nat} {x : Yb} : Sm n x := trivial
structure Zj where
  b : List UInt8
  i : Nat
  h : Int
  deriving Inhabited, DecidableEq
@[simp] def Zj.row (x : Zj) : List Vm.D := [.sl 1 (x.b.map bR), .int .i64 (x.i : Int), .int .i64 x.h]
instance : Sz Zj := ⟨fun n x => Sm n x.b, fun n => Sz.zero n, fun h k => Sz.mono h k⟩
@[simp] theorem Zj.D2 {n : Nat} {x : Zj} (h : Sm n x) : Sm n x.b := h
@[simp] theorem Zj.xx {n : Nat} {b' : List UInt8} {i' : Nat} {h' : Int} : Sm n (Zj.mk b' i' h') = (Sm n b') := rfl
structure Yg where
  xb : Int
  To : Int
  ZF : List ZS
  XL : Int
  deriving Inhabited, DecidableEq
@[simp] def Yg.row (x : Yg) : List Vm.D := [.int .i64 x.xb, .int .i64 x.To, .sl 16 (x.ZF.map ZS.row), .int .i64 x.XL]
instance : Cn Yg := ⟨fun x => cn x.xb + cn x.To + cn x.ZF + cn x.XL⟩
instance : Sz Yg := ⟨fun n x => Sm n x.ZF, fun n => Sz.zero n, fun h k => Sz.mono h k⟩
@[simp] theorem Yg.Yc {n : Nat} {x : Yg} (h : Sm n x) : Sm n x.ZF := h
@[simp] theorem Yg.xx {n : Nat} {mO : Int} {g6 : Int} {u7 : List ZS} {pq : Int} : Sm n (Yg.mk mO g6 u7 pq) = (Sm n u7) := rfl
structure qx where
  Org : Int
  HX : Int
  xb : Int
  To : Int
  Key : Int
  Mark : Int
  deriving Inhabited, DecidableEq
@[simp] def qx.row (x : qx) : List Vm.D := [.int .i64 x.Org, .int .i64 x.HX, .int .i64 x.xb, .int .i64 x.To, .int .i64 x.Key, .int .i64 x.Mark]
instance : Cn qx := ⟨fun x => cn x.Org + cn x.HX + cn x.xb + cn x.To + cn x.Key + cn x.Mark⟩
instance : Sz qx := ⟨fun _ _ => True, fun _ => trivial, fun _ h => h⟩
@[simp] theorem qx.qM {n : Nat} {x : qx} : Sm n x := trivial
end Go.Mo
namespace Go.Mo
open Go.Vm
theorem Qq {α : Type} [Inhabited α] {l : List α} {i : Nat} (h : i < l.length) : nth l i = l[i] := by simp [nth, h]
theorem kr {α : Type} [Inhabited α] {F : Nat -> List α -> Nat -> List α} {a : List α} {g : α -> α} (hg : ∀ x, g x = x)
    (h1 : ∀ n v i, F (n + 1) v i = bif decide ((i : Int) < (a.length : Int)) then F n (v ++ [g (nth a i)]) (i + 1) else v) :
    ∀ n v i, a.length < n + i -> i <= a.length -> F n v i = v ++ a.drop i := by
  intro n
  induction n with
  | zero => intro v i h2 h3; omega
  | succ n ih =>
    intro v i h2 h3
    rw [h1]
    by_cases hi : i < a.length
    · rw [show decide ((i : Int) < (a.length : Int)) = true by simp [hi], cond_true, ih _ _ (by omega) hi, hg, Qq hi, List.append_assoc, List.singleton_append, <- List.drop_eq_getElem_cons hi]
    · rw [show decide ((i : Int) < (a.length : Int)) = false by simp; omega, cond_false, List.drop_eq_nil_of_le (by omega), List.append_nil]
theorem ku {F : Nat -> Nat -> Sum Int Unit} {L : Nat} {c : Nat -> Bool} (h0 : ∀ i, F 0 i = .inr ())
    (h1 : ∀ n i, F (n + 1) i = bif decide ((i : Int) < (L : Int)) then (bif c i then .inl (i : Int) else F n (i + 1)) else .inr ()) :
    ∀ n i, (match F n i with | .inl r => r | .inr _ => -1) < (L : Int) := by
  intro n
  induction n with
  | zero => intro i; rw [h0]; show (-1 : Int) < _; omega
  | succ n ih =>
    intro i
    rw [h1]
    by_cases hi : (i : Int) < (L : Int)
    · rw [show decide ((i : Int) < (L : Int)) = true by simpa using hi, cond_true]
      cases hc : c i with
      | true => simpa using hi
      | false => exact ih (i + 1)
    · rw [show decide ((i : Int) < (L : Int)) = false by simpa using hi, cond_false]
      show (-1 : Int) < _; omega
theorem Xa {rows : List (List Vm.D)} {i : Nat} {r : List Vm.D} (h : i < rows.length) : Vm.rowAt (rows.set i r) i = r := by simp [Vm.rowAt, h]
theorem SE {α : Type} {p : α -> Prop} {l : List α} {i : Nat} {a : α} (h1 : ∀ x ∈ l, p x) (h2 : p a) : ∀ x ∈ l.set i a, p x := by
  intro x hx
  rcases List.mem_or_eq_of_mem_set hx with h | h
  · exact h1 x h
  · rw [h]; exact h2
theorem ZL {α : Type} {p : α -> Prop} {c : Bool} {x y : α} (hx : p x) (hy : p y) : p (bif c then x else y) := by cases c; exact hy; exact hx
theorem Zd {α : Type} {p : α -> Prop} {c : Bool} {x y : α} (hx : c = true -> p x) (hy : c = false -> p y) : p (bif c then x else y) := by cases c; exact hy rfl; exact hx rfl
theorem Ho {α : Type} {F : Nat -> List α -> Nat -> List α} {L : Nat} {c : Nat -> Bool} {g : Nat -> α} (h0 : ∀ v i, F 0 v i = [])
    (h1 : ∀ n v i, F (n + 1) v i = bif decide ((i : Int) < (L : Int)) then (bif c i then F n (v ++ [g i]) (i + 1) else F n v (i + 1)) else v) : ∀ n v i, (F n v i).length <= v.length + (L - i) := by
  intro n
  induction n with
  | zero => intro v i; rw [h0]; simp
  | succ n ih =>
    intro v i
    rw [h1]
    by_cases hi : i < L
    · rw [show decide ((i : Int) < (L : Int)) = true by simp [hi], cond_true]
      cases c i with
      | true => have := ih (v ++ [g i]) (i + 1); rw [cond_true]; simp at this; omega
      | false => have := ih v (i + 1); rw [cond_false]; omega
    · rw [show decide ((i : Int) < (L : Int)) = false by simp; omega, cond_false]; omega
theorem I6 {α : Type} {F : Nat -> List α -> Nat -> List α} {L : Nat} {g : Nat -> α} (h0 : ∀ v i, F 0 v i = [])
    (h1 : ∀ n v i, F (n + 1) v i = bif decide ((i : Int) < (L : Int)) then F n (v ++ [g i]) (i + 1) else v) : ∀ n v i, (F n v i).length <= v.length + (L - i) := by
  intro n
  induction n with
  | zero => intro v i; rw [h0]; simp
  | succ n ih =>
    intro v i
    rw [h1]
    by_cases hi : i < L
    · rw [show decide ((i : Int) < (L : Int)) = true by simp [hi], cond_true]
      have := ih (v ++ [g i]) (i + 1); simp at this; omega
    · rw [show decide ((i : Int) < (L : Int)) = false by simp; omega, cond_false]; omega
end Go.Mo
namespace Go.Mo
open Go.Vm
end Go.Mo
namespace Go.Mo
open Go.Vm
theorem XR (n : Int) : W n = (n + 9223372036854775808) % 18446744073709551616 - 9223372036854775808 := IntKind.wrap_i64 n
end Go.Mo
namespace Go.Mo
open Go.Vm
theorem MP {α : Type} [Inhabited α] [Sz α] {f : α -> List D} {n : Nat} : ∀ {rows : List (List D)}, (∀ r, r ∈ rows -> ∃ x : α, r = f x /\ Sm n x) -> ∃ l : List α, rows = l.map f /\ ∀ x ∈ l, Sm n x
  | [], _ => ⟨[], rfl, fun _ h => by cases h⟩
  | r :: rows, h => by
    obtain ⟨x, hx, sx⟩ := h r (by simp)
    obtain ⟨l, hl, sl⟩ := MP (rows := rows) (fun r hr => h r (by simp [hr]))
    refine ⟨x :: l, by simp [hx, hl], fun y hy => ?_⟩
    rcases List.mem_cons.1 hy with rfl | hy
    · exact sx
    · exact sl y hy
end Go.Mo
namespace Go.Mo
open Go.Vm
theorem M8 {P : Program} {n : Nat} {t : TypeId} {ts : List TypeId} : ∀ {rows : List (List D)}, Pu P n (t :: ts) rows -> ∃ r rs, rows = r :: rs /\ TyR P n t r /\ Pu P n ts rs
  | r :: rs, h => ⟨r, rs, rfl, h.1, h.2⟩
  | [], h => h.elim
theorem L3 {P : Program} {n : Nat} : ∀ {rows : List (List D)}, Pu P n [] rows -> rows = []
  | [], _ => rfl
  | _ :: _, h => h.elim
end Go.Mo
namespace Go.Mo
open Go.Vm
@[simp] theorem DK (l : List UInt8) : JB l = l.map bR := rfl
@[simp] theorem Ec (x : Int) : ((UInt8.ofInt x).toNat : Int) = IntKind.u8.wrap x := by
  rw [IntKind.wrap_u8]
  simp [UInt8.ofInt]
  omega
end Go.Mo
namespace Go.Mo
open Go.Vm
end Go.Mo
namespace Go.Mo
open Go.Vm
@[simp] theorem Eg {α : Type} {l : List α} {n : Nat} (h : l.length <= n) : List.take n l = l := List.take_of_length_le h
@[simp] theorem FG {α β : Type} (f : α -> β) (l : List α) : List.take l.length (List.map f l) = List.map f l := List.take_of_length_le (by simp)
@[simp] theorem FY (n : Nat) : 1 + n = n + 1 := Nat.add_comm 1 n
@[simp] theorem Et {α β : Type} (f : α -> β) (l : List α) (x y : β) : List.take (2 + l.length) (x :: y :: List.map f l) = x :: y :: List.map f l := List.take_of_length_le (by simp; omega)
@[simp] theorem Eu {α β : Type} (f : α -> β) (l : List α) (x y z : β) : List.take (3 + l.length) (x :: y :: z :: List.map f l) = x :: y :: z :: List.map f l := List.take_of_length_le (by simp; omega)
@[simp] theorem Es {α β : Type} (f : α -> β) (l : List α) (x y z u : β) : List.take (4 + l.length) (x :: y :: z :: u :: List.map f l) = x :: y :: z :: u :: List.map f l := List.take_of_length_le (by simp; omega)
@[simp] theorem Ex {α β : Type} (f : α -> β) (l : List α) (x y z u v : β) : List.take (5 + l.length) (x :: y :: z :: u :: v :: List.map f l) = x :: y :: z :: u :: v :: List.map f l := List.take_of_length_le (by simp; omega)
@[simp] theorem Ey {α β : Type} (f : α -> β) (l : List α) (x y z u v w : β) : List.take (6 + l.length) (x :: y :: z :: u :: v :: w :: List.map f l) = x :: y :: z :: u :: v :: w :: List.map f l := List.take_of_length_le (by simp; omega)
end Go.Mo
namespace Go.Mo
@[simp] theorem Ew (a : Array UInt8) : (ByteArray.mk a).size = a.size := rfl
@[simp] theorem EP {α : Type} {l : List α} {x : α} {v n : Nat} (h : l.length = n) : List.take (min v n + 1 + (n - v)) (List.take v l ++ x :: List.drop v l) = List.take v l ++ x :: List.drop v l := by
  apply List.take_of_length_le; simp; omega
@[simp] theorem Ep (a b : Nat) : (min a b + 1 + (b - a) = min a b + (b - a + 1)) = True := by simp; omega
theorem kC {α : Type} [Inhabited α] [Sz α] {n i : Nat} {l : List α} {x : α} (h : Sm n l) (hx : Sm n x) : Sm n (l.set i x) :=
  ⟨by simpa using h.1, fun y hy => by
    rcases List.mem_or_eq_of_mem_set hy with hy | rfl
    · exact h.2 y hy
    · exact hx⟩
theorem Ly {α : Type} (a b : α) : cond true a b = a /\ cond false a b = b := ⟨rfl, rfl⟩
theorem Yf {α : Type} (a b : α) : cond true a b = a := (Ly a b).1
theorem YT {α : Type} (a b : α) : cond false a b = b := (Ly a b).2
/-- a side condition that is found by itself -/
theorem bf {a : Bool} {c : Prop} (h : a = true -> c) : a = false \/ c := by cases a with | false => exact .inl rfl | true => exact .inr (h rfl)
theorem sd {a b : Prop} (h : b) (k : a := by (intros; first | omega | exact ⟨by assumption, fun k => ⟨by assumption, k⟩⟩ | exact bf (by assumption) | (simp only [decide_eq_true_eq, decide_eq_false_iff_not, beq_iff_eq, beq_eq_false_iff_ne, bne_iff_ne, ne_eq, Bool.or_eq_false_iff, Bool.or_eq_true, Bool.and_eq_true, Bool.not_eq_true', Bool.not_eq_false'] at *; omega) | ((try simp only [Go.Mo.XR, show ∀ x, Go.IntKind.i64.wrap x = Go.Vm.W x from fun _ => rfl] at *); omega) | exact List.ne_nil_of_length_pos (by assumption))) : a /\ b := ⟨k, h⟩
theorem sdg {a b : Prop} (h : b) (k : a := by (intros; first | omega | (simp_all; done) | (simp_all; omega) | grind | ((try simp only [Go.Mo.XR, show ∀ x, Go.IntKind.i64.wrap x = Go.Vm.W x from fun _ => rfl] at *); omega))) : a /\ b := ⟨k, h⟩
theorem il {a b : Nat} (h : a < b := by first | omega | (simp only [decide_eq_true_eq, decide_eq_false_iff_not, beq_iff_eq, beq_eq_false_iff_ne, bne_iff_ne, ne_eq, Bool.or_eq_false_iff, Bool.not_eq_true', Bool.not_eq_false'] at *; omega) | (simp_all [List.length_pos_iff]; done) | (simp; omega) | (simp_all; omega) | ((try simp only [Go.Mo.XR, show ∀ x, Go.IntKind.i64.wrap x = Go.Vm.W x from fun _ => rfl] at *); omega) | (simp; (try simp only [Go.Mo.XR, show ∀ x, Go.IntKind.i64.wrap x = Go.Vm.W x from fun _ => rfl] at *); omega)) : a < b := h
theorem ik {α : Type} (a : Nat) (l : List α) (h : a < l.length := by first | omega | (simp only [decide_eq_true_eq, decide_eq_false_iff_not, beq_iff_eq, beq_eq_false_iff_ne, bne_iff_ne, ne_eq, Bool.or_eq_false_iff, Bool.not_eq_true', Bool.not_eq_false'] at *; omega) | (simp_all [List.length_pos_iff]; done) | (simp; omega) | (simp_all; omega) | ((try simp only [Go.Mo.XR, show ∀ x, Go.IntKind.i64.wrap x = Go.Vm.W x from fun _ => rfl] at *); omega) | (simp; (try simp only [Go.Mo.XR, show ∀ x, Go.IntKind.i64.wrap x = Go.Vm.W x from fun _ => rfl] at *); omega)) : a < l.length := h
theorem sl {α : Type} [Inhabited α] [Sz α] (n : Nat) (l : List α) {q : Prop} (u : q) (h : q -> Sm n l := by (intro u; simp (maxDischargeDepth := 12) [u])) : l.length <= n := XM (h u)
theorem sg {α : Type} [Inhabited α] [Sz α] {n m : Nat} {x : α} (h : Sm n x) (k : n <= m := by decide) : Sm m x := ZW k h
theorem Px {α : Type} [Inhabited α] {l : List α} {i : Nat} (h : i < l.length) : l.drop i = Vm.nth l i :: l.drop (i + 1) := by
  rw [List.drop_eq_getElem_cons h]; simp [Vm.nth, List.getD_eq_getElem?_getD, List.getElem?_eq_getElem h]
theorem kx {α : Type} [Inhabited α] (c : α -> Nat) {l : List α} {i : Nat} (h : i < l.length) : cnL c (l.drop i) = c (Vm.nth l i) + cnL c (l.drop (i + 1)) := by rw [Px h]; rfl
theorem V0 {α β : Type} (f : α -> List β) : ∀ l : List α, (l.flatMap f).length = cnL (fun x => (f x).length) l
  | [] => rfl
  | x :: l => by simp only [List.flatMap_cons, List.length_append, cnL, V0 f l]
theorem RE {α β : Type} [Inhabited α] {as : List α} (f : α -> List β) {F : Nat -> Nat -> List β -> List β} (h1 : ∀ n i l, F (n + 1) i l = bif decide ((i : Int) < (as.length : Int)) then F n (i + 1) (l ++ f (Vm.nth as i)) else l) : ∀ n i l, as.length < n + i -> i <= as.length -> F n i l = l ++ (as.drop i).flatMap f
  | 0, i, l, h, h2 => by omega
  | n + 1, i, l, h, h2 => by
    rw [h1]
    by_cases hi : i < as.length
    · rw [show decide ((i : Int) < (as.length : Int)) = true by simpa using hi, Yf, RE f h1 n (i + 1) _ (by omega) hi, Px hi]; simp
    · rw [show decide ((i : Int) < (as.length : Int)) = false by simpa using hi, YT, List.drop_eq_nil_of_le (by omega)]; simp
theorem O9 {α β : Type} (f : α -> β) : ∀ l : List α, l.flatMap (fun a => [f a]) = l.map f
  | [] => rfl
  | x :: l => by rw [List.flatMap_cons, O9 f l]; rfl
theorem F2 {l : List ByteArray} {m : Nat} (h : ∀ x ∈ l, x.size <= m) (i : Nat) : (Vm.nth l i).size <= m := by
  by_cases hi : i < l.length
  · rw [show Vm.nth l i = l[i] by simp [Vm.nth, List.getD_eq_getElem?_getD, List.getElem?_eq_getElem hi]]; exact h _ (List.getElem_mem hi)
  · rw [show Vm.nth l i = default by simp [Vm.nth, List.getD_eq_getElem?_getD, List.getElem?_eq_none (Nat.le_of_not_lt hi)]]; exact Nat.zero_le _
theorem Vq {α : Type} {p : α -> Prop} {l m : List α} (h : ∀ x ∈ l, p x) (k : ∀ x ∈ m, p x) : ∀ x ∈ l ++ m, p x := fun x hx => (List.mem_append.1 hx).elim (h x) (k x)
theorem all_cons {α : Type} {p : α -> Prop} {a : α} {l : List α} (h : p a) (k : ∀ x ∈ l, p x) : ∀ x ∈ a :: l, p x := fun x hx => (List.mem_cons.1 hx).elim (fun e => e ▸ h) (k x)
theorem all_nil {α : Type} {p : α -> Prop} : ∀ x ∈ ([] : List α), p x := fun x hx => by cases hx
end Go.Mo
