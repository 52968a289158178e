/- The plain data of the program, typed, and uT they read as rows of the abstract machine. No condition. -/
import Derived.Test.YtnldgbpopofnoaaGreatVe
import Derived.Laws.BitsLemmas
namespace Go.Mo
open Go.Vm
@[simp] def iR (n : Int) : List Vm.D := [.int .i64 n]
@[simp] def bR (b : UInt8) : List Vm.D := [.int .u8 (b.toNat : Int)]
@[simp] def lR (b : Bool) : List Vm.D := [.bool b]
@[simp] def sR (s : ByteArray) : List Vm.D := [.str s]
@[simp] def slR {α : Type} (n : Nat) (f : α -> List D) (m : List α) : List Vm.D := [.sl n (m.map f)]
/-- everything in it is at most so long -/
class Sz (α : Type) [Inhabited α] where
  sm : Nat -> α -> Prop
  zero : ∀ n, sm n default
  mono : ∀ {n m : Nat} {x : α}, n <= m -> sm n x -> sm m x
/-- uT many marks it takes -/
class Cn (α : Type) where
  cn : α -> Nat
abbrev cn {α : Type} [Cn α] (x : α) : Nat := Cn.cn x
def cnL {α : Type} (c : α -> Nat) : List α -> Nat
  | [] => 0
  | x :: l => c x + cnL c l
instance : Cn Int := ⟨fun _ => 1⟩
instance : Cn Bool := ⟨fun _ => 1⟩
instance : Cn UInt8 := ⟨fun _ => 1⟩
instance : Cn ByteArray := ⟨fun _ => 1⟩
instance {α : Type} [Cn α] : Cn (List α) := ⟨cnL Cn.cn⟩
abbrev Sm {α : Type} [Inhabited α] [Sz α] (n : Nat) (x : α) : Prop := Sz.sm n x
instance : Sz Int := ⟨fun _ _ => True, fun _ => trivial, fun _ h => h⟩
instance : Sz Bool := ⟨fun _ _ => True, fun _ => trivial, fun _ h => h⟩
instance : Sz UInt8 := ⟨fun _ _ => True, fun _ => trivial, fun _ h => h⟩
instance : Sz ByteArray := ⟨fun n s => s.size <= n, fun _ => Nat.zero_le _, fun h k => Nat.le_trans k h⟩
instance {α : Type} [Inhabited α] [Sz α] : Sz (List α) := ⟨fun n l => l.length <= n /\ ∀ x ∈ l, Sz.sm n x, fun _ => ⟨Nat.zero_le _, fun _ h => by cases h⟩, fun h k => ⟨Nat.le_trans k.1 h, fun x hx => Sz.mono h (k.2 x hx)⟩⟩
theorem XA {α : Type} [Inhabited α] [Sz α] {n : Nat} {l : List α} : Sm n l = (l.length <= n /\ ∀ x ∈ l, Sm n x) := rfl
theorem Yb {α : Type} [Inhabited α] [Sz α] {n : Nat} {l : List α} (h : Sm n l) : l.length <= n := h.1
theorem Ly {n : Nat} {s : ByteArray} (h : Sm n s) : s.size <= n := h
@[simp] theorem BR {n : Nat} {x : Int} : Sm n x := trivial
@[simp] theorem BC {n : Nat} {x : Bool} : Sm n x := trivial
@[simp] theorem BY {n : Nat} {x : UInt8} : Sm n x := trivial
@[simp] theorem Kw {α : Type} [Inhabited α] [Sz α] {n : Nat} : Sm n ([] : List α) := ⟨Nat.zero_le _, fun _ h => by cases h⟩
@[simp] theorem Zu {α : Type} [Inhabited α] [Sz α] {n i : Nat} {l : List α} (h : Sm n l) : Sm n (nth l i) := by
  unfold nth
  rw [List.getD_eq_getElem?_getD]
  cases hh : l[i]? with
  | none => exact Sz.zero n
  | some x => exact h.2 x (List.mem_of_getElem? hh)
@[simp] theorem FD {α : Type} [Inhabited α] [Sz α] {n i : Nat} {l : List α} (h : Sm n l) : Sm n (l.take i) := ⟨Nat.le_trans (by simp; omega) h.1, fun x hx => h.2 x (List.mem_of_mem_take hx)⟩
@[simp] theorem Dc {α : Type} [Inhabited α] [Sz α] {n i : Nat} {l : List α} (h : Sm n l) : Sm n (l.drop i) := ⟨Nat.le_trans (by simp) h.1, fun x hx => h.2 x (List.mem_of_mem_drop hx)⟩
theorem JJ {α : Type} [Inhabited α] [Sz α] {n : Nat} {l m : List α} : Sm n (l ++ m) = (l.length + m.length <= n /\ (∀ x ∈ l, Sm n x) /\ ∀ x ∈ m, Sm n x) := by
  rw [XA]; simp [or_imp, forall_and]
theorem ZU {α : Type} [Inhabited α] [Sz α] {n m : Nat} {x : α} (h : n <= m) (k : Sm n x) : Sm m x := Sz.mono h k
structure Zr where
  Authority : Int
  Seq : Int
  Time : Int
  XW : Int
  Mark : Int
  deriving Inhabited, DecidableEq
@[simp] def Zr.row (x : Zr) : List Vm.D := [.int .i64 x.Authority, .int .i64 x.Seq, .int .i64 x.Time, .int .i64 x.XW, .int .i64 x.Mark]
instance : Cn Zr := ⟨fun x => cn x.Authority + cn x.Seq + cn x.Time + cn x.XW + cn x.Mark⟩
instance : Sz Zr := ⟨fun _ _ => True, fun _ => trivial, fun _ h => h⟩
@[simp] theorem Zr.ks {n : Nat} {x : Zr} : Sm n x := trivial
structure QB where
  XW : Int
  Left : Bool
  deriving Inhabited, DecidableEq
@[simp] def QB.row (x : QB) : List Vm.D := [.int .i64 x.XW, .bool x.Left]
instance : Cn QB := ⟨fun x => cn x.XW + cn x.Left⟩
instance : Sz QB := ⟨fun _ _ => True, fun _ => trivial, fun _ h => h⟩
@[simp] theorem QB.ks {n : Nat} {x : QB} : Sm n x := trivial
structure Zi where
  Count : Int
  Method : Int
  Hp : Int
  Path : List QB
  YR : List Zr
  deriving Inhabited, DecidableEq
@[simp] def Zi.row (x : Zi) : List Vm.D := [.int .i64 x.Count, .int .i64 x.Method, .int .i64 x.Hp, .sl 2 (x.Path.map QB.row), .sl 5 (x.YR.map Zr.row)]
instance : Cn Zi := ⟨fun x => cn x.Count + cn x.Method + cn x.Hp + cn x.Path + cn x.YR⟩
instance : Sz Zi := ⟨fun n x => Sm n x.Path /\ Sm n x.YR, fun n => ⟨Sz.zero n, Sz.zero n⟩, fun h k => ⟨Sz.mono h k.1, Sz.mono h k.2⟩⟩
@[simp] theorem Zi.BB {n : Nat} {x : Zi} (h : Sm n x) : Sm n x.Path := h.1
@[simp] theorem Zi.LA {n : Nat} {x : Zi} (h : Sm n x) : Sm n x.YR := h.2
@[simp] theorem Zi.ki {n : Nat} {oc : Int} {pc : Int} {mI : Int} {p9 : List QB} {s3 : List Zr} : Sm n (Zi.mk oc pc mI p9 s3) = (Sm n p9 /\ Sm n s3) := rfl
structure Yj where
  Number : Int
  yv : Int
  Method : Int
  NH : Int
  UA : Int
  deriving Inhabited, DecidableEq
@[simp] def Yj.row (x : Yj) : List Vm.D := [.int .i64 x.Number, .int .i64 x.yv, .int .i64 x.Method, .int .i64 x.NH, .int .i64 x.UA]
instance : Cn Yj := ⟨fun x => cn x.Number + cn x.yv + cn x.Method + cn x.NH + cn x.UA⟩
instance : Sz Yj := ⟨fun _ _ => True, fun _ => trivial, fun _ h => h⟩
@[simp] theorem Yj.ks {n : Nat} {x : Yj} : Sm n x := trivial
structure Zg where
  Id : Int
  Key : Int
  Error : Int
  deriving Inhabited, DecidableEq
@[simp] def Zg.row (x : Zg) : List Vm.D := [.int .i64 x.Id, .int .i64 x.Key, .int .i64 x.Error]
instance : Cn Zg := ⟨fun x => cn x.Id + cn x.Key + cn x.Error⟩
instance : Sz Zg := ⟨fun _ _ => True, fun _ => trivial, fun _ h => h⟩
@[simp] theorem Zg.ks {n : Nat} {x : Zg} : Sm n x := trivial
structure YJ where
  Id : Int
  Nq : Int
  Ends : Int
  T3 : Int
  deriving Inhabited, DecidableEq
@[simp] def YJ.row (x : YJ) : List Vm.D := [.int .i64 x.Id, .int .i64 x.Nq, .int .i64 x.Ends, .int .i64 x.T3]
instance : Cn YJ := ⟨fun x => cn x.Id + cn x.Nq + cn x.Ends + cn x.T3⟩
instance : Sz YJ := ⟨fun _ _ => True, fun _ => trivial, fun _ h => h⟩
@[simp] theorem YJ.ks {n : Nat} {x : YJ} : Sm n x := trivial
structure Ze where
  Z6 : List Yj
  ZM : List Zg
  Methods : List YJ
  Kk : Int
  Now : Int
  deriving Inhabited, DecidableEq
@[simp] def Ze.row (x : Ze) : List Vm.D := [.sl 5 (x.Z6.map Yj.row), .sl 3 (x.ZM.map Zg.row), .sl 4 (x.Methods.map YJ.row), .int .i64 x.Kk, .int .i64 x.Now]
instance : Cn Ze := ⟨fun x => cn x.Z6 + cn x.ZM + cn x.Methods + cn x.Kk + cn x.Now⟩
instance : Sz Ze := ⟨fun n x => Sm n x.Z6 /\ Sm n x.ZM /\ Sm n x.Methods, fun n => ⟨Sz.zero n, Sz.zero n, Sz.zero n⟩, fun h k => ⟨Sz.mono h k.1, Sz.mono h k.2.1, Sz.mono h k.2.2⟩⟩
@[simp] theorem Ze.Yo {n : Nat} {x : Ze} (h : Sm n x) : Sm n x.Z6 := h.1
@[simp] theorem Ze.Xc {n : Nat} {x : Ze} (h : Sm n x) : Sm n x.ZM := h.2.1
@[simp] theorem Ze.XD {n : Nat} {x : Ze} (h : Sm n x) : Sm n x.Methods := h.2.2
@[simp] theorem Ze.ki {n : Nat} {oA : List Yj} {uN : List Zg} {v3 : List YJ} {od : Int} {iD : Int} : Sm n (Ze.mk oA uN v3 od iD) = (Sm n oA /\ Sm n uN /\ Sm n v3) := rfl
structure YY where
  ZO : Int
  Key : Int
  yv : Int
  XU : Int
  To : Int
  Zq : Int
  Mark : Int
  deriving Inhabited, DecidableEq
@[simp] def YY.row (x : YY) : List Vm.D := [.int .i64 x.ZO, .int .i64 x.Key, .int .i64 x.yv, .int .i64 x.XU, .int .i64 x.To, .int .i64 x.Zq, .int .i64 x.Mark]
instance : Cn YY := ⟨fun x => cn x.ZO + cn x.Key + cn x.yv + cn x.XU + cn x.To + cn x.Zq + cn x.Mark⟩
instance : Sz YY := ⟨fun _ _ => True, fun _ => trivial, fun _ h => h⟩
@[simp] theorem YY.ks {n : Nat} {x : YY} : Sm n x := trivial
structure ZV where
  jj : Int
  Yz : List ByteArray
  QQ : List Int
  deriving Inhabited, DecidableEq
@[simp] def ZV.row (x : ZV) : List Vm.D := [.int .i64 x.jj, .sl 1 (x.Yz.map sR), .sl 1 (x.QQ.map iR)]
instance : Cn ZV := ⟨fun x => cn x.jj + cn x.Yz + cn x.QQ⟩
instance : Sz ZV := ⟨fun n x => Sm n x.Yz /\ Sm n x.QQ, fun n => ⟨Sz.zero n, Sz.zero n⟩, fun h k => ⟨Sz.mono h k.1, Sz.mono h k.2⟩⟩
@[simp] theorem ZV.NP {n : Nat} {x : ZV} (h : Sm n x) : Sm n x.Yz := h.1
@[simp] theorem ZV.Ez {n : Nat} {x : ZV} (h : Sm n x) : Sm n x.QQ := h.2
@[simp] theorem ZV.ki {n : Nat} {sc : Int} {ux : List ByteArray} {uy : List Int} : Sm n (ZV.mk sc ux uy) = (Sm n ux /\ Sm n uy) := rfl
structure Zy where
  Key : Int
  ZO : Int
  Method : Int
  XW : Int
  ky : Int
  Org : Int
  WD : Int
  kG : Int
  Mark : Int
  deriving Inhabited, DecidableEq
@[simp] def Zy.row (x : Zy) : List Vm.D := [.int .i64 x.Key, .int .i64 x.ZO, .int .i64 x.Method, .int .i64 x.XW, .int .i64 x.ky, .int .i64 x.Org, .int .i64 x.WD, .int .i64 x.kG, .int .i64 x.Mark]
instance : Cn Zy := ⟨fun x => cn x.Key + cn x.ZO + cn x.Method + cn x.XW + cn x.ky + cn x.Org + cn x.WD + cn x.kG + cn x.Mark⟩
instance : Sz Zy := ⟨fun _ _ => True, fun _ => trivial, fun _ h => h⟩
@[simp] theorem Zy.ks {n : Nat} {x : Zy} : Sm n x := trivial
structure ZS where
  Key : Int
  Z4 : List Int
  Mark : Int
  deriving Inhabited, DecidableEq
@[simp] def ZS.row (x : ZS) : List Vm.D := [.int .i64 x.Key, .sl 1 (x.Z4.map iR), .int .i64 x.Mark]
instance : Cn ZS := ⟨fun x => cn x.Key + cn x.Z4 + cn x.Mark⟩
instance : Sz ZS := ⟨fun n x => Sm n x.Z4, fun n => Sz.zero n, fun h k => Sz.mono h k⟩
@[simp] theorem ZS.VG {n : Nat} {x : ZS} (h : Sm n x) : Sm n x.Z4 := h
@[simp] theorem ZS.ki {n : Nat} {iE : Int} {oB : List Int} {mJ : Int} : Sm n (ZS.mk iE oB mJ) = (Sm n oB) := rfl
structure ZZ where
  ZH : List ZS
  ZY : List Zi
  deriving Inhabited, DecidableEq
@[simp] def ZZ.row (x : ZZ) : List Vm.D := [.sl 3 (x.ZH.map ZS.row), .sl 5 (x.ZY.map Zi.row)]
instance : Cn ZZ := ⟨fun x => cn x.ZH + cn x.ZY⟩
instance : Sz ZZ := ⟨fun n x => Sm n x.ZH /\ Sm n x.ZY, fun n => ⟨Sz.zero n, Sz.zero n⟩, fun h k => ⟨Sz.mono h k.1, Sz.mono h k.2⟩⟩
@[simp] theorem ZZ.XZ {n : Nat} {x : ZZ} (h : Sm n x) : Sm n x.ZH := h.1
@[simp] theorem ZZ.Kl {n : Nat} {x : ZZ} (h : Sm n x) : Sm n x.ZY := h.2
@[simp] theorem ZZ.ki {n : Nat} {s4 : List ZS} {rq : List Zi} : Sm n (ZZ.mk s4 rq) = (Sm n s4 /\ Sm n rq) := rfl
structure Zk where
  Id : Int
  Yw : Int
  Doc : ZV
  Sig : Zy
  ZL : ZZ
  deriving Inhabited, DecidableEq
@[simp] def Zk.row (x : Zk) : List Vm.D := [.int .i64 x.Id, .int .i64 x.Yw, .int .i64 x.Doc.jj, .sl 1 (x.Doc.Yz.map sR), .sl 1 (x.Doc.QQ.map iR), .int .i64 x.Sig.Key, .int .i64 x.Sig.ZO, .int .i64 x.Sig.Method, .int .i64 x.Sig.XW, .int .i64 x.Sig.ky, .int .i64 x.Sig.Org, .int .i64 x.Sig.WD, .int .i64 x.Sig.kG, .int .i64 x.Sig.Mark, .sl 3 (x.ZL.ZH.map ZS.row), .sl 5 (x.ZL.ZY.map Zi.row)]
instance : Cn Zk := ⟨fun x => cn x.Id + cn x.Yw + cn x.Doc + cn x.Sig + cn x.ZL⟩
instance : Sz Zk := ⟨fun n x => Sm n x.Doc /\ Sm n x.ZL, fun n => ⟨Sz.zero n, Sz.zero n⟩, fun h k => ⟨Sz.mono h k.1, Sz.mono h k.2⟩⟩
@[simp] theorem Zk.kp {n : Nat} {x : Zk} (h : Sm n x) : Sm n x.Doc := h.1
@[simp] theorem Zk.X9 {n : Nat} {x : Zk} (h : Sm n x) : Sm n x.ZL := h.2
@[simp] theorem Zk.ki {n : Nat} {iF : Int} {mK : Int} {ru : ZV} {iG : Zy} {s5 : ZZ} : Sm n (Zk.mk iF mK ru iG s5) = (Sm n ru /\ Sm n s5) := rfl
structure ZJ where
  Id : Int
  ZE : List Zk
  deriving Inhabited, DecidableEq
@[simp] def ZJ.row (x : ZJ) : List Vm.D := [.int .i64 x.Id, .sl 16 (x.ZE.map Zk.row)]
instance : Cn ZJ := ⟨fun x => cn x.Id + cn x.ZE⟩
instance : Sz ZJ := ⟨fun n x => Sm n x.ZE, fun n => Sz.zero n, fun h k => Sz.mono h k⟩
@[simp] theorem ZJ.Y4 {n : Nat} {x : ZJ} (h : Sm n x) : Sm n x.ZE := h
@[simp] theorem ZJ.ki {n : Nat} {iF : Int} {uz : List Zk} : Sm n (ZJ.mk iF uz) = (Sm n uz) := rfl
structure ZN where
  Frame : Ze
  ZT : List YY
  YX : List Int
  ZB : List ZJ
  QA : List Int
  XK : List Int
  Next : Int
  XJ : List Int
  deriving Inhabited, DecidableEq
@[simp] def ZN.row (x : ZN) : List Vm.D := [.sl 5 (x.Frame.Z6.map Yj.row), .sl 3 (x.Frame.ZM.map Zg.row), .sl 4 (x.Frame.Methods.map YJ.row), .int .i64 x.Frame.Kk, .int .i64 x.Frame.Now, .sl 7 (x.ZT.map YY.row), .sl 1 (x.YX.map iR), .sl 2 (x.ZB.map ZJ.row), .sl 1 (x.QA.map iR), .sl 1 (x.XK.map iR), .int .i64 x.Next, .sl 1 (x.XJ.map iR)]
instance : Cn ZN := ⟨fun x => cn x.Frame + cn x.ZT + cn x.YX + cn x.ZB + cn x.QA + cn x.XK + cn x.Next + cn x.XJ⟩
instance : Sz ZN := ⟨fun n x => Sm n x.Frame /\ Sm n x.ZT /\ Sm n x.YX /\ Sm n x.ZB /\ Sm n x.QA /\ Sm n x.XK /\ Sm n x.XJ, fun n => ⟨Sz.zero n, Sz.zero n, Sz.zero n, Sz.zero n, Sz.zero n, Sz.zero n, Sz.zero n⟩, fun h k => ⟨Sz.mono h k.1, Sz.mono h k.2.1, Sz.mono h k.2.2.1, Sz.mono h k.2.2.2.1, Sz.mono h k.2.2.2.2.1, Sz.mono h k.2.2.2.2.2.1, Sz.mono h k.2.2.2.2.2.2⟩⟩
@[simp] theorem ZN.Xj {n : Nat} {x : ZN} (h : Sm n x) : Sm n x.Frame := h.1
@[simp] theorem ZN.Cw {n : Nat} {x : ZN} (h : Sm n x) : Sm n x.ZT := h.2.1
@[simp] theorem ZN.C4 {n : Nat} {x : ZN} (h : Sm n x) : Sm n x.YX := h.2.2.1
@[simp] theorem ZN.YQ {n : Nat} {x : ZN} (h : Sm n x) : Sm n x.ZB := h.2.2.2.1
@[simp] theorem ZN.De {n : Nat} {x : ZN} (h : Sm n x) : Sm n x.QA := h.2.2.2.2.1
@[simp] theorem ZN.Cl {n : Nat} {x : ZN} (h : Sm n x) : Sm n x.XK := h.2.2.2.2.2.1
@[simp] theorem ZN.FY {n : Nat} {x : ZN} (h : Sm n x) : Sm n x.XJ := h.2.2.2.2.2.2
@[simp] theorem ZN.ki {n : Nat} {ry : Ze} {rz : List YY} {r6 : List Int} {tT : List ZJ} {oC : List Int} {r7 : List Int} {mL : Int} {s6 : List Int} : Sm n (ZN.mk ry rz r6 tT oC r7 mL s6) = (Sm n ry /\ Sm n rz /\ Sm n r6 /\ Sm n tT /\ Sm n oC /\ Sm n r7 /\ Sm n s6) := rfl
structure Zn where
  Kind : Int
  A : Int
  B : Int
  C : Int
  D : Int
  Doc : ZV
  Ids : List Int
  deriving Inhabited, DecidableEq
@[simp] def Zn.row (x : Zn) : List Vm.D := [.int .i64 x.Kind, .int .i64 x.A, .int .i64 x.B, .int .i64 x.C, .int .i64 x.D, .int .i64 x.Doc.jj, .sl 1 (x.Doc.Yz.map sR), .sl 1 (x.Doc.QQ.map iR), .sl 1 (x.Ids.map iR)]
instance : Cn Zn := ⟨fun x => cn x.Kind + cn x.A + cn x.B + cn x.C + cn x.D + cn x.Doc + cn x.Ids⟩
instance : Sz Zn := ⟨fun n x => Sm n x.Doc /\ Sm n x.Ids, fun n => ⟨Sz.zero n, Sz.zero n⟩, fun h k => ⟨Sz.mono h k.1, Sz.mono h k.2⟩⟩
@[simp] theorem Zn.kp {n : Nat} {x : Zn} (h : Sm n x) : Sm n x.Doc := h.1
@[simp] theorem Zn.CV {n : Nat} {x : Zn} (h : Sm n x) : Sm n x.Ids := h.2
@[simp] theorem Zn.ki {n : Nat} {mM : Int} {A' : Int} {B' : Int} {C' : Int} {D' : Int} {ru : ZV} {mN : List Int} : Sm n (Zn.mk mM A' B' C' D' ru mN) = (Sm n ru /\ Sm n mN) := rfl
structure Za where
  XU : Int
  To : Int
  deriving Inhabited, DecidableEq
@[simp] def Za.row (x : Za) : List Vm.D := [.int .i64 x.XU, .int .i64 x.To]
instance : Cn Za := ⟨fun x => cn x.XU + cn x.To⟩
instance : Sz Za := ⟨fun _ _ => True, fun _ => trivial, fun _ h => h⟩
@[simp] theorem Za.ks {n : Nat} {x : Za} : Sm n x := trivial
structure Y0 where
  Code : Int
  Reason : Int
  Span : Za
  deriving Inhabited, DecidableEq
@[simp] def Y0.row (x : Y0) : List Vm.D := [.int .i64 x.Code, .int .i64 x.Reason, .int .i64 x.Span.XU, .int .i64 x.Span.To]
instance : Cn Y0 := ⟨fun x => cn x.Code + cn x.Reason + cn x.Span⟩
instance : Sz Y0 := ⟨fun _ _ => True, fun _ => trivial, fun _ h => h⟩
@[simp] theorem Y0.ks {n : Nat} {x : Y0} : Sm n x := trivial
structure QK where
  jj : Int
  Methods : List Int
  Shown : List Bool
  Yz : List ByteArray
  QQ : List Int
  OW : List (List Int)
  deriving Inhabited, DecidableEq
@[simp] def QK.row (x : QK) : List Vm.D := [.int .i64 x.jj, .sl 1 (x.Methods.map iR), .sl 1 (x.Shown.map lR), .sl 1 (x.Yz.map sR), .sl 1 (x.QQ.map iR), .sl 1 (x.OW.map (slR 1 iR))]
instance : Cn QK := ⟨fun x => cn x.jj + cn x.Methods + cn x.Shown + cn x.Yz + cn x.QQ + cn x.OW⟩
instance : Sz QK := ⟨fun n x => Sm n x.Methods /\ Sm n x.Shown /\ Sm n x.Yz /\ Sm n x.QQ /\ Sm n x.OW, fun n => ⟨Sz.zero n, Sz.zero n, Sz.zero n, Sz.zero n, Sz.zero n⟩, fun h k => ⟨Sz.mono h k.1, Sz.mono h k.2.1, Sz.mono h k.2.2.1, Sz.mono h k.2.2.2.1, Sz.mono h k.2.2.2.2⟩⟩
@[simp] theorem QK.XD {n : Nat} {x : QK} (h : Sm n x) : Sm n x.Methods := h.1
@[simp] theorem QK.Ci {n : Nat} {x : QK} (h : Sm n x) : Sm n x.Shown := h.2.1
@[simp] theorem QK.NP {n : Nat} {x : QK} (h : Sm n x) : Sm n x.Yz := h.2.2.1
@[simp] theorem QK.Ez {n : Nat} {x : QK} (h : Sm n x) : Sm n x.QQ := h.2.2.2.1
@[simp] theorem QK.CF {n : Nat} {x : QK} (h : Sm n x) : Sm n x.OW := h.2.2.2.2
@[simp] theorem QK.ki {n : Nat} {sc : Int} {v3 : List Int} {r8 : List Bool} {ux : List ByteArray} {uy : List Int} {sA : List (List Int)} : Sm n (QK.mk sc v3 r8 ux uy sA) = (Sm n v3 /\ Sm n r8 /\ Sm n ux /\ Sm n uy /\ Sm n sA) := rfl
structure Zs where
  Zp : List ZZ
  Yh : List (List Zr)
  deriving Inhabited, DecidableEq
@[simp] def Zs.row (x : Zs) : List Vm.D := [.sl 2 (x.Zp.map ZZ.row), .sl 1 (x.Yh.map (slR 5 Zr.row))]
instance : Cn Zs := ⟨fun x => cn x.Zp + cn x.Yh⟩
instance : Sz Zs := ⟨fun n x => Sm n x.Zp /\ Sm n x.Yh, fun n => ⟨Sz.zero n, Sz.zero n⟩, fun h k => ⟨Sz.mono h k.1, Sz.mono h k.2⟩⟩
@[simp] theorem Zs.XR {n : Nat} {x : Zs} (h : Sm n x) : Sm n x.Zp := h.1
@[simp] theorem Zs.RC {n : Nat} {x : Zs} (h : Sm n x) : Sm n x.Yh := h.2
@[simp] theorem Zs.ki {n : Nat} {sB : List ZZ} {r9 : List (List Zr)} : Sm n (Zs.mk sB r9) = (Sm n sB /\ Sm n r9) := rfl
structure Zh where
  ZO : Int
  Mz : Int
  YX : Int
  Zq : Int
  Mark : Int
  deriving Inhabited, DecidableEq
@[simp] def Zh.row (x : Zh) : List Vm.D := [.int .i64 x.ZO, .int .i64 x.Mz, .int .i64 x.YX, .int .i64 x.Zq, .int .i64 x.Mark]
instance : Cn Zh := ⟨fun x => cn x.ZO + cn x.Mz + cn x.YX + cn x.Zq + cn x.Mark⟩
instance : Sz Zh := ⟨fun _ _ => True, fun _ => trivial, fun _ h => h⟩
@[simp] theorem Zh.ks {n : Nat} {x : Zh} : Sm n x := trivial
structure Z1 where
  b : List UInt8
  i : Nat
  h : Int
  deriving Inhabited, DecidableEq
@[simp] def Z1.row (x : Z1) : List Vm.D := [.sl 1 (x.b.map bR), .int .i64 (x.i : Int), .int .i64 x.h]
instance : Sz Z1 := ⟨fun n x => Sm n x.b, fun n => Sz.zero n, fun h k => Sz.mono h k⟩
@[simp] theorem Z1.AA {n : Nat} {x : Z1} (h : Sm n x) : Sm n x.b := h
@[simp] theorem Z1.ki {n : Nat} {b' : List UInt8} {i' : Nat} {h' : Int} : Sm n (Z1.mk b' i' h') = (Sm n b') := rfl
structure XG where
  XU : Int
  To : Int
  ZE : List Zk
  XW : Int
  deriving Inhabited, DecidableEq
@[simp] def XG.row (x : XG) : List Vm.D := [.int .i64 x.XU, .int .i64 x.To, .sl 16 (x.ZE.map Zk.row), .int .i64 x.XW]
instance : Cn XG := ⟨fun x => cn x.XU + cn x.To + cn x.ZE + cn x.XW⟩
instance : Sz XG := ⟨fun n x => Sm n x.ZE, fun n => Sz.zero n, fun h k => Sz.mono h k⟩
@[simp] theorem XG.Y4 {n : Nat} {x : XG} (h : Sm n x) : Sm n x.ZE := h
@[simp] theorem XG.ki {n : Nat} {mO : Int} {fL : Int} {uz : List Zk} {pd : Int} : Sm n (XG.mk mO fL uz pd) = (Sm n uz) := rfl
structure Ys where
  Org : Int
  Rk : Int
  XU : Int
  To : Int
  Key : Int
  Mark : Int
  deriving Inhabited, DecidableEq
@[simp] def Ys.row (x : Ys) : List Vm.D := [.int .i64 x.Org, .int .i64 x.Rk, .int .i64 x.XU, .int .i64 x.To, .int .i64 x.Key, .int .i64 x.Mark]
instance : Cn Ys := ⟨fun x => cn x.Org + cn x.Rk + cn x.XU + cn x.To + cn x.Key + cn x.Mark⟩
instance : Sz Ys := ⟨fun _ _ => True, fun _ => trivial, fun _ h => h⟩
@[simp] theorem Ys.ks {n : Nat} {x : Ys} : Sm n x := trivial
end Go.Mo
namespace Go.Mo
open Go.Vm
theorem Tr {α : Type} [Inhabited α] {l : List α} {i : Nat} (h : i < l.length) : nth l i = l[i] := by simp [nth, h]
theorem jJ {α : Type} [Inhabited α] {F : Nat -> List α -> Nat -> List α} {a : List α} {g : α -> α} (hg : ∀ x, g x = x)
    (h1 : ∀ n v i, F (n + 1) v i = bif decide ((i : Int) < (a.length : Int)) then F n (v ++ [g (nth a i)]) (i + 1) else v) :
    ∀ n v i, a.length < n + i -> i <= a.length -> F n v i = v ++ a.drop i := by
  intro n
  induction n with
  | zero => intro v i h2 h3; omega
  | succ n ih =>
    intro v i h2 h3
    rw [h1]
    by_cases hi : i < a.length
    · rw [show decide ((i : Int) < (a.length : Int)) = true by simp [hi], cond_true, ih _ _ (by omega) hi, hg, Tr hi, List.append_assoc, List.singleton_append, <- List.drop_eq_getElem_cons hi]
    · rw [show decide ((i : Int) < (a.length : Int)) = false by simp; omega, cond_false, List.drop_eq_nil_of_le (by omega), List.append_nil]
theorem qC {F : Nat -> Nat -> Sum Int Unit} {L : Nat} {c : Nat -> Bool} (h0 : ∀ i, F 0 i = .inr ())
    (h1 : ∀ n i, F (n + 1) i = bif decide ((i : Int) < (L : Int)) then (bif c i then .inl (i : Int) else F n (i + 1)) else .inr ()) :
    ∀ n i, (match F n i with | .inl r => r | .inr _ => -1) < (L : Int) := by
  intro n
  induction n with
  | zero => intro i; rw [h0]; show (-1 : Int) < _; omega
  | succ n ih =>
    intro i
    rw [h1]
    by_cases hi : (i : Int) < (L : Int)
    · rw [show decide ((i : Int) < (L : Int)) = true by simpa using hi, cond_true]
      cases hc : c i with
      | true => simpa using hi
      | false => exact ih (i + 1)
    · rw [show decide ((i : Int) < (L : Int)) = false by simpa using hi, cond_false]
      show (-1 : Int) < _; omega
theorem YS {rows : List (List Vm.D)} {i : Nat} {r : List Vm.D} (h : i < rows.length) : Vm.rowAt (rows.set i r) i = r := by simp [Vm.rowAt, h]
theorem Ot {α : Type} {p : α -> Prop} {l : List α} {i : Nat} {a : α} (h1 : ∀ x ∈ l, p x) (h2 : p a) : ∀ x ∈ l.set i a, p x := by
  intro x hx
  rcases List.mem_or_eq_of_mem_set hx with h | h
  · exact h1 x h
  · rw [h]; exact h2
theorem ZW {α : Type} {p : α -> Prop} {c : Bool} {x y : α} (hx : p x) (hy : p y) : p (bif c then x else y) := by cases c; exact hy; exact hx
theorem KH {α : Type} {p : α -> Prop} {c : Bool} {x y : α} (hx : c = true -> p x) (hy : c = false -> p y) : p (bif c then x else y) := by cases c; exact hy rfl; exact hx rfl
theorem SX {α : Type} {F : Nat -> List α -> Nat -> List α} {L : Nat} {c : Nat -> Bool} {g : Nat -> α} (h0 : ∀ v i, F 0 v i = [])
    (h1 : ∀ n v i, F (n + 1) v i = bif decide ((i : Int) < (L : Int)) then (bif c i then F n (v ++ [g i]) (i + 1) else F n v (i + 1)) else v) : ∀ n v i, (F n v i).length <= v.length + (L - i) := by
  intro n
  induction n with
  | zero => intro v i; rw [h0]; simp
  | succ n ih =>
    intro v i
    rw [h1]
    by_cases hi : i < L
    · rw [show decide ((i : Int) < (L : Int)) = true by simp [hi], cond_true]
      cases c i with
      | true => have := ih (v ++ [g i]) (i + 1); rw [cond_true]; simp at this; omega
      | false => have := ih v (i + 1); rw [cond_false]; omega
    · rw [show decide ((i : Int) < (L : Int)) = false by simp; omega, cond_false]; omega
theorem ET {α : Type} {F : Nat -> List α -> Nat -> List α} {L : Nat} {g : Nat -> α} (h0 : ∀ v i, F 0 v i = [])
    (h1 : ∀ n v i, F (n + 1) v i = bif decide ((i : Int) < (L : Int)) then F n (v ++ [g i]) (i + 1) else v) : ∀ n v i, (F n v i).length <= v.length + (L - i) := by
  intro n
  induction n with
  | zero => intro v i; rw [h0]; simp
  | succ n ih =>
    intro v i
    rw [h1]
    by_cases hi : i < L
    · rw [show decide ((i : Int) < (L : Int)) = true by simp [hi], cond_true]
      have := ih (v ++ [g i]) (i + 1); simp at this; omega
    · rw [show decide ((i : Int) < (L : Int)) = false by simp; omega, cond_false]; omega
theorem JD {n m : Nat} {s : ZZ} {r : Zi} (hn : n + 1 <= m) (h : Sm n s) (hr : Sm m r) : Sm m (ZZ.mk s.ZH (s.ZY ++ [r])) := by
  refine ⟨ZU (by omega) h.1, ⟨?_, fun x hx => ?_⟩⟩
  · have := h.2.1; simp; omega
  · rcases List.mem_append.1 hx with hx | hx
    · exact ZU (by omega) (h.2.2 x hx)
    · simp at hx; subst hx; exact hr
end Go.Mo
namespace Go.Mo
open Go.Vm
end Go.Mo
namespace Go.Mo
open Go.Vm
theorem XT (n : Int) : W n = (n + 9223372036854775808) % 18446744073709551616 - 9223372036854775808 := IntKind.wrap_i64 n
end Go.Mo
namespace Go.Mo
open Go.Vm
theorem HH {α : Type} [Inhabited α] [Sz α] {f : α -> List D} {n : Nat} : ∀ {rows : List (List D)}, (∀ r, r ∈ rows -> ∃ x : α, r = f x /\ Sm n x) -> ∃ l : List α, rows = l.map f /\ ∀ x ∈ l, Sm n x
  | [], _ => ⟨[], rfl, fun _ h => by cases h⟩
  | r :: rows, h => by
    obtain ⟨x, hx, sx⟩ := h r (by simp)
    obtain ⟨l, hl, sl⟩ := HH (rows := rows) (fun r hr => h r (by simp [hr]))
    refine ⟨x :: l, by simp [hx, hl], fun y hy => ?_⟩
    rcases List.mem_cons.1 hy with rfl | hy
    · exact sx
    · exact sl y hy
end Go.Mo
namespace Go.Mo
open Go.Vm
theorem GM {P : Program} {n : Nat} {t : TypeId} {ts : List TypeId} : ∀ {rows : List (List D)}, Lm P n (t :: ts) rows -> ∃ r rs, rows = r :: rs /\ TyR P n t r /\ Lm P n ts rs
  | r :: rs, h => ⟨r, rs, rfl, h.1, h.2⟩
  | [], h => h.elim
theorem F3 {P : Program} {n : Nat} : ∀ {rows : List (List D)}, Lm P n [] rows -> rows = []
  | [], _ => rfl
  | _ :: _, h => h.elim
end Go.Mo
namespace Go.Mo
open Go.Vm
@[simp] theorem Bq (l : List UInt8) : Jn l = l.map bR := rfl
@[simp] theorem Cx (x : Int) : ((UInt8.ofInt x).toNat : Int) = IntKind.u8.wrap x := by
  rw [IntKind.wrap_u8]
  simp [UInt8.ofInt]
  omega
end Go.Mo
namespace Go.Mo
open Go.Vm
end Go.Mo
namespace Go.Mo
open Go.Vm
@[simp] theorem C7 {α : Type} {l : List α} {n : Nat} (h : l.length <= n) : List.take n l = l := List.take_of_length_le h
@[simp] theorem DW {α β : Type} (f : α -> β) (l : List α) : List.take l.length (List.map f l) = List.map f l := List.take_of_length_le (by simp)
@[simp] theorem D1 (n : Nat) : 1 + n = n + 1 := Nat.add_comm 1 n
@[simp] theorem BE {α β : Type} (f : α -> β) (l : List α) (x y : β) : List.take (2 + l.length) (x :: y :: List.map f l) = x :: y :: List.map f l := List.take_of_length_le (by simp; omega)
@[simp] theorem BD {α β : Type} (f : α -> β) (l : List α) (x y z : β) : List.take (3 + l.length) (x :: y :: z :: List.map f l) = x :: y :: z :: List.map f l := List.take_of_length_le (by simp; omega)
@[simp] theorem BG {α β : Type} (f : α -> β) (l : List α) (x y z u : β) : List.take (4 + l.length) (x :: y :: z :: u :: List.map f l) = x :: y :: z :: u :: List.map f l := List.take_of_length_le (by simp; omega)
@[simp] theorem BJ {α β : Type} (f : α -> β) (l : List α) (x y z u v : β) : List.take (5 + l.length) (x :: y :: z :: u :: v :: List.map f l) = x :: y :: z :: u :: v :: List.map f l := List.take_of_length_le (by simp; omega)
@[simp] theorem BF {α β : Type} (f : α -> β) (l : List α) (x y z u v w : β) : List.take (6 + l.length) (x :: y :: z :: u :: v :: w :: List.map f l) = x :: y :: z :: u :: v :: w :: List.map f l := List.take_of_length_le (by simp; omega)
theorem N0 (n : Nat) (h : n <= 9223372036854775807) : W ((n : Int) - 1) = (n : Int) - 1 := YW (by omega) (by omega)
end Go.Mo
namespace Go.Mo
@[simp] theorem BH (a : Array UInt8) : (ByteArray.mk a).size = a.size := rfl
@[simp] theorem Cp {α : Type} {l : List α} {x : α} {v n : Nat} (h : l.length = n) : List.take (min v n + 1 + (n - v)) (List.take v l ++ x :: List.drop v l) = List.take v l ++ x :: List.drop v l := by
  apply List.take_of_length_le; simp; omega
@[simp] theorem BI (a b : Nat) : (min a b + 1 + (b - a) = min a b + (b - a + 1)) = True := by simp; omega
theorem W1 {α : Type} [Inhabited α] [Sz α] {n i : Nat} {l : List α} {x : α} (h : Sm n l) (hx : Sm n x) : Sm n (l.set i x) :=
  ⟨by simpa using h.1, fun y hy => by
    rcases List.mem_or_eq_of_mem_set hy with hy | rfl
    · exact h.2 y hy
    · exact hx⟩
theorem FP {α : Type} (a b : α) : cond true a b = a /\ cond false a b = b := ⟨rfl, rfl⟩
theorem Kx {α : Type} (a b : α) : cond true a b = a := (FP a b).1
theorem KS {α : Type} (a b : α) : cond false a b = b := (FP a b).2
/-- a side condition that is found by itself -/
theorem bf {a : Bool} {c : Prop} (h : a = true -> c) : a = false \/ c := by cases a with | false => exact .inl rfl | true => exact .inr (h rfl)
theorem sd {a b : Prop} (h : b) (k : a := by (intros; first | omega | exact ⟨by assumption, fun k => ⟨by assumption, k⟩⟩ | exact bf (by assumption) | (simp only [decide_eq_true_eq, decide_eq_false_iff_not, beq_iff_eq, beq_eq_false_iff_ne, bne_iff_ne, ne_eq, Bool.or_eq_false_iff, Bool.or_eq_true, Bool.and_eq_true, Bool.not_eq_true', Bool.not_eq_false'] at *; omega) | ((try simp only [Go.Mo.XT, show ∀ x, Go.IntKind.i64.wrap x = Go.Vm.W x from fun _ => rfl] at *); omega))) : a /\ b := ⟨k, h⟩
theorem sdg {a b : Prop} (h : b) (k : a := by (intros; first | omega | (simp_all; done) | (simp_all; omega) | grind | ((try simp only [Go.Mo.XT, show ∀ x, Go.IntKind.i64.wrap x = Go.Vm.W x from fun _ => rfl] at *); omega))) : a /\ b := ⟨k, h⟩
theorem il {a b : Nat} (h : a < b := by first | omega | (simp only [decide_eq_true_eq, decide_eq_false_iff_not, beq_iff_eq, beq_eq_false_iff_ne, bne_iff_ne, ne_eq, Bool.or_eq_false_iff, Bool.not_eq_true', Bool.not_eq_false'] at *; omega) | (simp_all [List.length_pos_iff]; done) | (simp; omega) | (simp_all; omega) | ((try simp only [Go.Mo.XT, show ∀ x, Go.IntKind.i64.wrap x = Go.Vm.W x from fun _ => rfl] at *); omega) | (simp; (try simp only [Go.Mo.XT, show ∀ x, Go.IntKind.i64.wrap x = Go.Vm.W x from fun _ => rfl] at *); omega)) : a < b := h
theorem ik {α : Type} (a : Nat) (l : List α) (h : a < l.length := by first | omega | (simp only [decide_eq_true_eq, decide_eq_false_iff_not, beq_iff_eq, beq_eq_false_iff_ne, bne_iff_ne, ne_eq, Bool.or_eq_false_iff, Bool.not_eq_true', Bool.not_eq_false'] at *; omega) | (simp_all [List.length_pos_iff]; done) | (simp; omega) | (simp_all; omega) | ((try simp only [Go.Mo.XT, show ∀ x, Go.IntKind.i64.wrap x = Go.Vm.W x from fun _ => rfl] at *); omega) | (simp; (try simp only [Go.Mo.XT, show ∀ x, Go.IntKind.i64.wrap x = Go.Vm.W x from fun _ => rfl] at *); omega)) : a < l.length := h
theorem sl {α : Type} [Inhabited α] [Sz α] (n : Nat) (l : List α) {q : Prop} (u : q) (h : q -> Sm n l := by (intro u; simp (maxDischargeDepth := 12) [u])) : l.length <= n := Yb (h u)
theorem sg {α : Type} [Inhabited α] [Sz α] {n m : Nat} {x : α} (h : Sm n x) (k : n <= m := by decide) : Sm m x := ZU k h
theorem LX {α : Type} [Inhabited α] {l : List α} {i : Nat} (h : i < l.length) : l.drop i = Vm.nth l i :: l.drop (i + 1) := by
  rw [List.drop_eq_getElem_cons h]; simp [Vm.nth, List.getD_eq_getElem?_getD, List.getElem?_eq_getElem h]
theorem LH {α : Type} [Inhabited α] (c : α -> Nat) {l : List α} {i : Nat} (h : i < l.length) : cnL c (l.drop i) = c (Vm.nth l i) + cnL c (l.drop (i + 1)) := by rw [LX h]; rfl
theorem Hi {α β : Type} (f : α -> List β) : ∀ l : List α, (l.flatMap f).length = cnL (fun x => (f x).length) l
  | [] => rfl
  | x :: l => by simp only [List.flatMap_cons, List.length_append, cnL, Hi f l]
theorem Nc {α β : Type} [Inhabited α] {as : List α} (f : α -> List β) {F : Nat -> Nat -> List β -> List β} (h1 : ∀ n i l, F (n + 1) i l = bif decide ((i : Int) < (as.length : Int)) then F n (i + 1) (l ++ f (Vm.nth as i)) else l) : ∀ n i l, as.length < n + i -> i <= as.length -> F n i l = l ++ (as.drop i).flatMap f
  | 0, i, l, h, h2 => by omega
  | n + 1, i, l, h, h2 => by
    rw [h1]
    by_cases hi : i < as.length
    · rw [show decide ((i : Int) < (as.length : Int)) = true by simpa using hi, Kx, Nc f h1 n (i + 1) _ (by omega) hi, LX hi]; simp
    · rw [show decide ((i : Int) < (as.length : Int)) = false by simpa using hi, KS, List.drop_eq_nil_of_le (by omega)]; simp
theorem CR {l : List ByteArray} {m : Nat} (h : ∀ x ∈ l, x.size <= m) (i : Nat) : (Vm.nth l i).size <= m := by
  by_cases hi : i < l.length
  · rw [show Vm.nth l i = l[i] by simp [Vm.nth, List.getD_eq_getElem?_getD, List.getElem?_eq_getElem hi]]; exact h _ (List.getElem_mem hi)
  · rw [show Vm.nth l i = default by simp [Vm.nth, List.getD_eq_getElem?_getD, List.getElem?_eq_none (Nat.le_of_not_lt hi)]]; exact Nat.zero_le _
theorem S6 {α : Type} {p : α -> Prop} {l m : List α} (h : ∀ x ∈ l, p x) (k : ∀ x ∈ m, p x) : ∀ x ∈ l ++ m, p x := fun x hx => (List.mem_append.1 hx).elim (h x) (k x)
theorem all_cons {α : Type} {p : α -> Prop} {a : α} {l : List α} (h : p a) (k : ∀ x ∈ l, p x) : ∀ x ∈ a :: l, p x := fun x hx => (List.mem_cons.1 hx).elim (fun e => e ▸ h) (k x)
theorem all_nil {α : Type} {p : α -> Prop} : ∀ x ∈ ([] : List α), p x := fun x hx => by cases hx
end Go.Mo
