/- The plain data of the program, typed, and how they read as rows of the abstract machine. No condition. -/
import Derived.Test.YtfhmpplolpejnaaGreatVe
import Derived.Laws.BitsLemmas
namespace Go.Mo
open Go.Vm
@[simp] def iR (n : Int) : List Vm.D := [.int .i64 n]
@[simp] def bR (b : UInt8) : List Vm.D := [.int .u8 (b.toNat : Int)]
@[simp] def lR (b : Bool) : List Vm.D := [.bool b]
@[simp] def sR (s : ByteArray) : List Vm.D := [.str s]
@[simp] def slR {α : Type} (n : Nat) (f : α → List D) (m : List α) : List Vm.D := [.sl n (m.map f)]
/-- everything in it is at most so long -/
class Sz (α : Type) [Inhabited α] where
  sm : Nat → α → Prop
  zero : ∀ n, sm n default
  mono : ∀ {n m : Nat} {x : α}, n ≤ m → sm n x → sm m x
/-- how many marks it takes -/
class Cn (α : Type) where
  cn : α → Nat
abbrev cn {α : Type} [Cn α] (x : α) : Nat := Cn.cn x
def cnL {α : Type} (c : α → Nat) : List α → Nat
  | [] => 0
  | x :: l => c x + cnL c l
instance : Cn Int := ⟨fun _ => 1⟩
instance : Cn Bool := ⟨fun _ => 1⟩
instance : Cn UInt8 := ⟨fun _ => 1⟩
instance : Cn ByteArray := ⟨fun _ => 1⟩
instance {α : Type} [Cn α] : Cn (List α) := ⟨cnL Cn.cn⟩
theorem RZ (x : Int) : cn x = 1 := rfl
theorem Vw (x : Bool) : cn x = 1 := rfl
theorem Ta (x : ByteArray) : cn x = 1 := rfl
theorem Ak {α : Type} [Cn α] (x : List α) : cn x = cnL cn x := rfl
abbrev Sm {α : Type} [Inhabited α] [Sz α] (n : Nat) (x : α) : Prop := Sz.sm n x
instance : Sz Int := ⟨fun _ _ => True, fun _ => trivial, fun _ h => h⟩
instance : Sz Bool := ⟨fun _ _ => True, fun _ => trivial, fun _ h => h⟩
instance : Sz UInt8 := ⟨fun _ _ => True, fun _ => trivial, fun _ h => h⟩
instance : Sz ByteArray := ⟨fun n s => s.size ≤ n, fun _ => Nat.zero_le _, fun h k => Nat.le_trans k h⟩
instance {α : Type} [Inhabited α] [Sz α] : Sz (List α) := ⟨fun n l => l.length ≤ n ∧ ∀ x ∈ l, Sz.sm n x, fun _ => ⟨Nat.zero_le _, fun _ h => by cases h⟩, fun h k => ⟨Nat.le_trans k.1 h, fun x hx => Sz.mono h (k.2 x hx)⟩⟩
theorem XT {α : Type} [Inhabited α] [Sz α] {n : Nat} {l : List α} : Sm n l = (l.length ≤ n ∧ ∀ x ∈ l, Sm n x) := rfl
theorem YH {α : Type} [Inhabited α] [Sz α] {n : Nat} {l : List α} (h : Sm n l) : l.length ≤ n := h.1
theorem DK {n : Nat} {s : ByteArray} (h : Sm n s) : s.size ≤ n := h
@[simp] theorem oN {n : Nat} {x : Int} : Sm n x := trivial
@[simp] theorem oB {n : Nat} {x : Bool} : Sm n x := trivial
@[simp] theorem o7 {n : Nat} {x : UInt8} : Sm n x := trivial
@[simp] theorem oQ {α : Type} [Inhabited α] [Sz α] {n : Nat} : Sm n ([] : List α) := ⟨Nat.zero_le _, fun _ h => by cases h⟩
@[simp] theorem Zx {α : Type} [Inhabited α] [Sz α] {n i : Nat} {l : List α} (h : Sm n l) : Sm n (nth l i) := by
  unfold nth
  rw [List.getD_eq_getElem?_getD]
  cases hh : l[i]? with
  | none => exact Sz.zero n
  | some x => exact h.2 x (List.mem_of_getElem? hh)
@[simp] theorem p9 {α : Type} [Inhabited α] [Sz α] {n i : Nat} {l : List α} (h : Sm n l) : Sm n (l.take i) := ⟨Nat.le_trans (by simp; omega) h.1, fun x hx => h.2 x (List.mem_of_mem_take hx)⟩
@[simp] theorem oF {α : Type} [Inhabited α] [Sz α] {n i : Nat} {l : List α} (h : Sm n l) : Sm n (l.drop i) := ⟨Nat.le_trans (by simp) h.1, fun x hx => h.2 x (List.mem_of_mem_drop hx)⟩
theorem JX {α : Type} [Inhabited α] [Sz α] {n : Nat} {l m : List α} : Sm n (l ++ m) = (l.length + m.length ≤ n ∧ (∀ x ∈ l, Sm n x) ∧ ∀ x ∈ m, Sm n x) := by
  rw [XT]; simp [or_imp, forall_and]
theorem Za {α : Type} [Inhabited α] [Sz α] {n m : Nat} {x : α} (h : n ≤ m) (k : Sm n x) : Sm m x := Sz.mono h k
structure ZZ where
  Authority : Int
  Seq : Int
  Time : Int
  Yo : Int
  Mark : Int
  deriving Inhabited, DecidableEq
@[simp] def ZZ.row (x : ZZ) : List Vm.D := [.int .i64 x.Authority, .int .i64 x.Seq, .int .i64 x.Time, .int .i64 x.Yo, .int .i64 x.Mark]
instance : Cn ZZ := ⟨fun x => cn x.Authority + cn x.Seq + cn x.Time + cn x.Yo + cn x.Mark⟩
theorem ZZ.Jl (x : ZZ) : cn x = cn x.Authority + cn x.Seq + cn x.Time + cn x.Yo + cn x.Mark := rfl
instance : Sz ZZ := ⟨fun _ _ => True, fun _ => trivial, fun _ h => h⟩
@[simp] theorem ZZ.UT {n : Nat} {x : ZZ} : Sm n x := trivial
structure Yq where
  Yo : Int
  Left : Bool
  deriving Inhabited, DecidableEq
@[simp] def Yq.row (x : Yq) : List Vm.D := [.int .i64 x.Yo, .bool x.Left]
instance : Cn Yq := ⟨fun x => cn x.Yo + cn x.Left⟩
theorem Yq.Jl (x : Yq) : cn x = cn x.Yo + cn x.Left := rfl
instance : Sz Yq := ⟨fun _ _ => True, fun _ => trivial, fun _ h => h⟩
@[simp] theorem Yq.UT {n : Nat} {x : Yq} : Sm n x := trivial
structure ZV where
  Count : Int
  Method : Int
  MD : Int
  Path : List Yq
  Zf : List ZZ
  deriving Inhabited, DecidableEq
@[simp] def ZV.row (x : ZV) : List Vm.D := [.int .i64 x.Count, .int .i64 x.Method, .int .i64 x.MD, .sl 2 (x.Path.map Yq.row), .sl 5 (x.Zf.map ZZ.row)]
instance : Cn ZV := ⟨fun x => cn x.Count + cn x.Method + cn x.MD + cn x.Path + cn x.Zf⟩
theorem ZV.Jl (x : ZV) : cn x = cn x.Count + cn x.Method + cn x.MD + cn x.Path + cn x.Zf := rfl
instance : Sz ZV := ⟨fun n x => Sm n x.Path ∧ Sm n x.Zf, fun n => ⟨Sz.zero n, Sz.zero n⟩, fun h k => ⟨Sz.mono h k.1, Sz.mono h k.2⟩⟩
@[simp] theorem ZV.sB {n : Nat} {x : ZV} (h : Sm n x) : Sm n x.Path := h.1
@[simp] theorem ZV.R4 {n : Nat} {x : ZV} (h : Sm n x) : Sm n x.Zf := h.2
@[simp] theorem ZV.RF {n : Nat} {Count' : Int} {Method' : Int} {Root' : Int} {Path' : List Yq} {Stamps' : List ZZ} : Sm n (ZV.mk Count' Method' Root' Path' Stamps') = (Sm n Path' ∧ Sm n Stamps') := rfl
structure Zy where
  Number : Int
  JZ : Int
  Method : Int
  Nq : Int
  jz : Int
  deriving Inhabited, DecidableEq
@[simp] def Zy.row (x : Zy) : List Vm.D := [.int .i64 x.Number, .int .i64 x.JZ, .int .i64 x.Method, .int .i64 x.Nq, .int .i64 x.jz]
instance : Cn Zy := ⟨fun x => cn x.Number + cn x.JZ + cn x.Method + cn x.Nq + cn x.jz⟩
theorem Zy.Jl (x : Zy) : cn x = cn x.Number + cn x.JZ + cn x.Method + cn x.Nq + cn x.jz := rfl
instance : Sz Zy := ⟨fun _ _ => True, fun _ => trivial, fun _ h => h⟩
@[simp] theorem Zy.UT {n : Nat} {x : Zy} : Sm n x := trivial
structure ZF where
  Id : Int
  Key : Int
  Error : Int
  deriving Inhabited, DecidableEq
@[simp] def ZF.row (x : ZF) : List Vm.D := [.int .i64 x.Id, .int .i64 x.Key, .int .i64 x.Error]
instance : Cn ZF := ⟨fun x => cn x.Id + cn x.Key + cn x.Error⟩
theorem ZF.Jl (x : ZF) : cn x = cn x.Id + cn x.Key + cn x.Error := rfl
instance : Sz ZF := ⟨fun _ _ => True, fun _ => trivial, fun _ h => h⟩
@[simp] theorem ZF.UT {n : Nat} {x : ZF} : Sm n x := trivial
structure Zg where
  Id : Int
  U0 : Int
  Ends : Int
  js : Int
  deriving Inhabited, DecidableEq
@[simp] def Zg.row (x : Zg) : List Vm.D := [.int .i64 x.Id, .int .i64 x.U0, .int .i64 x.Ends, .int .i64 x.js]
instance : Cn Zg := ⟨fun x => cn x.Id + cn x.U0 + cn x.Ends + cn x.js⟩
theorem Zg.Jl (x : Zg) : cn x = cn x.Id + cn x.U0 + cn x.Ends + cn x.js := rfl
instance : Sz Zg := ⟨fun _ _ => True, fun _ => trivial, fun _ h => h⟩
@[simp] theorem Zg.UT {n : Nat} {x : Zg} : Sm n x := trivial
structure ZH where
  Yb : List Zy
  ZU : List ZF
  Methods : List Zg
  QK : Int
  Now : Int
  deriving Inhabited, DecidableEq
@[simp] def ZH.row (x : ZH) : List Vm.D := [.sl 5 (x.Yb.map Zy.row), .sl 3 (x.ZU.map ZF.row), .sl 4 (x.Methods.map Zg.row), .int .i64 x.QK, .int .i64 x.Now]
instance : Cn ZH := ⟨fun x => cn x.Yb + cn x.ZU + cn x.Methods + cn x.QK + cn x.Now⟩
theorem ZH.Jl (x : ZH) : cn x = cn x.Yb + cn x.ZU + cn x.Methods + cn x.QK + cn x.Now := rfl
instance : Sz ZH := ⟨fun n x => Sm n x.Yb ∧ Sm n x.ZU ∧ Sm n x.Methods, fun n => ⟨Sz.zero n, Sz.zero n, Sz.zero n⟩, fun h k => ⟨Sz.mono h k.1, Sz.mono h k.2.1, Sz.mono h k.2.2⟩⟩
@[simp] theorem ZH.YL {n : Nat} {x : ZH} (h : Sm n x) : Sm n x.Yb := h.1
@[simp] theorem ZH.X9 {n : Nat} {x : ZH} (h : Sm n x) : Sm n x.ZU := h.2.1
@[simp] theorem ZH.Z6 {n : Nat} {x : ZH} (h : Sm n x) : Sm n x.Methods := h.2.2
@[simp] theorem ZH.RF {n : Nat} {Keys' : List Zy} {Authorities' : List ZF} {Methods' : List Zg} {Liars' : Int} {Now' : Int} : Sm n (ZH.mk Keys' Authorities' Methods' Liars' Now') = (Sm n Keys' ∧ Sm n Authorities' ∧ Sm n Methods') := rfl
structure Zs where
  Z1 : Int
  Key : Int
  JZ : Int
  YE : Int
  To : Int
  QP : Int
  Mark : Int
  deriving Inhabited, DecidableEq
@[simp] def Zs.row (x : Zs) : List Vm.D := [.int .i64 x.Z1, .int .i64 x.Key, .int .i64 x.JZ, .int .i64 x.YE, .int .i64 x.To, .int .i64 x.QP, .int .i64 x.Mark]
instance : Cn Zs := ⟨fun x => cn x.Z1 + cn x.Key + cn x.JZ + cn x.YE + cn x.To + cn x.QP + cn x.Mark⟩
theorem Zs.Jl (x : Zs) : cn x = cn x.Z1 + cn x.Key + cn x.JZ + cn x.YE + cn x.To + cn x.QP + cn x.Mark := rfl
instance : Sz Zs := ⟨fun _ _ => True, fun _ => trivial, fun _ h => h⟩
@[simp] theorem Zs.UT {n : Nat} {x : Zs} : Sm n x := trivial
structure Zd where
  jK : Int
  YY : List ByteArray
  XI : List Int
  deriving Inhabited, DecidableEq
@[simp] def Zd.row (x : Zd) : List Vm.D := [.int .i64 x.jK, .sl 1 (x.YY.map sR), .sl 1 (x.XI.map iR)]
instance : Cn Zd := ⟨fun x => cn x.jK + cn x.YY + cn x.XI⟩
theorem Zd.Jl (x : Zd) : cn x = cn x.jK + cn x.YY + cn x.XI := rfl
instance : Sz Zd := ⟨fun n x => Sm n x.YY ∧ Sm n x.XI, fun n => ⟨Sz.zero n, Sz.zero n⟩, fun h k => ⟨Sz.mono h k.1, Sz.mono h k.2⟩⟩
@[simp] theorem Zd.NW {n : Nat} {x : Zd} (h : Sm n x) : Sm n x.YY := h.1
@[simp] theorem Zd.BX {n : Nat} {x : Zd} (h : Sm n x) : Sm n x.XI := h.2
@[simp] theorem Zd.RF {n : Nat} {Title' : Int} {Parts' : List ByteArray} {Salts' : List Int} : Sm n (Zd.mk Title' Parts' Salts') = (Sm n Parts' ∧ Sm n Salts') := rfl
structure ZY where
  Key : Int
  Z1 : Int
  Method : Int
  Yo : Int
  WL : Int
  Org : Int
  WR : Int
  yG : Int
  Mark : Int
  deriving Inhabited, DecidableEq
@[simp] def ZY.row (x : ZY) : List Vm.D := [.int .i64 x.Key, .int .i64 x.Z1, .int .i64 x.Method, .int .i64 x.Yo, .int .i64 x.WL, .int .i64 x.Org, .int .i64 x.WR, .int .i64 x.yG, .int .i64 x.Mark]
instance : Cn ZY := ⟨fun x => cn x.Key + cn x.Z1 + cn x.Method + cn x.Yo + cn x.WL + cn x.Org + cn x.WR + cn x.yG + cn x.Mark⟩
theorem ZY.Jl (x : ZY) : cn x = cn x.Key + cn x.Z1 + cn x.Method + cn x.Yo + cn x.WL + cn x.Org + cn x.WR + cn x.yG + cn x.Mark := rfl
instance : Sz ZY := ⟨fun _ _ => True, fun _ => trivial, fun _ h => h⟩
@[simp] theorem ZY.UT {n : Nat} {x : ZY} : Sm n x := trivial
structure ZB where
  Key : Int
  Zb : List Int
  Mark : Int
  deriving Inhabited, DecidableEq
@[simp] def ZB.row (x : ZB) : List Vm.D := [.int .i64 x.Key, .sl 1 (x.Zb.map iR), .int .i64 x.Mark]
instance : Cn ZB := ⟨fun x => cn x.Key + cn x.Zb + cn x.Mark⟩
theorem ZB.Jl (x : ZB) : cn x = cn x.Key + cn x.Zb + cn x.Mark := rfl
instance : Sz ZB := ⟨fun n x => Sm n x.Zb, fun n => Sz.zero n, fun h k => Sz.mono h k⟩
@[simp] theorem ZB.Wl {n : Nat} {x : ZB} (h : Sm n x) : Sm n x.Zb := h
@[simp] theorem ZB.RF {n : Nat} {Key' : Int} {Ints' : List Int} {Mark' : Int} : Sm n (ZB.mk Key' Ints' Mark') = (Sm n Ints') := rfl
structure ZK where
  ZT : List ZB
  ZM : List ZV
  deriving Inhabited, DecidableEq
@[simp] def ZK.row (x : ZK) : List Vm.D := [.sl 3 (x.ZT.map ZB.row), .sl 5 (x.ZM.map ZV.row)]
instance : Cn ZK := ⟨fun x => cn x.ZT + cn x.ZM⟩
theorem ZK.Jl (x : ZK) : cn x = cn x.ZT + cn x.ZM := rfl
instance : Sz ZK := ⟨fun n x => Sm n x.ZT ∧ Sm n x.ZM, fun n => ⟨Sz.zero n, Sz.zero n⟩, fun h k => ⟨Sz.mono h k.1, Sz.mono h k.2⟩⟩
@[simp] theorem ZK.Yh {n : Nat} {x : ZK} (h : Sm n x) : Sm n x.ZT := h.1
@[simp] theorem ZK.Xo {n : Nat} {x : ZK} (h : Sm n x) : Sm n x.ZM := h.2
@[simp] theorem ZK.RF {n : Nat} {Pieces' : List ZB} {Chain' : List ZV} : Sm n (ZK.mk Pieces' Chain') = (Sm n Pieces' ∧ Sm n Chain') := rfl
structure Zt where
  Id : Int
  XM : Int
  Doc : Zd
  Sig : ZY
  Yl : ZK
  deriving Inhabited, DecidableEq
@[simp] def Zt.row (x : Zt) : List Vm.D := [.int .i64 x.Id, .int .i64 x.XM, .int .i64 x.Doc.jK, .sl 1 (x.Doc.YY.map sR), .sl 1 (x.Doc.XI.map iR), .int .i64 x.Sig.Key, .int .i64 x.Sig.Z1, .int .i64 x.Sig.Method, .int .i64 x.Sig.Yo, .int .i64 x.Sig.WL, .int .i64 x.Sig.Org, .int .i64 x.Sig.WR, .int .i64 x.Sig.yG, .int .i64 x.Sig.Mark, .sl 3 (x.Yl.ZT.map ZB.row), .sl 5 (x.Yl.ZM.map ZV.row)]
instance : Cn Zt := ⟨fun x => cn x.Id + cn x.XM + cn x.Doc + cn x.Sig + cn x.Yl⟩
theorem Zt.Jl (x : Zt) : cn x = cn x.Id + cn x.XM + cn x.Doc + cn x.Sig + cn x.Yl := rfl
instance : Sz Zt := ⟨fun n x => Sm n x.Doc ∧ Sm n x.Yl, fun n => ⟨Sz.zero n, Sz.zero n⟩, fun h k => ⟨Sz.mono h k.1, Sz.mono h k.2⟩⟩
@[simp] theorem Zt.WC {n : Nat} {x : Zt} (h : Sm n x) : Sm n x.Doc := h.1
@[simp] theorem Zt.Y8 {n : Nat} {x : Zt} (h : Sm n x) : Sm n x.Yl := h.2
@[simp] theorem Zt.RF {n : Nat} {Id' : Int} {Keep' : Int} {Doc' : Zd} {Sig' : ZY} {Strand' : ZK} : Sm n (Zt.mk Id' Keep' Doc' Sig' Strand') = (Sm n Doc' ∧ Sm n Strand') := rfl
structure Zc where
  Id : Int
  Zh : List Zt
  deriving Inhabited, DecidableEq
@[simp] def Zc.row (x : Zc) : List Vm.D := [.int .i64 x.Id, .sl 16 (x.Zh.map Zt.row)]
instance : Cn Zc := ⟨fun x => cn x.Id + cn x.Zh⟩
theorem Zc.Jl (x : Zc) : cn x = cn x.Id + cn x.Zh := rfl
instance : Sz Zc := ⟨fun n x => Sm n x.Zh, fun n => Sz.zero n, fun h k => Sz.mono h k⟩
@[simp] theorem Zc.Ra {n : Nat} {x : Zc} (h : Sm n x) : Sm n x.Zh := h
@[simp] theorem Zc.RF {n : Nat} {Id' : Int} {Items' : List Zt} : Sm n (Zc.mk Id' Items') = (Sm n Items') := rfl
structure Zi where
  Frame : ZH
  YN : List Zs
  YX : List Int
  ZE : List Zc
  Qg : List Int
  Y4 : List Int
  Next : Int
  XQ : List Int
  deriving Inhabited, DecidableEq
@[simp] def Zi.row (x : Zi) : List Vm.D := [.sl 5 (x.Frame.Yb.map Zy.row), .sl 3 (x.Frame.ZU.map ZF.row), .sl 4 (x.Frame.Methods.map Zg.row), .int .i64 x.Frame.QK, .int .i64 x.Frame.Now, .sl 7 (x.YN.map Zs.row), .sl 1 (x.YX.map iR), .sl 2 (x.ZE.map Zc.row), .sl 1 (x.Qg.map iR), .sl 1 (x.Y4.map iR), .int .i64 x.Next, .sl 1 (x.XQ.map iR)]
instance : Cn Zi := ⟨fun x => cn x.Frame + cn x.YN + cn x.YX + cn x.ZE + cn x.Qg + cn x.Y4 + cn x.Next + cn x.XQ⟩
theorem Zi.Jl (x : Zi) : cn x = cn x.Frame + cn x.YN + cn x.YX + cn x.ZE + cn x.Qg + cn x.Y4 + cn x.Next + cn x.XQ := rfl
instance : Sz Zi := ⟨fun n x => Sm n x.Frame ∧ Sm n x.YN ∧ Sm n x.YX ∧ Sm n x.ZE ∧ Sm n x.Qg ∧ Sm n x.Y4 ∧ Sm n x.XQ, fun n => ⟨Sz.zero n, Sz.zero n, Sz.zero n, Sz.zero n, Sz.zero n, Sz.zero n, Sz.zero n⟩, fun h k => ⟨Sz.mono h k.1, Sz.mono h k.2.1, Sz.mono h k.2.2.1, Sz.mono h k.2.2.2.1, Sz.mono h k.2.2.2.2.1, Sz.mono h k.2.2.2.2.2.1, Sz.mono h k.2.2.2.2.2.2⟩⟩
@[simp] theorem Zi.S9 {n : Nat} {x : Zi} (h : Sm n x) : Sm n x.Frame := h.1
@[simp] theorem Zi.v9 {n : Nat} {x : Zi} (h : Sm n x) : Sm n x.YN := h.2.1
@[simp] theorem Zi.uS {n : Nat} {x : Zi} (h : Sm n x) : Sm n x.YX := h.2.2.1
@[simp] theorem Zi.V8 {n : Nat} {x : Zi} (h : Sm n x) : Sm n x.ZE := h.2.2.2.1
@[simp] theorem Zi.tv {n : Nat} {x : Zi} (h : Sm n x) : Sm n x.Qg := h.2.2.2.2.1
@[simp] theorem Zi.ur {n : Nat} {x : Zi} (h : Sm n x) : Sm n x.Y4 := h.2.2.2.2.2.1
@[simp] theorem Zi.vT {n : Nat} {x : Zi} (h : Sm n x) : Sm n x.XQ := h.2.2.2.2.2.2
@[simp] theorem Zi.RF {n : Nat} {Frame' : ZH} {Certs' : List Zs} {Ended' : List Int} {Archives' : List Zc} {Seqs' : List Int} {Lying' : List Int} {Next' : Int} {Forged' : List Int} : Sm n (Zi.mk Frame' Certs' Ended' Archives' Seqs' Lying' Next' Forged') = (Sm n Frame' ∧ Sm n Certs' ∧ Sm n Ended' ∧ Sm n Archives' ∧ Sm n Seqs' ∧ Sm n Lying' ∧ Sm n Forged') := rfl
structure WO where
  Kind : Int
  A : Int
  B : Int
  C : Int
  D : Int
  Doc : Zd
  Ids : List Int
  deriving Inhabited, DecidableEq
@[simp] def WO.row (x : WO) : List Vm.D := [.int .i64 x.Kind, .int .i64 x.A, .int .i64 x.B, .int .i64 x.C, .int .i64 x.D, .int .i64 x.Doc.jK, .sl 1 (x.Doc.YY.map sR), .sl 1 (x.Doc.XI.map iR), .sl 1 (x.Ids.map iR)]
instance : Cn WO := ⟨fun x => cn x.Kind + cn x.A + cn x.B + cn x.C + cn x.D + cn x.Doc + cn x.Ids⟩
theorem WO.Jl (x : WO) : cn x = cn x.Kind + cn x.A + cn x.B + cn x.C + cn x.D + cn x.Doc + cn x.Ids := rfl
instance : Sz WO := ⟨fun n x => Sm n x.Doc ∧ Sm n x.Ids, fun n => ⟨Sz.zero n, Sz.zero n⟩, fun h k => ⟨Sz.mono h k.1, Sz.mono h k.2⟩⟩
@[simp] theorem WO.WC {n : Nat} {x : WO} (h : Sm n x) : Sm n x.Doc := h.1
@[simp] theorem WO.oT {n : Nat} {x : WO} (h : Sm n x) : Sm n x.Ids := h.2
@[simp] theorem WO.RF {n : Nat} {Kind' : Int} {A' : Int} {B' : Int} {C' : Int} {D' : Int} {Doc' : Zd} {Ids' : List Int} : Sm n (WO.mk Kind' A' B' C' D' Doc' Ids') = (Sm n Doc' ∧ Sm n Ids') := rfl
structure ZD where
  YE : Int
  To : Int
  deriving Inhabited, DecidableEq
@[simp] def ZD.row (x : ZD) : List Vm.D := [.int .i64 x.YE, .int .i64 x.To]
instance : Cn ZD := ⟨fun x => cn x.YE + cn x.To⟩
theorem ZD.Jl (x : ZD) : cn x = cn x.YE + cn x.To := rfl
instance : Sz ZD := ⟨fun _ _ => True, fun _ => trivial, fun _ h => h⟩
@[simp] theorem ZD.UT {n : Nat} {x : ZD} : Sm n x := trivial
structure Ym where
  Code : Int
  Reason : Int
  Span : ZD
  deriving Inhabited, DecidableEq
@[simp] def Ym.row (x : Ym) : List Vm.D := [.int .i64 x.Code, .int .i64 x.Reason, .int .i64 x.Span.YE, .int .i64 x.Span.To]
instance : Cn Ym := ⟨fun x => cn x.Code + cn x.Reason + cn x.Span⟩
theorem Ym.Jl (x : Ym) : cn x = cn x.Code + cn x.Reason + cn x.Span := rfl
instance : Sz Ym := ⟨fun _ _ => True, fun _ => trivial, fun _ h => h⟩
@[simp] theorem Ym.UT {n : Nat} {x : Ym} : Sm n x := trivial
structure Xk where
  jK : Int
  Methods : List Int
  Shown : List Bool
  YY : List ByteArray
  XI : List Int
  P7 : List (List Int)
  deriving Inhabited, DecidableEq
@[simp] def Xk.row (x : Xk) : List Vm.D := [.int .i64 x.jK, .sl 1 (x.Methods.map iR), .sl 1 (x.Shown.map lR), .sl 1 (x.YY.map sR), .sl 1 (x.XI.map iR), .sl 1 (x.P7.map (slR 1 iR))]
instance : Cn Xk := ⟨fun x => cn x.jK + cn x.Methods + cn x.Shown + cn x.YY + cn x.XI + cn x.P7⟩
theorem Xk.Jl (x : Xk) : cn x = cn x.jK + cn x.Methods + cn x.Shown + cn x.YY + cn x.XI + cn x.P7 := rfl
instance : Sz Xk := ⟨fun n x => Sm n x.Methods ∧ Sm n x.Shown ∧ Sm n x.YY ∧ Sm n x.XI ∧ Sm n x.P7, fun n => ⟨Sz.zero n, Sz.zero n, Sz.zero n, Sz.zero n, Sz.zero n⟩, fun h k => ⟨Sz.mono h k.1, Sz.mono h k.2.1, Sz.mono h k.2.2.1, Sz.mono h k.2.2.2.1, Sz.mono h k.2.2.2.2⟩⟩
@[simp] theorem Xk.Z6 {n : Nat} {x : Xk} (h : Sm n x) : Sm n x.Methods := h.1
@[simp] theorem Xk.pY {n : Nat} {x : Xk} (h : Sm n x) : Sm n x.Shown := h.2.1
@[simp] theorem Xk.NW {n : Nat} {x : Xk} (h : Sm n x) : Sm n x.YY := h.2.2.1
@[simp] theorem Xk.BX {n : Nat} {x : Xk} (h : Sm n x) : Sm n x.XI := h.2.2.2.1
@[simp] theorem Xk.rX {n : Nat} {x : Xk} (h : Sm n x) : Sm n x.P7 := h.2.2.2.2
@[simp] theorem Xk.RF {n : Nat} {Title' : Int} {Methods' : List Int} {Shown' : List Bool} {Parts' : List ByteArray} {Salts' : List Int} {Digests' : List (List Int)} : Sm n (Xk.mk Title' Methods' Shown' Parts' Salts' Digests') = (Sm n Methods' ∧ Sm n Shown' ∧ Sm n Parts' ∧ Sm n Salts' ∧ Sm n Digests') := rfl
structure ZI where
  ZL : List ZK
  Zp : List (List ZZ)
  deriving Inhabited, DecidableEq
@[simp] def ZI.row (x : ZI) : List Vm.D := [.sl 2 (x.ZL.map ZK.row), .sl 1 (x.Zp.map (slR 5 ZZ.row))]
instance : Cn ZI := ⟨fun x => cn x.ZL + cn x.Zp⟩
theorem ZI.Jl (x : ZI) : cn x = cn x.ZL + cn x.Zp := rfl
instance : Sz ZI := ⟨fun n x => Sm n x.ZL ∧ Sm n x.Zp, fun n => ⟨Sz.zero n, Sz.zero n⟩, fun h k => ⟨Sz.mono h k.1, Sz.mono h k.2⟩⟩
@[simp] theorem ZI.YS {n : Nat} {x : ZI} (h : Sm n x) : Sm n x.ZL := h.1
@[simp] theorem ZI.jV {n : Nat} {x : ZI} (h : Sm n x) : Sm n x.Zp := h.2
@[simp] theorem ZI.RF {n : Nat} {Strands' : List ZK} {Fresh' : List (List ZZ)} : Sm n (ZI.mk Strands' Fresh') = (Sm n Strands' ∧ Sm n Fresh') := rfl
structure Zo where
  Z1 : Int
  Dg : Int
  YX : Int
  QP : Int
  Mark : Int
  deriving Inhabited, DecidableEq
@[simp] def Zo.row (x : Zo) : List Vm.D := [.int .i64 x.Z1, .int .i64 x.Dg, .int .i64 x.YX, .int .i64 x.QP, .int .i64 x.Mark]
instance : Cn Zo := ⟨fun x => cn x.Z1 + cn x.Dg + cn x.YX + cn x.QP + cn x.Mark⟩
theorem Zo.Jl (x : Zo) : cn x = cn x.Z1 + cn x.Dg + cn x.YX + cn x.QP + cn x.Mark := rfl
instance : Sz Zo := ⟨fun _ _ => True, fun _ => trivial, fun _ h => h⟩
@[simp] theorem Zo.UT {n : Nat} {x : Zo} : Sm n x := trivial
structure kM where
  YE : Int
  To : Int
  Zh : List Zt
  Yo : Int
  deriving Inhabited, DecidableEq
@[simp] def kM.row (x : kM) : List Vm.D := [.int .i64 x.YE, .int .i64 x.To, .sl 16 (x.Zh.map Zt.row), .int .i64 x.Yo]
instance : Cn kM := ⟨fun x => cn x.YE + cn x.To + cn x.Zh + cn x.Yo⟩
theorem kM.Jl (x : kM) : cn x = cn x.YE + cn x.To + cn x.Zh + cn x.Yo := rfl
instance : Sz kM := ⟨fun n x => Sm n x.Zh, fun n => Sz.zero n, fun h k => Sz.mono h k⟩
@[simp] theorem kM.Ra {n : Nat} {x : kM} (h : Sm n x) : Sm n x.Zh := h
@[simp] theorem kM.RF {n : Nat} {From' : Int} {To' : Int} {Items' : List Zt} {Digest' : Int} : Sm n (kM.mk From' To' Items' Digest') = (Sm n Items') := rfl
structure Zr where
  Org : Int
  W8 : Int
  YE : Int
  To : Int
  Key : Int
  Mark : Int
  deriving Inhabited, DecidableEq
@[simp] def Zr.row (x : Zr) : List Vm.D := [.int .i64 x.Org, .int .i64 x.W8, .int .i64 x.YE, .int .i64 x.To, .int .i64 x.Key, .int .i64 x.Mark]
instance : Cn Zr := ⟨fun x => cn x.Org + cn x.W8 + cn x.YE + cn x.To + cn x.Key + cn x.Mark⟩
theorem Zr.Jl (x : Zr) : cn x = cn x.Org + cn x.W8 + cn x.YE + cn x.To + cn x.Key + cn x.Mark := rfl
instance : Sz Zr := ⟨fun _ _ => True, fun _ => trivial, fun _ h => h⟩
@[simp] theorem Zr.UT {n : Nat} {x : Zr} : Sm n x := trivial
end Go.Mo
namespace Go.Mo
open Go.Vm
theorem Tv {α : Type} [Inhabited α] {l : List α} {i : Nat} (h : i < l.length) : nth l i = l[i] := by simp [nth, h]
theorem wD {α : Type} [Inhabited α] {l : List α} {i : Nat} (h : i < l.length) : nth l i ∈ l := by rw [Tv h]; exact List.getElem_mem h
theorem xy {α : Type} [Inhabited α] {F : Nat → Nat → List α → List α} {a : List α} {g : α → α} (hg : ∀ x, g x = x)
    (h1 : ∀ n i v, F (n + 1) i v = bif decide ((i : Int) < (a.length : Int)) then F n (i + 1) (v.set i (g (nth a i))) else v) :
    ∀ n i v, v.length = a.length → a.length < n + i → i ≤ a.length → (∀ j, j < i → v[j]? = a[j]?) → F n i v = a := by
  intro n
  induction n with
  | zero => intro i v _ h2 h3; omega
  | succ n ih =>
    intro i v hl h2 h3 hj
    rw [h1]
    by_cases hi : i < a.length
    · have : decide ((i : Int) < (a.length : Int)) = true := by simp [hi]
      rw [this, cond_true]
      refine ih _ _ (by simp [hl]) (by omega) hi (fun j hlt => ?_)
      rw [List.getElem?_set]
      by_cases hji : i = j
      · subst hji; simp [hl, hi, hg, Tv hi]
      · rw [if_neg hji]; exact hj j (by omega)
    · have : decide ((i : Int) < (a.length : Int)) = false := by simp; omega
      rw [this, cond_false]
      apply List.ext_getElem?
      intro j
      by_cases hji : j < i
      · exact hj j hji
      · rw [List.getElem?_eq_none (by omega), List.getElem?_eq_none (by omega)]
theorem Rz {α : Type} [Inhabited α] {F : Nat → List α → Nat → List α} {a : List α} {g : α → α} (hg : ∀ x, g x = x)
    (h1 : ∀ n v i, F (n + 1) v i = bif decide ((i : Int) < (a.length : Int)) then F n (v ++ [g (nth a i)]) (i + 1) else v) :
    ∀ n v i, a.length < n + i → i ≤ a.length → F n v i = v ++ a.drop i := by
  intro n
  induction n with
  | zero => intro v i h2 h3; omega
  | succ n ih =>
    intro v i h2 h3
    rw [h1]
    by_cases hi : i < a.length
    · rw [show decide ((i : Int) < (a.length : Int)) = true by simp [hi], cond_true, ih _ _ (by omega) hi, hg, Tv hi, List.append_assoc, List.singleton_append, ← List.drop_eq_getElem_cons hi]
    · rw [show decide ((i : Int) < (a.length : Int)) = false by simp; omega, cond_false, List.drop_eq_nil_of_le (by omega), List.append_nil]
theorem UJ {F : Nat → Nat → Sum Int Unit} {L : Nat} {c : Nat → Bool} (h0 : ∀ i, F 0 i = .inr ())
    (h1 : ∀ n i, F (n + 1) i = bif decide ((i : Int) < (L : Int)) then (bif c i then .inl (i : Int) else F n (i + 1)) else .inr ()) :
    ∀ n i, (match F n i with | .inl r => r | .inr _ => -1) < (L : Int) := by
  intro n
  induction n with
  | zero => intro i; rw [h0]; show (-1 : Int) < _; omega
  | succ n ih =>
    intro i
    rw [h1]
    by_cases hi : (i : Int) < (L : Int)
    · rw [show decide ((i : Int) < (L : Int)) = true by simpa using hi, cond_true]
      cases hc : c i with
      | true => simpa using hi
      | false => exact ih (i + 1)
    · rw [show decide ((i : Int) < (L : Int)) = false by simpa using hi, cond_false]
      show (-1 : Int) < _; omega
theorem jF {rows : List (List Vm.D)} {i : Nat} {r : List Vm.D} (h : i < rows.length) : Vm.rowAt (rows.set i r) i = r := by simp [Vm.rowAt, h]
/-- a length that is reckoned off a purse -/
def WJ {α : Type} [Inhabited α] [Sz α] (F : α → Int → Int) : Prop := ∀ a n, Sm maxLen a → 0 ≤ n → n ≤ 1048576 → ¬ F a n < 0 → Sm 1048576 a ∧ F a n ≤ 1048576
theorem F7 {n : Int} {l : Nat} (h0 : 0 ≤ n) (hn : n ≤ 1048576) (hl : l ≤ maxLen) : W (n - l) = n - l := by
  have hl : l ≤ 9223372036854775807 := hl
  exact YA (by omega) (by omega)
theorem Tm {α : Type} [Inhabited α] [Sz α] (hs : ∀ (n : Nat) (x : α), Sm n x) {F : List α → Int → Int} (hF : ∀ a n, F a n = bif decide (W (n - (a.length : Int)) < 0) then (-1) else W (n - (a.length : Int))) : WJ F := by
  intro a n hm h0 hn h
  rw [hF, F7 h0 hn hm.1] at h ⊢
  by_cases hc : n - (a.length : Int) < 0
  · rw [show decide (n - (a.length : Int) < 0) = true by simpa using hc, cond_true] at h; omega
  · rw [show decide (n - (a.length : Int) < 0) = false by simpa using hc, cond_false] at h ⊢
    exact ⟨⟨by omega, fun x _ => hs _ x⟩, by omega⟩
theorem sv {α : Type} [Inhabited α] [Sz α] {E : α → Int → Int} (hE : WJ E) {a : List α} (hm : Sm maxLen a) {G : Nat → Int → Nat → Sum Int Int}
    (h1 : ∀ n v i, G (n + 1) v i = bif decide ((i : Int) < (a.length : Int)) then (bif decide (E (nth a i) v < 0) then .inl (-1) else G n (E (nth a i) v) (i + 1)) else .inr v) :
    ∀ n v i, 0 ≤ v → v ≤ 1048576 → a.length < n + i → i ≤ a.length → ¬ (match G n v i with | .inl r => r | .inr z => z) < 0 → (∀ j, i ≤ j → j < a.length → Sm 1048576 (nth a j)) ∧ (match G n v i with | .inl r => r | .inr z => z) ≤ 1048576 := by
  intro n
  induction n with
  | zero => intro v i _ _ h2 h3; omega
  | succ n ih =>
    intro v i hv0 hv h2 h3 h
    rw [h1] at h ⊢
    by_cases hi : i < a.length
    · rw [show decide ((i : Int) < (a.length : Int)) = true by simp [hi], cond_true] at h ⊢
      by_cases hc : E (nth a i) v < 0
      · rw [show decide (E (nth a i) v < 0) = true by simpa using hc, cond_true] at h; simp at h
      · rw [show decide (E (nth a i) v < 0) = false by simpa using hc, cond_false] at h ⊢
        obtain ⟨e1, e2⟩ := hE (nth a i) v (hm.2 _ (wD hi)) hv0 hv hc
        obtain ⟨r1, r2⟩ := ih _ (i + 1) (by omega) e2 (by omega) hi h
        refine ⟨fun j hj hjl => ?_, r2⟩
        by_cases hji : j = i
        · subst hji; exact e1
        · exact r1 j (by omega) hjl
    · rw [show decide ((i : Int) < (a.length : Int)) = false by simp; omega, cond_false] at h ⊢
      exact ⟨fun j hj hjl => by omega, hv⟩
theorem O6 {α : Type} [Inhabited α] [Sz α] {E : α → Int → Int} (hE : WJ E) {F : List α → Int → Int} {G : List α → Nat → Int → Nat → Sum Int Int}
    (h1 : ∀ a n v i, G a (n + 1) v i = bif decide ((i : Int) < (a.length : Int)) then (bif decide (E (nth a i) v < 0) then .inl (-1) else G a n (E (nth a i) v) (i + 1)) else .inr v)
    (hF : ∀ a n, F a n = bif decide (W (n - (a.length : Int)) < 0) then (-1) else (match G a (a.length + 1) (W (n - (a.length : Int))) 0 with | .inl r => r | .inr z => z)) : WJ F := by
  intro a n hm h0 hn h
  rw [hF, F7 h0 hn hm.1] at h ⊢
  by_cases hc : n - (a.length : Int) < 0
  · rw [show decide (n - (a.length : Int) < 0) = true by simpa using hc, cond_true] at h; omega
  · rw [show decide (n - (a.length : Int) < 0) = false by simpa using hc, cond_false] at h ⊢
    obtain ⟨r1, r2⟩ := sv hE hm (h1 a) (a.length + 1) _ 0 (by omega) (by omega) (by omega) (by omega) h
    refine ⟨⟨by omega, fun x hx => ?_⟩, r2⟩
    obtain ⟨j, hj, rfl⟩ := List.mem_iff_getElem.1 hx
    rw [← Tv hj]; exact r1 j (by omega) hj
theorem vA : WJ (fun (s : ByteArray) n => W (n - (s.size : Int))) := by
  intro a n hm h0 hn h
  have hm : a.size ≤ maxLen := hm
  dsimp only at h ⊢
  rw [F7 h0 hn hm] at h ⊢
  exact ⟨show a.size ≤ 1048576 by omega, by omega⟩
/-- the purse pays for the marks -/
def qp {α : Type} [Inhabited α] [Sz α] [Cn α] (F : α → Int → Int) (c : Nat) : Prop := ∀ a n, Sm maxLen a → 0 ≤ n → n ≤ 1048576 → ¬ F a n < 0 → (cn a : Int) ≤ 32 * (n - F a n) + c ∧ F a n ≤ n
theorem uV {α : Type} {c : α → Nat} {m : Nat} (h : ∀ x, c x ≤ m) : ∀ l : List α, cnL c l ≤ m * l.length
  | [] => by simp [cnL]
  | x :: l => by have := uV h l; have := h x; simp only [cnL, List.length_cons, Nat.mul_add]; omega
theorem Cc {α : Type} {c : α → Nat} {m : Nat} (h : ∀ x, c x = m) : ∀ l : List α, cnL c l = m * l.length
  | [] => by simp [cnL]
  | x :: l => by simp only [cnL, h, Cc h l, List.length_cons, Nat.mul_add]; omega
theorem Y3 {α : Type} {p : α → Prop} {c : Bool} {x y : α} (hx : p x) (hy : p y) : p (bif c then x else y) := by cases c; exact hy; exact hx
theorem Uj {α : Type} {F : Nat → List α → Nat → List α} {L : Nat} {c : Nat → Bool} {g : Nat → α} (h0 : ∀ v i, F 0 v i = [])
    (h1 : ∀ n v i, F (n + 1) v i = bif decide ((i : Int) < (L : Int)) then (bif c i then F n (v ++ [g i]) (i + 1) else F n v (i + 1)) else v) : ∀ n v i, (F n v i).length ≤ v.length + (L - i) := by
  intro n
  induction n with
  | zero => intro v i; rw [h0]; simp
  | succ n ih =>
    intro v i
    rw [h1]
    by_cases hi : i < L
    · rw [show decide ((i : Int) < (L : Int)) = true by simp [hi], cond_true]
      cases c i with
      | true => have := ih (v ++ [g i]) (i + 1); rw [cond_true]; simp at this; omega
      | false => have := ih v (i + 1); rw [cond_false]; omega
    · rw [show decide ((i : Int) < (L : Int)) = false by simp; omega, cond_false]; omega
theorem SG {α : Type} [Inhabited α] [Sz α] [Cn α] (hs : ∀ x : α, cn x ≤ 32) {F : List α → Int → Int} (hF : ∀ a n, F a n = bif decide (W (n - (a.length : Int)) < 0) then (-1) else W (n - (a.length : Int))) : qp F 0 := by
  intro a n hm h0 hn h
  rw [hF, F7 h0 hn hm.1] at h ⊢
  by_cases hc : n - (a.length : Int) < 0
  · rw [show decide (n - (a.length : Int) < 0) = true by simpa using hc, cond_true] at h; omega
  · rw [show decide (n - (a.length : Int) < 0) = false by simpa using hc, cond_false] at h ⊢
    have := uV hs a
    rw [Ak]; omega
theorem rH {α : Type} [Inhabited α] [Sz α] [Cn α] {E : α → Int → Int} {c : Nat} (hE : qp E c) (hcc : c ≤ 32) {a : List α} (hm : Sm maxLen a) {G : Nat → Int → Nat → Sum Int Int}
    (h1 : ∀ n v i, G (n + 1) v i = bif decide ((i : Int) < (a.length : Int)) then (bif decide (E (nth a i) v < 0) then .inl (-1) else G n (E (nth a i) v) (i + 1)) else .inr v) :
    ∀ n v i, 0 ≤ v → v ≤ 1048576 → a.length < n + i → i ≤ a.length → ¬ (match G n v i with | .inl r => r | .inr z => z) < 0 →
      (cnL cn (a.drop i) : Int) ≤ 32 * (v - (match G n v i with | .inl r => r | .inr z => z)) + 32 * ((a.length : Int) - i) ∧ (match G n v i with | .inl r => r | .inr z => z) ≤ v := by
  intro n
  induction n with
  | zero => intro v i _ _ h2 h3; omega
  | succ n ih =>
    intro v i hv0 hv h2 h3 h
    rw [h1] at h ⊢
    by_cases hi : i < a.length
    · rw [show decide ((i : Int) < (a.length : Int)) = true by simp [hi], cond_true] at h ⊢
      by_cases hc : E (nth a i) v < 0
      · rw [show decide (E (nth a i) v < 0) = true by simpa using hc, cond_true] at h; simp at h
      · rw [show decide (E (nth a i) v < 0) = false by simpa using hc, cond_false] at h ⊢
        obtain ⟨e1, e2⟩ := hE (nth a i) v (hm.2 _ (wD hi)) hv0 hv hc
        obtain ⟨r1, r2⟩ := ih _ (i + 1) (by omega) (by omega) (by omega) hi h
        rw [List.drop_eq_getElem_cons hi, cnL, ← Tv hi]
        refine ⟨?_, by omega⟩
        simp only [Int.natCast_add] at r1 ⊢
        omega
    · rw [show decide ((i : Int) < (a.length : Int)) = false by simp; omega, cond_false] at h ⊢
      rw [List.drop_eq_nil_of_le (by omega)]
      simp only [cnL]
      exact ⟨by omega, by omega⟩
theorem SA {α : Type} [Inhabited α] [Sz α] [Cn α] {E : α → Int → Int} {c : Nat} (hE : qp E c) (hcc : c ≤ 32) {F : List α → Int → Int} {G : List α → Nat → Int → Nat → Sum Int Int}
    (h1 : ∀ a n v i, G a (n + 1) v i = bif decide ((i : Int) < (a.length : Int)) then (bif decide (E (nth a i) v < 0) then .inl (-1) else G a n (E (nth a i) v) (i + 1)) else .inr v)
    (hF : ∀ a n, F a n = bif decide (W (n - (a.length : Int)) < 0) then (-1) else (match G a (a.length + 1) (W (n - (a.length : Int))) 0 with | .inl r => r | .inr z => z)) : qp F 0 := by
  intro a n hm h0 hn h
  rw [hF, F7 h0 hn hm.1] at h ⊢
  by_cases hc : n - (a.length : Int) < 0
  · rw [show decide (n - (a.length : Int) < 0) = true by simpa using hc, cond_true] at h; omega
  · rw [show decide (n - (a.length : Int) < 0) = false by simpa using hc, cond_false] at h ⊢
    obtain ⟨r1, r2⟩ := rH hE hcc hm (h1 a) (a.length + 1) _ 0 (by omega) (by omega) (by omega) (by omega) h
    rw [List.drop_zero] at r1
    rw [Ak]
    exact ⟨by omega, by omega⟩
theorem w9 : qp (fun (s : ByteArray) n => W (n - (s.size : Int))) 1 := by
  intro a n hm h0 hn h
  have hm : a.size ≤ maxLen := hm
  dsimp only at h ⊢
  rw [F7 h0 hn hm] at h ⊢
  rw [Ta]
  exact ⟨by omega, by omega⟩
end Go.Mo
namespace Go.Mo
open Go.Vm
theorem xz {F : Nat → Nat → Sum Bool Unit} {L : Nat} {c : Nat → Bool} (hc : ∀ i, c i = false) (h0 : ∀ i, F 0 i = .inr ())
    (h1 : ∀ n i, F (n + 1) i = bif decide ((i : Int) < (L : Int)) then (bif c i then .inl false else F n (i + 1)) else .inr ()) : ∀ n i, F n i = .inr () := by
  intro n
  induction n with
  | zero => exact h0
  | succ n ih =>
    intro i
    rw [h1, hc, cond_false, ih]
    cases decide ((i : Int) < (L : Int)) <;> rfl
end Go.Mo
namespace Go.Mo
open Go.Vm
theorem Qv (n : Int) : W n = (n + 9223372036854775808) % 18446744073709551616 - 9223372036854775808 := IntKind.wrap_i64 n
theorem tZ {α : Type} [Inhabited α] [DecidableEq α] {F : Nat → Nat → Sum Bool Unit} {a b : List α} {c : Nat → Bool} (hl : a.length = b.length) (hc : ∀ i, c i = !decide (nth a i = nth b i)) (h0 : ∀ i, F 0 i = .inr ())
    (h1 : ∀ n i, F (n + 1) i = bif decide ((i : Int) < (a.length : Int)) then (bif c i then .inl false else F n (i + 1)) else .inr ()) :
    F (a.length + 1) 0 = if a = b then .inr () else .inl false := by
  have key : ∀ n i, a.length < n + i → F n i = if a.drop i = b.drop i then .inr () else .inl false := by
    intro n
    induction n with
    | zero =>
      intro i h
      rw [h0, List.drop_eq_nil_of_le (by omega), List.drop_eq_nil_of_le (by omega), if_pos rfl]
    | succ n ih =>
      intro i h
      rw [h1]
      by_cases hi : i < a.length
      · have hib : i < b.length := by omega
        rw [show decide ((i : Int) < (a.length : Int)) = true by simp [hi], cond_true, hc, List.drop_eq_getElem_cons hi, List.drop_eq_getElem_cons hib, Tv hi, Tv hib]
        by_cases he : a[i] = b[i]
        · rw [he, show decide (b[i] = b[i]) = true by simp, Bool.not_true, cond_false, ih _ (by omega)]
          simp only [List.cons.injEq, true_and]
        · rw [show decide (a[i] = b[i]) = false by simp [he], if_neg (fun hh => he (List.cons.inj hh).1)]
          rfl
      · rw [show decide ((i : Int) < (a.length : Int)) = false by simp; omega, cond_false, List.drop_eq_nil_of_le (by omega), List.drop_eq_nil_of_le (by omega), if_pos rfl]
  have := key (a.length + 1) 0 (by omega)
  simpa using this
theorem sb {α : Type} [Inhabited α] [DecidableEq α] {F : Nat → Nat → Sum Bool Unit} {a b : List α} {c : Nat → Bool} (hc : ∀ i, c i = !decide (nth a i = nth b i)) (h0 : ∀ i, F 0 i = .inr ())
    (h1 : ∀ n i, F (n + 1) i = bif decide ((i : Int) < (a.length : Int)) then (bif c i then .inl false else F n (i + 1)) else .inr ()) :
    (bif ((a.length : Int) != (b.length : Int)) then false else (match F (a.length + 1) 0 with | .inl r => r | .inr _ => true)) = decide (a = b) := by
  by_cases hl : a.length = b.length
  · rw [tZ hl hc h0 h1]
    simp only [hl, bne_self_eq_false, cond_false]
    by_cases h : a = b <;> simp [h]
  · have hne : a ≠ b := fun h => hl (by rw [h])
    have : ((a.length : Int) != (b.length : Int)) = true := by simp; omega
    rw [this, cond_true]; simp [hne]
end Go.Mo
namespace Go.Mo
open Go.Vm
theorem zH {α : Type} [Inhabited α] [Sz α] {f : α → List D} {n : Nat} : ∀ {rows : List (List D)}, (∀ r, r ∈ rows → ∃ x : α, r = f x ∧ Sm n x) → ∃ l : List α, rows = l.map f ∧ ∀ x ∈ l, Sm n x
  | [], _ => ⟨[], rfl, fun _ h => by cases h⟩
  | r :: rows, h => by
    obtain ⟨x, hx, sx⟩ := h r (by simp)
    obtain ⟨l, hl, sl⟩ := zH (rows := rows) (fun r hr => h r (by simp [hr]))
    refine ⟨x :: l, by simp [hx, hl], fun y hy => ?_⟩
    rcases List.mem_cons.1 hy with rfl | hy
    · exact sx
    · exact sl y hy
theorem Zu (row : List D) (o s : Nat) : row.drop o = cut row o s ++ row.drop (o + s) := by
  rw [← List.drop_drop, cut, List.take_append_drop]
end Go.Mo
namespace Go.Mo
open Go.Vm
theorem Br {P : Program} {n : Nat} {t : TypeId} {ts : List TypeId} : ∀ {rows : List (List D)}, Fo P n (t :: ts) rows → ∃ r rs, rows = r :: rs ∧ TyR P n t r ∧ Fo P n ts rs
  | r :: rs, h => ⟨r, rs, rfl, h.1, h.2⟩
  | [], h => h.elim
theorem vD {P : Program} {n : Nat} : ∀ {rows : List (List D)}, Fo P n [] rows → rows = []
  | [], _ => rfl
  | _ :: _, h => h.elim
end Go.Mo
namespace Go.Mo
open Go.Vm
@[simp] theorem oZ (l : List UInt8) : KQ l = l.map bR := rfl
@[simp] theorem pf (x : Int) : ((UInt8.ofInt x).toNat : Int) = IntKind.u8.wrap x := by
  rw [IntKind.wrap_u8]
  simp [UInt8.ofInt]
  omega
end Go.Mo
namespace Go.Mo
open Go.Vm
end Go.Mo
namespace Go.Mo
open Go.Vm
@[simp] theorem pH {α : Type} {l : List α} {n : Nat} (h : l.length ≤ n) : List.take n l = l := List.take_of_length_le h
@[simp] theorem te {α β : Type} (f : α → β) (l : List α) : List.take l.length (List.map f l) = List.map f l := List.take_of_length_le (by simp)
@[simp] theorem sa (n : Nat) : 1 + n = n + 1 := Nat.add_comm 1 n
@[simp] theorem oE {α β : Type} (f : α → β) (l : List α) (x y : β) : List.take (2 + l.length) (x :: y :: List.map f l) = x :: y :: List.map f l := List.take_of_length_le (by simp; omega)
@[simp] theorem oA {α β : Type} (f : α → β) (l : List α) (x y z : β) : List.take (3 + l.length) (x :: y :: z :: List.map f l) = x :: y :: z :: List.map f l := List.take_of_length_le (by simp; omega)
@[simp] theorem oD {α β : Type} (f : α → β) (l : List α) (x y z u : β) : List.take (4 + l.length) (x :: y :: z :: u :: List.map f l) = x :: y :: z :: u :: List.map f l := List.take_of_length_le (by simp; omega)
@[simp] theorem pv {α β : Type} (f : α → β) (l : List α) (x y z u v : β) : List.take (5 + l.length) (x :: y :: z :: u :: v :: List.map f l) = x :: y :: z :: u :: v :: List.map f l := List.take_of_length_le (by simp; omega)
@[simp] theorem pz {α β : Type} (f : α → β) (l : List α) (x y z u v w : β) : List.take (6 + l.length) (x :: y :: z :: u :: v :: w :: List.map f l) = x :: y :: z :: u :: v :: w :: List.map f l := List.take_of_length_le (by simp; omega)
theorem RS (n : Nat) (h : n ≤ 9223372036854775807) : W ((n : Int) - 1) = (n : Int) - 1 := YA (by omega) (by omega)
end Go.Mo
namespace Go.Mo
@[simp] theorem pw (a : Array UInt8) : (ByteArray.mk a).size = a.size := rfl
@[simp] theorem pM {α : Type} {l : List α} {x : α} {v n : Nat} (h : l.length = n) : List.take (min v n + 1 + (n - v)) (List.take v l ++ x :: List.drop v l) = List.take v l ++ x :: List.drop v l := by
  apply List.take_of_length_le; simp; omega
@[simp] theorem oC (a b : Nat) : (min a b + 1 + (b - a) = min a b + (b - a + 1)) = True := by simp; omega
theorem wR {α : Type} (a b : α) : cond true a b = a ∧ cond false a b = b := ⟨rfl, rfl⟩
theorem MH {α : Type} (a b : α) : cond true a b = a := (wR a b).1
theorem Nu {α : Type} (a b : α) : cond false a b = b := (wR a b).2
/-- a side condition that is found by itself -/
theorem sd {a b : Prop} (h : b) (k : a := by (intros; first | omega | (simp only [decide_eq_true_eq, decide_eq_false_iff_not, beq_iff_eq, beq_eq_false_iff_ne, bne_iff_ne, ne_eq, Bool.or_eq_false_iff, Bool.or_eq_true, Bool.and_eq_true, Bool.not_eq_true', Bool.not_eq_false'] at *; omega) | ((try simp only [Go.Mo.Qv, show ∀ x, Go.IntKind.i64.wrap x = Go.Vm.W x from fun _ => rfl] at *); omega))) : a ∧ b := ⟨k, h⟩
theorem sdg {a b : Prop} (h : b) (k : a := by (intros; first | omega | (simp_all; done) | (simp_all; omega) | grind | ((try simp only [Go.Mo.Qv, show ∀ x, Go.IntKind.i64.wrap x = Go.Vm.W x from fun _ => rfl] at *); omega))) : a ∧ b := ⟨k, h⟩
theorem il {a b : Nat} (h : a < b := by first | omega | (simp only [decide_eq_true_eq, decide_eq_false_iff_not, beq_iff_eq, beq_eq_false_iff_ne, bne_iff_ne, ne_eq, Bool.or_eq_false_iff, Bool.not_eq_true', Bool.not_eq_false'] at *; omega) | (simp_all [List.length_pos_iff]; done) | (simp; omega) | (simp_all; omega) | ((try simp only [Go.Mo.Qv, show ∀ x, Go.IntKind.i64.wrap x = Go.Vm.W x from fun _ => rfl] at *); omega) | (simp; (try simp only [Go.Mo.Qv, show ∀ x, Go.IntKind.i64.wrap x = Go.Vm.W x from fun _ => rfl] at *); omega)) : a < b := h
theorem ik {α : Type} (a : Nat) (l : List α) (h : a < l.length := by first | omega | (simp only [decide_eq_true_eq, decide_eq_false_iff_not, beq_iff_eq, beq_eq_false_iff_ne, bne_iff_ne, ne_eq, Bool.or_eq_false_iff, Bool.not_eq_true', Bool.not_eq_false'] at *; omega) | (simp_all [List.length_pos_iff]; done) | (simp; omega) | (simp_all; omega) | ((try simp only [Go.Mo.Qv, show ∀ x, Go.IntKind.i64.wrap x = Go.Vm.W x from fun _ => rfl] at *); omega) | (simp; (try simp only [Go.Mo.Qv, show ∀ x, Go.IntKind.i64.wrap x = Go.Vm.W x from fun _ => rfl] at *); omega)) : a < l.length := h
theorem sl {α : Type} [Inhabited α] [Sz α] (n : Nat) (l : List α) {q : Prop} (u : q) (h : q → Sm n l := by (intro u; simp (maxDischargeDepth := 12) [u])) : l.length ≤ n := YH (h u)
theorem sg {α : Type} [Inhabited α] [Sz α] {n m : Nat} {x : α} (h : Sm n x) (k : n ≤ m := by decide) : Sm m x := Za k h
theorem jy {α : Type} [Inhabited α] {l : List α} {i : Nat} (h : i < l.length) : l.drop i = Vm.nth l i :: l.drop (i + 1) := by
  rw [List.drop_eq_getElem_cons h]; simp [Vm.nth, List.getD_eq_getElem?_getD, List.getElem?_eq_getElem h]
theorem EP {α : Type} [Inhabited α] (c : α → Nat) {l : List α} {i : Nat} (h : i < l.length) : cnL c (l.drop i) = c (Vm.nth l i) + cnL c (l.drop (i + 1)) := by rw [jy h]; rfl
theorem CP {α β : Type} (f : α → List β) : ∀ l : List α, (l.flatMap f).length = cnL (fun x => (f x).length) l
  | [] => rfl
  | x :: l => by simp only [List.flatMap_cons, List.length_append, cnL, CP f l]
theorem NQ {α β : Type} [Inhabited α] {as : List α} (f : α → List β) {F : Nat → Nat → List β → List β} (h1 : ∀ n i l, F (n + 1) i l = bif decide ((i : Int) < (as.length : Int)) then F n (i + 1) (l ++ f (Vm.nth as i)) else l) : ∀ n i l, as.length < n + i → i ≤ as.length → F n i l = l ++ (as.drop i).flatMap f
  | 0, i, l, h, h2 => by omega
  | n + 1, i, l, h, h2 => by
    rw [h1]
    by_cases hi : i < as.length
    · rw [show decide ((i : Int) < (as.length : Int)) = true by simpa using hi, MH, NQ f h1 n (i + 1) _ (by omega) hi, jy hi]; simp
    · rw [show decide ((i : Int) < (as.length : Int)) = false by simpa using hi, Nu, List.drop_eq_nil_of_le (by omega)]; simp
end Go.Mo
