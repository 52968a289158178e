/- The plain data of the program, typed, and sX they read as rows of the abstract machine. No condition. -/
import Derived.Test.YthjkhlcbpfnobaaGreatVe
import Derived.Laws.BitsLemmas
namespace Go.Mo
open Go.Vm
@[simp] def iR (n : Int) : List Vm.D := [.int .i64 n]
@[simp] def bR (b : UInt8) : List Vm.D := [.int .u8 (b.toNat : Int)]
@[simp] def lR (b : Bool) : List Vm.D := [.bool b]
@[simp] def sR (s : ByteArray) : List Vm.D := [.str s]
@[simp] def slR {α : Type} (n : Nat) (f : α -> List D) (m : List α) : List Vm.D := [.sl n (m.map f)]
/-- everything in it is at most so long -/
class Sz (α : Type) [Inhabited α] where
  sm : Nat -> α -> Prop
  zero : ∀ n, sm n default
  mono : ∀ {n m : Nat} {x : α}, n <= m -> sm n x -> sm m x
/-- sX many marks it takes -/
class Cn (α : Type) where
  cn : α -> Nat
abbrev cn {α : Type} [Cn α] (x : α) : Nat := Cn.cn x
def cnL {α : Type} (c : α -> Nat) : List α -> Nat
  | [] => 0
  | x :: l => c x + cnL c l
instance : Cn Int := ⟨fun _ => 1⟩
instance : Cn Bool := ⟨fun _ => 1⟩
instance : Cn UInt8 := ⟨fun _ => 1⟩
instance : Cn ByteArray := ⟨fun _ => 1⟩
instance {α : Type} [Cn α] : Cn (List α) := ⟨cnL Cn.cn⟩
abbrev Sm {α : Type} [Inhabited α] [Sz α] (n : Nat) (x : α) : Prop := Sz.sm n x
instance : Sz Int := ⟨fun _ _ => True, fun _ => trivial, fun _ h => h⟩
instance : Sz Bool := ⟨fun _ _ => True, fun _ => trivial, fun _ h => h⟩
instance : Sz UInt8 := ⟨fun _ _ => True, fun _ => trivial, fun _ h => h⟩
instance : Sz ByteArray := ⟨fun n s => s.size <= n, fun _ => Nat.zero_le _, fun h k => Nat.le_trans k h⟩
instance {α : Type} [Inhabited α] [Sz α] : Sz (List α) := ⟨fun n l => l.length <= n /\ ∀ x ∈ l, Sz.sm n x, fun _ => ⟨Nat.zero_le _, fun _ h => by cases h⟩, fun h k => ⟨Nat.le_trans k.1 h, fun x hx => Sz.mono h (k.2 x hx)⟩⟩
theorem Yx {α : Type} [Inhabited α] [Sz α] {n : Nat} {l : List α} : Sm n l = (l.length <= n /\ ∀ x ∈ l, Sm n x) := rfl
theorem Yk {α : Type} [Inhabited α] [Sz α] {n : Nat} {l : List α} (h : Sm n l) : l.length <= n := h.1
theorem H7 {n : Nat} {s : ByteArray} (h : Sm n s) : s.size <= n := h
@[simp] theorem vB {n : Nat} {x : Int} : Sm n x := trivial
@[simp] theorem wc {n : Nat} {x : Bool} : Sm n x := trivial
@[simp] theorem vF {n : Nat} {x : UInt8} : Sm n x := trivial
@[simp] theorem Jx {α : Type} [Inhabited α] [Sz α] {n : Nat} : Sm n ([] : List α) := ⟨Nat.zero_le _, fun _ h => by cases h⟩
@[simp] theorem Z3 {α : Type} [Inhabited α] [Sz α] {n i : Nat} {l : List α} (h : Sm n l) : Sm n (nth l i) := by
  unfold nth
  rw [List.getD_eq_getElem?_getD]
  cases hh : l[i]? with
  | none => exact Sz.zero n
  | some x => exact h.2 x (List.mem_of_getElem? hh)
@[simp] theorem ye {α : Type} [Inhabited α] [Sz α] {n i : Nat} {l : List α} (h : Sm n l) : Sm n (l.take i) := ⟨Nat.le_trans (by simp; omega) h.1, fun x hx => h.2 x (List.mem_of_mem_take hx)⟩
@[simp] theorem xx {α : Type} [Inhabited α] [Sz α] {n i : Nat} {l : List α} (h : Sm n l) : Sm n (l.drop i) := ⟨Nat.le_trans (by simp) h.1, fun x hx => h.2 x (List.mem_of_mem_drop hx)⟩
theorem Jl {α : Type} [Inhabited α] [Sz α] {n : Nat} {l m : List α} : Sm n (l ++ m) = (l.length + m.length <= n /\ (∀ x ∈ l, Sm n x) /\ ∀ x ∈ m, Sm n x) := by
  rw [Yx]; simp [or_imp, forall_and]
theorem ZN {α : Type} [Inhabited α] [Sz α] {n m : Nat} {x : α} (h : n <= m) (k : Sm n x) : Sm m x := Sz.mono h k
structure Zp where
  Authority : Int
  Seq : Int
  Time : Int
  XJ : Int
  Mark : Int
  deriving Inhabited, DecidableEq
@[simp] def Zp.row (x : Zp) : List Vm.D := [.int .i64 x.Authority, .int .i64 x.Seq, .int .i64 x.Time, .int .i64 x.XJ, .int .i64 x.Mark]
instance : Cn Zp := ⟨fun x => cn x.Authority + cn x.Seq + cn x.Time + cn x.XJ + cn x.Mark⟩
instance : Sz Zp := ⟨fun _ _ => True, fun _ => trivial, fun _ h => h⟩
@[simp] theorem Zp.Wv {n : Nat} {x : Zp} : Sm n x := trivial
structure XY where
  XJ : Int
  Left : Bool
  deriving Inhabited, DecidableEq
@[simp] def XY.row (x : XY) : List Vm.D := [.int .i64 x.XJ, .bool x.Left]
instance : Cn XY := ⟨fun x => cn x.XJ + cn x.Left⟩
instance : Sz XY := ⟨fun _ _ => True, fun _ => trivial, fun _ h => h⟩
@[simp] theorem XY.Wv {n : Nat} {x : XY} : Sm n x := trivial
structure Zb where
  Count : Int
  Method : Int
  FI : Int
  Path : List XY
  Xh : List Zp
  deriving Inhabited, DecidableEq
@[simp] def Zb.row (x : Zb) : List Vm.D := [.int .i64 x.Count, .int .i64 x.Method, .int .i64 x.FI, .sl 2 (x.Path.map XY.row), .sl 5 (x.Xh.map Zp.row)]
instance : Cn Zb := ⟨fun x => cn x.Count + cn x.Method + cn x.FI + cn x.Path + cn x.Xh⟩
instance : Sz Zb := ⟨fun n x => Sm n x.Path /\ Sm n x.Xh, fun n => ⟨Sz.zero n, Sz.zero n⟩, fun h k => ⟨Sz.mono h k.1, Sz.mono h k.2⟩⟩
@[simp] theorem Zb.wb {n : Nat} {x : Zb} (h : Sm n x) : Sm n x.Path := h.1
@[simp] theorem Zb.Da {n : Nat} {x : Zb} (h : Sm n x) : Sm n x.Xh := h.2
@[simp] theorem Zb.WN {n : Nat} {mu : Int} {nt : Int} {iM : Int} {mH : List XY} {oH : List Zp} : Sm n (Zb.mk mu nt iM mH oH) = (Sm n mH /\ Sm n oH) := rfl
structure XD where
  Number : Int
  zf : Int
  Method : Int
  Uj : Int
  ja : Int
  deriving Inhabited, DecidableEq
@[simp] def XD.row (x : XD) : List Vm.D := [.int .i64 x.Number, .int .i64 x.zf, .int .i64 x.Method, .int .i64 x.Uj, .int .i64 x.ja]
instance : Cn XD := ⟨fun x => cn x.Number + cn x.zf + cn x.Method + cn x.Uj + cn x.ja⟩
instance : Sz XD := ⟨fun _ _ => True, fun _ => trivial, fun _ h => h⟩
@[simp] theorem XD.Wv {n : Nat} {x : XD} : Sm n x := trivial
structure Zw where
  Id : Int
  Key : Int
  Error : Int
  deriving Inhabited, DecidableEq
@[simp] def Zw.row (x : Zw) : List Vm.D := [.int .i64 x.Id, .int .i64 x.Key, .int .i64 x.Error]
instance : Cn Zw := ⟨fun x => cn x.Id + cn x.Key + cn x.Error⟩
instance : Sz Zw := ⟨fun _ _ => True, fun _ => trivial, fun _ h => h⟩
@[simp] theorem Zw.Wv {n : Nat} {x : Zw} : Sm n x := trivial
structure YE where
  Id : Int
  Ua : Int
  Ends : Int
  kZ : Int
  deriving Inhabited, DecidableEq
@[simp] def YE.row (x : YE) : List Vm.D := [.int .i64 x.Id, .int .i64 x.Ua, .int .i64 x.Ends, .int .i64 x.kZ]
instance : Cn YE := ⟨fun x => cn x.Id + cn x.Ua + cn x.Ends + cn x.kZ⟩
instance : Sz YE := ⟨fun _ _ => True, fun _ => trivial, fun _ h => h⟩
@[simp] theorem YE.Wv {n : Nat} {x : YE} : Sm n x := trivial
structure Zu where
  Zq : List XD
  ZF : List Zw
  Methods : List YE
  KE : Int
  Now : Int
  deriving Inhabited, DecidableEq
@[simp] def Zu.row (x : Zu) : List Vm.D := [.sl 5 (x.Zq.map XD.row), .sl 3 (x.ZF.map Zw.row), .sl 4 (x.Methods.map YE.row), .int .i64 x.KE, .int .i64 x.Now]
instance : Cn Zu := ⟨fun x => cn x.Zq + cn x.ZF + cn x.Methods + cn x.KE + cn x.Now⟩
instance : Sz Zu := ⟨fun n x => Sm n x.Zq /\ Sm n x.ZF /\ Sm n x.Methods, fun n => ⟨Sz.zero n, Sz.zero n, Sz.zero n⟩, fun h k => ⟨Sz.mono h k.1, Sz.mono h k.2.1, Sz.mono h k.2.2⟩⟩
@[simp] theorem Zu.JK {n : Nat} {x : Zu} (h : Sm n x) : Sm n x.Zq := h.1
@[simp] theorem Zu.Y5 {n : Nat} {x : Zu} (h : Sm n x) : Sm n x.ZF := h.2.1
@[simp] theorem Zu.EB {n : Nat} {x : Zu} (h : Sm n x) : Sm n x.Methods := h.2.2
@[simp] theorem Zu.WN {n : Nat} {mI : List XD} {sa : List Zw} {sG : List YE} {mv : Int} {g9 : Int} : Sm n (Zu.mk mI sa sG mv g9) = (Sm n mI /\ Sm n sa /\ Sm n sG) := rfl
structure Yi where
  ZQ : Int
  Key : Int
  zf : Int
  qR : Int
  To : Int
  Zm : Int
  Mark : Int
  deriving Inhabited, DecidableEq
@[simp] def Yi.row (x : Yi) : List Vm.D := [.int .i64 x.ZQ, .int .i64 x.Key, .int .i64 x.zf, .int .i64 x.qR, .int .i64 x.To, .int .i64 x.Zm, .int .i64 x.Mark]
instance : Cn Yi := ⟨fun x => cn x.ZQ + cn x.Key + cn x.zf + cn x.qR + cn x.To + cn x.Zm + cn x.Mark⟩
instance : Sz Yi := ⟨fun _ _ => True, fun _ => trivial, fun _ h => h⟩
@[simp] theorem Yi.Wv {n : Nat} {x : Yi} : Sm n x := trivial
structure ZU where
  jL : Int
  Y3 : List ByteArray
  QL : List Int
  deriving Inhabited, DecidableEq
@[simp] def ZU.row (x : ZU) : List Vm.D := [.int .i64 x.jL, .sl 1 (x.Y3.map sR), .sl 1 (x.QL.map iR)]
instance : Cn ZU := ⟨fun x => cn x.jL + cn x.Y3 + cn x.QL⟩
instance : Sz ZU := ⟨fun n x => Sm n x.Y3 /\ Sm n x.QL, fun n => ⟨Sz.zero n, Sz.zero n⟩, fun h k => ⟨Sz.mono h k.1, Sz.mono h k.2⟩⟩
@[simp] theorem ZU.Ld {n : Nat} {x : ZU} (h : Sm n x) : Sm n x.Y3 := h.1
@[simp] theorem ZU.Gf {n : Nat} {x : ZU} (h : Sm n x) : Sm n x.QL := h.2
@[simp] theorem ZU.WN {n : Nat} {py : Int} {rJ : List ByteArray} {rK : List Int} : Sm n (ZU.mk py rJ rK) = (Sm n rJ /\ Sm n rK) := rfl
structure Zv where
  Key : Int
  ZQ : Int
  Method : Int
  XJ : Int
  xI : Int
  Org : Int
  xL : Int
  km : Int
  Mark : Int
  deriving Inhabited, DecidableEq
@[simp] def Zv.row (x : Zv) : List Vm.D := [.int .i64 x.Key, .int .i64 x.ZQ, .int .i64 x.Method, .int .i64 x.XJ, .int .i64 x.xI, .int .i64 x.Org, .int .i64 x.xL, .int .i64 x.km, .int .i64 x.Mark]
instance : Cn Zv := ⟨fun x => cn x.Key + cn x.ZQ + cn x.Method + cn x.XJ + cn x.xI + cn x.Org + cn x.xL + cn x.km + cn x.Mark⟩
instance : Sz Zv := ⟨fun _ _ => True, fun _ => trivial, fun _ h => h⟩
@[simp] theorem Zv.Wv {n : Nat} {x : Zv} : Sm n x := trivial
structure Ze where
  Key : Int
  XC : List Int
  Mark : Int
  deriving Inhabited, DecidableEq
@[simp] def Ze.row (x : Ze) : List Vm.D := [.int .i64 x.Key, .sl 1 (x.XC.map iR), .int .i64 x.Mark]
instance : Cn Ze := ⟨fun x => cn x.Key + cn x.XC + cn x.Mark⟩
instance : Sz Ze := ⟨fun n x => Sm n x.XC, fun n => Sz.zero n, fun h k => Sz.mono h k⟩
@[simp] theorem Ze.Bs {n : Nat} {x : Ze} (h : Sm n x) : Sm n x.XC := h
@[simp] theorem Ze.WN {n : Nat} {fA : Int} {mJ : List Int} {iN : Int} : Sm n (Ze.mk fA mJ iN) = (Sm n mJ) := rfl
structure Zi where
  ZL : List Ze
  Zl : List Zb
  deriving Inhabited, DecidableEq
@[simp] def Zi.row (x : Zi) : List Vm.D := [.sl 3 (x.ZL.map Ze.row), .sl 5 (x.Zl.map Zb.row)]
instance : Cn Zi := ⟨fun x => cn x.ZL + cn x.Zl⟩
instance : Sz Zi := ⟨fun n x => Sm n x.ZL /\ Sm n x.Zl, fun n => ⟨Sz.zero n, Sz.zero n⟩, fun h k => ⟨Sz.mono h k.1, Sz.mono h k.2⟩⟩
@[simp] theorem Zi.kG {n : Nat} {x : Zi} (h : Sm n x) : Sm n x.ZL := h.1
@[simp] theorem Zi.kP {n : Nat} {x : Zi} (h : Sm n x) : Sm n x.Zl := h.2
@[simp] theorem Zi.WN {n : Nat} {oI : List Ze} {nA : List Zb} : Sm n (Zi.mk oI nA) = (Sm n oI /\ Sm n nA) := rfl
structure ZV where
  Id : Int
  Yr : Int
  Doc : ZU
  Sig : Zv
  ZJ : Zi
  deriving Inhabited, DecidableEq
@[simp] def ZV.row (x : ZV) : List Vm.D := [.int .i64 x.Id, .int .i64 x.Yr, .int .i64 x.Doc.jL, .sl 1 (x.Doc.Y3.map sR), .sl 1 (x.Doc.QL.map iR), .int .i64 x.Sig.Key, .int .i64 x.Sig.ZQ, .int .i64 x.Sig.Method, .int .i64 x.Sig.XJ, .int .i64 x.Sig.xI, .int .i64 x.Sig.Org, .int .i64 x.Sig.xL, .int .i64 x.Sig.km, .int .i64 x.Sig.Mark, .sl 3 (x.ZJ.ZL.map Ze.row), .sl 5 (x.ZJ.Zl.map Zb.row)]
instance : Cn ZV := ⟨fun x => cn x.Id + cn x.Yr + cn x.Doc + cn x.Sig + cn x.ZJ⟩
instance : Sz ZV := ⟨fun n x => Sm n x.Doc /\ Sm n x.ZJ, fun n => ⟨Sz.zero n, Sz.zero n⟩, fun h k => ⟨Sz.mono h k.1, Sz.mono h k.2⟩⟩
@[simp] theorem ZV.kl {n : Nat} {x : ZV} (h : Sm n x) : Sm n x.Doc := h.1
@[simp] theorem ZV.JJ {n : Nat} {x : ZV} (h : Sm n x) : Sm n x.ZJ := h.2
@[simp] theorem ZV.WN {n : Nat} {fB : Int} {iO : Int} {nB : ZU} {fC : Zv} {oJ : Zi} : Sm n (ZV.mk fB iO nB fC oJ) = (Sm n nB /\ Sm n oJ) := rfl
structure ZE where
  Id : Int
  ZC : List ZV
  deriving Inhabited, DecidableEq
@[simp] def ZE.row (x : ZE) : List Vm.D := [.int .i64 x.Id, .sl 16 (x.ZC.map ZV.row)]
instance : Cn ZE := ⟨fun x => cn x.Id + cn x.ZC⟩
instance : Sz ZE := ⟨fun n x => Sm n x.ZC, fun n => Sz.zero n, fun h k => Sz.mono h k⟩
@[simp] theorem ZE.YM {n : Nat} {x : ZE} (h : Sm n x) : Sm n x.ZC := h
@[simp] theorem ZE.WN {n : Nat} {fB : Int} {rM : List ZV} : Sm n (ZE.mk fB rM) = (Sm n rM) := rfl
structure ZG where
  Frame : Zu
  ZM : List Yi
  Zy : List Int
  ZA : List ZE
  Yb : List Int
  YO : List Int
  Next : Int
  YF : List Int
  deriving Inhabited, DecidableEq
@[simp] def ZG.row (x : ZG) : List Vm.D := [.sl 5 (x.Frame.Zq.map XD.row), .sl 3 (x.Frame.ZF.map Zw.row), .sl 4 (x.Frame.Methods.map YE.row), .int .i64 x.Frame.KE, .int .i64 x.Frame.Now, .sl 7 (x.ZM.map Yi.row), .sl 1 (x.Zy.map iR), .sl 2 (x.ZA.map ZE.row), .sl 1 (x.Yb.map iR), .sl 1 (x.YO.map iR), .int .i64 x.Next, .sl 1 (x.YF.map iR)]
instance : Cn ZG := ⟨fun x => cn x.Frame + cn x.ZM + cn x.Zy + cn x.ZA + cn x.Yb + cn x.YO + cn x.Next + cn x.YF⟩
instance : Sz ZG := ⟨fun n x => Sm n x.Frame /\ Sm n x.ZM /\ Sm n x.Zy /\ Sm n x.ZA /\ Sm n x.Yb /\ Sm n x.YO /\ Sm n x.YF, fun n => ⟨Sz.zero n, Sz.zero n, Sz.zero n, Sz.zero n, Sz.zero n, Sz.zero n, Sz.zero n⟩, fun h k => ⟨Sz.mono h k.1, Sz.mono h k.2.1, Sz.mono h k.2.2.1, Sz.mono h k.2.2.2.1, Sz.mono h k.2.2.2.2.1, Sz.mono h k.2.2.2.2.2.1, Sz.mono h k.2.2.2.2.2.2⟩⟩
@[simp] theorem ZG.Yp {n : Nat} {x : ZG} (h : Sm n x) : Sm n x.Frame := h.1
@[simp] theorem ZG.wF {n : Nat} {x : ZG} (h : Sm n x) : Sm n x.ZM := h.2.1
@[simp] theorem ZG.Cg {n : Nat} {x : ZG} (h : Sm n x) : Sm n x.Zy := h.2.2.1
@[simp] theorem ZG.YA {n : Nat} {x : ZG} (h : Sm n x) : Sm n x.ZA := h.2.2.2.1
@[simp] theorem ZG.HT {n : Nat} {x : ZG} (h : Sm n x) : Sm n x.Yb := h.2.2.2.2.1
@[simp] theorem ZG.CA {n : Nat} {x : ZG} (h : Sm n x) : Sm n x.YO := h.2.2.2.2.2.1
@[simp] theorem ZG.Tu {n : Nat} {x : ZG} (h : Sm n x) : Sm n x.YF := h.2.2.2.2.2.2
@[simp] theorem ZG.WN {n : Nat} {nC : Zu} {nD : List Yi} {nE : List Int} {pA : List ZE} {mK : List Int} {nF : List Int} {iP : Int} {oK : List Int} : Sm n (ZG.mk nC nD nE pA mK nF iP oK) = (Sm n nC /\ Sm n nD /\ Sm n nE /\ Sm n pA /\ Sm n mK /\ Sm n nF /\ Sm n oK) := rfl
structure Zg where
  Kind : Int
  A : Int
  B : Int
  C : Int
  D : Int
  Doc : ZU
  Ids : List Int
  deriving Inhabited, DecidableEq
@[simp] def Zg.row (x : Zg) : List Vm.D := [.int .i64 x.Kind, .int .i64 x.A, .int .i64 x.B, .int .i64 x.C, .int .i64 x.D, .int .i64 x.Doc.jL, .sl 1 (x.Doc.Y3.map sR), .sl 1 (x.Doc.QL.map iR), .sl 1 (x.Ids.map iR)]
instance : Cn Zg := ⟨fun x => cn x.Kind + cn x.A + cn x.B + cn x.C + cn x.D + cn x.Doc + cn x.Ids⟩
instance : Sz Zg := ⟨fun n x => Sm n x.Doc /\ Sm n x.Ids, fun n => ⟨Sz.zero n, Sz.zero n⟩, fun h k => ⟨Sz.mono h k.1, Sz.mono h k.2⟩⟩
@[simp] theorem Zg.kl {n : Nat} {x : Zg} (h : Sm n x) : Sm n x.Doc := h.1
@[simp] theorem Zg.EE {n : Nat} {x : Zg} (h : Sm n x) : Sm n x.Ids := h.2
@[simp] theorem Zg.WN {n : Nat} {iQ : Int} {A' : Int} {B' : Int} {C' : Int} {D' : Int} {nB : ZU} {iS : List Int} : Sm n (Zg.mk iQ A' B' C' D' nB iS) = (Sm n nB /\ Sm n iS) := rfl
structure WG where
  qR : Int
  To : Int
  deriving Inhabited, DecidableEq
@[simp] def WG.row (x : WG) : List Vm.D := [.int .i64 x.qR, .int .i64 x.To]
instance : Cn WG := ⟨fun x => cn x.qR + cn x.To⟩
instance : Sz WG := ⟨fun _ _ => True, fun _ => trivial, fun _ h => h⟩
@[simp] theorem WG.Wv {n : Nat} {x : WG} : Sm n x := trivial
structure VX where
  Code : Int
  Reason : Int
  Span : WG
  deriving Inhabited, DecidableEq
@[simp] def VX.row (x : VX) : List Vm.D := [.int .i64 x.Code, .int .i64 x.Reason, .int .i64 x.Span.qR, .int .i64 x.Span.To]
instance : Cn VX := ⟨fun x => cn x.Code + cn x.Reason + cn x.Span⟩
instance : Sz VX := ⟨fun _ _ => True, fun _ => trivial, fun _ h => h⟩
@[simp] theorem VX.Wv {n : Nat} {x : VX} : Sm n x := trivial
structure Ql where
  jL : Int
  Methods : List Int
  Shown : List Bool
  Y3 : List ByteArray
  QL : List Int
  Nm : List (List Int)
  deriving Inhabited, DecidableEq
@[simp] def Ql.row (x : Ql) : List Vm.D := [.int .i64 x.jL, .sl 1 (x.Methods.map iR), .sl 1 (x.Shown.map lR), .sl 1 (x.Y3.map sR), .sl 1 (x.QL.map iR), .sl 1 (x.Nm.map (slR 1 iR))]
instance : Cn Ql := ⟨fun x => cn x.jL + cn x.Methods + cn x.Shown + cn x.Y3 + cn x.QL + cn x.Nm⟩
instance : Sz Ql := ⟨fun n x => Sm n x.Methods /\ Sm n x.Shown /\ Sm n x.Y3 /\ Sm n x.QL /\ Sm n x.Nm, fun n => ⟨Sz.zero n, Sz.zero n, Sz.zero n, Sz.zero n, Sz.zero n⟩, fun h k => ⟨Sz.mono h k.1, Sz.mono h k.2.1, Sz.mono h k.2.2.1, Sz.mono h k.2.2.2.1, Sz.mono h k.2.2.2.2⟩⟩
@[simp] theorem Ql.EB {n : Nat} {x : Ql} (h : Sm n x) : Sm n x.Methods := h.1
@[simp] theorem Ql.wP {n : Nat} {x : Ql} (h : Sm n x) : Sm n x.Shown := h.2.1
@[simp] theorem Ql.Ld {n : Nat} {x : Ql} (h : Sm n x) : Sm n x.Y3 := h.2.2.1
@[simp] theorem Ql.Gf {n : Nat} {x : Ql} (h : Sm n x) : Sm n x.QL := h.2.2.2.1
@[simp] theorem Ql.Ah {n : Nat} {x : Ql} (h : Sm n x) : Sm n x.Nm := h.2.2.2.2
@[simp] theorem Ql.WN {n : Nat} {py : Int} {sG : List Int} {nG : List Bool} {rJ : List ByteArray} {rK : List Int} {pQ : List (List Int)} : Sm n (Ql.mk py sG nG rJ rK pQ) = (Sm n sG /\ Sm n nG /\ Sm n rJ /\ Sm n rK /\ Sm n pQ) := rfl
structure zT where
  Nn : List Zi
  Ey : List (List Zp)
  deriving Inhabited, DecidableEq
@[simp] def zT.row (x : zT) : List Vm.D := [.sl 2 (x.Nn.map Zi.row), .sl 1 (x.Ey.map (slR 5 Zp.row))]
instance : Cn zT := ⟨fun x => cn x.Nn + cn x.Ey⟩
instance : Sz zT := ⟨fun n x => Sm n x.Nn /\ Sm n x.Ey, fun n => ⟨Sz.zero n, Sz.zero n⟩, fun h k => ⟨Sz.mono h k.1, Sz.mono h k.2⟩⟩
@[simp] theorem zT.Ad {n : Nat} {x : zT} (h : Sm n x) : Sm n x.Nn := h.1
@[simp] theorem zT.wA {n : Nat} {x : zT} (h : Sm n x) : Sm n x.Ey := h.2
@[simp] theorem zT.WN {n : Nat} {pR : List Zi} {nH : List (List Zp)} : Sm n (zT.mk pR nH) = (Sm n pR /\ Sm n nH) := rfl
structure Zn where
  ZQ : Int
  Rm : Int
  Zy : Int
  Zm : Int
  Mark : Int
  deriving Inhabited, DecidableEq
@[simp] def Zn.row (x : Zn) : List Vm.D := [.int .i64 x.ZQ, .int .i64 x.Rm, .int .i64 x.Zy, .int .i64 x.Zm, .int .i64 x.Mark]
instance : Cn Zn := ⟨fun x => cn x.ZQ + cn x.Rm + cn x.Zy + cn x.Zm + cn x.Mark⟩
instance : Sz Zn := ⟨fun _ _ => True, fun _ => trivial, fun _ h => h⟩
@[simp] theorem Zn.Wv {n : Nat} {x : Zn} : Sm n x := trivial
structure YC where
  b : List UInt8
  i : Nat
  h : Int
  deriving Inhabited, DecidableEq
@[simp] def YC.row (x : YC) : List Vm.D := [.sl 1 (x.b.map bR), .int .i64 (x.i : Int), .int .i64 x.h]
instance : Sz YC := ⟨fun n x => Sm n x.b, fun n => Sz.zero n, fun h k => Sz.mono h k⟩
@[simp] theorem YC.vv {n : Nat} {x : YC} (h : Sm n x) : Sm n x.b := h
@[simp] theorem YC.WN {n : Nat} {b' : List UInt8} {i' : Nat} {h' : Int} : Sm n (YC.mk b' i' h') = (Sm n b') := rfl
structure YS where
  qR : Int
  To : Int
  ZC : List ZV
  XJ : Int
  deriving Inhabited, DecidableEq
@[simp] def YS.row (x : YS) : List Vm.D := [.int .i64 x.qR, .int .i64 x.To, .sl 16 (x.ZC.map ZV.row), .int .i64 x.XJ]
instance : Cn YS := ⟨fun x => cn x.qR + cn x.To + cn x.ZC + cn x.XJ⟩
instance : Sz YS := ⟨fun n x => Sm n x.ZC, fun n => Sz.zero n, fun h k => Sz.mono h k⟩
@[simp] theorem YS.YM {n : Nat} {x : YS} (h : Sm n x) : Sm n x.ZC := h
@[simp] theorem YS.WN {n : Nat} {iT : Int} {dT : Int} {rM : List ZV} {nu : Int} : Sm n (YS.mk iT dT rM nu) = (Sm n rM) := rfl
structure VO where
  Org : Int
  Cz : Int
  qR : Int
  To : Int
  Key : Int
  Mark : Int
  deriving Inhabited, DecidableEq
@[simp] def VO.row (x : VO) : List Vm.D := [.int .i64 x.Org, .int .i64 x.Cz, .int .i64 x.qR, .int .i64 x.To, .int .i64 x.Key, .int .i64 x.Mark]
instance : Cn VO := ⟨fun x => cn x.Org + cn x.Cz + cn x.qR + cn x.To + cn x.Key + cn x.Mark⟩
instance : Sz VO := ⟨fun _ _ => True, fun _ => trivial, fun _ h => h⟩
@[simp] theorem VO.Wv {n : Nat} {x : VO} : Sm n x := trivial
end Go.Mo
namespace Go.Mo
open Go.Vm
theorem Jw {α : Type} [Inhabited α] {l : List α} {i : Nat} (h : i < l.length) : nth l i = l[i] := by simp [nth, h]
theorem xP {α : Type} [Inhabited α] {F : Nat -> List α -> Nat -> List α} {a : List α} {g : α -> α} (hg : ∀ x, g x = x)
    (h1 : ∀ n v i, F (n + 1) v i = bif decide ((i : Int) < (a.length : Int)) then F n (v ++ [g (nth a i)]) (i + 1) else v) :
    ∀ n v i, a.length < n + i -> i <= a.length -> F n v i = v ++ a.drop i := by
  intro n
  induction n with
  | zero => intro v i h2 h3; omega
  | succ n ih =>
    intro v i h2 h3
    rw [h1]
    by_cases hi : i < a.length
    · rw [show decide ((i : Int) < (a.length : Int)) = true by simp [hi], cond_true, ih _ _ (by omega) hi, hg, Jw hi, List.append_assoc, List.singleton_append, <- List.drop_eq_getElem_cons hi]
    · rw [show decide ((i : Int) < (a.length : Int)) = false by simp; omega, cond_false, List.drop_eq_nil_of_le (by omega), List.append_nil]
theorem xw {F : Nat -> Nat -> Sum Int Unit} {L : Nat} {c : Nat -> Bool} (h0 : ∀ i, F 0 i = .inr ())
    (h1 : ∀ n i, F (n + 1) i = bif decide ((i : Int) < (L : Int)) then (bif c i then .inl (i : Int) else F n (i + 1)) else .inr ()) :
    ∀ n i, (match F n i with | .inl r => r | .inr _ => -1) < (L : Int) := by
  intro n
  induction n with
  | zero => intro i; rw [h0]; show (-1 : Int) < _; omega
  | succ n ih =>
    intro i
    rw [h1]
    by_cases hi : (i : Int) < (L : Int)
    · rw [show decide ((i : Int) < (L : Int)) = true by simpa using hi, cond_true]
      cases hc : c i with
      | true => simpa using hi
      | false => exact ih (i + 1)
    · rw [show decide ((i : Int) < (L : Int)) = false by simpa using hi, cond_false]
      show (-1 : Int) < _; omega
theorem Z9 {rows : List (List Vm.D)} {i : Nat} {r : List Vm.D} (h : i < rows.length) : Vm.rowAt (rows.set i r) i = r := by simp [Vm.rowAt, h]
theorem V3 {α : Type} {p : α -> Prop} {l : List α} {i : Nat} {a : α} (h1 : ∀ x ∈ l, p x) (h2 : p a) : ∀ x ∈ l.set i a, p x := by
  intro x hx
  rcases List.mem_or_eq_of_mem_set hx with h | h
  · exact h1 x h
  · rw [h]; exact h2
theorem ZP {α : Type} {p : α -> Prop} {c : Bool} {x y : α} (hx : p x) (hy : p y) : p (bif c then x else y) := by cases c; exact hy; exact hx
theorem Z6 {α : Type} {p : α -> Prop} {c : Bool} {x y : α} (hx : c = true -> p x) (hy : c = false -> p y) : p (bif c then x else y) := by cases c; exact hy rfl; exact hx rfl
theorem Fg {α : Type} {F : Nat -> List α -> Nat -> List α} {L : Nat} {c : Nat -> Bool} {g : Nat -> α} (h0 : ∀ v i, F 0 v i = [])
    (h1 : ∀ n v i, F (n + 1) v i = bif decide ((i : Int) < (L : Int)) then (bif c i then F n (v ++ [g i]) (i + 1) else F n v (i + 1)) else v) : ∀ n v i, (F n v i).length <= v.length + (L - i) := by
  intro n
  induction n with
  | zero => intro v i; rw [h0]; simp
  | succ n ih =>
    intro v i
    rw [h1]
    by_cases hi : i < L
    · rw [show decide ((i : Int) < (L : Int)) = true by simp [hi], cond_true]
      cases c i with
      | true => have := ih (v ++ [g i]) (i + 1); rw [cond_true]; simp at this; omega
      | false => have := ih v (i + 1); rw [cond_false]; omega
    · rw [show decide ((i : Int) < (L : Int)) = false by simp; omega, cond_false]; omega
theorem GU {α : Type} {F : Nat -> List α -> Nat -> List α} {L : Nat} {g : Nat -> α} (h0 : ∀ v i, F 0 v i = [])
    (h1 : ∀ n v i, F (n + 1) v i = bif decide ((i : Int) < (L : Int)) then F n (v ++ [g i]) (i + 1) else v) : ∀ n v i, (F n v i).length <= v.length + (L - i) := by
  intro n
  induction n with
  | zero => intro v i; rw [h0]; simp
  | succ n ih =>
    intro v i
    rw [h1]
    by_cases hi : i < L
    · rw [show decide ((i : Int) < (L : Int)) = true by simp [hi], cond_true]
      have := ih (v ++ [g i]) (i + 1); simp at this; omega
    · rw [show decide ((i : Int) < (L : Int)) = false by simp; omega, cond_false]; omega
theorem Jc {n m : Nat} {s : Zi} {r : Zb} (hn : n + 1 <= m) (h : Sm n s) (hr : Sm m r) : Sm m (Zi.mk s.ZL (s.Zl ++ [r])) := by
  refine ⟨ZN (by omega) h.1, ⟨?_, fun x hx => ?_⟩⟩
  · have := h.2.1; simp; omega
  · rcases List.mem_append.1 hx with hx | hx
    · exact ZN (by omega) (h.2.2 x hx)
    · simp at hx; subst hx; exact hr
end Go.Mo
namespace Go.Mo
open Go.Vm
end Go.Mo
namespace Go.Mo
open Go.Vm
theorem XL (n : Int) : W n = (n + 9223372036854775808) % 18446744073709551616 - 9223372036854775808 := IntKind.wrap_i64 n
theorem jr {α : Type} [Inhabited α] [DecidableEq α] {F : Nat -> Nat -> Sum Bool Unit} {a b : List α} {c : Nat -> Bool} (hl : a.length = b.length) (hc : ∀ i, c i = !decide (nth a i = nth b i)) (h0 : ∀ i, F 0 i = .inr ())
    (h1 : ∀ n i, F (n + 1) i = bif decide ((i : Int) < (a.length : Int)) then (bif c i then .inl false else F n (i + 1)) else .inr ()) :
    F (a.length + 1) 0 = if a = b then .inr () else .inl false := by
  have key : ∀ n i, a.length < n + i -> F n i = if a.drop i = b.drop i then .inr () else .inl false := by
    intro n
    induction n with
    | zero =>
      intro i h
      rw [h0, List.drop_eq_nil_of_le (by omega), List.drop_eq_nil_of_le (by omega), if_pos rfl]
    | succ n ih =>
      intro i h
      rw [h1]
      by_cases hi : i < a.length
      · have eR : i < b.length := by omega
        rw [show decide ((i : Int) < (a.length : Int)) = true by simp [hi], cond_true, hc, List.drop_eq_getElem_cons hi, List.drop_eq_getElem_cons eR, Jw hi, Jw eR]
        by_cases he : a[i] = b[i]
        · rw [he, show decide (b[i] = b[i]) = true by simp, Bool.not_true, cond_false, ih _ (by omega)]
          simp only [List.cons.injEq, true_and]
        · rw [show decide (a[i] = b[i]) = false by simp [he], if_neg (fun hh => he (List.cons.inj hh).1)]
          rfl
      · rw [show decide ((i : Int) < (a.length : Int)) = false by simp; omega, cond_false, List.drop_eq_nil_of_le (by omega), List.drop_eq_nil_of_le (by omega), if_pos rfl]
  have := key (a.length + 1) 0 (by omega)
  simpa using this
theorem Er {α : Type} [Inhabited α] [DecidableEq α] {F : Nat -> Nat -> Sum Bool Unit} {a b : List α} {c : Nat -> Bool} (hc : ∀ i, c i = !decide (nth a i = nth b i)) (h0 : ∀ i, F 0 i = .inr ())
    (h1 : ∀ n i, F (n + 1) i = bif decide ((i : Int) < (a.length : Int)) then (bif c i then .inl false else F n (i + 1)) else .inr ()) :
    (bif ((a.length : Int) != (b.length : Int)) then false else (match F (a.length + 1) 0 with | .inl r => r | .inr _ => true)) = decide (a = b) := by
  by_cases hl : a.length = b.length
  · rw [jr hl hc h0 h1]
    simp only [hl, bne_self_eq_false, cond_false]
    by_cases h : a = b <;> simp [h]
  · have uH : a ≠ b := fun h => hl (by rw [h])
    have : ((a.length : Int) != (b.length : Int)) = true := by simp; omega
    rw [this, cond_true]; simp [uH]
end Go.Mo
namespace Go.Mo
open Go.Vm
theorem G9 {α : Type} [Inhabited α] [Sz α] {f : α -> List D} {n : Nat} : ∀ {rows : List (List D)}, (∀ r, r ∈ rows -> ∃ x : α, r = f x /\ Sm n x) -> ∃ l : List α, rows = l.map f /\ ∀ x ∈ l, Sm n x
  | [], _ => ⟨[], rfl, fun _ h => by cases h⟩
  | r :: rows, h => by
    obtain ⟨x, hx, sx⟩ := h r (by simp)
    obtain ⟨l, hl, sl⟩ := G9 (rows := rows) (fun r hr => h r (by simp [hr]))
    refine ⟨x :: l, by simp [hx, hl], fun y hy => ?_⟩
    rcases List.mem_cons.1 hy with rfl | hy
    · exact sx
    · exact sl y hy
end Go.Mo
namespace Go.Mo
open Go.Vm
theorem F9 {P : Program} {n : Nat} {t : TypeId} {ts : List TypeId} : ∀ {rows : List (List D)}, Iy P n (t :: ts) rows -> ∃ r rs, rows = r :: rs /\ TyR P n t r /\ Iy P n ts rs
  | r :: rs, h => ⟨r, rs, rfl, h.1, h.2⟩
  | [], h => h.elim
theorem Dg {P : Program} {n : Nat} : ∀ {rows : List (List D)}, Iy P n [] rows -> rows = []
  | [], _ => rfl
  | _ :: _, h => h.elim
end Go.Mo
namespace Go.Mo
open Go.Vm
@[simp] theorem vM (l : List UInt8) : J6 l = l.map bR := rfl
@[simp] theorem wB (x : Int) : ((UInt8.ofInt x).toNat : Int) = IntKind.u8.wrap x := by
  rw [IntKind.wrap_u8]
  simp [UInt8.ofInt]
  omega
end Go.Mo
namespace Go.Mo
open Go.Vm
end Go.Mo
namespace Go.Mo
open Go.Vm
@[simp] theorem wN {α : Type} {l : List α} {n : Nat} (h : l.length <= n) : List.take n l = l := List.take_of_length_le h
@[simp] theorem Bi {α β : Type} (f : α -> β) (l : List α) : List.take l.length (List.map f l) = List.map f l := List.take_of_length_le (by simp)
@[simp] theorem AB (n : Nat) : 1 + n = n + 1 := Nat.add_comm 1 n
@[simp] theorem we {α β : Type} (f : α -> β) (l : List α) (x y : β) : List.take (2 + l.length) (x :: y :: List.map f l) = x :: y :: List.map f l := List.take_of_length_le (by simp; omega)
@[simp] theorem wa {α β : Type} (f : α -> β) (l : List α) (x y z : β) : List.take (3 + l.length) (x :: y :: z :: List.map f l) = x :: y :: z :: List.map f l := List.take_of_length_le (by simp; omega)
@[simp] theorem wj {α β : Type} (f : α -> β) (l : List α) (x y z u : β) : List.take (4 + l.length) (x :: y :: z :: u :: List.map f l) = x :: y :: z :: u :: List.map f l := List.take_of_length_le (by simp; omega)
@[simp] theorem wh {α β : Type} (f : α -> β) (l : List α) (x y z u v : β) : List.take (5 + l.length) (x :: y :: z :: u :: v :: List.map f l) = x :: y :: z :: u :: v :: List.map f l := List.take_of_length_le (by simp; omega)
@[simp] theorem wk {α β : Type} (f : α -> β) (l : List α) (x y z u v w : β) : List.take (6 + l.length) (x :: y :: z :: u :: v :: w :: List.map f l) = x :: y :: z :: u :: v :: w :: List.map f l := List.take_of_length_le (by simp; omega)
theorem Ac (n : Nat) (h : n <= 9223372036854775807) : W ((n : Int) - 1) = (n : Int) - 1 := Yg (by omega) (by omega)
end Go.Mo
namespace Go.Mo
@[simp] theorem wi (a : Array UInt8) : (ByteArray.mk a).size = a.size := rfl
@[simp] theorem wZ {α : Type} {l : List α} {x : α} {v n : Nat} (h : l.length = n) : List.take (min v n + 1 + (n - v)) (List.take v l ++ x :: List.drop v l) = List.take v l ++ x :: List.drop v l := by
  apply List.take_of_length_le; simp; omega
@[simp] theorem wg (a b : Nat) : (min a b + 1 + (b - a) = min a b + (b - a + 1)) = True := by simp; omega
theorem zu {α : Type} [Inhabited α] [Sz α] {n i : Nat} {l : List α} {x : α} (h : Sm n l) (hx : Sm n x) : Sm n (l.set i x) :=
  ⟨by simpa using h.1, fun y hy => by
    rcases List.mem_or_eq_of_mem_set hy with hy | rfl
    · exact h.2 y hy
    · exact hx⟩
theorem Ej {α : Type} (a b : α) : cond true a b = a /\ cond false a b = b := ⟨rfl, rfl⟩
theorem QM {α : Type} (a b : α) : cond true a b = a := (Ej a b).1
theorem Xq {α : Type} (a b : α) : cond false a b = b := (Ej a b).2
/-- a side condition that is found by itself -/
theorem bf {a : Bool} {c : Prop} (h : a = true -> c) : a = false \/ c := by cases a with | false => exact .inl rfl | true => exact .inr (h rfl)
theorem sd {a b : Prop} (h : b) (k : a := by (intros; first | omega | exact ⟨by assumption, fun k => ⟨by assumption, k⟩⟩ | exact bf (by assumption) | (simp only [decide_eq_true_eq, decide_eq_false_iff_not, beq_iff_eq, beq_eq_false_iff_ne, bne_iff_ne, ne_eq, Bool.or_eq_false_iff, Bool.or_eq_true, Bool.and_eq_true, Bool.not_eq_true', Bool.not_eq_false'] at *; omega) | ((try simp only [Go.Mo.XL, show ∀ x, Go.IntKind.i64.wrap x = Go.Vm.W x from fun _ => rfl] at *); omega) | exact List.ne_nil_of_length_pos (by assumption))) : a /\ b := ⟨k, h⟩
theorem sdg {a b : Prop} (h : b) (k : a := by (intros; first | omega | (simp_all; done) | (simp_all; omega) | grind | ((try simp only [Go.Mo.XL, show ∀ x, Go.IntKind.i64.wrap x = Go.Vm.W x from fun _ => rfl] at *); omega))) : a /\ b := ⟨k, h⟩
theorem il {a b : Nat} (h : a < b := by first | omega | (simp only [decide_eq_true_eq, decide_eq_false_iff_not, beq_iff_eq, beq_eq_false_iff_ne, bne_iff_ne, ne_eq, Bool.or_eq_false_iff, Bool.not_eq_true', Bool.not_eq_false'] at *; omega) | (simp_all [List.length_pos_iff]; done) | (simp; omega) | (simp_all; omega) | ((try simp only [Go.Mo.XL, show ∀ x, Go.IntKind.i64.wrap x = Go.Vm.W x from fun _ => rfl] at *); omega) | (simp; (try simp only [Go.Mo.XL, show ∀ x, Go.IntKind.i64.wrap x = Go.Vm.W x from fun _ => rfl] at *); omega)) : a < b := h
theorem ik {α : Type} (a : Nat) (l : List α) (h : a < l.length := by first | omega | (simp only [decide_eq_true_eq, decide_eq_false_iff_not, beq_iff_eq, beq_eq_false_iff_ne, bne_iff_ne, ne_eq, Bool.or_eq_false_iff, Bool.not_eq_true', Bool.not_eq_false'] at *; omega) | (simp_all [List.length_pos_iff]; done) | (simp; omega) | (simp_all; omega) | ((try simp only [Go.Mo.XL, show ∀ x, Go.IntKind.i64.wrap x = Go.Vm.W x from fun _ => rfl] at *); omega) | (simp; (try simp only [Go.Mo.XL, show ∀ x, Go.IntKind.i64.wrap x = Go.Vm.W x from fun _ => rfl] at *); omega)) : a < l.length := h
theorem sl {α : Type} [Inhabited α] [Sz α] (n : Nat) (l : List α) {q : Prop} (u : q) (h : q -> Sm n l := by (intro u; simp (maxDischargeDepth := 12) [u])) : l.length <= n := Yk (h u)
theorem sg {α : Type} [Inhabited α] [Sz α] {n m : Nat} {x : α} (h : Sm n x) (k : n <= m := by decide) : Sm m x := ZN k h
theorem As {l : List ByteArray} {m : Nat} (h : ∀ x ∈ l, x.size <= m) (i : Nat) : (Vm.nth l i).size <= m := by
  by_cases hi : i < l.length
  · rw [show Vm.nth l i = l[i] by simp [Vm.nth, List.getD_eq_getElem?_getD, List.getElem?_eq_getElem hi]]; exact h _ (List.getElem_mem hi)
  · rw [show Vm.nth l i = default by simp [Vm.nth, List.getD_eq_getElem?_getD, List.getElem?_eq_none (Nat.le_of_not_lt hi)]]; exact Nat.zero_le _
theorem Rw {α : Type} {p : α -> Prop} {l m : List α} (h : ∀ x ∈ l, p x) (k : ∀ x ∈ m, p x) : ∀ x ∈ l ++ m, p x := fun x hx => (List.mem_append.1 hx).elim (h x) (k x)
theorem all_cons {α : Type} {p : α -> Prop} {a : α} {l : List α} (h : p a) (k : ∀ x ∈ l, p x) : ∀ x ∈ a :: l, p x := fun x hx => (List.mem_cons.1 hx).elim (fun e => e ▸ h) (k x)
theorem all_nil {α : Type} {p : α -> Prop} : ∀ x ∈ ([] : List α), p x := fun x hx => by cases hx
end Go.Mo
