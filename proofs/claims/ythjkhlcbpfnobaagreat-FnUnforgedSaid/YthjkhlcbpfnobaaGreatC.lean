/- Contracts of the functions Mj the abstract machine, part 1. No condition. -/
import Derived.Test.YthjkhlcbpfnobaaGreatCA1
import Derived.Test.YthjkhlcbpfnobaaGreatCI2
import Derived.Test.YthjkhlcbpfnobaaGreatCS2
namespace Go.Proofs.YthjkhlcbpfnobaaGreat
open Tryz
open Go.Vm Go.Mo
set_option maxHeartbeats 1000000
set_option maxRecDepth 4000
set_option linter.unusedSimpArgs false
set_option linter.unusedVariables false
theorem I4 (a0 : List UInt8) (t0 : Sm maxLen a0) : Sa 7 [rL 1 bR a0] [rB (kE a0)] := by
 have f := me (kE.eq_1 a0)
 refine so func7 ntmps7 ?_
 refine cRs (tn a0) ?_
 refine cFo f ?_ ?_ <;> intro k1 h1 f
 ·have q1 := h1; try simp at q1
  simp
  exact rt [.tmp 2] f
 have q1 := h1; try simp at q1
 have u0 : Sm 1048576 a0 := (by have z := h1; simp [w7] at z; simp [XD]; omega)
 simp
 refine cRs (O3 a0) ?_
 refine oc (qD.eq_2 a0) (fun J U mz lG lh iM iN iO iP iy iF iG iH => Yq 81 [eL 4 9 (Zb a0).2 Zs.row, (5, .one (.bptr 5 0), [.box [.d (.sl 5 (U.map Yw.row)), .d (.sl 3 (mz.map Zf.row)), .d (.sl 4 (lG.map Z8.row)), .d (.int .i64 lh), .d (.int .i64 iM), .d (.sl 7 (iN.map YX.row)), .d (.sl 1 (iO.map iR)), .d (.sl 2 (iP.map ZD.row)), .d (.sl 1 (iy.map iR)), .d (.sl 1 (iF.map iR)), .d (.int .i64 iG), .d (.sl 1 (iH.map iR))]]), eI 6 (J : Int)]) (fun n1 J U mz lG lh iM iN iO iP iy iF iG iH => (Zb a0).2.length < n1 + J /\ J <= (Zb a0).2.length /\ Sm (40 + J) (ZF.mk (ZX.mk U mz lG lh iM) iN iO iP iy iF iG iH)) ((Zb a0).2.length + 1) 0 (Zb a0).1.Frame.Zo (Zb a0).1.Frame.ZB (Zb a0).1.Frame.Methods (Zb a0).1.Frame.XT (Zb a0).1.Frame.Now (Zb a0).1.ZY (Zb a0).1.Zx (Zb a0).1.ZA (Zb a0).1.Yt (Zb a0).1.YO (Zb a0).1.Next (Zb a0).1.YE (fun p1 J U mz lG lh iM iN iO iP iy iF iG iH e1 j1 => ?_) (hI := by exact ⟨zAA, zAA, Nat.zero_le _, (Z7 (n := 40) (a0 := a0) zAE).1⟩)
 try dsimp only at j1
 refine cFo e1 ?_ ?_ <;> intro k3 h2 e1
 ·have q2 := h2; try simp at q2
  have i1 := ix h2
  have m2 := ml (Zb a0).2 (k3 4 _ rfl)
  have w1 := wr J
  simp
  refine dIo mixed ?_
  simp [i1, ZE]
  refine rpS ?_
  refine cRs (YV.rd (IF (ZF.mk (ZX.mk U mz lG lh iM) iN iO iP iy iF iG iH) (nth (Zb a0).2 J) zAT zAT)) ?_
  refine dIo mixed ?_
  simp [i1, ZE]
  refine rpS ?_
  refine cRs (IL (ZF.mk (ZX.mk U mz lG lh iM) iN iO iP iy iF iG iH) (nth (Zb a0).2 J) zAT zAT) ?_
  refine cFo e1 ?_ ?_ <;> intro k6 h3 e1
  ·have q3 := h3; try simp at q3
   have f := ms f e1
   simp
   exact rt [.tmp 2] f
  have q3 := h3; try simp at q3
  simp
  refine cRs (YV.rd (kq (Yg (ZF.mk (ZX.mk U mz lG lh iM) iN iO iP iy iF iG iH) (nth (Zb a0).2 J)).1 zAD zAD)) ?_
  refine cFo e1 ?_ ?_ <;> intro k7 h4 e1
  ·have q4 := h4; try simp at q4
   have f := ms f e1
   simp
   exact rt [.tmp 2] f
  have q4 := h4; try simp at q4
  simp
  exact oo w1 e1 (hI := by (have hl := YS (Z7 (n := 40) (a0 := a0) zAE).2; (try dsimp only); refine ⟨zAA, zAA, zAA, ?_⟩; exact Qt (n := 40 + J) zAA j1.2.2.2 (ZM (n := 40) zAA (Zp (Z7 (n := 40) (a0 := a0) zAE).2)) zAA))
 have q2 := h2; try simp at q2
 have f := ms f e1
 simp
 refine oc (yq.eq_2) (fun m0 m9 lV lX lq l9 iA iB iC iD lY lZ la => Yq 81 [(5, .one (.bptr 5 0), [.box [.d (.sl 5 (m9.map Yw.row)), .d (.sl 3 (lV.map Zf.row)), .d (.sl 4 (lX.map Z8.row)), .d (.int .i64 lq), .d (.int .i64 l9), .d (.sl 7 (iA.map YX.row)), .d (.sl 1 (iB.map iR)), .d (.sl 2 (iC.map ZD.row)), .d (.sl 1 (iD.map iR)), .d (.sl 1 (lY.map iR)), .d (.int .i64 lZ), .d (.sl 1 (la.map iR))]]), eI 11 (m0 : Int)]) (fun n2 m0 m9 lV lX lq l9 iA iB iC iD lY lZ la => 3 < n2 + m0 /\ m0 <= 3 /\ Sm (90 + m0) (ZF.mk (ZX.mk m9 lV lX lq l9) iA iB iC iD lY lZ la)) 4 0 U mz lG lh iM iN iO iP iy iF iG iH (fun p2 m0 m9 lV lX lq l9 iA iB iC iD lY lZ la e2 j2 => ?_) (hI := by (have hl := YS (Z7 (n := 40) (a0 := a0) zAE).2; exact ⟨zAA, zAA, zAA, ZM (n := 40 + J) zAA j1.2.2.2⟩))
 try dsimp only at j2
 refine cFo e2 ?_ ?_ <;> intro k9 h5 e2
 ·have q5 := h5; try simp at q5
  have w2 := wr m0
  simp
  refine cRs (YV.rd (Px (ZF.mk (ZX.mk m9 lV lX lq l9) iA iB iC iD lY lZ la) 10 (by with_reducible exact ZM (n := 100) zAE (ZM (n := 90 + m0) (m := 100) zAA j2.2.2.2)))) ?_
  refine dIs mixed ?_
  refine cRs (YV.rd (PL (YA (ZF.mk (ZX.mk m9 lV lX lq l9) iA iB iC iD lY lZ la) 10).1.Frame (by with_reducible exact ZM (n := 100) zAE (ZF.Y7 (Y2 (a1 := 10) (ZM (n := 90 + m0) (m := 100) zAA j2.2.2.2)))))) ?_
  refine cRs (YV.rd (RV (YA (ZF.mk (ZX.mk m9 lV lX lq l9) iA iB iC iD lY lZ la) 10).1 0 (YG (YA (ZF.mk (ZX.mk m9 lV lX lq l9) iA iB iC iD lY lZ la) 10).1.Frame) 0 (by with_reducible exact ZM (n := 100) zAE (Y2 (a1 := 10) (ZM (n := 90 + m0) (m := 100) zAA j2.2.2.2))) (by with_reducible exact ZM (n := 100) zAE (Xh (ZF.Y7 (Y2 (a1 := 10) (ZM (n := 90 + m0) (m := 100) zAA j2.2.2.2))))))) ?_
  refine cRs (YV.rd (kq (Ym (YA (ZF.mk (ZX.mk m9 lV lX lq l9) iA iB iC iD lY lZ la) 10).1 0 (YG (YA (ZF.mk (ZX.mk m9 lV lX lq l9) iA iB iC iD lY lZ la) 10).1.Frame) 0).1 zAD zAD)) ?_
  refine cFo e2 ?_ ?_ <;> intro bg h6 e2
  ·have q6 := h6; try simp at q6
   have f := ms f e2
   simp
   exact rt [.tmp 2] f
  have q6 := h6; try simp at q6
  simp
  exact oo w2 e2 (hI := by ((try dsimp only); refine ⟨zAA, zAA, zAA, ?_⟩; exact ZM zAA (JL (n := 90 + m0) (a1 := 0) (a3 := 0) (Y2 (a1 := 10) j2.2.2.2) (Xh (ZF.Y7 (Y2 (a1 := 10) j2.2.2.2))) zAA)))
 have q5 := h5; try simp at q5
 have f := ms f e2
 simp
 refine cRs (CB (ZF.mk (ZX.mk m9 lV lX lq l9) iA iB iC iD lY lZ la) zAx zAx) ?_
 exact rt [.tmp 2] f
end Go.Proofs.YthjkhlcbpfnobaaGreat
