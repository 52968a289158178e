/- An abstract machine Mj the model of Go, by value, and that it is sound: part Va. No condition. -/
import Derived.WalkKit
import Derived.Below
set_option linter.unusedVariables false
set_option linter.unusedSimpArgs false
namespace Go.Vm
theorem zAA {p : Prop} (h : p := by omega) : p := h
theorem zAB {p : Prop} (h : p := by (first | exact sg (Yv (n := 2281472) (by decide)) | exact sg u0 | exact sg u1 | exact sg u2 | exact u3 | exact sg (ZX.XS u0) | exact sg (ZX.Xz u0) | exact sg (Za (K := 2281472) u1 u3 (by decide)) | exact sg (Yk (Za (K := 2281472) u1 u3 (by decide))) | exact sg (Yx (Za (K := 2281472) u1 u3 (by decide))))) : p := h
theorem zAC {p : Prop} (h : p := by (first | (exact ⟨Nat.zero_le _, fun _ _ => trivial⟩) | (refine ZI (n := 2322432) ?_; exact ⟨Nat.zero_le _, fun _ _ => trivial⟩) | (refine ZI (n := 2322432) (ZI (n := 2322432 - 1) ?_); exact ⟨Nat.zero_le _, fun _ _ => trivial⟩) | (refine ZM (n := 3) (by decide) (ZI (ZI (ZI (n := 0) ?_))); exact ⟨Nat.zero_le _, fun _ _ => trivial⟩) | (refine ZM (n := 2) (by decide) (ZI (ZI (n := 0) ?_)); exact ⟨Nat.zero_le _, fun _ _ => trivial⟩) | (refine ZM (n := 1) (by decide) (ZI (n := 0) ?_); exact ⟨Nat.zero_le _, fun _ _ => trivial⟩))) : p := h
theorem zAD {p : Prop} (h : p := by first | (have hl := YS (Z7 (n := 40) (a0 := a0) (by decide)).2; first | with_reducible exact ZM (n := 101) (by decide) (Qt (n := 100) (by decide) (ZM (n := 40 + J) (m := 100) (by omega) j1.2.2.2) (ZM (n := 40) (by decide) (Zp (Z7 (n := 40) (a0 := a0) (by decide)).2)) (by decide)) | with_reducible exact Nat.le_trans (TD (n := 101) (Qt (n := 100) (by decide) (ZM (n := 40 + J) (m := 100) (by omega) j1.2.2.2) (ZM (n := 40) (by decide) (Zp (Z7 (n := 40) (a0 := a0) (by decide)).2)) (by decide))) (by decide)) | with_reducible exact ZM (n := 101) (by decide) (JL (a1 := 0) (a3 := 0) (Y2 (a1 := 10) (ZM (n := 90 + m0) (m := 100) (by omega) j2.2.2.2)) (Xh (ZF.Y7 (Y2 (a1 := 10) (ZM (n := 90 + m0) (m := 100) (by omega) j2.2.2.2)))) (by decide)) | with_reducible exact Nat.le_trans (TD (n := 101) (JL (a1 := 0) (a3 := 0) (Y2 (a1 := 10) (ZM (n := 90 + m0) (m := 100) (by omega) j2.2.2.2)) (Xh (ZF.Y7 (Y2 (a1 := 10) (ZM (n := 90 + m0) (m := 100) (by omega) j2.2.2.2)))) (by decide))) (by decide)) : p := h
theorem zAE {p : Prop} (h : p := by decide) : p := h
theorem zAF {p : Prop} (h : p := by simp) : p := h
theorem zAH {p : Prop} (h : p := by (first | exact sg u0 | exact sg (ZQ.qp u1) | exact sg (n := 2097152) (show Sm 2097152 (Z0.mk [a1.ZK] []) from ⟨⟨Nat.le_of_ble_eq_true rfl, fun x hx => by rcases List.mem_cons.1 hx with rfl | hx; exact ZQ.Xk u1; cases hx⟩, ⟨Nat.zero_le _, fun x hx => by cases hx⟩⟩) | exact (show a1.ZK.ZJ.length + 0 <= 2097152 from YS (ZU.QC (ZQ.Xk u1))) | exact sg u1)) : p := h
theorem zAI {p : Prop} (h : p := by first | omega | (have fi := XR a0 a1 (by first | omega | (simp at *; omega)); omega) | (simp only [Bool.or_eq_false_iff, decide_eq_false_iff_not] at *; omega) | (have z := Zc G; (try simp only [] at z); omega) | (have z := Zc G.1; (try simp only [] at z); omega) | (have z := Zc G.2; (try simp only [] at z); omega) | (have z := Zc G.2.1; (try simp only [] at z); omega) | (have z := Zc G.2.2; (try simp only [] at z); omega) | (have z := Zc G.1.2; (try simp only [] at z); omega) | (have z := Zc G.2.2.2; (try simp only [] at z); omega)) : p := h
theorem zAJ {p : Prop} (h : p := by have := KO a0.Frame.Zo (nth a0.ZY (Z3 a0.ZY (Ze (nth (nth (nth a0.ZA (ZG a0 a1).1.toNat).ZC (ZG a0 a1).2.toNat).ZK.ZJ 1)).1.Zd).toNat).Z1; first | omega | (have fi := XR a0 a1 (by first | omega | (simp at *; omega)); omega) | (simp only [Bool.or_eq_false_iff, decide_eq_false_iff_not] at *; omega) | (have z := Zc G; (try simp only [] at z); omega) | (have z := Zc G.1; (try simp only [] at z); omega) | (have z := Zc G.2; (try simp only [] at z); omega) | (have z := Zc G.2.1; (try simp only [] at z); omega) | (have z := Zc G.2.2; (try simp only [] at z); omega) | (have z := Zc G.1.2; (try simp only [] at z); omega) | (have z := Zc G.2.2.2; (try simp only [] at z); omega)) : p := h
theorem zAK {p : Prop} (h : p := by first | (simp (maxDischargeDepth := 12) [XD]; omega) | (simp (maxDischargeDepth := 12) [ZM (m := 68719476736) (by decide) u0]; done)) : p := h
theorem zAL {p : Prop} (h : p := by (first | exact sg u0 | exact sg u1 | exact sg u2 | exact sg (ZX.XS u0) | exact sg j2.2.2.2.2 | exact sg (Zp j2.2.2.2.2) | exact sg (Zp (ZU.QC (Zp (Z0.QY u1)))))) : p := h
theorem zAM {p : Prop} (h : p := by first | (simp; done) | (simp [G]; done) | (simp [G]; omega) | (simp_all; done)) : p := h
theorem zAN {p : Prop} (h : p := by have := TO a0.ZY (Ze (nth (nth (nth a0.ZA (ZG a0 a1).1.toNat).ZC (ZG a0 a1).2.toNat).ZK.ZJ 1)).1.Zd; first | omega | (have fi := XR a0 a1 (by first | omega | (simp at *; omega)); omega) | (simp only [Bool.or_eq_false_iff, decide_eq_false_iff_not] at *; omega) | (have z := Zc G; (try simp only [] at z); omega) | (have z := Zc G.1; (try simp only [] at z); omega) | (have z := Zc G.2; (try simp only [] at z); omega) | (have z := Zc G.2.1; (try simp only [] at z); omega) | (have z := Zc G.2.2; (try simp only [] at z); omega) | (have z := Zc G.1.2; (try simp only [] at z); omega) | (have z := Zc G.2.2.2; (try simp only [] at z); omega)) : p := h
theorem zAO {p : Prop} (h : p := by (first | (exact K7 (s := (nth a0.ZC U).ZK) (by decide) (show Sm 2314240 _ by simp (maxDischargeDepth := 12) [u0]) (by simp)) | (refine jH ?_; exact K7 (s := (nth a0.ZC U).ZK) (by decide) (show Sm 2314240 _ by simp (maxDischargeDepth := 12) [u0]) (by simp)) | (exact ZM (n := 2314240) (by decide) (xs u0)))) : p := h
theorem zAP {p : Prop} (h : p := by first | (simp (maxDischargeDepth := 12) [XD]; omega) | (simp (maxDischargeDepth := 12) [ZM (m := 2322432) (by decide) u0]; done)) : p := h
theorem zAQ {p : Prop} (h : p := by (have cc : a0.ZP.length <= 2318336 := YS (xs u0); have z0 := g5; simp at z0; have z := qy (by omega) z0.1; have z2 := z0.2; (try have w3 : IntKind.i64.wrap (a2 - 1) = a2 - 1 := YN (by omega) (by omega)); (try have w4 : W (a2 - 1) = a2 - 1 := w3); omega)) : p := h
theorem zAR {p : Prop} (h : p := by (have cc : a0.ZP.length <= 2318336 := YS (xs u0); have z0 := g5; simp at z0; have z := UE (by omega) z0.1; have z2 := z0.2; (try have w3 : IntKind.i64.wrap (a2 - 1) = a2 - 1 := YN (by omega) (by omega)); (try have w4 : W (a2 - 1) = a2 - 1 := w3); omega)) : p := h
theorem zAS {p : Prop} (h : p := by first | omega | (have f0 : 0 <= (ZG a0 a1).1 := (by first | omega | (simp at *; omega)); have fi := XR a0 a1 f0; omega) | (have f0 : 0 <= (ZG a0 a1).1 := (by first | omega | (simp at *; omega)); have fi := XR a0 a1 f0; have ll := jK (nth a0.ZA (ZG a0 a1).1.toNat) (Zk a0.Frame.Methods a0.Frame.Now); omega)) : p := h
theorem zAT {p : Prop} (h : p := by first | exact ZM (n := 40) (by decide) (Zp (Z7 (n := 40) (a0 := a0) (by decide)).2) | (have hl := YS (Z7 (n := 40) (a0 := a0) (by decide)).2; exact ZM (n := 100) (by decide) (ZM (n := 40 + J) (m := 100) (by omega) j1.2.2.2))) : p := h
theorem zAV {p : Prop} (h : p := by (have z := Z6 a0; simp_all; done)) : p := h
theorem zAW {p : Prop} (h : p := by first | omega | (simp; done) | (simp; omega)) : p := h
theorem zAX {p : Prop} (h : p := by first | omega | (simp at *; omega)) : p := h
theorem zAY {p : Prop} (h : p := by first | rfl | trivial) : p := h
theorem zAZ {p : Prop} (h : p := by first | (exact ZM (n := 2310144) (by decide) (xs (an u0 u1))) | (exact ZM (n := 2310144 + 1) (by decide) (zA (n := 2310144) (xs (an u0 u1)) (xs (an u0 u1)) (by decide)))) : p := h
theorem zAa {p : Prop} (h : p := by simp [Op.operands]) : p := h
theorem zAb {p : Prop} (h : p := by simp [w1]) : p := h
theorem zAc {p : Prop} (h : p := by (first | exact sg u0 | exact sg u1 | exact sg u2 | exact u3 | exact sg (JZ (n := 2277376) u1))) : p := h
theorem zAd {p : Prop} (h : p := by first | (exact ZM (n := 2314240) (by decide) (xs (an u0 u1))) | (exact ZM (n := 2314240) (by decide) (VH (xs (an u0 u1)) (by decide)))) : p := h
theorem zAe {p : Prop} (h : p := by have := JW a0.Frame.ZB (nth a2 m0); first | omega | (have z := J1 (a0 := a0) (a1 := a2) (j := U) (by have z1 := h1; simp at z1; simp [z1]) (by omega); omega) | (have z := J1 (a0 := a0) (a1 := a2) (j := m0) (by have z1 := h1; simp at z1; simp [z1]) (by omega); omega)) : p := h
theorem zAf {p : Prop} (h : p := by have := JW a0.Frame.ZB (nth a2 U); first | omega | (have z := J1 (a0 := a0) (a1 := a2) (j := U) (by have z1 := h1; simp at z1; simp [z1]) (by omega); omega) | (have z := J1 (a0 := a0) (a1 := a2) (j := m0) (by have z1 := h1; simp at z1; simp [z1]) (by omega); omega)) : p := h
theorem zAg {p : Prop} (h : p := by first | omega | (have fi := QM a0 a1 (by first | omega | (simp at *; omega)); omega) | (simp only [Bool.or_eq_false_iff, decide_eq_false_iff_not] at *; omega)) : p := h
theorem zAh {p : Prop} (h : p := by (have mm : a1.ZP.length <= 2306048 := YS (xs u1); (try simp [ZS] at q1); have ww := LJ a1.ZP.length (by omega); first | omega | ((try rw [ww] at q1); (try rw [ww] at q2); have w3 : W (a2 + 1) = a2 + 1 := YN (by omega) (by omega); omega))) : p := h
theorem zAi {p : Prop} (h : p := by first | omega | (have fi := XR a0 a1 (by first | omega | (simp at *; omega)); omega) | (simp only [Bool.or_eq_false_iff, decide_eq_false_iff_not] at *; omega)) : p := h
theorem zAj {p : Prop} (h : p := by have z1 := h1; simp at z1; simp [z1]) : p := h
theorem zAk {p : Prop} (h : p := by simp; omega) : p := h
theorem zAl {p : Prop} (h : p := by injection l0 with l0; injection l0 with l0; injection l0 with l0; exact l0.symm) : p := h
theorem zAm {p : Prop} (h : p := by first | omega | (have tm := Int.tmod_eq_emod_of_nonneg (b := 2) (show 0 <= U by omega); (try simp only [Y9, show ∀ x, IntKind.i64.wrap x = W x from fun _ => rfl] at *); (try simp at *); omega)) : p := h
theorem zAn {p : Prop} (h : p := by first | omega | (have tm := Int.tmod_eq_emod_of_nonneg (b := 2) (show 0 <= J by omega); (try simp only [Y9, show ∀ x, IntKind.i64.wrap x = W x from fun _ => rfl] at *); (try simp at *); omega)) : p := h
theorem zAo {p : Prop} (h : p := by simp (maxDischargeDepth := 12) [XD]; try omega) : p := h
theorem zAp {p : Prop} (h : p := by simp [List.getD_eq_getElem?_getD, List.getElem?_eq_getElem hi]) : p := h
theorem zAq {p : Prop} (h : p := by first | omega | (simp; omega)) : p := h
theorem zAr {p : Prop} (h : p := by rw [ho]; simp) : p := h
theorem zAs {p : Prop} (h : p := by simp [At.ref]) : p := h
theorem zAu {p : Prop} (h : p := by first | (have fl := Jl a0; have fm := YS (ZX.XN (ZF.Y7 u0)); simp [XD]; omega) | (refine ZM (n := 2314240) (by decide) ?_; simp (maxDischargeDepth := 12) [u0]; done)) : p := h
theorem zAv {p : Prop} (h : p := by first | (have fl := xP a0; have fm := YS (ZX.XN (ZF.Y7 u0)); simp [XD]; omega) | (refine ZM (n := 2310144) (by decide) ?_; simp (maxDischargeDepth := 12) [u0]; done)) : p := h
theorem zAw {p : Prop} (h : p := by first | (have hc := h1; simp at hc; have hl := j1.2.2.2.1 hc.2; exact ZM (n := 2306048 + U) (by omega) j1.2.2.2.2) | exact sg (Zp (YZ.Ye u1))) : p := h
theorem zAx {p : Prop} (h : p := by first | exact ZM (n := 90 + m0) (by omega) j2.2.2.2 | exact Nat.le_trans (TD (n := 100) (ZM (n := 90 + m0) (by omega) j2.2.2.2)) (by decide)) : p := h
theorem zAy {p : Prop} (h : p := by first | (have hl := Ua a1 a2 (by simp at h1; exact h1.1); exact ZM (n := 2306048 + J) (by omega) j1.2.2.2) | exact sg (Zp (YZ.Ye u1))) : p := h
theorem zAz {p : Prop} (h : p := by first | (simp (maxDischargeDepth := 12) [XD]; omega) | (simp (maxDischargeDepth := 12) [ZM (m := 2318336) (by decide) u0]; done)) : p := h
theorem zA0 {p : Prop} (h : p := by rw [List.length_take]; omega) : p := h
theorem zA1 {p : Prop} (h : p := by intro i h; (have z : i = 0 \/ i = 1 \/ i = 2 \/ i = 3 \/ i = 4 := by omega); rcases z with rfl | rfl | rfl | rfl | rfl <;> rfl) : p := h
theorem zA2 {p : Prop} (h : p := by rw [St.Jt]; simp [lH, Yj]) : p := h
theorem zA3 {p : Prop} (h : p := by simp (maxDischargeDepth := 12) [ki, ZM (m := 2322432) (by decide) u0]; try omega) : p := h
theorem zA4 {p : Prop} (h : p := by intro q hq; cases hq) : p := h
theorem zA5 {p : Prop} (h : p := by first | omega | (have f0 : 0 <= (ZL a0 a1).1 := (by first | omega | (simp at *; omega)); have fi := QM a0 a1 f0; omega)) : p := h
theorem zA6 {p : Prop} (h : p := by cases h) : p := h
theorem zA7 {p : Prop} (h : p := by simp (maxDischargeDepth := 12) [kT, ZM (m := 2318336) (by decide) u0, ZM (m := 2318336) (by decide) u1]; try omega) : p := h
theorem zA8 {p : Prop} (h : p := by first | omega | (have z := Qd a0 a1 (by simp_all); (try simp at *); omega)) : p := h
theorem zA9 {p : Prop} (h : p := by (have q := YS (show Sm 2310144 a2 from u1); exact ZM (n := 2310144) (by decide) ⟨by omega, j1.2.2.2.2⟩)) : p := h
theorem zBA {p : Prop} (h : p := by have := Qi a0.Frame.ZB (nth a2 U); exact il) : p := h
theorem zBB {p : Prop} (h : p := by simp only [Y9]; omega) : p := h
theorem zBC {p : Prop} (h : p := by (have z := Kh a0; simp_all; done)) : p := h
theorem zBD {p : Prop} (h : p := by have := (List.getElem?_eq_some_iff.1 hq).1; omega) : p := h
theorem zBE {p : Prop} (h : p := by have := lA _ _ _ ht e; simpa [At.ref] using this) : p := h
theorem zBF {p : Prop} (h : p := by cases h; exact ⟨Nat.zero_le _, fun x hx => (by cases hx)⟩) : p := h
theorem zBG {p : Prop} (h : p := by simpa using hc) : p := h
theorem zBH {p : Prop} (h : p := by simp at hy ⊢; exact .inr hy) : p := h
theorem zBI {p : Prop} (h : p := by rw [h]; rfl) : p := h
theorem zBJ {p : Prop} (h : p := by (have z := Qd a0 a1 (by simp_all); (try simp at *); omega)) : p := h
theorem zBK {p : Prop} (h : p := by have := KO a0.Frame.Zo (nth a0.Frame.ZB (Zh a0.Frame.ZB (nth a1 J)).toNat).Key; exact il) : p := h
theorem zBL {p : Prop} (h : p := by cases hb; exact ⟨cells, [], rfl, by simp [place], .nil, (by intro q hq; cases hq), rfl⟩) : p := h
theorem zBM {p : Prop} (h : p := by simp (maxDischargeDepth := 12) [kl, XD, ZM (m := 2301952) (by decide) u0]; try omega) : p := h
theorem zBN {p : Prop} (h : p := by first | omega | (have fi := QM a0 a1 (by first | omega | (simp at q1; omega)); omega)) : p := h
theorem zBO {p : Prop} (h : p := by simp [Region.wanted, hg]) : p := h
theorem zBP {p : Prop} (h : p := by rw [<- Nat.succ_mul]; exact Nat.mul_le_mul_right _ hi) : p := h
theorem zBQ {p : Prop} (h : p := by rw [<- Nat.add_mul]; exact Nat.mul_le_mul_right _ hle) : p := h
theorem zBR {p : Prop} (h : p := by injection iW with iW; injection iW with iW; injection iW with iW; exact iW.symm) : p := h
theorem zBS {p : Prop} (h : p := by simp [Program.bytesOf, hi]) : p := h
theorem zBT {p : Prop} (h : p := by cases ‹List (DataW H)› <;> exact h.elim) : p := h
theorem zBU {p : Prop} (h : p := by rw [<- List.flatten_append, List.take_append_drop]) : p := h
theorem zBV {p : Prop} (h : p := by rw [xz (by first | omega | (simp; omega))]; first | omega | (simp; omega)) : p := h
theorem zBW {p : Prop} (h : p := by rw [ha]; simp) : p := h
theorem zBX {p : Prop} (h : p := by cases qs <;> simp [YR, Y6, yw u _ ds]) : p := h
theorem zBY {p : Prop} (h : p := by rw [Nat.add_mul, Nat.add_mul]; omega) : p := h
theorem zBZ {p : Prop} (h : p := by simp (maxDischargeDepth := 12) [Us]; try omega) : p := h
theorem zBa {p : Prop} (h : p := by first | exact sg u0 | exact sg u2) : p := h
theorem zBb {p : Prop} (h : p := by first | exact sg u1 | exact ZM (n := 2301952) (by decide) (Wz u0 u2)) : p := h
theorem zBc {p : Prop} (h : p := by first | exact sg u1 | exact ZM (n := 2301952) (by decide) (Sg u0 u2)) : p := h
theorem zBd {p : Prop} (h : p := by simpa using h) : p := h
theorem zBe {p : Prop} (h : p := by apply Array.toList_inj.1; simpa using ha) : p := h
theorem zBf {p : Prop} (h : p := by simp [Region.wanted, eT]) : p := h
theorem zBg {p : Prop} (h : p := by rw [ia]; simp) : p := h
theorem zBh {p : Prop} (h : p := by simpa [At.ref] using hx) : p := h
theorem zBi {p : Prop} (h : p := by simp at hl ⊢; omega) : p := h
theorem zBj {p : Prop} (h : p := by rw [St.Jt, if_neg (fun hh => lA hh.1)]) : p := h
theorem zBk {p : Prop} (h : p := by cases h; rfl) : p := h
theorem zBl {p : Prop} (h : p := by first | omega | (simp at q1; omega)) : p := h
theorem zBm {p : Prop} (h : p := by rw [hd, e]) : p := h
theorem zBn {p : Prop} (h : p := by cases h; exact ⟨by omega, hs⟩) : p := h
theorem zBo {p : Prop} (h : p := by simp_all) : p := h
theorem zBp {p : Prop} (h : p := by cases hx) : p := h
theorem zBq {p : Prop} (h : p := by (simp at h1; omega)) : p := h
theorem zBr {p : Prop} (h : p := by rw [du]; exact hz) : p := h
theorem zBs {p : Prop} (h : p := by rw [dv]; exact hz) : p := h
theorem zBt {p : Prop} (h : p := by cases qs <;> exact hf) : p := h
theorem zBu {p : Prop} (h : p := by simpa [Yj] using h) : p := h
theorem zBv {p : Prop} (h : p := by simp [w1, w2]) : p := h
theorem zBw {p : Prop} (h : p := by rw [Jg]; exact h) : p := h
theorem zBx {p : Prop} (h : p := by simp [hr]) : p := h
theorem zBy {p : Prop} (h : p := by simp [World.setRow]) : p := h
theorem zBz {p : Prop} (h : p := by rw [ig]; rfl) : p := h
theorem zB0 {p : Prop} (h : p := by simp [Xi]) : p := h
theorem zB1 {p : Prop} (h : p := by (intro z; simp; (repeat (with_reducible refine Go.Mo.sd ?_)); exact z.h)) : p := h
theorem zB2 {p : Prop} (h : p := by ((try dsimp only); first | omega | (simp at *; omega))) : p := h
theorem zB3 {p : Prop} (h : p := by (intro h; (try simp only [beq_true, beq_false, Bool.not_eq_true', Bool.not_eq_false', Bool.true_and, Bool.and_true] at h); exact h)) : p := h
theorem zB4 {p : Prop} (h : p := by (intro z; simp [G, Go.Vm.ZE]; (repeat (with_reducible refine Go.Mo.sdg ?_)); exact z.h)) : p := h
theorem zB5 {p : Prop} (h : p := by (intro F; exact Kz (by simp [F]))) : p := h
variable {v val u : Value} {w w' : World} {B X S X' : Nat -> Prop} {P : Program} {o : Oper} {d size t n f i j b off len cap : Nat} {x y : Operand} {a : Act} {vs cs : List Value} {k kk : IntKind} {op : BinOp} {q p : Bool} {c : Call} {parts : Array (Nat × Operand)} {lo hi : Option Operand} {base : Option Addr} {code : BoundsCode}
inductive D where
 | int (k : IntKind) (n : Int)
 | bool (b : Bool)
 | str (s : ByteArray)
 | sl (size : Nat) (rows : List (List D))
 | unk
 deriving Inhabited
variable {rows res s : List (List D)} {ds : List D}
def D.scalar : D -> Bool
 | .sl _ _ => false
 | _ => true
abbrev CS := Nat -> Nat -> Prop
variable {T T0 T' : CS}
inductive Rd (T : CS) (w : World) : Value -> D -> Prop
 | int (k : IntKind) (n : Int) : Rd T w (.int k n) (.int k n)
 | bool (b : Bool) : Rd T w (.bool b) (.bool b)
 | str (s : ByteArray) : Rd T w (.string s) (.str s)
 | unk (v : Value) (h : v.oneCell' = true) : Rd T w v .unk
 | nil (size : Nat) : Rd T w (.slice none 0 0) (.sl size [])
 | sl (a : Addr) (len cap size : Nat) (rows : List (List D)) (g : Nat -> Value)
   (hl : rows.length = len) (hc : len <= cap) (hm : cap <= maxLen) (hz : ∀ r ∈ rows, r.length = size) (hs : rows.flatten ≠ [] -> a.spot = none)
   (hg : ∀ k d, rows.flatten[k]? = some d -> w.cell? ⟨a.block, a.off + k, none⟩ = some (g k) /\ T a.block (a.off + k))
   (hr : ∀ k d, rows.flatten[k]? = some d -> Rd T w (g k) d) : Rd T w (.slice (some a) len cap) (.sl size rows)
theorem Rd.mono (hT : ∀ b k v, T b k -> w.cell? ⟨b, k, none⟩ = some v -> w'.cell? ⟨b, k, none⟩ = some v /\ T' b k)
  {d : D} (h : Rd T w v d) : Rd T' w' v d := by
 induction h with
 | int k n => exact .int k n
 | bool b => exact .bool b
 | str s => exact .str s
 | unk v h => exact .unk v h
 | nil s => exact .nil s
 | sl a len cap size rows g hl hc hm hz hs hg hr ih =>
  exact .sl a len cap size rows g hl hc hm hz hs (fun k d hk => hT _ _ _ (hg k d hk).2 (hg k d hk).1) (fun k d hk => ih k d hk)
theorem Rd.QL {d : D} (h : Rd T w v d) : v.oneCell' = true := by
 cases h <;> first | rfl | assumption
inductive At where
 | any
 | d (x : D)
 | nil (size : Nat)
 | sref (t j lo len : Nat)
 | ptr (t j i c : Nat)
 | bptr (t c : Nat)
 | fn (f t : Nat)
 | rptr (r : List D) (c : Nat)
 | tref (t j i c : Nat) (o : Option Nat)
 deriving Inhabited
inductive V where
 | any
 | one (x : At)
 | agg (xs : List At)
 | tup (xs : List V)
 | cnd (g : Bool) (x : V)
 | fix (v : Value) (x : V)
 deriving Inhabited
inductive Ob where
 | none
 | box (cells : List At)
 | arr (q : Bool) (size : Nat) (rows : List (List D))
 | lit (size : Nat) (rows : List (List At))
 deriving Inhabited
variable {gS : Nat -> Nat -> Ob}
structure Hd where
 v : Value
 n : Nat -> Value
 u : Nat -> Prop
variable {h h' : Nat -> Nat -> Hd} {hd : Hd}
abbrev Ent := V × List Ob
abbrev St := List Ent
variable {σ : St}
def St.get (σ : St) (t : Nat) : V := match σ[t]? with | some e => e.1 | none => .any
def Yj (os : List Ob) (j : Nat) : Ob := match os[j]? with | some o => o | none => .none
def St.ob (σ : St) (t j : Nat) : Ob := match σ[t]? with | some e => Yj e.2 j | none => .none
def St.put : St -> Nat -> V -> St
 | [], _, _ => []
 | e :: σ, 0, v => (v, e.2) :: σ
 | e :: σ, t + 1, v => e :: St.put σ t v
def St.Zu : St -> Nat -> Nat -> Ob -> St
 | [], _, _, _ => []
 | e :: σ, 0, j, o => (e.1, e.2.set j o) :: σ
 | e :: σ, t + 1, j, o => e :: St.Zu σ t j o
def St.new : St -> Nat -> V -> List Ob -> St
 | [], _, _, _ => []
 | _ :: σ, 0, v, os => (v, os) :: σ
 | e :: σ, t + 1, v, os => e :: St.new σ t v os
theorem St.JV (σ : St) (t : Nat) (v : V) : (σ.put t v).length = σ.length := by
 induction σ generalizing t with
 | nil => rfl
 | cons e σ ih => cases t <;> simp [St.put, ih]
theorem St.XW (σ : St) (t j : Nat) (o : Ob) : (σ.Zu t j o).length = σ.length := by
 induction σ generalizing t with
 | nil => rfl
 | cons e σ ih => cases t <;> simp [St.Zu, ih]
theorem St.WB (σ : St) (t : Nat) (v : V) (os : List Ob) : (σ.new t v os).length = σ.length := by
 induction σ generalizing t with
 | nil => rfl
 | cons e σ ih => cases t <;> simp [St.new, ih]
theorem St.zg (σ : St) (t : Nat) (v : V) (u : Nat) : (σ.put t v).get u = if u = t /\ t < σ.length then v else σ.get u := by
 induction σ generalizing t u with
 | nil => simp [St.put, St.get]
 | cons e σ ih =>
  cases t with
  | zero => cases u <;> simp [St.put, St.get]
  | succ t => cases u with
   | zero => simp [St.put, St.get]
   | succ u => have := ih t u; simp only [St.get, St.put] at this ⊢; simpa using this
theorem St.JX (σ : St) (t : Nat) (v : V) : (σ.put t v).ob = σ.ob := by
 funext u j
 induction σ generalizing t u with
 | nil => simp [St.put, St.ob]
 | cons e σ ih =>
  cases t with
  | zero => cases u <;> simp [St.put, St.ob]
  | succ t => cases u with
   | zero => simp [St.put, St.ob]
   | succ u => have := ih t u; simp only [St.ob, St.put] at this ⊢; simpa using this
theorem St.QI (σ : St) (t j : Nat) (o : Ob) (u : Nat) : (σ.Zu t j o).get u = σ.get u := by
 induction σ generalizing t u with
 | nil => simp [St.Zu, St.get]
 | cons e σ ih =>
  cases t with
  | zero => cases u <;> simp [St.Zu, St.get]
  | succ t => cases u with
   | zero => simp [St.Zu, St.get]
   | succ u => have := ih t u; simp only [St.get, St.Zu] at this ⊢; simpa using this
theorem Bk (os : List Ob) (j : Nat) (o : Ob) (i : Nat) : Yj (os.set j o) i = if i = j /\ j < os.length then o else Yj os i := by
 unfold Yj
 rw [List.getElem?_set]
 by_cases h : j = i
 ·subst h
  by_cases h2 : j < os.length
  ·simp [h2]
  ·simp [h2]
 ·simp [h, Ne.symm h]
theorem St.Xo (σ : St) (t j : Nat) (o : Ob) (u i : Nat) (hl : σ.ob t j ≠ .none) : (σ.Zu t j o).ob u i = if u = t /\ i = j then o else σ.ob u i := by
 induction σ generalizing t u with
 | nil => simp [St.ob] at hl
 | cons e σ ih =>
  cases t with
  | zero =>
   have hj : j < e.2.length := by
    simp only [St.ob, List.getElem?_cons_zero, Yj] at hl
    rcases Nat.lt_or_ge j e.2.length with h | h
    ·exact h
    ·simp [List.getElem?_eq_none h] at hl
   cases u with
   | zero => simp [St.Zu, St.ob, Bk, hj]
   | succ u => simp [St.Zu, St.ob]
  | succ t => cases u with
   | zero => simp [St.Zu, St.ob]
   | succ u =>
    have := ih t u (by simpa [St.ob] using hl)
    simp only [St.ob, St.Zu] at this ⊢; simpa using this
theorem St.VL (σ : St) (t : Nat) (v : V) (os : List Ob) (u : Nat) : (σ.new t v os).get u = if u = t /\ t < σ.length then v else σ.get u := by
 induction σ generalizing t u with
 | nil => simp [St.new, St.get]
 | cons e σ ih =>
  cases t with
  | zero => cases u <;> simp [St.new, St.get]
  | succ t => cases u with
   | zero => simp [St.new, St.get]
   | succ u => have := ih t u; simp only [St.get, St.new] at this ⊢; simpa using this
theorem St.Jt (σ : St) (t : Nat) (v : V) (os : List Ob) (u j : Nat) : (σ.new t v os).ob u j = if u = t /\ t < σ.length then Yj os j else σ.ob u j := by
 induction σ generalizing t u with
 | nil => simp [St.new, St.ob]
 | cons e σ ih =>
  cases t with
  | zero => cases u <;> simp [St.new, St.ob]
  | succ t => cases u with
   | zero => simp [St.new, St.ob]
   | succ u => have := ih t u; simp only [St.ob, St.new] at this ⊢; simpa using this
def N9 (h : Value) (len : Nat) : Value := match h with | .slice b _ c => .slice b len c | v => v
def sU (h : Value) (size n lo len : Nat) (v : Value) : Prop :=
 lo + len <= n /\ (len = n -> lo = 0 -> v = h) /\ (lo = 0 -> v = N9 h len) /\ ∃ base cap, v = .slice base len cap /\ len <= cap /\ cap <= maxLen /\ (base = none -> cap = 0) /\ (0 < len -> ∃ b fj, h = .slice (some ⟨b, 0, none⟩) n fj /\ base = some ⟨b, lo * size, none⟩)
def nc : Option Nat -> Value -> Value -> Prop
 | none, x, v => v = x
 | some k, x, v => ∃ b n cap, x = .slice (some ⟨b, 0, none⟩) n cap /\ v = .pointer (some ⟨b, k, none⟩)
def YF (T : CS) (h : Nat -> Nat -> Hd) (ob : Nat -> Nat -> Ob) (w : World) : At -> Value -> Prop
 | .any, v => v.oneCell' = true
 | .d x, v => Rd T w v x
 | .nil _, v => v = .slice none 0 0
 | .sref t j lo len, v => v.oneCell' = true /\ (∀ q size rows, ob t j = .arr q size rows -> sU (h t j).v size rows.length lo len v) /\ (∀ size rows, ob t j = .lit size rows -> sU (h t j).v size rows.length lo len v)
 | .ptr t j i c, v => v.oneCell' = true /\ (∀ q size rows, ob t j = .arr q size rows -> ∃ b n cap, (h t j).v = .slice (some ⟨b, 0, none⟩) n cap /\ v = .pointer (some ⟨b, i * size + c, none⟩))
 | .bptr t c, v => v.oneCell' = true /\ ∀ cells, ob t 0 = .box cells -> ∃ b, (h t 0).v = .pointer (some ⟨b, 0, none⟩) /\ v = .pointer (some ⟨b, c, none⟩)
 | .fn f t, v => v.oneCell' = true /\ ∀ cells, ob t 0 = .box cells -> ∃ b, (h t 0).v = .pointer (some ⟨b, 0, none⟩) /\ v = .func (.func f) #[] #[.pointer (some ⟨b, 0, none⟩)]
 | .rptr r c, v => ∃ b off, ∃ g : Nat -> Value, v = .pointer (some ⟨b, off + c, none⟩) /\ ∀ k d, r[k]? = some d -> w.cell? ⟨b, off + k, none⟩ = some (g k) /\ T b (off + k) /\ Rd T w (g k) d
 | .tref t j i c o, v => v.oneCell' = true /\ ∀ size rows, ob t j = .arr true size rows -> nc o ((h t j).n (i * size + c)) v
theorem YF.QL {ob : Nat -> Nat -> Ob} {x : At} (r : YF T h ob w x v) : v.oneCell' = true := by
 cases x with
 | any => exact r
 | d x => exact Rd.QL r
 | nil s => cases r; rfl
 | sref => exact r.1
 | ptr => exact r.1
 | bptr => exact r.1
 | fn => exact r.1
 | tref => exact r.1
 | rptr r' c => obtain ⟨b, off, g, rfl, _⟩ := r; rfl
inductive Z9 {α β : Type} (R : α -> β -> Prop) : List α -> List β -> Prop
 | nil : Z9 R [] []
 | cons {a b l m} : R a b -> Z9 R l m -> Z9 R (a :: l) (b :: m)
theorem Z9.imp {α β : Type} {R S : α -> β -> Prop} (h : ∀ a b, R a b -> S a b) {l : List α} {m : List β} (x : Z9 R l m) : Z9 S l m := by
 induction x with
 | nil => exact .nil
 | cons r _ ih => exact .cons (h _ _ r) ih
theorem Z9.length {α β : Type} {R : α -> β -> Prop} {l : List α} {m : List β} (x : Z9 R l m) : l.length = m.length := by
 induction x with
 | nil => rfl
 | cons r _ ih => simp [ih]
theorem Z9.get {α β : Type} {R : α -> β -> Prop} {l : List α} {m : List β} (x : Z9 R l m) : ∀ (i : Nat) (a : α), l[i]? = some a -> ∃ b, m[i]? = some b /\ R a b := by
 induction x with
 | nil => intro i a h; simp at h
 | cons r _ ih =>
  intro i a h
  cases i with
  | zero => simp at h; subst h; exact ⟨_, zAF, r⟩
  | succ i => simpa using ih i a zBd
theorem Z9.get' {α β : Type} {R : α -> β -> Prop} {l : List α} {m : List β} (x : Z9 R l m) : ∀ (i : Nat) (b : β), m[i]? = some b -> ∃ a, l[i]? = some a /\ R a b := by
 induction x with
 | nil => intro i a h; simp at h
 | cons r _ ih =>
  intro i a h
  cases i with
  | zero => simp at h; subst h; exact ⟨_, zAF, r⟩
  | succ i => simpa using ih i a zBd
theorem Z9.xk {α β : Type} {R : α -> β -> Prop} {l : List α} {m : List β} (hl : l.length = m.length) (h : ∀ (i : Nat) (a : α) (b : β), l[i]? = some a -> m[i]? = some b -> R a b) : Z9 R l m := by
 induction l generalizing m with
 | nil => cases m with
  | nil => exact .nil
  | cons b m => simp at hl
 | cons a l ih => cases m with
  | nil => simp at hl
  | cons b m => exact .cons (h 0 a b zAF zAF) (ih (by simpa using hl) (fun i a b ha hb => h (i + 1) a b (by simpa using ha) (by simpa using hb)))
theorem Z9.append {α β : Type} {R : α -> β -> Prop} {l l' : List α} {m m' : List β} (x : Z9 R l m) (y : Z9 R l' m') : Z9 R (l ++ l') (m ++ m') := by
 induction x with
 | nil => exact y
 | cons r _ ih => exact .cons r ih
theorem Z9.take {α β : Type} {R : α -> β -> Prop} {l : List α} {m : List β} (x : Z9 R l m) (n : Nat) : Z9 R (l.take n) (m.take n) := by
 induction x generalizing n with
 | nil => simpa using Z9.nil
 | cons r _ ih => cases n with
  | zero => simpa using Z9.nil
  | succ n => simpa using Z9.cons r (ih n)
theorem Z9.drop {α β : Type} {R : α -> β -> Prop} {l : List α} {m : List β} (x : Z9 R l m) (n : Nat) : Z9 R (l.drop n) (m.drop n) := by
 induction x generalizing n with
 | nil => simpa using Z9.nil
 | cons r x ih => cases n with
  | zero => simpa using Z9.cons r x
  | succ n => simpa using ih n
theorem Z9.set {α β : Type} {R : α -> β -> Prop} {l : List α} {m : List β} (x : Z9 R l m) (i : Nat) {a : α} {b : β} (r : R a b) : Z9 R (l.set i a) (m.set i b) := by
 induction x generalizing i with
 | nil => simpa using Z9.nil
 | cons r' x ih => cases i with
  | zero => simpa using Z9.cons r x
  | succ i => simpa using Z9.cons r' (ih i)
theorem Z9.mem {α β : Type} {R : α -> β -> Prop} {l : List α} {m : List β} (x : Z9 R l m) {b : β} (h : b ∈ m) : ∃ a, a ∈ l /\ R a b := by
 obtain ⟨i, hi⟩ := List.mem_iff_getElem?.1 h
 obtain ⟨a, ha, r⟩ := x.get' i b hi
 exact ⟨a, List.mem_of_getElem? ha, r⟩
def zK (T : CS) (h : Nat -> Nat -> Hd) (ob : Nat -> Nat -> Ob) (w : World) : V -> Value -> Prop
 | .any, _ => True
 | .one x, v => YF T h ob w x v
 | .agg xs, v => ∃ cs : Array Value, v = .agg cs /\ Z9 (YF T h ob w) xs cs.toList
 | .tup _, _ => False
 | .cnd _ _, _ => False
 | .fix _ _, _ => False
def JP (T : CS) (h : Nat -> Nat -> Hd) (ob : Nat -> Nat -> Ob) (w : World) : V -> Value -> Prop
 | .tup xs, v => ∃ vs : Array Value, v = .tuple vs /\ Z9 (zK T h ob w) xs vs.toList
 | .cnd g x, v => (g = true -> zK T h ob w x v) /\ (g = false -> v = undef)
 | .any, _ => True
 | .one x, v => YF T h ob w x v
 | .agg xs, v => zK T h ob w (.agg xs) v
 | .fix u x, v => v = u /\ zK T h ob w x v
theorem zK.up {ob : Nat -> Nat -> Ob} {x : V} (r : zK T h ob w x v) : JP T h ob w x v := by
 cases x <;> first | exact r | exact r.elim
def blk : Value -> Option Nat
 | .slice (some a) _ _ => some a.block
 | .pointer (some a) => some a.block
 | _ => none
def Hd.of (v : Value) : Hd := ⟨v, fun _ => undef, fun b => blk v = some b⟩
inductive Own (w : World) : Value -> D -> (Nat -> Prop) -> Prop
 | int (k : IntKind) (n : Int) (S : Nat -> Prop) : Own w (.int k n) (.int k n) S
 | bool (b : Bool) (S : Nat -> Prop) : Own w (.bool b) (.bool b) S
 | str (s : ByteArray) (S : Nat -> Prop) : Own w (.string s) (.str s) S
 | unk (v : Value) (h : v.oneCell' = true) (S : Nat -> Prop) : Own w v .unk S
 | sl (v : Value) (size : Nat) (rows : List (List D)) (S : Nat -> Prop) (e : TypeId) (xs : List Value) (Sk : Nat -> Nat -> Prop) (ho : w.ownsRow 0 e size v rows.length xs) (hz : ∀ r ∈ rows, r.length = size)
   (hb : ∀ b, blk v = some b -> S b) (hl : xs.length = rows.flatten.length) (hk : ∀ k x d, xs[k]? = some x -> rows.flatten[k]? = some d -> Own w x d (Sk k))
   (hs : ∀ k b, Sk k b -> S b /\ blk v ≠ some b) (hd : ∀ i j b, Sk i b -> Sk j b -> i = j) : Own w v (.sl size rows) S
def KT (w : World) (xs : List Value) (ds : List D) (S : Nat -> Prop) : Prop :=
 xs.length = ds.length /\ ∃ Sk : Nat -> Nat -> Prop, (∀ k x d, xs[k]? = some x -> ds[k]? = some d -> Own w x d (Sk k)) /\ (∀ k b, Sk k b -> S b) /\ (∀ i j b, Sk i b -> Sk j b -> i = j)
def J0 (T : CS) (h : Nat -> Nat -> Hd) (ob : Nat -> Nat -> Ob) (w : World) (hd : Hd) : Ob -> Prop
 | .none => True
 | .box cells => ∃ b cs e, hd.v = .pointer (some ⟨b, 0, none⟩) /\ w.heap[b]? = some (.cells cs e (0, 0)) /\ Z9 (YF T h ob w) cells cs.toList
 | .arr false size rows => ∃ e xs, w.ownsRow 0 e size hd.v rows.length xs /\ (∀ r ∈ rows, r.length = size) /\ Z9 (Rd T w) xs rows.flatten
 | .arr true size rows => ∃ e xs, w.ownsRow 0 e size hd.v rows.length xs /\ (∀ r ∈ rows, r.length = size) /\ KT w xs rows.flatten (fun b => hd.u b /\ blk hd.v ≠ some b) /\ (∀ k x d, xs[k]? = some x -> rows.flatten[k]? = some d -> d.scalar = false -> hd.n k = x)
 | .lit size rows => ∃ e xs, w.ownsRow 0 e size hd.v rows.length xs /\ (∀ r ∈ rows, r.length = size) /\ Z9 (YF T h ob w) rows.flatten xs
def Tof (T0 : CS) (X : Nat -> Prop) : CS := fun b k => T0 b k \/ X b
structure Y8 (B : Nat -> Prop) (w w' : World) : Prop where
 os : w'.os = w.os
 tape : w'.tape = w.tape
 output : w'.output = w.output
 size : w.heap.size <= w'.heap.size
 block : ∀ k, B k -> w'.heap[k]? = w.heap[k]?
theorem Y8.refl (B : Nat -> Prop) (w : World) : Y8 B w w := ⟨rfl, rfl, rfl, Nat.le_refl _, fun _ _ => rfl⟩
theorem Y8.trans {a b c : World} (h : Y8 B a b) (k : Y8 B b c) : Y8 B a c :=
 ⟨k.os.trans h.os, k.tape.trans h.tape, k.output.trans h.output, Nat.le_trans h.size k.size, fun i hi => (k.block i hi).trans (h.block i hi)⟩
theorem Y8.Nh (h : RowKit.Below w.heap.size w w') (hB : ∀ b, B b -> b < w.heap.size) : Y8 B w w' := ⟨h.os, h.tape, h.output, h.size, fun k hk => h.block k (hB k hk)⟩
structure Rel (T0 : CS) (B : Nat -> Prop) (σ : St) (a : Act) (w : World) (X : Nat -> Prop) (h : Nat -> Nat -> Hd) : Prop where
 size : a.tmps.size = σ.length
 defers : a.defers = []
 hB : ∀ b, B b -> b < w.heap.size
 hX : ∀ b, X b -> ¬ B b /\ b < w.heap.size
 hT : ∀ b k, T0 b k -> B b
 slot : ∀ t, t < σ.length -> JP (Tof T0 X) h σ.ob w (σ.get t) (a.tmps.getD t undef)
 obj : ∀ t j, J0 (Tof T0 X) h σ.ob w (h t j) (σ.ob t j)
 ub : ∀ t j b, σ.ob t j ≠ .none -> blk (h t j).v = some b -> (h t j).u b
 own : ∀ t j b, σ.ob t j ≠ .none -> (h t j).u b -> ¬ B b /\ ¬ X b /\ b < w.heap.size
 inj : ∀ t j t' j' b, σ.ob t j ≠ .none -> σ.ob t' j' ≠ .none -> (h t j).u b -> (h t' j').u b -> t = t' /\ j = j'
def Jz (T0 : CS) (B : Nat -> Prop) (σ : St) (a : Act) (w : World) : Prop := ∃ X h, Rel T0 B σ a w X h
theorem Rel.pd (r : Rel T0 B σ a w X h) (ho : σ.ob t j ≠ .none) (hb : blk (h t j).v = some b) : ¬ B b /\ ¬ X b /\ b < w.heap.size :=
 r.own t j b ho (r.ub t j b ho hb)
section
variable {ob : Nat -> Nat -> Ob}
theorem YF.mono (hT : ∀ b k v, T b k -> w.cell? ⟨b, k, none⟩ = some v -> w'.cell? ⟨b, k, none⟩ = some v /\ T' b k) {x : At}
  (r : YF T h ob w x v) : YF T' h ob w' x v := by
 cases x with
 | any => exact r
 | d x => exact Rd.mono hT r
 | nil s => exact r
 | sref t j lo len => exact r
 | ptr t j i c => exact r
 | bptr t c => exact r
 | fn f t => exact r
 | tref t j i c o => exact r
 | rptr rr c =>
  obtain ⟨b, off, g, e, hk⟩ := r
  exact ⟨b, off, g, e, fun k d hd => ⟨(hT _ _ _ (hk k d hd).2.1 (hk k d hd).1).1, (hT _ _ _ (hk k d hd).2.1 (hk k d hd).1).2, Rd.mono hT (hk k d hd).2.2⟩⟩
theorem zK.mono (hT : ∀ b k v, T b k -> w.cell? ⟨b, k, none⟩ = some v -> w'.cell? ⟨b, k, none⟩ = some v /\ T' b k) {x : V}
  (r : zK T h ob w x v) : zK T' h ob w' x v := by
 cases x with
 | any => exact r
 | one x => exact YF.mono hT r
 | agg xs => obtain ⟨cs, e, r⟩ := r; exact ⟨cs, e, r.imp fun _ _ => YF.mono hT⟩
 | tup xs => exact r.elim
 | cnd g x => exact r.elim
 | fix u x => exact r.elim
theorem JP.mono (hT : ∀ b k v, T b k -> w.cell? ⟨b, k, none⟩ = some v -> w'.cell? ⟨b, k, none⟩ = some v /\ T' b k) {x : V}
  (r : JP T h ob w x v) : JP T' h ob w' x v := by
 cases x with
 | any => exact r
 | one x => exact YF.mono hT r
 | agg xs => exact zK.mono (x := .agg xs) hT r
 | tup xs => obtain ⟨vs, e, r⟩ := r; exact ⟨vs, e, r.imp fun _ _ => zK.mono hT⟩
 | cnd g x => exact ⟨fun hg => zK.mono hT (r.1 hg), r.2⟩
 | fix u x => exact ⟨r.1, zK.mono hT r.2⟩
end
def unc : V -> V
 | .cnd _ x => x
 | .fix _ x => x
 | x => x
def gOf : V -> Bool
 | .cnd g _ => g
 | _ => true
def ZR (P : Program) (t : TypeId) : TypeId :=
 match P.underlying t with
 | some (.slice e) => e
 | some (.array _ e) => e
 | _ => 0
def XZ (P : Program) (t : TypeId) : Bool :=
 match P.underlying t with
 | some (.slice e) => (P.info? e).isSome
 | _ => false
def GV (P : Program) (t : TypeId) : Option Nat :=
 match P.underlying t with
 | some (.array n e) => if (P.info? e).isSome then some n else none
 | _ => none
def TM (P : Program) (t : TypeId) : Bool :=
 match P.underlying t with
 | some (.struct _) | some (.array _ _) => true
 | _ => false
def qT (P : Program) (t : TypeId) : Bool :=
 (P.underlying t).isSome && (P.info? t).isSome && (TM P t || P.cellsOf t == 1)
def JA (P : Program) (t : TypeId) (f : Nat) : Nat :=
 match P.underlying t with
 | some (.struct fs) => (match fs[f]? with | some fd => fd.offset | none => 0)
 | _ => 0
def qg (P : Program) (t : TypeId) (f : Nat) : TypeId :=
 match P.underlying t with
 | some (.struct fs) => (match fs[f]? with | some fd => fd.type | none => 0)
 | _ => 0
def jy (P : Program) (t : TypeId) (f : Nat) : Bool :=
 match P.underlying t with
 | some (.struct fs) => (match fs[f]? with | some fd => (P.info? fd.type).isSome && decide (P.cellsOf fd.type ≠ 0) | none => false)
 | _ => false
def AV (P : Program) (t : TypeId) : Option IntKind :=
 match P.underlying t with
 | some (.int k) => some k
 | _ => none
def SB (P : Program) (t : TypeId) : Bool :=
 match P.underlying t with
 | some .string => true
 | _ => false
def Lv (P : Program) (t : TypeId) : Bool :=
 match P.underlying t with
 | some .bool => true
 | _ => false
def cst (P : Program) (ty : TypeId) : Value -> V
 | .int k n => .one (.d (.int k n))
 | .bool b => .one (.d (.bool b))
 | .string s => .one (.d (.str s))
 | .slice none 0 0 => .one (.nil (P.cellsOf (ZR P ty)))
 | _ => .any
def look (P : Program) (σ : St) (ty : TypeId) : Operand -> V
 | .tmp t => σ.get t
 | .const v => cst P ty v
 | _ => .any
theorem Rel.get (r : Rel T0 B σ a w X h) (t : Nat) : JP (Tof T0 X) h σ.ob w (σ.get t) (a.tmps.getD t undef) := by
 rcases Nat.lt_or_ge t σ.length with hl | hl
 ·exact r.slot t hl
 ·simp [St.get, List.getElem?_eq_none hl, JP]
theorem rl (T : CS) (h : Nat -> Nat -> Hd) (ob : Nat -> Nat -> Ob) (w : World) (ty : TypeId) (v : Value) : JP T h ob w (cst P ty v) v := by
 unfold cst
 split
 ·exact .int _ _
 ·exact .bool _
 ·exact .str _
 ·rfl
 ·trivial
theorem Rel.look (r : Rel T0 B σ a w X h) (ty : TypeId) (x : Operand) : JP (Tof T0 X) h σ.ob w (look P σ ty x) (a.eval x) := by
 cases x with
 | tmp t => exact r.get t
 | const v => exact rl _ _ _ _ _ _
 | global g => trivial
 | func f => trivial
theorem JP.unc {ob : Nat -> Nat -> Ob} {x : V} (r : JP T h ob w x v) (hg : gOf x = true) : JP T h ob w (unc x) v := by
 cases x with
 | cnd g x => exact zK.up (r.1 hg)
 | fix u x => exact zK.up r.2
 | _ => exact r
theorem Rel.arg (r : Rel T0 B σ a w X h) (ty : TypeId) (x : Operand) {v : V} (he : Vm.unc (Vm.look P σ ty x) = v) (hg : gOf (Vm.look P σ ty x) = true) : JP (Tof T0 X) h σ.ob w v (a.eval x) := by
 subst he
 exact (r.look ty x).unc hg
theorem Rel.put (r : Rel T0 B σ a w X h) (d : Nat) (v : V) (val : Value) (hv : JP (Tof T0 X) h σ.ob w v val) : Rel T0 B (σ.put d v) (a.put (some d) val) w X h := by
 refine ⟨by simp [Act.put, r.size, St.JV], r.defers, r.hB, r.hX, r.hT, fun t ht => ?_, fun t j => ?_, fun t j b => ?_, fun t j b => ?_, fun t j t' j' b => ?_⟩
 ·rw [St.JX, St.zg]
  rw [St.JV] at ht
  by_cases hd : t = d /\ d < σ.length
  ·obtain ⟨rfl, hl⟩ := hd
   simp only [hl, and_self, if_true]
   have : (a.tmps.setIfInBounds t val).getD t undef = val := by simp [r.size, hl]
   simp only [Act.put, this]; exact hv
  ·rw [if_neg hd]
   have lA : d ≠ t := fun e => hd ⟨e.symm, e ▸ ht⟩
   have : (a.tmps.setIfInBounds d val).getD t undef = a.tmps.getD t undef := by simp [Array.getElem?_setIfInBounds_ne lA]
   simp only [Act.put, this]; exact r.slot t ht
 ·rw [St.JX]; exact r.obj t j
 ·rw [St.JX]; exact r.ub t j b
 ·rw [St.JX]; exact r.own t j b
 ·rw [St.JX]; exact r.inj t j t' j' b
def ldV (P : Program) (T : TypeId) (xs : List At) : V := if TM P T then .agg xs else (match xs with | [x] => .one x | _ => .any)
def Fb (k : IntKind) (x y : Int) : Int := k.wrap (BitVec.ofInt k.bits x &&& BitVec.ofInt k.bits y).toNat
def iOr (k : IntKind) (x y : Int) : Int := k.wrap (BitVec.ofInt k.bits x ||| BitVec.ofInt k.bits y).toNat
def sG (k : IntKind) (x y : Int) : Int := k.wrap (BitVec.ofInt k.bits x ^^^ BitVec.ofInt k.bits y).toNat
def GS (op : BinOp) (k : IntKind) (x y : Int) (v : V) : Prop :=
 match op with
 | .eql => v = .one (.d (.bool (x == y)))
 | .neq => v = .one (.d (.bool (x != y)))
 | .lss => v = .one (.d (.bool (decide (x < y))))
 | .leq => v = .one (.d (.bool (decide (x <= y))))
 | .gtr => v = .one (.d (.bool (decide (x > y))))
 | .geq => v = .one (.d (.bool (decide (x >= y))))
 | .add => v = .one (.d (.int k (k.wrap (x + y))))
 | .sub => v = .one (.d (.int k (k.wrap (x - y))))
 | .mul => v = .one (.d (.int k (k.wrap (x * y))))
 | .quo => y ≠ 0 /\ v = .one (.d (.int k (k.wrap (x.tdiv y))))
 | .rem => y ≠ 0 /\ v = .one (.d (.int k (x.tmod y)))
 | .and => v = .one (.d (.int k (Fb k x y)))
 | .or => v = .one (.d (.int k (iOr k x y)))
 | .xor => v = .one (.d (.int k (sG k x y)))
 | .shl => 0 <= y /\ v = .one (.d (.int k (k.wrap (x * 2 ^ (min y.toNat k.bits)))))
 | .shr => 0 <= y /\ v = .one (.d (.int k (x.fdiv (2 ^ (min y.toNat k.bits)))))
 | _ => False
def FA (op : BinOp) (x y : ByteArray) (v : V) : Prop :=
 match op with
 | .add => ((x.size + y.size : Nat) : Int) <= 9223372036854775807 /\ v = .one (.d (.str (x ++ y)))
 | .eql => v = .one (.d (.bool (decide (x = y))))
 | .neq => v = .one (.d (.bool (!decide (x = y))))
 | _ => False
def MB (op : BinOp) (x y : Bool) (v : V) : Prop :=
 match op with
 | .eql => v = .one (.d (.bool (x == y)))
 | .neq => v = .one (.d (.bool (!(x == y))))
 | _ => False
theorem Av {x y : Int} {v : V} {t : TypeId} (hk : (op = .shl \/ op = .shr) \/ kk = k) (hb : GS op k x y v) (w : World) :
  ∃ d, v = .one (.d d) /\ ∃ val, (binOp op t (.int k x) (.int kk y)).run P w = .ok val w /\ ∀ T w', Rd T w' val d := by
 cases op <;> simp only [GS] at hb
 case shl => obtain ⟨h0, rfl⟩ := hb; exact ⟨_, rfl, _, by simp [binOp, Op.shift, Int.not_lt.2 h0], fun _ _ => .int _ _⟩
 case shr => obtain ⟨h0, rfl⟩ := hb; exact ⟨_, rfl, _, by simp [binOp, Op.shift, Int.not_lt.2 h0], fun _ _ => .int _ _⟩
 all_goals (have hkk : kk = k := by rcases hk with (hk | hk) | hk <;> first | exact hk | cases hk)
 all_goals subst hkk
 case quo => obtain ⟨h0, rfl⟩ := hb; exact ⟨_, rfl, _, by simp [binOp, Op.intDiv, h0], fun _ _ => .int _ _⟩
 case rem => obtain ⟨h0, rfl⟩ := hb; exact ⟨_, rfl, _, by simp [binOp, Op.intDiv, h0], fun _ _ => .int _ _⟩
 case add => subst hb; exact ⟨_, rfl, _, by simp [binOp, Op.intArith], fun _ _ => .int _ _⟩
 case sub => subst hb; exact ⟨_, rfl, _, by simp [binOp, Op.intArith], fun _ _ => .int _ _⟩
 case mul => subst hb; exact ⟨_, rfl, _, by simp [binOp, Op.intArith], fun _ _ => .int _ _⟩
 case and => subst hb; exact ⟨_, rfl, _, by simp [binOp, Op.intBits, Fb], fun _ _ => .int _ _⟩
 case or => subst hb; exact ⟨_, rfl, _, by simp [binOp, Op.intBits, iOr], fun _ _ => .int _ _⟩
 case xor => subst hb; exact ⟨_, rfl, _, by simp [binOp, Op.intBits, sG], fun _ _ => .int _ _⟩
 all_goals (subst hb; exact ⟨_, rfl, .bool _, by simp only [binOp, Op.intCmp, ne_eq, not_true_eq_false, if_false]; rfl, fun _ _ => .bool _⟩)
theorem AQ (x y : ByteArray) : (x.toList == y.toList) = decide (x = y) := by
 rw [ByteArray.toList_eq, ByteArray.toList_eq, Bool.eq_iff_iff]
 simp only [beq_iff_eq, decide_eq_true_eq]
 constructor
 ·intro hh; cases x; cases y; simp_all
 ·rintro rfl; rfl
theorem Ac {x y : ByteArray} {v : V} {t : TypeId} (hb : FA op x y v) (w : World) :
  ∃ d, v = .one (.d d) /\ ∃ val, (binOp op t (.string x) (.string y)).run P w = .ok val w /\ ∀ T w', Rd T w' val d := by
 cases op <;> simp only [FA] at hb
 case add => obtain ⟨h0, rfl⟩ := hb; exact ⟨_, rfl, _, by simp only [binOp, Op.stringOp]; rw [if_neg (by simp [IntKind.max, IntKind.signed, IntKind.bits]; omega)]; rfl, fun _ _ => .str _⟩
 case eql => subst hb; exact ⟨_, rfl, .bool _, by simp only [binOp, Op.stringOp, AQ]; rfl, fun _ _ => .bool _⟩
 case neq => subst hb; exact ⟨_, rfl, .bool _, by simp only [binOp, Op.stringOp, AQ]; rfl, fun _ _ => .bool _⟩
theorem run_equalIn_bool {t : TypeId} (hu : P.underlying t = some .bool) (d : Nat) (x y : Bool) (w : World) : (Op.equalIn (d + 1) t (.bool x) (.bool y)).run P w = .ok (x == y) w := by
 simp [Op.equalIn, run_underlying hu]
theorem BT {x y : Bool} {v : V} {t : TypeId} (ht : Lv P t = true) (hb : MB op x y v) (w : World) :
  ∃ d, v = .one (.d d) /\ ∃ val, (binOp op t (.bool x) (.bool y)).run P w = .ok val w /\ ∀ T w', Rd T w' val d := by
 have hu : P.underlying t = some .bool := by
  unfold Lv at ht; split at ht <;> first | assumption | cases ht
 cases op <;> simp only [MB] at hb
 case eql => subst hb; exact ⟨_, rfl, _, by simp only [binOp, Op.equal, Op.maxDepth, Sem.run_bind, run_equalIn_bool hu 9999, Result.andThen_ok, Sem.run_pure], fun _ _ => .bool _⟩
 case neq => subst hb; exact ⟨_, rfl, _, by simp only [binOp, Op.equal, Op.maxDepth, Sem.run_bind, run_equalIn_bool hu 9999, Result.andThen_ok, Sem.run_pure], fun _ _ => .bool _⟩
def Vq (P : Program) (σ : St) (x : Operand) (k : IntKind) (n : Int) : Prop := gOf (look P σ 0 x) = true /\ unc (look P σ 0 x) = .one (.d (.int k n))
def bnd (P : Program) (σ : St) (hR : Nat) : Option Operand -> Nat -> Prop
 | none, n => n = hR
 | some x, n => ∃ k i, gOf (look P σ 0 x) = true /\ unc (look P σ 0 x) = .one (.d (.int k i)) /\ 0 <= i /\ n = i.toNat
def cut {α : Type} (xs : List α) (off n : Nat) : List α := (xs.drop off).take n
def Wa (P : Program) : Nat -> TypeId -> Option (List At)
 | 0, _ => none
 | n + 1, t =>
  match P.underlying t with
  | some .bool => some [.d (.bool false)]
  | some (.int k) => some [.d (.int k 0)]
  | some .string => some [.d (.str ⟨#[]⟩)]
  | some (.slice e) => some [.nil (P.cellsOf e)]
  | some (.struct fs) => (fs.toList.mapM (fun f => Wa P n f.type)).map List.flatten
  | some (.array m e) => (Wa P n e).map (fun r => (List.replicate m r).flatten)
  | _ => none
def zAt : At -> Value -> Bool
 | .d (.bool b), .bool b' => b == b'
 | .d (.int k n), .int k' n' => k == k' && n == n'
 | .d (.str s), .string s' => s.data.toList == s'.data.toList
 | .nil _, .slice none 0 0 => true
 | _, _ => false
def vX : List At -> List Value -> Bool
 | [], [] => true
 | x :: xs, v :: vs => zAt x v && vX xs vs
 | _, _ => false
def Qc (P : Program) (t : TypeId) : Bool :=
 match Wa P 12 t, P.info? t with
 | some row, some i => (match i.zero with | some z => vX row z.cells.toList && i.size == row.length | none => false)
 | _, _ => false
theorem r8 {x : At} (hz : zAt x v = true) (T : CS) (h : Nat -> Nat -> Hd) (ob : Nat -> Nat -> Ob) (w : World) : YF T h ob w x v := by
 unfold zAt at hz
 split at hz
 ·simp at hz; subst hz; exact .bool _
 ·simp at hz; obtain ⟨rfl, rfl⟩ := hz; exact .int _ _
 ·rename_i s s'
  simp at hz
  have : s = s' := by cases s; cases s'; simp_all
  subst this; exact .str _
 ·rfl
 ·cases hz
theorem tV {xs : List At} (hz : vX xs vs = true) (T : CS) (h : Nat -> Nat -> Hd) (ob : Nat -> Nat -> Ob) (w : World) : Z9 (YF T h ob w) xs vs := by
 induction xs generalizing vs with
 | nil => cases vs with
  | nil => exact .nil
  | cons v vs => simp [vX] at hz
 | cons x xs ih => cases vs with
  | nil => simp [vX] at hz
  | cons v vs => simp [vX] at hz; exact .cons (r8 hz.1 _ _ _ _) (ih hz.2)
theorem GF {t : TypeId} {row : List At} (hz : Qc P t = true) (hr : Wa P 12 t = some row) :
  ∃ i z, P.info? t = some i /\ i.zero = some z /\ i.size = row.length /\ (∀ T h ob w, Z9 (YF T h ob w) row z.cells.toList) := by
 unfold Qc at hz
 rw [hr] at hz
 split at hz
 ·rename_i lD i iu hi
  cases iu
  split at hz
  ·rename_i z fU
   simp at hz
   exact ⟨i, z, hi, fU, hz.2, fun T h ob w => tV hz.1 T h ob w⟩
  ·cases hz
 ·cases hz
def V.cells : V -> List At
 | .one c => [c]
 | .agg xs => xs
 | _ => []
def V.flat : V -> Bool
 | .one _ => true
 | .agg _ => true
 | _ => false
def place {α : Type} (r : List α) (off : Nat) (xs : List α) : List α := r.take off ++ xs ++ r.drop (off + xs.length)
def jw (P : Program) (T : TypeId) (i : Nat) : Nat := match P.underlying T with | some (.array _ e) => i * P.cellsOf e | _ => JA P T i
def bTy (P : Program) (T : TypeId) (i : Nat) : TypeId := match P.underlying T with | some (.array _ e) => e | _ => qg P T i
def bOk (P : Program) (T : TypeId) (i : Nat) : Bool := match P.underlying T with
 | some (.array _ e) => (P.info? e).isSome
 | some (.struct fs) => fs.all (fun f => (P.info? f.type).isSome) && decide (i < fs.size)
 | _ => false
def TW (P : Program) (σ : St) (T : TypeId) : List (Nat × Operand) -> List At -> List At -> Prop
 | [], r, out => out = r
 | (i, x) :: ps, r, out => bOk P T i = true /\ gOf (look P σ (bTy P T i) x) = true /\ (unc (look P σ (bTy P T i) x)).flat = true /\
   (unc (look P σ (bTy P T i) x)).cells.length = P.cellsOf (bTy P T i) /\ jw P T i + P.cellsOf (bTy P T i) <= r.length /\
   TW P σ T ps (place r (jw P T i) (unc (look P σ (bTy P T i) x)).cells) out
def PU (P : Program) (t : TypeId) : Bool := match P.underlying t with | some .bool => true | some (.int _) => true | some .string => true | _ => false
def UY (P : Program) : List Field -> Nat -> Bool
 | [], _ => true
 | f :: fs, i => decide (f.name ≠ "_") && f.offset == i && PU P f.type && UY P fs (i + 1)
def Tj (P : Program) : List Field -> Nat -> Bool
 | [], _ => true
 | f :: fs, i => decide (f.name ≠ "_") && f.offset == i && (if PU P f.type then Tj P fs (i + 1) else (match P.underlying f.type with | some (.struct gs) => qT P f.type && TM P f.type && P.cellsOf f.type == gs.size && decide (0 < gs.size) && !P.stoodInHeld f.type && UY P gs.toList 0 && Tj P fs (i + gs.size) | _ => false))
def Ey (P : Program) (f : Field) : List TypeId := if PU P f.type then [f.type] else (match P.underlying f.type with | some (.struct gs) => gs.toList.map (·.type) | _ => [])
def zd (P : Program) (T : TypeId) : List TypeId := (P.fieldsOf T).toList.flatMap (Ey P)
def Pp (P : Program) (t : TypeId) : Bool := match P.underlying t with
 | some (.struct fs) => !P.stoodInHeld t && !P.eqGuardType P.depth t && Tj P fs.toList 0
 | _ => false
def sn (P : Program) (t : TypeId) : At -> At -> Option Bool
 | .d (.int k a), .d (.int k' b) => if k = k' /\ (AV P t).isSome then some (a == b) else none
 | .d (.bool a), .d (.bool b) => if Lv P t then some (a == b) else none
 | .d (.str a), .d (.str b) => if SB P t then some (decide (a = b)) else none
 | _, _ => none
def Q7 (P : Program) : List TypeId -> List At -> List At -> Option Bool
 | [], _, _ => some true
 | f :: fs, x :: xs, y :: ys => (match sn P f x y, Q7 P fs xs ys with | some p, some q => some (p && q) | _, _ => none)
 | _, _, _ => none
def BZ (P : Program) (op : BinOp) (T : TypeId) (x y v : V) : Prop :=
 match x, y with
 | .one (.d (.int k m)), .one (.d (.int k' n)) => ((op = .shl \/ op = .shr) \/ k' = k) /\ GS op k m n v
 | .one (.d (.str m)), .one (.d (.str n)) => FA op m n v
 | .one (.d (.bool m)), .one (.d (.bool n)) => Lv P T = true /\ MB op m n v
 | .agg xs, .agg ys => Pp P T = true /\ ∃ q, Q7 P (zd P T) xs ys = some q /\ ((op = .eql /\ v = .one (.d (.bool q))) \/ (op = .neq /\ v = .one (.d (.bool (!q)))))
 | _, _ => False
def W9 (t j i : Nat) : Nat -> List D -> List At
 | _, [] => []
 | c, x :: xs => (match x with | .sl _ _ => .tref t j i c none | x => .d x) :: W9 t j i (c + 1) xs
def SC (q : Bool) (t j i c : Nat) (xs : List D) : List At := match q with | true => W9 t j i c xs | false => xs.map .d
def Ya (P : Program) (σ : St) (op : Op) (ty : TypeId) (v : V) : Prop :=
 match op with
 | .move x => v = look P σ ty x
 | .assign x => v = look P σ ty x
 | .pick c a b => ∃ bc p q, gOf (look P σ ty c) = true /\ unc (look P σ ty c) = .one (.d (.bool bc)) /\ (bc = true -> unc (look P σ ty a) = .one (.d (.bool p))) /\ (bc = false -> unc (look P σ ty b) = .one (.d (.bool q))) /\
   (bc = true -> gOf (look P σ ty a) = true) /\ (bc = false -> gOf (look P σ ty b) = true) /\ v = .one (.d (.bool (cond bc p q)))
 | .load T x => gOf (look P σ 0 x) = true /\ qT P T = true /\
   (match unc (look P σ 0 x) with
   | .one (.bptr t c) => ∃ cells, σ.ob t 0 = .box cells /\ c + P.cellsOf T <= cells.length /\ v = ldV P T (cut cells c (P.cellsOf T))
   | .one (.ptr t j i c) => ∃ q size rows, σ.ob t j = .arr q size rows /\ i < rows.length /\ c + P.cellsOf T <= size /\ v = ldV P T (SC q t j i c (cut (rows.getD i []) c (P.cellsOf T)))
   | .one (.rptr r c) => c + P.cellsOf T <= r.length /\ v = ldV P T ((cut r c (P.cellsOf T)).map .d)
   | .one (.tref t j i c (some k)) => ∃ size rows s, σ.ob t j = .arr true size rows /\ i < rows.length /\ (rows.getD i [])[c]? = some (.sl 1 s) /\ P.cellsOf T = 1 /\ k < s.length /\ (s.getD k []).all D.scalar = true /\ v = ldV P T ((s.getD k []).map .d)
   | _ => False)
 | .fieldAddr T x f => gOf (look P σ 0 x) = true /\ jy P T f = true /\
   (match unc (look P σ 0 x) with
   | .one (.bptr t c) => (∃ cells, σ.ob t 0 = .box cells) /\ v = .one (.bptr t (c + JA P T f))
   | .one (.ptr t j i c) => (∃ q size rows, σ.ob t j = .arr q size rows) /\ v = .one (.ptr t j i (c + JA P T f))
   | .one (.rptr r c) => v = .one (.rptr r (c + JA P T f))
   | .one (.tref t j i c (some k)) => (∃ size rows, σ.ob t j = .arr true size rows) /\ v = .one (.tref t j i c (some (k + JA P T f)))
   | _ => False)
 | .nilCheck x => gOf (look P σ 0 x) = true /\
   (match unc (look P σ 0 x) with
   | .one (.bptr t c) => (∃ cells, σ.ob t 0 = .box cells) /\ v = .one (.bptr t c)
   | _ => False)
 | .indexAddr T x ix => ∃ k i, Vq P σ ix k i /\ 0 <= i /\ gOf (look P σ 0 x) = true /\
   (match unc (look P σ 0 x) with
   | .one (.d (.sl size rows)) => XZ P T = true /\ size = P.cellsOf (ZR P T) /\ 0 < size /\ i < (rows.length : Int) /\ v = .one (.rptr (rows.getD i.toNat []) 0)
   | .one (.sref t j lo len) => XZ P T = true /\ 0 < P.cellsOf (ZR P T) /\ (∃ q rows, σ.ob t j = .arr q (P.cellsOf (ZR P T)) rows) /\ i < (len : Int) /\ v = .one (.ptr t j (lo + i.toNat) 0)
   | .one (.bptr t c) => (∃ cells, σ.ob t 0 = .box cells) /\ (∃ n, GV P T = some n /\ 1 < n /\ i < (n : Int)) /\ v = .one (.bptr t (c + i.toNat * P.cellsOf (ZR P T)))
   | .one (.tref t j m c none) => XZ P T = true /\ 0 < P.cellsOf (ZR P T) /\ (∃ size rows s, σ.ob t j = .arr true size rows /\ m < rows.length /\ (rows.getD m [])[c]? = some (.sl (P.cellsOf (ZR P T)) s) /\ i < (s.length : Int)) /\ v = .one (.tref t j m c (some (i.toNat * P.cellsOf (ZR P T))))
   | _ => False)
 | .index T x ix => ∃ k i, Vq P σ ix k i /\ 0 <= i /\ gOf (look P σ 0 x) = true /\
   (match unc (look P σ 0 x) with
   | .one (.d (.str s)) => SB P T = true /\ i < (s.size : Int) /\ v = .one (.d (.int .u8 (s.data.toList.getD i.toNat 0).toNat))
   | .agg xs => (∃ n, GV P T = some n /\ i < (n : Int)) /\ qT P (ZR P T) = true /\ i.toNat * P.cellsOf (ZR P T) + P.cellsOf (ZR P T) <= xs.length /\ v = ldV P (ZR P T) (cut xs (i.toNat * P.cellsOf (ZR P T)) (P.cellsOf (ZR P T)))
   | _ => False)
 | .slice T x lo hi none => gOf (look P σ 0 x) = true /\
   (match unc (look P σ 0 x) with
   | .one (.d (.str s)) => SB P T = true /\ ∃ l h, bnd P σ 0 lo l /\ bnd P σ s.size hi h /\ l <= h /\ h <= s.size /\ v = .one (.d (.str (s.extract l h)))
   | .one (.d (.sl size rows)) => XZ P T = true /\ size = P.cellsOf (ZR P T) /\ ∃ l h, bnd P σ 0 lo l /\ bnd P σ rows.length hi h /\ l <= h /\ h <= rows.length /\ v = .one (.d (.sl size (cut rows l (h - l))))
   | .one (.sref t j o len) => XZ P T = true /\ (∃ q rows, σ.ob t j = .arr q (P.cellsOf (ZR P T)) rows) /\ ∃ l h, bnd P σ 0 lo l /\ bnd P σ len hi h /\ l <= h /\ h <= len /\ v = .one (.sref t j (o + l) (h - l))
   | _ => False)
 | .binOp op T x y _ => gOf (look P σ T x) = true /\ gOf (look P σ T y) = true /\
   BZ P op T (unc (look P σ T x)) (unc (look P σ T y)) v
 | .unOp op _ x => gOf (look P σ 0 x) = true /\
   (match op, unc (look P σ 0 x) with
   | .not, .one (.d (.bool b)) => v = .one (.d (.bool (!b)))
   | .neg, .one (.d (.int k n)) => v = .one (.d (.int k (k.wrap (-n))))
   | _, _ => False)
 | .convert S T x => gOf (look P σ 0 x) = true /\ (P.underlying S).isSome = true /\
   (match unc (look P σ 0 x) with
   | .one (.d (.int _ n)) => ∃ k, AV P T = some k /\ v = .one (.d (.int k (k.wrap n)))
   | _ => False)
 | .extract x i => gOf (look P σ 0 x) = true /\
   (match unc (look P σ 0 x) with
   | .tup xs => xs[i]? = some v /\ v.flat = true
   | _ => False)
 | .field T x f => gOf (look P σ 0 x) = true /\ jy P T f = true /\ qT P (qg P T f) = true /\
   (match unc (look P σ 0 x) with
   | .agg xs => JA P T f + P.cellsOf (qg P T f) <= xs.length /\ v = ldV P (qg P T f) (cut xs (JA P T f) (P.cellsOf (qg P T f)))
   | _ => False)
 | .build T parts => Qc P T = true /\ TM P T = true /\ ∃ z out, Wa P 12 T = some z /\ TW P σ T parts.toList z out /\ v = .agg out
 | .call c =>
   (match c.callee, c.args.toList, c.argTypes.toList with
   | .builtin .len, [x], [t] => gOf (look P σ t x) = true /\
     (match unc (look P σ t x) with
     | .one (.d (.str s)) => SB P t = true /\ v = .one (.d (.int .i64 s.size))
     | .one (.d (.sl _ rows)) => XZ P t = true /\ v = .one (.d (.int .i64 rows.length))
     | .one (.nil _) => XZ P t = true /\ v = .one (.d (.int .i64 0))
     | .one (.sref u j _ len) => XZ P t = true /\ ((∃ q size rows, σ.ob u j = .arr q size rows) \/ ∃ size rows, σ.ob u j = .lit size rows) /\ v = .one (.d (.int .i64 len))
     | .one (.tref u j i c none) => XZ P t = true /\ ∃ size rows n s, σ.ob u j = .arr true size rows /\ i < rows.length /\ (rows.getD i [])[c]? = some (.sl n s) /\ v = .one (.d (.int .i64 s.length))
     | _ => False)
   | .builtin .max, [x, y], _ => ∃ k m n, Vq P σ x k m /\ Vq P σ y k n /\ v = .one (.d (.int k (if n > m then n else m)))
   | .builtin .min, [x, y], _ => ∃ k m n, Vq P σ x k m /\ Vq P σ y k n /\ v = .one (.d (.int k (if n < m then n else m)))
   | _, _, _ => False)
 | _ => False
theorem xx (b off n : Nat) : (⟨b, off, none⟩ : Addr).add n = ⟨b, off + n, none⟩ := by
 unfold Addr.add; split <;> simp_all
theorem WK {T : TypeId} (ht : qT P T = true) : ∃ d i, P.underlying T = some d /\ P.info? T = some i /\ i.size = P.cellsOf T /\ (TM P T = true \/ P.cellsOf T = 1) := by
 simp only [qT, Bool.and_eq_true, Bool.or_eq_true, beq_iff_eq] at ht
 obtain ⟨⟨h1, h2⟩, h3⟩ := ht
 obtain ⟨d, hd⟩ := Option.isSome_iff_exists.1 h1
 obtain ⟨i, hi⟩ := Option.isSome_iff_exists.1 h2
 exact ⟨d, i, hd, hi, by simp [Program.cellsOf, hi], h3⟩
theorem Pe {T : TypeId} {d : TypeDesc} (hd : P.underlying T = some d) (w : World) : (isAgg T).run P w = .ok (TM P T) w := by
 unfold isAgg TM
 rw [hd]
 simp only [Sem.run_bind, run_underlying hd, Result.andThen_ok]
 cases d <;> simp
theorem Kb {T : TypeId} {i : TypeInfo} (hi : P.info? T = some i) (w : World) : (sizeOf T).run P w = .ok (P.cellsOf T) w := by
 simp [sizeOf, typeInfo, hi, Program.cellsOf]
theorem tU {T : TypeId} (ht : qT P T = true) (hl : cs.length = P.cellsOf T) (hc : ∀ j v, cs[j]? = some v -> w.cell? ⟨b, off + j, none⟩ = some v) :
  ∃ val, (Instr.loadAt T (.pointer (some ⟨b, off, none⟩))).run P w = .ok val w /\ (TM P T = true -> val = .agg cs.toArray) /\ (TM P T = false -> cs = [val]) := by
 obtain ⟨d, i, hd, hi, iZ, iU⟩ := WK ht
 cases eJ : TM P T with
 | true =>
  refine ⟨.agg cs.toArray, ?_, fun _ => rfl, (fun hh => by cases hh)⟩
  have := run_loadCells_list (P := P) w ⟨b, off, none⟩ cs (fun j v hv => by rw [xx]; exact hc j v hv)
  simp only [Instr.loadAt, Instr.sureAddr, loadVar, Sem.run_bind, Sem.run_pure, Result.andThen_ok, Pe hd, eJ, if_true, Kb hi, <- hl, this]
 | false =>
  rcases iU with iU | iU
  ·rw [eJ] at iU; cases iU
  ·rw [iU] at hl
   obtain ⟨val, rfl⟩ := List.length_eq_one_iff.1 hl
   refine ⟨val, ?_, (fun hh => by cases hh), fun _ => rfl⟩
   have hc0 := hc 0 val zAF
   simp only [Nat.add_zero] at hc0
   simp [Instr.loadAt, Instr.sureAddr, loadVar, Pe hd, eJ, load, Sem.run, hc0]
theorem vJ {T : TypeId} (_ht : qT P T = true) {ob : Nat -> Nat -> Ob} {xs : List At} (hx : Z9 (YF T' h ob w) xs cs)
  (h1 : TM P T = true -> val = .agg cs.toArray) (h2 : TM P T = false -> cs = [val]) : JP T' h ob w (ldV P T xs) val := by
 unfold ldV
 cases eJ : TM P T with
 | true => simp only [if_true]; exact ⟨_, h1 eJ, by simpa using hx⟩
 | false =>
  simp only [Bool.false_eq_true, if_false]
  rw [h2 eJ] at hx
  cases hx with
  | cons r hx => cases hx; exact r
theorem Z9.cut {α β : Type} {R : α -> β -> Prop} {l : List α} {m : List β} (x : Z9 R l m) (o n : Nat) : Z9 R (Vm.cut l o n) (Vm.cut m o n) := (x.drop o).take n
theorem XQ {α : Type} (l : List α) (o n : Nat) (hl : o + n <= l.length) : (cut l o n).length = n := by simp [cut]; omega
theorem zq {α : Type} (l : List α) (o n j : Nat) (v : α) (hv : (cut l o n)[j]? = some v) : l[o + j]? = some v := by
 simp only [cut, List.getElem?_take, List.getElem?_drop] at hv
 split at hv
 ·exact hv
 ·cases hv
theorem jd {α : Type} : ∀ (rows : List (List α)) (size : Nat), (∀ r ∈ rows, r.length = size) -> ∀ (i : Nat) (r : List α), rows[i]? = some r -> ∀ (j : Nat) (d : α), r[j]? = some d -> rows.flatten[i * size + j]? = some d
 | [], _, _, i, r, hr, _, _, _ => by simp at hr
 | r0 :: rows, size, hz, 0, r, hr, j, d, hd => by
  simp at hr; subst hr
  have hj : j < r0.length := (List.getElem?_eq_some_iff.1 hd).1
  simp [List.getElem?_append_left hj, hd]
 | r0 :: rows, size, hz, i + 1, r, hr, j, d, hd => by
  have ih := jd rows size (fun r hr => hz r zBx) i r (by simpa using hr) j d hd
  have h0 : r0.length = size := hz r0 zAF
  rw [List.flatten_cons, List.getElem?_append_right (by rw [h0, Nat.add_mul]; omega), h0]
  have : (i + 1) * size + j - size = i * size + j := by rw [Nat.add_mul]; omega
  rw [this]; exact ih
theorem YM {α : Type} (rows : List (List α)) (size : Nat) (hz : ∀ r ∈ rows, r.length = size) : rows.flatten.length = rows.length * size := by
 induction rows with
 | nil => simp
 | cons r rows ih => rw [List.flatten_cons, List.length_append, ih (fun r hr => hz r zBx), hz r zAF, List.length_cons, Nat.add_mul]; omega
theorem Rd.row (r : Rd T w v (.sl size rows)) (i : Nat) (hi : i < rows.length) (iZ : 0 < size) :
  ∃ a len cap, v = .slice (some a) len cap /\ len = rows.length /\ a.spot = none /\
   ∃ g : Nat -> Value, ∀ k d, (rows.getD i [])[k]? = some d -> w.cell? ⟨a.block, a.off + i * size + k, none⟩ = some (g k) /\ T a.block (a.off + i * size + k) /\ Rd T w (g k) d := by
 cases r with
 | nil => simp at hi
 | sl a len cap size rows g hl hc hm hz hs hg hr =>
  have lv : rows[i]? = some (rows.getD i []) := zAp
  have lA : rows.flatten ≠ [] := by
   have hlen := YM rows size hz
   have hp : 0 < rows.length * size := Nat.mul_pos zAA iZ
   intro he
   have h0 : rows.flatten.length = 0 := by rw [he]; rfl
   omega
  refine ⟨a, len, cap, rfl, hl.symm, hs lA, fun k => g (i * size + k), fun k d hd => ?_⟩
  have hf := jd rows size hz i _ lv k d hd
  have h1 := hg _ _ hf
  rw [Nat.add_assoc]
  exact ⟨h1.1, h1.2, hr _ _ hf⟩
theorem EK (r : Rd T w v (.sl size rows)) : ∀ x ∈ rows, x.length = size := by
 cases r with
 | nil => intro x hx; cases hx
 | sl a len cap size rows g hl hc hm hz hs hg hr => exact hz
theorem Ak (r : Rd T w v (.sl size rows)) : ∃ base cap, v = .slice base rows.length cap /\ rows.length <= cap /\ cap <= maxLen := by
 cases r with
 | nil => exact ⟨none, 0, rfl, zAF, by simp [maxLen]⟩
 | sl a len cap size rows g hl hc hm hz hs hg hr => exact ⟨some a, cap, by rw [hl], zAA, hm⟩
theorem X6 {t : TypeId} (ht : XZ P t = true) : ∃ i, P.underlying t = some (.slice (ZR P t)) /\ P.info? (ZR P t) = some i /\ i.size = P.cellsOf (ZR P t) := by
 unfold XZ at ht
 split at ht
 ·rename_i e he
  obtain ⟨i, hi⟩ := Option.isSome_iff_exists.1 ht
  have : ZR P t = e := by simp [ZR, he]
  rw [this]
  exact ⟨i, he, hi, by simp [Program.cellsOf, hi]⟩
 ·cases ht
theorem H8 {t : TypeId} (ht : GV P t = some n) : ∃ i, P.underlying t = some (.array n (ZR P t)) /\ P.info? (ZR P t) = some i /\ i.size = P.cellsOf (ZR P t) := by
 unfold GV at ht
 split at ht
 ·rename_i m e he
  split at ht
  ·rename_i hh
   cases ht
   obtain ⟨i, hi⟩ := Option.isSome_iff_exists.1 hh
   have : ZR P t = e := by simp [ZR, he]
   rw [this]
   exact ⟨i, he, hi, by simp [Program.cellsOf, hi]⟩
  ·cases ht
 ·cases ht
theorem Pz {t : TypeId} (ht : jy P t f = true) : ∃ fs fd i, P.underlying t = some (.struct fs) /\ fs[f]? = some fd /\ fd.offset = JA P t f /\ fd.type = qg P t f /\ P.info? fd.type = some i /\ i.size ≠ 0 := by
 unfold jy at ht
 split at ht
 ·rename_i fs he
  split at ht
  ·rename_i fd hf
   simp at ht
   obtain ⟨i, hi⟩ := Option.isSome_iff_exists.1 ht.1
   exact ⟨fs, fd, i, he, hf, by simp [JA, he, hf], by simp [qg, he, hf], hi, by simpa [Program.cellsOf, hi] using ht.2⟩
  ·cases ht
 ·cases ht
theorem jQ {t : TypeId} (ht : SB P t = true) : P.underlying t = some .string := by
 unfold SB at ht; split at ht <;> first | assumption | cases ht
theorem Gq {t : TypeId} (ht : AV P t = some k) : P.underlying t = some (.int k) := by
 unfold AV at ht
 split at ht
 ·cases ht; assumption
 ·cases ht
theorem SU {n : Int} (r : Rd T w v (.int k n)) : v = .int k n := by cases r; rfl
theorem kO {b : Bool} (r : Rd T w v (.bool b)) : v = .bool b := by cases r; rfl
theorem RD {s : ByteArray} (r : Rd T w v (.str s)) : v = .string s := by cases r; rfl
theorem qP (r : Rel T0 B σ a w X h) {n : Int} (hx : Vq P σ x k n) : a.eval x = .int k n :=
 SU (r.arg 0 x hx.2 hx.1)
theorem Own.QL {d : D} (h : Own w v d S) : v.oneCell' = true := by
 cases h with
 | int => rfl
 | bool => rfl
 | str => rfl
 | unk _ h => exact h
 | sl v size rows S e xs Sk ho hz hb hl hk hs hd => rcases ho.2 with ⟨rfl, _⟩ | ⟨g, cap, cur, rfl, _⟩ <;> rfl
theorem Hf {t j i : Nat} : ∀ {xs : List D} {c k : Nat} {x : At}, (W9 t j i c xs)[k]? = some x -> ∃ d, xs[k]? = some d /\ x = (match d with | .sl _ _ => .tref t j i (c + k) none | d => .d d)
 | [], c, k, x, hx => by simp [W9] at hx
 | d :: xs, c, 0, x, hx => by
  simp only [W9, List.getElem?_cons_zero] at hx
  cases hx
  exact ⟨d, zAF, by cases d <;> simp⟩
 | d :: xs, c, k + 1, x, hx => by
  simp only [W9, List.getElem?_cons_succ] at hx
  obtain ⟨d', lL, rfl⟩ := Hf hx
  exact ⟨d', by simpa using lL, by cases d' <;> simp; omega⟩
theorem OC {t j i : Nat} : ∀ (c : Nat) (xs : List D), (W9 t j i c xs).length = xs.length
 | _, [] => rfl
 | c, d :: xs => by simp [W9, OC (c + 1) xs]
theorem FU (q : Bool) (t j i c : Nat) (xs : List D) : (SC q t j i c xs).length = xs.length := by
 cases q <;> simp [SC, OC]
theorem Rel.box (r : Rel T0 B σ a w X h) {cells : List At} (ho : σ.ob t 0 = .box cells) {c : Nat} (hv : YF (Tof T0 X) h σ.ob w (.bptr t c) v) :
  ∃ b cs e, (h t 0).v = .pointer (some ⟨b, 0, none⟩) /\ v = .pointer (some ⟨b, c, none⟩) /\ w.heap[b]? = some (.cells cs e (0, 0)) /\ Z9 (YF (Tof T0 X) h σ.ob w) cells cs.toList := by
 obtain ⟨b, hb, rfl⟩ := hv.2 cells ho
 have lS := r.obj t 0
 rw [ho] at lS
 obtain ⟨b', cs, e, lP, hh, lC⟩ := lS
 rw [hb] at lP
 cases lP
 exact ⟨b, cs, e, hb, rfl, hh, lC⟩
theorem zc {cs : Array Value} {e : TypeId} {f : Nat × Nat} (hh : w.heap[b]? = some (.cells cs e f)) (k : Nat) (v : Value) (hv : cs.toList[k]? = some v) : w.cell? ⟨b, k, none⟩ = some v := by
 simp only [World.cell?, hh]
 simpa using hv
theorem Rel.arr (r : Rel T0 B σ a w X h) (ho : σ.ob t j = .arr q size rows) {c : Nat} (hv : YF (Tof T0 X) h σ.ob w (.ptr t j i c) v) :
  ∃ b cap cur e xs, (h t j).v = .slice (some ⟨b, 0, none⟩) rows.length cap /\ v = .pointer (some ⟨b, i * size + c, none⟩) /\ w.heap[b]? = some (.cells cur e (0, 0)) /\ rows.length <= cap /\ cap <= maxLen /\ cur.size = cap * size /\
   cur.toList.take (rows.length * size) = xs /\ (∀ r ∈ rows, r.length = size) /\ xs.length = rows.flatten.length /\ (q = false -> Z9 (Rd (Tof T0 X) w) xs rows.flatten) /\
   (q = true -> KT w xs rows.flatten (fun b => (h t j).u b /\ blk (h t j).v ≠ some b) /\ ∀ k x d, xs[k]? = some x -> rows.flatten[k]? = some d -> d.scalar = false -> (h t j).n k = x) := by
 obtain ⟨b, n, cap, hb, rfl⟩ := hv.2 q size rows ho
 have lS := r.obj t j
 rw [ho] at lS
 cases q with
 | false =>
  obtain ⟨e, xs, lE, hz, lC⟩ := lS
  rcases lE.2 with ⟨h0, _⟩ | ⟨g, cA, cur, hg, _, hh, hle, gb, ga, g6⟩
  ·rw [hb] at h0; cases h0
  ·rw [hb] at hg
   cases hg
   exact ⟨b, cap, cur, e, xs, hb, rfl, hh, hle, gb, ga, g6, hz, lC.length, fun _ => lC, fun hh => by cases hh⟩
 | true =>
  obtain ⟨e, xs, lE, hz, lC, hn⟩ := lS
  rcases lE.2 with ⟨h0, _⟩ | ⟨g, cA, cur, hg, _, hh, hle, gb, ga, g6⟩
  ·rw [hb] at h0; cases h0
  ·rw [hb] at hg
   cases hg
   exact ⟨b, cap, cur, e, xs, hb, rfl, hh, hle, gb, ga, g6, hz, lC.1, (fun hh => by cases hh), fun _ => ⟨lC, hn⟩⟩
theorem Own.hdr (h : Own w v (.sl n s) S) (hp : 0 < s.length) : ∃ b cap, v = .slice (some ⟨b, 0, none⟩) s.length cap := by
 cases h with
 | sl v size rows S e xs Sk ho hz hb hl hk hs hd =>
  obtain ⟨_, ⟨_, h0⟩ | ⟨g, cap, cur, hv, _⟩⟩ := ho
  ·omega
  ·exact ⟨g, cap, hv⟩
theorem Rel.nest (r : Rel T0 B σ a w X h) {c : Nat} (ho : σ.ob t j = .arr true size rows) (hi : i < rows.length) (lJ : (rows.getD i [])[c]? = some (.sl n s)) : ∃ v0 S, (h t j).n (i * size + c) = v0 /\ Own w v0 (.sl n s) S := by
 have h0 := r.obj t j
 rw [ho] at h0
 obtain ⟨e, vs, gf, hz, ⟨hl, Sk, o1, o2, o3⟩, hn⟩ := h0
 have lv : rows[i]? = some (rows.getD i []) := zAp
 have hD : rows.flatten[i * size + c]? = some (.sl n s) := jd rows size hz i _ lv c _ lJ
 have lH : i * size + c < vs.length := by rw [hl]; exact (List.getElem?_eq_some_iff.1 hD).1
 have bk : vs[i * size + c]? = some vs[i * size + c] := List.getElem?_eq_getElem lH
 exact ⟨_, _, hn _ _ _ bk hD rfl, o1 _ _ _ bk hD⟩
theorem AH (r : Rel T0 B σ a w X h) {T : TypeId} {v : V} (my : o.op = .load T x) (hs : Ya P σ o.op o.type v) :
  ∃ val, (execOp a.eval o).run P w = .ok (.value val) w /\ JP (Tof T0 X) h σ.ob w v val := by
 simp only [my, Ya] at hs
 obtain ⟨hg, gv, hs⟩ := hs
 have hx := r.arg (P := P) 0 x rfl hg
 have key : ∀ (b off : Nat) (xs : List At) (cs : List Value), a.eval x = .pointer (some ⟨b, off, none⟩) -> v = ldV P T xs -> cs.length = P.cellsOf T ->
   (∀ j u, cs[j]? = some u -> w.cell? ⟨b, off + j, none⟩ = some u) -> Z9 (YF (Tof T0 X) h σ.ob w) xs cs -> ∃ val, (execOp a.eval o).run P w = .ok (.value val) w /\ JP (Tof T0 X) h σ.ob w v val := by
  intro b off xs cs he hv hl hc lC
  obtain ⟨val, hr, h1, h2⟩ := tU (P := P) gv hl hc
  refine ⟨val, ?_, ?_⟩
  ·simp only [execOp, my, he, Sem.run_bind, hr, Result.andThen_ok, Sem.run_pure]
  ·rw [hv]; exact vJ gv lC h1 h2
 split at hs
 ·rename_i t c heq
  rw [heq] at hx
  obtain ⟨cells, ho, hle, hv⟩ := hs
  obtain ⟨b, cs, e, hb, he, hh, lC⟩ := r.box ho hx
  have hlen := lC.length
  refine key b c _ (cut cs.toList c (P.cellsOf T)) he hv (XQ _ _ _ zAA) (fun j u hu => zc hh _ _ (zq _ _ _ _ _ hu)) (lC.cut _ _)
 ·rename_i t j i c heq
  rw [heq] at hx
  obtain ⟨q, size, rows, ho, hi, hle, hv⟩ := hs
  obtain ⟨b, cap, cur, e, xs, hb, he, hh, hQ, gb, ga, g6, hz, dk, lC, lE⟩ := r.arr ho hx
  have lv : rows[i]? = some (rows.getD i []) := zAp
  have eE : (rows.getD i []).length = size := hz _ (List.mem_of_getElem? lv)
  have hE := YM rows size hz
  have hmul : i * size + size <= rows.length * size := zBP
  have dL : ∀ k d', (cut (rows.getD i []) c (P.cellsOf T))[k]? = some d' -> rows.flatten[i * size + c + k]? = some d' := by
   intro k d' lL
   have h2 := jd rows size hz i _ lv (c + k) d' (zq _ _ _ _ _ lL)
   rw [show i * size + c + k = i * size + (c + k) by omega]; exact h2
  refine key b (i * size + c) _ (cut xs (i * size + c) (P.cellsOf T)) he hv (XQ _ _ _ zAA) (fun j u hu => ?_) ?_
  ·have h1 := zq _ _ _ _ _ hu
   refine zc hh _ _ ?_
   rw [<- g6, List.getElem?_take] at h1
   split at h1
   ·exact h1
   ·cases h1
  ·refine Z9.xk (by rw [XQ _ _ _ zAA, FU, XQ _ _ _ zAA]) (fun k x u hx hu => ?_)
   have h1 := zq _ _ _ _ _ hu
   cases q with
   | false =>
    obtain ⟨d, hd, hr⟩ := (lC rfl).get _ _ h1
    simp only [SC] at hx
    rw [List.getElem?_map] at hx
    cases lL : (cut (rows.getD i []) c (P.cellsOf T))[k]? with
    | none => rw [lL] at hx; cases hx
    | some d' =>
     rw [lL] at hx
     cases hx
     rw [dL k d' lL] at hd
     cases hd
     exact hr
   | true =>
    obtain ⟨⟨_, Sk, lE, _, _⟩, hn⟩ := lE rfl
    simp only [SC] at hx
    obtain ⟨d', lL, rfl⟩ := Hf hx
    have lb := lE _ _ _ h1 (dL k d' lL)
    cases d' with
    | sl s rs =>
     refine ⟨lb.QL, fun lU lM gm => ?_⟩
     rw [ho] at gm; cases gm
     show _ = _
     rw [<- hn _ _ _ h1 (dL k _ lL) rfl, Nat.add_assoc]
    | int k n => cases lb; exact .int _ _
    | bool b => cases lb; exact .bool _
    | str s => cases lb; exact .str _
    | unk => exact .unk _ lb.QL
 ·rename_i rr c heq
  rw [heq] at hx
  obtain ⟨hle, hv⟩ := hs
  obtain ⟨b, off, g, he, hk⟩ := hx
  refine key b (off + c) _ ((List.range (P.cellsOf T)).map fun j => g (c + j)) he hv zAF (fun j u hu => ?_) ?_
  ·rw [List.getElem?_map] at hu
   rcases Nat.lt_or_ge j (P.cellsOf T) with hj | hj
   ·rw [List.getElem?_range hj] at hu
    cases hu
    have hd := hk (c + j) (rr[c + j]'zAA) (List.getElem?_eq_getElem _)
    rw [Nat.add_assoc]; exact hd.1
   ·rw [List.getElem?_eq_none (by simpa using hj)] at hu; cases hu
  ·refine Z9.xk (by rw [List.length_map, XQ _ _ _ zAA]; simp) (fun k x u hx hu => ?_)
   rw [List.getElem?_map] at hx hu
   cases lL : (cut rr c (P.cellsOf T))[k]? with
   | none => rw [lL] at hx; cases hx
   | some d' =>
    rw [lL] at hx
    cases hx
    have hkl : k < P.cellsOf T := by have := (List.getElem?_eq_some_iff.1 lL).1; rw [XQ _ _ _ zAA] at this; exact this
    rw [List.getElem?_range hkl] at hu
    cases hu
    exact (hk (c + k) d' (zq _ _ _ _ _ lL)).2.2
 ·rename_i t j i c k heq
  rw [heq] at hx
  obtain ⟨size, rows, s, ho, hi, lJ, hT1, hks, ib, hv⟩ := hs
  obtain ⟨v0, S, hn, lE⟩ := r.nest ho hi lJ
  obtain ⟨b, len, fj, bL, he⟩ := hx.2 _ _ ho
  rw [hn] at bL
  cases lE with
  | sl v lU lM S e xs Sk gm hz hb hl hk lK hd =>
   rcases gm.2 with ⟨rfl, h0⟩ | ⟨g, cap, cur, rfl, _, hh, gh, gb, ga, g6⟩
   ·omega
   ·cases bL
    have lv : s[k]? = some (s.getD k []) := by simp [List.getD_eq_getElem?_getD, List.getElem?_eq_getElem hks]
    have eE : (s.getD k []).length = 1 := hz _ (List.mem_of_getElem? lv)
    have hE := YM s 1 hz
    refine key b k _ (cut xs k (P.cellsOf T)) he hv (XQ _ _ _ zAA) (fun j u hu => ?_) ?_
    ·have h1 := zq _ _ _ _ _ hu
     refine zc hh _ _ ?_
     rw [<- g6, List.getElem?_take] at h1
     split at h1
     ·exact h1
     ·cases h1
    ·refine Z9.xk (by rw [List.length_map, XQ _ _ _ zAA]; omega) (fun q x u hx hu => ?_)
     rw [List.getElem?_map] at hx
     cases lL : (s.getD k [])[q]? with
     | none => rw [lL] at hx; cases hx
     | some d' =>
      rw [lL] at hx
      cases hx
      have hq : q = 0 := by have := (List.getElem?_eq_some_iff.1 lL).1; omega
      subst hq
      have hf := jd s 1 hz k _ lv 0 d' lL
      rw [Nat.mul_one] at hf
      have ho3 := hk _ _ _ (zq _ _ _ _ _ hu) hf
      have hs3 : d'.scalar = true := List.all_eq_true.1 ib d' (List.mem_of_getElem? lL)
      cases d' with
      | sl s' rs => cases hs3
      | int k' n' => cases ho3; exact .int _ _
      | bool b' => cases ho3; exact .bool _
      | str s' => cases ho3; exact .str _
      | unk => exact .unk _ ho3.QL
 ·exact hs.elim
theorem Um {T : TypeId} (hf : jy P T f = true) (b off : Nat) : (Instr.fieldAt T (.pointer (some ⟨b, off, none⟩)) f).run P w = .ok (.pointer (some ⟨b, off + JA P T f, none⟩)) w := by
 obtain ⟨fs, fd, i, hu, dz, cv, gv, hi, lA⟩ := Pz hf
 have l8 : P.cellsOf fd.type ≠ 0 := by simpa [Program.cellsOf, hi] using lA
 simp [Instr.fieldAt, run_underlying hu, dz, Instr.sureAddr, fieldPlace, Kb hi, l8, xx, cv]
theorem IP (r : Rel T0 B σ a w X h) {T : TypeId} {v : V} (my : o.op = .fieldAddr T x f) (hs : Ya P σ o.op o.type v) :
  ∃ val, (execOp a.eval o).run P w = .ok (.value val) w /\ JP (Tof T0 X) h σ.ob w v val := by
 simp only [my, Ya] at hs
 obtain ⟨hg, hf, hs⟩ := hs
 have hx := r.arg (P := P) 0 x rfl hg
 split at hs
 ·rename_i t c heq
  rw [heq] at hx
  obtain ⟨⟨cells, ho⟩, rfl⟩ := hs
  obtain ⟨b, hb, he⟩ := hx.2 cells ho
  refine ⟨.pointer (some ⟨b, c + JA P T f, none⟩), by simp only [execOp, my, he, Sem.run_bind, Um hf, Result.andThen_ok, Sem.run_pure], rfl, fun lI _ => ⟨b, hb, rfl⟩⟩
 ·rename_i t j i c heq
  rw [heq] at hx
  obtain ⟨⟨q, size, rows, ho⟩, rfl⟩ := hs
  obtain ⟨b, n, cap, hb, he⟩ := hx.2 q size rows ho
  refine ⟨.pointer (some ⟨b, i * size + c + JA P T f, none⟩), by simp only [execOp, my, he, Sem.run_bind, Um hf, Result.andThen_ok, Sem.run_pure], rfl, fun q' lU lM lb => ?_⟩
  rw [ho] at lb
  cases lb
  exact ⟨b, n, cap, hb, by rw [Nat.add_assoc]⟩
 ·rename_i rr c heq
  rw [heq] at hx
  subst hs
  obtain ⟨b, off, g, he, hk⟩ := hx
  exact ⟨.pointer (some ⟨b, off + c + JA P T f, none⟩), by simp only [execOp, my, he, Sem.run_bind, Um hf, Result.andThen_ok, Sem.run_pure], b, off, g, by rw [Nat.add_assoc], hk⟩
 ·rename_i t j i c k heq
  rw [heq] at hx
  obtain ⟨⟨size, rows, ho⟩, rfl⟩ := hs
  obtain ⟨b, n, cap, hb, he⟩ := hx.2 size rows ho
  refine ⟨.pointer (some ⟨b, k + JA P T f, none⟩), by simp only [execOp, my, he, Sem.run_bind, Um hf, Result.andThen_ok, Sem.run_pure], rfl, fun lU lM lb => ?_⟩
  rw [ho] at lb
  cases lb
  exact ⟨b, n, cap, hb, rfl⟩
 ·exact hs.elim
theorem FB (r : Rel T0 B σ a w X h) {v : V} (my : o.op = .nilCheck x) (hs : Ya P σ o.op o.type v) :
  ∃ val, (execOp a.eval o).run P w = .ok (.value val) w /\ JP (Tof T0 X) h σ.ob w v val := by
 simp only [my, Ya] at hs
 obtain ⟨hg, hs⟩ := hs
 have hx := r.arg (P := P) 0 x rfl hg
 split at hs
 ·rename_i t c heq
  rw [heq] at hx
  obtain ⟨⟨cells, ho⟩, rfl⟩ := hs
  obtain ⟨b, hb, he⟩ := hx.2 cells ho
  exact ⟨.pointer (some ⟨b, c, none⟩), by simp only [execOp, my, he, Sem.run_pure], rfl, fun lI _ => ⟨b, hb, rfl⟩⟩
 ·exact hs.elim
theorem PE {T : TypeId} (ht : XZ P T = true) (ad : Addr) (da : ad.spot = none) (len cap : Nat) (k : IntKind) (i : Int) (h0 : 0 <= i) (hl : i < (len : Int)) :
  (Instr.indexAt T (.slice (some ad) len cap) (.int k i)).run P w = .ok (.pointer (some ⟨ad.block, ad.off + i.toNat * P.cellsOf (ZR P T), none⟩)) w := by
 obtain ⟨ti, hu, hi, iZ⟩ := X6 ht
 obtain ⟨b, off, sp⟩ := ad
 simp at da; subst da
 simp [Instr.indexAt, asIntOf, run_underlying hu, h0, hl, Kb hi, xx]
theorem Dh {T : TypeId} (ht : GV P T = some n) (_h1 : 1 < n) (b off : Nat) (k : IntKind) (i : Int) (h0 : 0 <= i) (hl : i < (n : Int)) :
  (Instr.indexAt T (.pointer (some ⟨b, off, none⟩)) (.int k i)).run P w = .ok (.pointer (some ⟨b, off + i.toNat * P.cellsOf (ZR P T), none⟩)) w := by
 obtain ⟨ti, hu, hi, iZ⟩ := H8 ht
 simp [Instr.indexAt, Instr.sureAddr, asIntOf, run_underlying hu, h0, hl, Kb hi, xx]
theorem L4 (r : Rel T0 B σ a w X h) {T : TypeId} {ix : Operand} {v : V} (my : o.op = .indexAddr T x ix) (hs : Ya P σ o.op o.type v) :
  ∃ val, (execOp a.eval o).run P w = .ok (.value val) w /\ JP (Tof T0 X) h σ.ob w v val := by
 simp only [my, Ya] at hs
 obtain ⟨k, i, hix, h0, hg, hs⟩ := hs
 have hx := r.arg (P := P) 0 x rfl hg
 have bT := qP r hix
 split at hs
 ·rename_i size rows heq
  rw [heq] at hx
  obtain ⟨ht, rfl, iS, lH, rfl⟩ := hs
  have hil : i.toNat < rows.length := zAA
  obtain ⟨ad, len, cap, he, hlen, da, g, hk⟩ := Rd.row (show Rd _ _ _ _ from hx) i.toNat hil iS
  refine ⟨.pointer (some ⟨ad.block, ad.off + i.toNat * P.cellsOf (ZR P T), none⟩), by simp only [execOp, my, he, bT, Sem.run_bind, PE ht ad da len cap k i h0 zAA, Result.andThen_ok, Sem.run_pure], ad.block, ad.off + i.toNat * P.cellsOf (ZR P T), g, zAF, hk⟩
 ·rename_i t j lo len heq
  rw [heq] at hx
  obtain ⟨ht, iS, ⟨q, rows, ho⟩, lH, rfl⟩ := hs
  obtain ⟨hle, _, _, base, cap, he, hQ, _, _, hb⟩ := hx.2.1 _ _ rows ho
  obtain ⟨b, fj, hh, gp⟩ := hb zAA
  rw [gp] at he
  refine ⟨.pointer (some ⟨b, lo * P.cellsOf (ZR P T) + i.toNat * P.cellsOf (ZR P T), none⟩), by simp only [execOp, my, he, bT, Sem.run_bind, PE ht ⟨b, lo * P.cellsOf (ZR P T), none⟩ rfl len cap k i h0 lH, Result.andThen_ok, Sem.run_pure], rfl, fun q' lU lM lb => ?_⟩
  rw [ho] at lb
  cases lb
  exact ⟨b, rows.length, fj, hh, by simp [Nat.add_mul]⟩
 ·rename_i t c heq
  rw [heq] at hx
  obtain ⟨⟨cells, ho⟩, ⟨n, hn, h1, lH⟩, rfl⟩ := hs
  obtain ⟨b, hb, he⟩ := hx.2 cells ho
  exact ⟨.pointer (some ⟨b, c + i.toNat * P.cellsOf (ZR P T), none⟩), by simp only [execOp, my, he, bT, Sem.run_bind, Dh hn h1 b c k i h0 lH, Result.andThen_ok, Sem.run_pure], rfl, fun lI _ => ⟨b, hb, rfl⟩⟩
 ·rename_i t j m c heq
  rw [heq] at hx
  obtain ⟨ht, iS, ⟨size, rows, s, ho, hm, lJ, lH⟩, rfl⟩ := hs
  obtain ⟨v0, S, hn, lE⟩ := r.nest ho hm lJ
  have he : a.eval x = v0 := by rw [<- hn]; exact hx.2 size rows ho
  obtain ⟨b, cap, bL⟩ := lE.hdr zAA
  rw [bL] at he hn
  refine ⟨.pointer (some ⟨b, 0 + i.toNat * P.cellsOf (ZR P T), none⟩), by simp only [execOp, my, he, bT, Sem.run_bind, PE ht ⟨b, 0, none⟩ rfl s.length cap k i h0 lH, Result.andThen_ok, Sem.run_pure], rfl, fun lU lM lb => ?_⟩
  rw [ho] at lb
  cases lb
  exact ⟨b, s.length, cap, hn, zAF⟩
 ·exact hs.elim
theorem Ga {T : TypeId} (ht : qT P T = true) {cs : Array Value} (hl : off + P.cellsOf T <= cs.size) :
  ∃ val, (part T cs off).run P w = .ok val w /\ (TM P T = true -> val = .agg (cut cs.toList off (P.cellsOf T)).toArray) /\ (TM P T = false -> cut cs.toList off (P.cellsOf T) = [val]) := by
 obtain ⟨d, i, hd, hi, iZ, iU⟩ := WK ht
 cases eJ : TM P T with
 | true =>
  refine ⟨.agg (cs.extract off (off + P.cellsOf T)), ?_, fun _ => ?_, (fun hh => by cases hh)⟩
  ·simp only [part, Sem.run_bind, Pe hd, eJ, Result.andThen_ok, if_true, Kb hi, Sem.run_pure]
  ·congr 1
   apply Array.toList_inj.1
   simp [cut, Array.toList_extract, List.extract_eq_take_drop]
 | false =>
  rcases iU with iU | iU
  ·rw [eJ] at iU; cases iU
  ·rw [iU] at hl ⊢
   have lH : off < cs.size := zAA
   refine ⟨cs[off], ?_, (fun hh => by cases hh), fun _ => ?_⟩
   ·simp [part, Pe hd, eJ, Array.getElem?_eq_getElem lH]
   ·have : cut cs.toList off 1 = [cs.toList[off]'(by simpa using lH)] := by
     simp only [cut]
     rw [List.drop_eq_getElem_cons (by simpa using lH)]
     simp
    rw [this]
    simp
theorem BJ {T : TypeId} (ht : qT P T = true) {xs : List At} {x : Value} (hx : JP (Tof T0 X) h σ.ob w (.agg xs) x) (hl : off + P.cellsOf T <= xs.length) :
  ∃ cs : Array Value, x = .agg cs /\ ∃ val, (part T cs off).run P w = .ok val w /\ JP (Tof T0 X) h σ.ob w (ldV P T (cut xs off (P.cellsOf T))) val := by
 obtain ⟨cs, rfl, lC⟩ := hx
 obtain ⟨val, hr, h1, h2⟩ := Ga (P := P) (w := w) ht (cs := cs) (off := off) (by have := lC.length; simp at this; omega)
 exact ⟨cs, rfl, val, hr, vJ ht (lC.cut _ _) h1 h2⟩
theorem C9 (r : Rel T0 B σ a w X h) {T : TypeId} {ix : Operand} {v : V} (my : o.op = .index T x ix) (hs : Ya P σ o.op o.type v) :
  ∃ val, (execOp a.eval o).run P w = .ok (.value val) w /\ JP (Tof T0 X) h σ.ob w v val := by
 simp only [my, Ya] at hs
 obtain ⟨k, i, hix, h0, hg, hs⟩ := hs
 have hx := r.arg (P := P) 0 x rfl hg
 have bT := qP r hix
 split at hs
 ·rename_i s heq
  rw [heq] at hx
  obtain ⟨ht, lH, rfl⟩ := hs
  have he := RD hx
  have hil : i.toNat < s.size := zAA
  refine ⟨.int .u8 (s.data.toList.getD i.toNat 0).toNat, ?_, .int _ _⟩
  have ic : s[i.toNat]? = some (s.data.toList.getD i.toNat 0) := by
   rw [List.getD_eq_getElem?_getD]
   have h1 : s.data.toList[i.toNat]? = some (s.data[i.toNat]'hil) := by
    rw [List.getElem?_eq_getElem (by simpa using hil)]; simp
   rw [h1, getElem?_pos s i.toNat hil]
   rfl
  simp [execOp, my, he, bT, Instr.index, asIntOf, run_underlying (jQ ht), h0, ic]
 ·rename_i xs heq
  rw [heq] at hx
  obtain ⟨⟨n, hn, lH⟩, ht, hl, rfl⟩ := hs
  obtain ⟨ti, hu, hi, iZ⟩ := H8 hn
  obtain ⟨cs, he, val, hr, hv⟩ := BJ ht hx hl
  refine ⟨val, ?_, hv⟩
  simp [execOp, my, he, bT, Instr.index, asIntOf, run_underlying hu, h0, lH, Kb hi, hr]
 ·exact hs.elim
theorem BR (r : Rel T0 B σ a w X h) {T : TypeId} {v : V} (my : o.op = .field T x f) (hs : Ya P σ o.op o.type v) :
  ∃ val, (execOp a.eval o).run P w = .ok (.value val) w /\ JP (Tof T0 X) h σ.ob w v val := by
 simp only [my, Ya] at hs
 obtain ⟨hg, hf, ht, hs⟩ := hs
 have hx := r.arg (P := P) 0 x rfl hg
 split at hs
 ·rename_i xs heq
  rw [heq] at hx
  obtain ⟨hl, rfl⟩ := hs
  obtain ⟨fs, fd, i, hu, dz, cv, gv, hi, lA⟩ := Pz hf
  obtain ⟨cs, he, val, hr, hv⟩ := BJ ht hx hl
  refine ⟨val, ?_, hv⟩
  rw [<- cv, <- gv] at hr
  simp [execOp, my, he, Instr.field, run_underlying hu, dz, asAgg, hr]
 ·exact hs.elim
theorem CE (r : Rel T0 B σ a w X h) {hR y : Nat} {x : Option Operand} (hb : bnd P σ hR x n) (hy : n <= y) (lA : x ≠ none) :
  (Instr.sliceBound ((x.map a.eval).getD undef) y code).run P w = .ok n w := by
 cases x with
 | none => exact absurd rfl lA
 | some x =>
  obtain ⟨k, i, hg, hx, h0, rfl⟩ := hb
  have he := SU (r.arg (P := P) 0 x hx hg)
  have : i <= (y : Int) := zAA
  simp [he, Instr.sliceBound, asIntOf, h0, this]
theorem OZ (r : Rel T0 B σ a w X h) {sl : Bool} {l hh : Nat} (fZ : bnd P σ 0 lo l) (dI : bnd P σ len hi hh) (h1 : l <= hh) (h2 : hh <= cap) :
  (Instr.sliceBounds sl len cap (lo.map a.eval) (hi.map a.eval) none).run P w = .ok (l, hh, cap) w := by
 unfold Instr.sliceBounds
 cases hi with
 | none =>
  cases dI
  cases lo with
  | none => cases fZ; simp
  | some x =>
   have := CE (w := w) r (code := .sliceB) fZ h1 zAF
   simp at this
   simp [this]
 | some y =>
  have hb := CE (w := w) r (code := if sl then .sliceAcap else .sliceAlen) dI h2 zAF
  simp at hb
  cases lo with
  | none => cases fZ; simp [hb]
  | some x =>
   have := CE (w := w) r (code := .sliceB) fZ h1 zAF
   simp at this
   simp [this, hb]
theorem jg {α : Type} (rows : List (List α)) (size l n : Nat) (hz : ∀ r ∈ rows, r.length = size) (k : Nat) (d : α) (hd : (cut rows l n).flatten[k]? = some d) : rows.flatten[l * size + k]? = some d := by
 induction rows generalizing l with
 | nil => simp [cut] at hd
 | cons r rows ih =>
  have hr : r.length = size := hz r zAF
  cases l with
  | zero =>
   simp only [cut, List.drop_zero, Nat.zero_mul, Nat.zero_add] at hd ⊢
   have av : (r :: rows).flatten = ((r :: rows).take n).flatten ++ ((r :: rows).drop n).flatten := zBU
   rw [av, List.getElem?_append_left (List.getElem?_eq_some_iff.1 hd).1]; exact hd
  | succ l =>
   have := ih l (fun r hr => hz r zBx) (by simpa [cut] using hd)
   rw [List.flatten_cons, List.getElem?_append_right (by rw [hr, Nat.add_mul]; omega), hr]
   rw [show (l + 1) * size + k - size = l * size + k by rw [Nat.add_mul]; omega]; exact this
theorem Rd.cut (hv : v = .slice base len cap) (r : Rd T w v (.sl size rows)) (l hh : Nat) (h1 : l <= hh) (h2 : hh <= rows.length) (_hsz : 0 < size \/ True) :
  Rd T w (.slice (if cap = l then base else base.map (·.add (l * size))) (hh - l) (cap - l)) (.sl size (Vm.cut rows l (hh - l))) := by
 subst hv
 cases r with
 | nil =>
  simp at h2; subst h2
  have : l = 0 := zAA
  subst this
  simp [Vm.cut]; exact .nil _
 | sl a len cap size rows g hl hc hm hz hs hg hr =>
  have hlen : (Vm.cut rows l (hh - l)).length = hh - l := XQ _ _ _ zAA
  have g8 : ∀ r ∈ Vm.cut rows l (hh - l), r.length = size := fun r hr => hz r (List.mem_of_mem_drop (List.mem_of_mem_take hr))
  by_cases lp : cap = l
  ·have h0 : hh - l = 0 := zAA
   have fg : Vm.cut rows l (hh - l) = [] := List.eq_nil_of_length_eq_zero zAA
   rw [if_pos lp, fg, h0]
   exact .sl a 0 (cap - l) size [] g rfl (Nat.zero_le _) zAA (by intro r hr; cases hr) zAF zAF zAF
  ·rw [if_neg lp]
   refine .sl (a.add (l * size)) (hh - l) (cap - l) size _ (fun k => g (l * size + k)) hlen zAA zAA g8 (fun lA => ?_) (fun k d hd => ?_) (fun k d hd => hr _ _ (jg rows size l _ hz k d hd))
   ·have : rows.flatten ≠ [] := by
     intro he
     apply lA
     cases l7 : (Vm.cut rows l (hh - l)).flatten with
     | nil => rfl
     | cons d ds =>
      have := jg rows size l (hh - l) hz 0 d (by rw [l7]; rfl)
      rw [he] at this; simp at this
    have da := hs this
    unfold Addr.add; split <;> simp [da]
   ·have da : a.spot = none := hs (by
     intro he
     have := jg rows size l (hh - l) hz k d hd
     rw [he] at this; simp at this)
    have := hg _ _ (jg rows size l (hh - l) hz k d hd)
    obtain ⟨b, off, sp⟩ := a
    simp at da; subst da
    rw [xx]
    simp only [Nat.add_assoc] at this ⊢
    exact this
theorem BU (r : Rel T0 B σ a w X h) {T : TypeId} {v : V} (my : o.op = .slice T x lo hi none) (hs : Ya P σ o.op o.type v) :
  ∃ val, (execOp a.eval o).run P w = .ok (.value val) w /\ JP (Tof T0 X) h σ.ob w v val := by
 simp only [my, Ya] at hs
 obtain ⟨hg, hs⟩ := hs
 have hx := r.arg (P := P) 0 x rfl hg
 split at hs
 ·rename_i s heq
  rw [heq] at hx
  obtain ⟨ht, l, hh, fZ, dI, h1, h2, rfl⟩ := hs
  have he := RD hx
  have hb := OZ (w := w) r (sl := false) fZ dI h1 h2
  refine ⟨.string (s.extract l hh), ?_, .str _⟩
  simp [execOp, my, he, Instr.sliceAt, Instr.slice, run_underlying (jQ ht), hb]
 ·rename_i size rows heq
  rw [heq] at hx
  obtain ⟨ht, rfl, l, hh, fZ, dI, h1, h2, rfl⟩ := hs
  obtain ⟨ti, hu, hG, iZ⟩ := X6 ht
  obtain ⟨base, cap, he, hQ, gb⟩ := Ak (show Rd _ _ _ _ from hx)
  have hb := OZ (w := w) r (sl := true) (cap := cap) fZ dI h1 zAA
  refine ⟨_, ?_, Rd.cut he hx l hh h1 h2 (.inr trivial)⟩
  simp [execOp, my, he, Instr.sliceAt, Instr.slice, run_underlying hu, hb, Kb hG]
 ·rename_i t j lo0 len heq
  rw [heq] at hx
  obtain ⟨ht, ⟨q, rows, ho⟩, l, hh, fZ, dI, h1, h2, rfl⟩ := hs
  obtain ⟨ti, hu, hG, iZ⟩ := X6 ht
  obtain ⟨hle, hZ, gO, base, cap, he, hQ, gb, fz, hbs⟩ := hx.2.1 _ _ rows ho
  have hb := OZ (w := w) r (sl := true) (cap := cap) fZ dI h1 zAA
  refine ⟨.slice (if cap = l then base else base.map (·.add (l * P.cellsOf (ZR P T)))) (hh - l) (cap - l), ?_, rfl, fun q' lU lM lb => ?_, fun lU lM lb => by rw [ho] at lb; cases lb⟩
  ·simp [execOp, my, he, Instr.sliceAt, Instr.slice, run_underlying hu, hb, Kb hG]
  ·rw [ho] at lb
   cases lb
   refine ⟨zAA, fun aH hl1 => ?_, fun hl1 => ?_, _, cap - l, rfl, zAA, zAA, fun hn => ?_, fun iS => ?_⟩
   ·have hl : l = 0 := zAA
    subst hl
    have : len = rows.length := zAA
    have hv := hZ this zAA
    rw [<- hv, he]
    simp only [Nat.sub_zero, Nat.zero_mul]
    have h3 : hh = len := zAA
    rw [h3]
    congr 1
    split
    ·rfl
    ·cases base <;> simp [Addr.add]
   ·have hl : l = 0 := zAA
    subst hl
    have hv := gO zAA
    rw [he] at hv
    have hh0 : (if cap = 0 then base else base.map (·.add (0 * P.cellsOf (ZR P T)))) = base := by
     split
     ·rfl
     ·cases base <;> simp [Addr.add]
    rw [hh0]
    unfold N9 at hv ⊢
    revert hv
    cases (h t j).v with
    | slice b n c => intro hv; cases hv; simp
    | _ => intro hv; cases hv
   ·have hb0 : base = none := by
     by_cases lp : cap = l
     ·rw [if_pos lp] at hn; exact hn
     ·rw [if_neg lp] at hn; simpa using hn
    have := fz hb0; omega
   ·obtain ⟨b, fj, cz, gp⟩ := hbs zAA
    refine ⟨b, fj, cz, ?_⟩
    rw [if_neg zAA, gp]
    simp [xx, Nat.add_mul]
 ·exact hs.elim
theorem wJ {α : Type} (l : List α) (k : Nat) (v : α) (vs : List α) (hk : k + (vs.length + 1) <= l.length) : place (l.set k v) (k + 1) vs = place l k (v :: vs) := by
 unfold place
 have h1 : (l.set k v).take (k + 1) = l.take k ++ [v] := by
  rw [List.take_set, List.take_succ_eq_append_getElem zAA]
  rw [List.set_append_right _ _ zAk]
  simp [Nat.min_eq_left (show k <= l.length by omega)]
 have h2 : (l.set k v).drop (k + 1 + vs.length) = l.drop (k + (vs.length + 1)) := by
  rw [List.drop_set_of_lt zAA]; congr 1; omega
 rw [h1, h2]; simp
theorem Lj (off : Nat) : ∀ (vs : List Value) (j : Nat) (cs : Array Value), off + j + vs.length <= cs.size ->
  ((vs.zipIdx j).foldl (fun cs x => cs.setIfInBounds (off + x.2) x.1) cs).toList = place cs.toList (off + j) vs
 | [], j, cs, _ => by simp [place]
 | v :: vs, j, cs, hl => by
  rw [List.zipIdx_cons, List.foldl_cons, Lj off vs (j + 1) _ zBi]
  rw [Array.toList_setIfInBounds, show off + (j + 1) = off + j + 1 by omega, wJ _ _ _ _ zBi]
theorem SM (off : Nat) (vs cs : Array Value) (hl : off + vs.size <= cs.size) :
  (vs.zipIdx.foldl (fun cs x => cs.setIfInBounds (off + x.2) x.1) cs).toList = place cs.toList off vs.toList := by
 rw [<- Array.foldl_toList, Array.toList_zipIdx, Lj off vs.toList 0 cs (by simpa using hl)]
 rfl
theorem X1 {α : Type} (r : List α) (off : Nat) (xs : List α) (hl : off + xs.length <= r.length) : (place r off xs).length = r.length := by
 simp [place]; omega
theorem Z9.place {α β : Type} {R : α -> β -> Prop} {l : List α} {m : List β} (x : Z9 R l m) (off : Nat) {l' : List α} {m' : List β} (y : Z9 R l' m') : Z9 R (Vm.place l off l') (Vm.place m off m') := by
 unfold Vm.place
 rw [y.length]
 exact ((x.take _).append y).append (x.drop _)
theorem Wf {ob : Nat -> Nat -> Ob} {x : V} (hf : x.flat = true) (hv : JP T' h ob w x v) : Z9 (YF T' h ob w) x.cells v.cells.toList := by
 cases x with
 | one c =>
  have h1 := YF.QL (show YF _ _ _ _ _ _ from hv)
  have : v.cells = #[v] := by cases v <;> first | rfl | (simp [Value.oneCell'] at h1)
  rw [this]
  exact .cons hv .nil
 | agg xs => obtain ⟨cs, rfl, lC⟩ := hv; exact lC
 | any => cases hf
 | tup xs => cases hf
 | cnd g x => cases hf
 | fix u x => cases hf
theorem GB (r : Rel T0 B σ a w X h) (T : TypeId) (pl : Nat -> Option (Nat × Nat)) (dH : ∀ i, bOk P T i = true -> pl i = some (jw P T i, P.cellsOf (bTy P T i))) :
  ∀ (ps : List (Nat × Operand)) (row out : List At) (cells : Array Value), Z9 (YF (Tof T0 X) h σ.ob w) row cells.toList -> TW P σ T ps row out ->
   ∃ lI, Instr.fill pl cells (ps.map fun x => (x.1, a.eval x.2)) = some lI /\ Z9 (YF (Tof T0 X) h σ.ob w) out lI.toList
 | [], row, out, cells, lC, hb => by cases hb; exact ⟨cells, rfl, lC⟩
 | (i, x) :: ps, row, out, cells, lC, hb => by
  obtain ⟨lW, hg, hf, hlen, hle, hb⟩ := hb
  have hx := Wf hf (r.arg (P := P) (bTy P T i) x rfl hg)
  have bA := hx.length
  have hl1 := lC.length
  have e1 : cells.toList.length = cells.size := Array.length_toList
  have e2 : (a.eval x).cells.toList.length = (a.eval x).cells.size := Array.length_toList
  have ec := lC.place (jw P T i) hx
  have heq := SM (jw P T i) (a.eval x).cells cells zAA
  rw [<- heq] at ec
  obtain ⟨lI, h1, h2⟩ := GB r T pl dH ps _ out _ ec hb
  refine ⟨lI, ?_, h2⟩
  have iZ : (a.eval x).cells.size = P.cellsOf (bTy P T i) := zAA
  simp only [List.map_cons, Instr.fill, dH i lW]
  rw [if_neg (by simp [iZ]; omega)]
  exact h1
theorem run_places (fs : List Field) (cJ : ∀ f ∈ fs, (P.info? f.type).isSome = true) (w : World) :
  (fs.mapM (m := Sem) fun f => do pure (f.offset, <- sizeOf f.type)).run P w = .ok (fs.map fun f => (f.offset, P.cellsOf f.type)) w := by
 induction fs with
 | nil => simp
 | cons f fs ih =>
  obtain ⟨i, hi⟩ := Option.isSome_iff_exists.1 (cJ f zAF)
  simp only [List.mapM_cons, Sem.run_bind, Kb hi, Result.andThen_ok, Sem.run_pure, ih (fun f hf => cJ f (by simp [hf])), List.map_cons]
theorem C3 (r : Rel T0 B σ a w X h) {T : TypeId} {v : V} (my : o.op = .build T parts) (hs : Ya P σ o.op o.type v) :
  ∃ val, (execOp a.eval o).run P w = .ok (.value val) w /\ JP (Tof T0 X) h σ.ob w v val := by
 simp only [my, Ya] at hs
 obtain ⟨hz, eJ, z, out, gx, hb, rfl⟩ := hs
 obtain ⟨i, zv, hi, hzv, iZ, gq⟩ := GF hz gx
 have g9 : (zeroValue T).run P w = .ok zv w := by simp [zeroValue, typeInfo, hi, hzv]
 have fV : (parts.map fun (x : Nat × Operand) => (x.1, a.eval x.2)).toList = parts.toList.map fun x => (x.1, a.eval x.2) := zAF
 unfold TM at eJ
 split at eJ
 ·rename_i fs hu
  by_cases iX : ∀ f ∈ fs.toList, (P.info? f.type).isSome = true
  ·have dH : ∀ i, bOk P T i = true -> (fs.toList.map fun f => (f.offset, P.cellsOf f.type)).toArray[i]? = some (jw P T i, P.cellsOf (bTy P T i)) := by
    intro i lW
    simp only [bOk, hu, Bool.and_eq_true, decide_eq_true_eq] at lW
    have lH := lW.2
    simp [jw, bTy, hu, JA, qg, lH]
   obtain ⟨lI, h1, h2⟩ := GB r T _ dH parts.toList z out zv.cells (gq _ _ _ _) hb
   refine ⟨.agg lI, ?_, lI, rfl, h2⟩
   have hm := run_places (P := P) fs.toList iX w
   have : (fs.mapM (m := Sem) fun f => do pure (f.offset, <- sizeOf f.type)).run P w = .ok (fs.toList.map fun f => (f.offset, P.cellsOf f.type)).toArray w := by
    rw [Array.mapM_eq_mapM_toList]
    change ((fs.toList.mapM (m := Sem) fun f => do pure (f.offset, <- sizeOf f.type)) >>= fun l => pure l.toArray).run P w = _
    simp only [Sem.run_bind, hm, Result.andThen_ok, Sem.run_pure]
   simp only [execOp, my, Instr.build, Sem.run_bind, g9, Result.andThen_ok, run_underlying hu, this, fV, h1, Sem.run_pure]
  · -- no part can be placed: then there are none
   have fg : parts.toList = [] := by
    cases hp : parts.toList with
    | nil => rfl
    | cons p ps =>
     obtain ⟨i, x⟩ := p
     rw [hp] at hb
     have lW := hb.1
     simp only [bOk, hu, Bool.and_eq_true] at lW
     exact absurd (by intro f hf; exact Array.all_eq_true'.1 lW.1 f (by simpa using hf)) iX
   exfalso
   rw [show (12 : Nat) = 11 + 1 from rfl, Wa, hu] at gx
   simp only [Option.map_eq_some_iff] at gx
   obtain ⟨rs, fC, _⟩ := gx
   apply iX
   intro f hf
   have : ∀ (l : List Field) (rs : List (List At)), l.mapM (fun f => Wa P 11 f.type) = some rs -> ∀ f ∈ l, (P.info? f.type).isSome = true := by
    intro l
    induction l with
    | nil => intro rs _ f hf; cases hf
    | cons g l ih =>
     intro rs fC f hf
     simp only [List.mapM_cons, Option.bind_eq_bind, Option.bind_eq_some_iff] at fC
     obtain ⟨r0, fb, rs', aQ, _⟩ := fC
     rcases List.mem_cons.1 hf with rfl | hf
     ·rw [show (11 : Nat) = 10 + 1 from rfl, Wa] at fb
      cases hi0 : P.info? f.type with
      | some i => rfl
      | none => simp [Program.underlying, hi0] at fb
     ·exact ih rs' aQ f hf
   exact this fs.toList rs fC f hf
 ·rename_i n e hu
  cases bT : P.info? e with
  | none =>
   exfalso
   rw [show (12 : Nat) = 11 + 1 from rfl, Wa, hu] at gx
   simp only [Option.map_eq_some_iff] at gx
   obtain ⟨r0, fb, _⟩ := gx
   rw [show (11 : Nat) = 10 + 1 from rfl, Wa] at fb
   simp [Program.underlying, bT] at fb
  | some ie =>
   have dH : ∀ i, bOk P T i = true -> (fun i => some (i * P.cellsOf e, P.cellsOf e)) i = some (jw P T i, P.cellsOf (bTy P T i)) := by
    intro i _
    simp [jw, bTy, hu]
   obtain ⟨lI, h1, h2⟩ := GB r T _ dH parts.toList z out zv.cells (gq _ _ _ _) hb
   refine ⟨.agg lI, ?_, lI, rfl, h2⟩
   simp only [execOp, my, Instr.build, Sem.run_bind, g9, Result.andThen_ok, run_underlying hu, Kb bT, fV, h1, Sem.run_pure]
 ·cases eJ
theorem VG {t : TypeId} (ht : PU P t = true) {cs : Array Value} (hv : cs[i]? = some v) : (part t cs i).run P w = .ok v w := by
 unfold PU at ht
 split at ht <;> first | (rename_i hu; simp [part, isAgg, run_underlying hu, hv]) | cases ht
theorem AB {t : TypeId} {ob : Nat -> Nat -> Ob} {x y : At} (hp : sn P t x y = some p) (hx : YF T' h ob w x u) (hy : YF T' h ob w y v) (d : Nat) (w' : World) :
  (Op.equalIn (d + 1) t u v).run P w' = .ok p w' := by
 unfold sn at hp
 split at hp
 ·rename_i k a' k' b'
  split at hp
  ·rename_i hc
   obtain ⟨rfl, hi⟩ := hc
   obtain ⟨k2, cO⟩ := Option.isSome_iff_exists.1 hi
   cases hp
   rw [SU hx, SU hy]
   exact Go.run_equalIn_int w' d t _ _ _ _ (Gq cO)
  ·cases hp
 ·split at hp
  ·rename_i hc
   cases hp
   rw [kO hx, kO hy]
   have hu : P.underlying t = some .bool := by
    unfold Lv at hc; split at hc <;> first | assumption | cases hc
   exact Go.run_equalIn_bool' w' d t _ _ hu
  ·cases hp
 ·split at hp
  ·rename_i hc
   cases hp
   rw [RD hx, RD hy]
   rw [Go.run_equalIn_string w' d t _ _ (jQ hc), AQ]
  ·cases hp
 ·cases hp
theorem Mu {T' : CS} {ob : Nat -> Nat -> Ob} (d : Nat) (cs ds : Array Value) (w' : World) : ∀ (fs : List Field) (i : Nat) (xs ys : List At) (q : Bool), UY P fs i = true -> Q7 P (fs.map (·.type)) xs ys = some q ->
  Z9 (YF T' h ob w) xs (cs.toList.drop i) -> Z9 (YF T' h ob w) ys (ds.toList.drop i) -> (Op.eqFields (d + 1) cs ds fs).run P w' = .ok q w'
 | [], i, xs, ys, q, _, hq, _, _ => by simp [Q7] at hq; subst hq; simp [Op.eqFields]
 | f :: fs, i, [], ys, q, _, hq, _, _ => by simp [Q7] at hq
 | f :: fs, i, x :: xs, [], q, _, hq, _, _ => by simp [Q7] at hq
 | f :: fs, i, x :: xs, y :: ys, q, lW, hq, hx, hy => by
  simp only [UY, Bool.and_eq_true, decide_eq_true_eq, beq_iff_eq] at lW
  obtain ⟨⟨⟨hn, ho⟩, ib⟩, lW⟩ := lW
  simp only [List.map_cons, Q7] at hq
  split at hq
  ·rename_i p q' hp gj
   cases hq
   cases hcd : cs.toList.drop i with
   | nil => rw [hcd] at hx; cases hx
   | cons u us =>
    cases gY : ds.toList.drop i with
    | nil => rw [gY] at hy; cases hy
    | cons v vs =>
     rw [hcd] at hx; rw [gY] at hy
     cases hx with
     | cons hxu hx =>
      cases hy with
      | cons hyv hy =>
       have hu : cs[i]? = some u := by
        have : (cs.toList.drop i)[0]? = some u := by rw [hcd]; rfl
        simpa using this
       have hv : ds[i]? = some v := by
        have : (ds.toList.drop i)[0]? = some v := by rw [gY]; rfl
        simpa using this
       have hus : cs.toList.drop (i + 1) = us := by rw [<- List.drop_drop, hcd]; rfl
       have bk : ds.toList.drop (i + 1) = vs := by rw [<- List.drop_drop, gY]; rfl
       have ih := Mu d cs ds w' fs (i + 1) xs ys q' lW gj (by rw [hus]; exact hx) (by rw [bk]; exact hy)
       subst ho
       simp only [Op.eqFields, if_pos hn, Sem.run_bind, VG ib hu, VG ib hv, Result.andThen_ok, AB hp hxu hyv d w']
       cases p
       ·simp
       ·simpa using ih
  ·cases hq
theorem O2 (P : Program) : ∀ (ts : List TypeId) (xs ys : List At) (q : Bool), Q7 P ts xs ys = some q -> ts.length <= xs.length /\ ts.length <= ys.length
 | [], _, _, _, _ => ⟨Nat.zero_le _, Nat.zero_le _⟩
 | t :: ts, [], _, _, h => by simp [Q7] at h
 | t :: ts, x :: xs, [], _, h => by simp [Q7] at h
 | t :: ts, x :: xs, y :: ys, q, h => by
  simp only [Q7] at h
  split at h
  ·rename_i p q' hp gj
   have := O2 P ts xs ys q' gj
   simp only [List.length_cons]; omega
  ·cases h
theorem Ls (P : Program) : ∀ (ts : List TypeId) (xs ys : List At) (m : Nat), ts.length <= m -> Q7 P ts (xs.take m) (ys.take m) = Q7 P ts xs ys
 | [], _, _, _, _ => by simp [Q7]
 | t :: ts, _, _, 0, h => by simp at h
 | t :: ts, [], _, m + 1, _ => by simp [Q7]
 | t :: ts, x :: xs, [], m + 1, _ => by simp [Q7]
 | t :: ts, x :: xs, y :: ys, m + 1, h => by
  simp only [List.take_succ_cons, Q7]
  rw [Ls P ts xs ys m zBd]
theorem Hq (P : Program) : ∀ (ts us : List TypeId) (xs ys : List At) (q : Bool), Q7 P (ts ++ us) xs ys = some q -> ∃ p q', Q7 P ts xs ys = some p /\ Q7 P us (xs.drop ts.length) (ys.drop ts.length) = some q' /\ q = (p && q')
 | [], us, xs, ys, q, h => ⟨true, q, by simp [Q7], by simpa using h, zAF⟩
 | t :: ts, us, [], _, _, h => by simp [Q7] at h
 | t :: ts, us, x :: xs, [], _, h => by simp [Q7] at h
 | t :: ts, us, x :: xs, y :: ys, q, h => by
  simp only [List.cons_append, Q7] at h
  split at h
  ·rename_i p q0 hp hq0
   obtain ⟨p2, q2, h1, h2, h3⟩ := Hq P ts us xs ys q0 hq0
   cases h
   exact ⟨p && p2, q2, by simp only [Q7, hp, h1], by simpa using h2, by rw [h3, Bool.and_assoc]⟩
  ·cases h
theorem O5 {T' : CS} {ob : Nat -> Nat -> Ob} (d : Nat) (cs ds : Array Value) (w' : World) : ∀ (fs : List Field) (i : Nat) (xs ys : List At) (q : Bool), Tj P fs i = true -> Q7 P (fs.flatMap (Ey P)) xs ys = some q ->
  Z9 (YF T' h ob w) xs (cs.toList.drop i) -> Z9 (YF T' h ob w) ys (ds.toList.drop i) -> (Op.eqFields (d + 2) cs ds fs).run P w' = .ok q w'
 | [], i, xs, ys, q, _, hq, _, _ => by simp [Q7] at hq; subst hq; simp [Op.eqFields]
 | f :: fs, i, xs, ys, q, lW, hq, hx, hy => by
  simp only [Tj, Bool.and_eq_true, decide_eq_true_eq, beq_iff_eq] at lW
  obtain ⟨⟨hn, ho⟩, lW⟩ := lW
  subst ho
  rw [List.flatMap_cons] at hq
  obtain ⟨p, q', hp, gj, rfl⟩ := Hq P _ _ _ _ _ hq
  cases ib : PU P f.type with
  | true =>
   rw [ib, if_pos rfl] at lW
   have hl : Ey P f = [f.type] := by unfold Ey; rw [ib, if_pos rfl]
   rw [hl] at hp gj
   have hD := Mu (P := P) (d + 1) cs ds w' [f] f.offset xs ys p (by simp only [UY, Bool.and_eq_true, decide_eq_true_eq, beq_iff_eq]; exact ⟨⟨⟨hn, trivial⟩, ib⟩, trivial⟩) hp hx hy
   have ih := O5 d cs ds w' fs (f.offset + 1) (xs.drop 1) (ys.drop 1) q' lW gj (by rw [<- List.drop_drop]; exact hx.drop 1) (by rw [<- List.drop_drop]; exact hy.drop 1)
   simp only [Op.eqFields, if_pos hn] at hD ⊢
   have hlen := O2 P _ _ _ _ hp
   have dk := hx.length
   have gM := hy.length
   simp only [List.length_cons, List.length_nil, List.length_drop, Array.length_toList] at hlen dk gM
   have hu : cs[f.offset]? = some (cs[f.offset]'zAA) := Array.getElem?_eq_getElem _
   have hv : ds[f.offset]? = some (ds[f.offset]'zAA) := Array.getElem?_eq_getElem _
   simp only [Sem.run_bind, VG ib hu, VG ib hv, Result.andThen_ok] at hD ⊢
   cases xs with
   | nil => simp at hlen
   | cons x xs =>
    cases ys with
    | nil => simp at hlen
    | cons y ys =>
     obtain ⟨u, hu2, hxu⟩ := hx.get 0 x rfl
     obtain ⟨v, iW, hyv⟩ := hy.get 0 y rfl
     simp only [Q7] at hp
     split at hp
     ·rename_i p0 q0 hp0 hq0
      cases hq0
      cases hp
      have e1 : cs[f.offset]'zAA = u := by
       have : cs[f.offset]? = some u := by simpa using hu2
       rw [hu] at this; exact Option.some.inj this
      have e2 : ds[f.offset]'zAA = v := by
       have : ds[f.offset]? = some v := by simpa using iW
       rw [hv] at this; exact Option.some.inj this
      rw [e1, e2, AB hp0 hxu hyv (d + 1) w', Result.andThen_ok]
      cases p0
      ·simp
      ·simpa using ih
     ·cases hp
  | false =>
   rw [ib, if_neg zAF] at lW
   cases hu : P.underlying f.type with
   | none => rw [hu] at lW; cases lW
   | some de =>
    rw [hu] at lW
    cases de with
    | struct gs =>
     simp only [Bool.and_eq_true, beq_iff_eq, Bool.not_eq_true', decide_eq_true_eq] at lW
     obtain ⟨⟨⟨⟨⟨⟨gv, eJ⟩, lp⟩, hgp⟩, ld⟩, hgs⟩, lW⟩ := lW
     have hl : Ey P f = gs.toList.map (·.type) := by unfold Ey; rw [ib, if_neg zAF, hu]
     rw [hl] at hp gj
     rw [List.length_map, Array.length_toList] at gj
     have hf : P.fieldsOf f.type = gs := by simp [Program.fieldsOf, hu]
     have hlen := O2 P _ _ _ _ hp
     have dk := hx.length
     have gM := hy.length
     simp only [List.length_map, Array.length_toList, List.length_drop] at hlen dk gM
     have ih := O5 d cs ds w' fs (f.offset + gs.size) (xs.drop gs.size) (ys.drop gs.size) q' lW gj (by rw [<- List.drop_drop]; exact hx.drop gs.size) (by rw [<- List.drop_drop]; exact hy.drop gs.size)
     obtain ⟨va, hra, ha1, _⟩ := Ga (P := P) (w := w') gv (cs := cs) (off := f.offset) (by rw [lp]; omega)
     obtain ⟨vb, hrb, ig, _⟩ := Ga (P := P) (w := w') gv (cs := ds) (off := f.offset) (by rw [lp]; omega)
     rw [lp] at ha1 ig
     have bN : (Op.equalIn (d + 2) f.type va vb).run P w' = .ok p w' := by
      rw [ha1 eJ, ig eJ, show d + 2 = (d + 1) + 1 from rfl, Go.run_equalIn_struct w' (d + 1) f.type _ _ (by rw [hf]; exact hu) ld, hf]
      refine Mu (P := P) (h := h) (w := w) (T' := T') (ob := ob) d _ _ w' gs.toList 0 (xs.take gs.size) (ys.take gs.size) p hgs ?_ ?_ ?_
      ·rw [Ls P _ _ _ _ zAF]; exact hp
      ·simpa [cut] using hx.take gs.size
      ·simpa [cut] using hy.take gs.size
     simp only [Op.eqFields, if_pos hn, Sem.run_bind, hra, hrb, Result.andThen_ok, bN]
     cases p
     ·simp
     ·simpa using ih
    | _ => cases lW
theorem ve {T : TypeId} {ob : Nat -> Nat -> Ob} {xs ys : List At} (lW : Pp P T = true) (hq : Q7 P (zd P T) xs ys = some q)
  (hx : JP T' h ob w (.agg xs) u) (hy : JP T' h ob w (.agg ys) v) (op : BinOp) (x y : Operand) (w' : World) :
  (eqGuard op T x y u v).run P w' = .ok () w' /\ (binOp .eql T u v).run P w' = .ok (.bool q) w' /\ (binOp .neq T u v).run P w' = .ok (.bool (!q)) w' := by
 obtain ⟨cs, rfl, ga⟩ := hx
 obtain ⟨ds, rfl, dQ⟩ := hy
 unfold Pp at lW
 split at lW
 ·rename_i fs hu
  simp only [Bool.and_eq_true, Bool.not_eq_true'] at lW
  have hf : P.fieldsOf T = fs := by simp [Program.fieldsOf, hu]
  have gr : P.underlying T = some (.struct (P.fieldsOf T)) := by rw [hf]; exact hu
  have lT : (Op.equalIn 10000 T (.agg cs) (.agg ds)).run P w' = .ok q w' := by
   rw [show (10000 : Nat) = 9999 + 1 from rfl, Go.run_equalIn_struct w' 9999 T cs ds gr lW.1.1, show (9999 : Nat) = 9997 + 2 from rfl]
   exact O5 9997 cs ds w' _ 0 xs ys q (by rw [hf]; exact lW.2) hq (by simpa using ga) (by simpa using dQ)
  refine ⟨Go.run_eqGuard_agg w' op T x y cs ds lW.1.2, ?_, ?_⟩
  ·rw [Go.run_eql_struct, lT]; rfl
  ·rw [Go.run_neq_struct, lT]; rfl
 ·cases lW
theorem Hr (r : Rel T0 B σ a w X h) {v : V} (my : o.op = .move x \/ o.op = .assign x) (hs : Ya P σ o.op o.type v) :
  ∃ val, (execOp a.eval o).run P w = .ok (.value val) w /\ JP (Tof T0 X) h σ.ob w v val := by
 rcases my with my | my <;>
 ·simp only [my, Ya] at hs
  subst hs
  exact ⟨a.eval x, by simp [execOp, my], r.look _ x⟩
theorem AW (r : Rel T0 B σ a w X h) {c : Operand} {v : V} (my : o.op = .pick c x y) (hs : Ya P σ o.op o.type v) :
  ∃ val, (execOp a.eval o).run P w = .ok (.value val) w /\ JP (Tof T0 X) h σ.ob w v val := by
 simp only [my, Ya] at hs
 obtain ⟨bc, p, q, hg, hc, hp, hq, hgp, hgq, rfl⟩ := hs
 have he := kO (r.arg (P := P) o.type c hc hg)
 cases bc with
 | true =>
  have hx := kO (r.arg (P := P) o.type x (hp rfl) (hgp rfl))
  exact ⟨.bool p, by simp [execOp, my, he, asBool, hx], .bool _⟩
 | false =>
  have hy := kO (r.arg (P := P) o.type y (hq rfl) (hgq rfl))
  exact ⟨.bool q, by simp [execOp, my, he, asBool, hy], .bool _⟩
theorem kD (op : BinOp) (T : TypeId) (x y : Operand) (hv : ∀ cs, v ≠ .agg cs) (hn : v ≠ .nilIface) : (eqGuard op T x y v u).run P w = .ok () w := by
 unfold eqGuard
 cases op <;> simp <;> (split <;> first | exact absurd rfl hn | exact absurd rfl (hv _) | simp)
theorem vu (r : Rel T0 B σ a w X h) {T T' : TypeId} {v : V} (my : o.op = .binOp op T x y T') (hs : Ya P σ o.op o.type v) :
  ∃ val, (execOp a.eval o).run P w = .ok (.value val) w /\ JP (Tof T0 X) h σ.ob w v val := by
 simp only [my, Ya] at hs
 obtain ⟨fx, fy, hs⟩ := hs
 have hx := r.arg (P := P) T x rfl fx
 have hy := r.arg (P := P) T y rfl fy
 unfold BZ at hs
 split at hs
 ·rename_i k m k' n heq fe
  rw [heq] at hx; rw [fe] at hy
  have ex := SU hx
  have ey := SU hy
  obtain ⟨d, rfl, val, hr, hd⟩ := Av (P := P) (t := T) hs.1 hs.2 w
  refine ⟨val, ?_, hd _ _⟩
  simp only [execOp, my, ex, ey, Sem.run_bind, kD op T x y (v := .int k m) (u := .int k' n) zAF zAF, Result.andThen_ok, hr, Sem.run_pure]
 ·rename_i m n heq fe
  rw [heq] at hx; rw [fe] at hy
  have ex := RD hx
  have ey := RD hy
  obtain ⟨d, rfl, val, hr, hd⟩ := Ac (P := P) (t := T) hs w
  refine ⟨val, ?_, hd _ _⟩
  simp only [execOp, my, ex, ey, Sem.run_bind, kD op T x y (v := .string m) (u := .string n) zAF zAF, Result.andThen_ok, hr, Sem.run_pure]
 ·rename_i m n heq fe
  rw [heq] at hx; rw [fe] at hy
  have ex := kO hx
  have ey := kO hy
  obtain ⟨d, rfl, val, hr, hd⟩ := BT (P := P) (t := T) hs.1 hs.2 w
  refine ⟨val, ?_, hd _ _⟩
  simp only [execOp, my, ex, ey, Sem.run_bind, kD op T x y (v := .bool m) (u := .bool n) zAF zAF, Result.andThen_ok, hr, Sem.run_pure]
 ·rename_i xs ys heq fe
  rw [heq] at hx; rw [fe] at hy
  obtain ⟨lW, q, hq, hs⟩ := hs
  obtain ⟨h1, h2, h3⟩ := ve (P := P) lW hq hx hy op x y w
  rcases hs with ⟨rfl, rfl⟩ | ⟨rfl, rfl⟩
  ·exact ⟨.bool q, by simp only [execOp, my, Sem.run_bind, h1, Result.andThen_ok, h2, Sem.run_pure], .bool _⟩
  ·exact ⟨.bool (!q), by simp only [execOp, my, Sem.run_bind, h1, Result.andThen_ok, h3, Sem.run_pure], .bool _⟩
 ·exact hs.elim
theorem u4 (r : Rel T0 B σ a w X h) {op : UnOp} {T : TypeId} {v : V} (my : o.op = .unOp op T x) (hs : Ya P σ o.op o.type v) :
  ∃ val, (execOp a.eval o).run P w = .ok (.value val) w /\ JP (Tof T0 X) h σ.ob w v val := by
 simp only [my, Ya] at hs
 obtain ⟨hg, hs⟩ := hs
 have hx := r.arg (P := P) 0 x rfl hg
 split at hs
 ·rename_i b heq
  rw [heq] at hx
  subst hs
  have he := kO hx
  exact ⟨.bool (!b), by simp [execOp, my, he, Op.unary], .bool _⟩
 ·rename_i k n heq
  rw [heq] at hx
  subst hs
  have he := SU hx
  exact ⟨.int k (k.wrap (-n)), by simp [execOp, my, he, Op.unary, Op.intArith], .int _ _⟩
 ·exact hs.elim
theorem F7 (r : Rel T0 B σ a w X h) {S T : TypeId} {v : V} (my : o.op = .convert S T x) (hS : (P.underlying S).isSome = true) (hs : Ya P σ o.op o.type v) :
  ∃ val, (execOp a.eval o).run P w = .ok (.value val) w /\ JP (Tof T0 X) h σ.ob w v val := by
 simp only [my, Ya] at hs
 obtain ⟨hg, _, hs⟩ := hs
 have hx := r.arg (P := P) 0 x rfl hg
 split at hs
 ·rename_i k' n heq
  rw [heq] at hx
  obtain ⟨k, hk, rfl⟩ := hs
  have he := SU hx
  obtain ⟨d, hd⟩ := Option.isSome_iff_exists.1 hS
  exact ⟨.int k (k.wrap n), by simp [execOp, my, he, convert, run_underlying hd, run_underlying (Gq hk), Conv.intToInt], .int _ _⟩
 ·exact hs.elim
theorem EA (r : Rel T0 B σ a w X h) {v : V} (my : o.op = .extract x i) (hs : Ya P σ o.op o.type v) :
  ∃ val, (execOp a.eval o).run P w = .ok (.value val) w /\ JP (Tof T0 X) h σ.ob w v val := by
 simp only [my, Ya] at hs
 obtain ⟨hg, hs⟩ := hs
 have hx := r.arg (P := P) 0 x rfl hg
 split at hs
 ·rename_i xs heq
  rw [heq] at hx
  obtain ⟨vs, he, lC⟩ := hx
  obtain ⟨val, fN, hr⟩ := lC.get i v hs.1
  have : vs[i]? = some val := by simpa using fN
  exact ⟨val, by simp [execOp, my, he, Instr.extract, this], hr.up⟩
 ·exact hs.elim
theorem Cv (r : Rel T0 B σ a w X h) {v : V} (my : o.op = .call c) (hs : Ya P σ o.op o.type v) :
  ∃ val, (execOp a.eval o).run P w = .ok (.value val) w /\ JP (Tof T0 X) h σ.ob w v val := by
 simp only [my, Ya] at hs
 obtain ⟨callee, args, argTypes⟩ := c
 simp only at hs
 split at hs
 ·rename_i x t ha ht
  obtain rfl : args = #[x] := zBe
  obtain rfl : argTypes = #[t] := by apply Array.toList_inj.1; simpa using ht
  obtain ⟨hg, hs⟩ := hs
  have hx := r.arg (P := P) t x rfl hg
  split at hs
  ·rename_i s heq
   rw [heq] at hx
   obtain ⟨ld, rfl⟩ := hs
   have he := RD hx
   exact ⟨.int .i64 s.size, by simp [execOp, my, resolve, invoke, builtin, he, Builtin.len_, run_underlying (jQ ld), goInt], .int _ _⟩
  ·rename_i size rows heq
   rw [heq] at hx
   obtain ⟨ld, rfl⟩ := hs
   obtain ⟨ti, hu, _, _⟩ := X6 ld
   obtain ⟨base, cap, he, _, _⟩ := Ak (show Rd _ _ _ _ from hx)
   exact ⟨.int .i64 rows.length, by simp [execOp, my, resolve, invoke, builtin, he, Builtin.len_, run_underlying hu, goInt], .int _ _⟩
  ·rename_i size heq
   rw [heq] at hx
   obtain ⟨ld, rfl⟩ := hs
   obtain ⟨ti, hu, _, _⟩ := X6 ld
   have he : a.eval x = .slice none 0 0 := hx
   exact ⟨.int .i64 0, by simp [execOp, my, resolve, invoke, builtin, he, Builtin.len_, run_underlying hu, goInt], .int _ _⟩
  ·rename_i u j lo len heq
   rw [heq] at hx
   obtain ⟨ld, ho, rfl⟩ := hs
   obtain ⟨ti, hu, _, _⟩ := X6 ld
   have cz : ∃ base cap, a.eval x = .slice base len cap := by
    rcases ho with ⟨q, size, rows, ho⟩ | ⟨size, rows, ho⟩
    ·obtain ⟨_, _, _, base, cap, he, _, _, _, _⟩ := hx.2.1 _ _ _ ho
     exact ⟨base, cap, he⟩
    ·obtain ⟨_, _, _, base, cap, he, _, _, _, _⟩ := hx.2.2 _ _ ho
     exact ⟨base, cap, he⟩
   obtain ⟨base, cap, he⟩ := cz
   exact ⟨.int .i64 len, by simp [execOp, my, resolve, invoke, builtin, he, Builtin.len_, run_underlying hu, goInt], .int _ _⟩
  ·rename_i u j i c heq
   rw [heq] at hx
   obtain ⟨ld, size, rows, n, s, ho, hi, lJ, rfl⟩ := hs
   obtain ⟨ti, hu, _, _⟩ := X6 ld
   obtain ⟨v0, S, hn, lE⟩ := r.nest ho hi lJ
   have aA : a.eval x = _ := hx.2 _ _ ho
   rw [hn] at aA
   have he : ∃ base cap, a.eval x = .slice base s.length cap := by
    rw [aA]
    cases lE with
    | sl v size rows S e xs Sk gm hz hb hl hk hs hd =>
     rcases gm.2 with ⟨rfl, h0⟩ | ⟨g, cap, cur, rfl, _⟩
     ·exact ⟨none, 0, by rw [h0]⟩
     ·exact ⟨_, cap, rfl⟩
   obtain ⟨base, cap, he⟩ := he
   exact ⟨.int .i64 s.length, by simp [execOp, my, resolve, invoke, builtin, he, Builtin.len_, run_underlying hu, goInt], .int _ _⟩
  ·exact hs.elim
 ·rename_i x y ha
  obtain rfl : args = #[x, y] := zBe
  obtain ⟨k, m, n, hx, hy, rfl⟩ := hs
  have ex := qP r hx
  have ey := qP r hy
  exact ⟨.int k (if n > m then n else m), by simp [execOp, my, resolve, invoke, builtin, ex, ey, Builtin.max_, Builtin.max2], .int _ _⟩
 ·rename_i x y ha
  obtain rfl : args = #[x, y] := zBe
  obtain ⟨k, m, n, hx, hy, rfl⟩ := hs
  have ex := qP r hx
  have ey := qP r hy
  exact ⟨.int k (if n < m then n else m), by simp [execOp, my, resolve, invoke, builtin, ex, ey, Builtin.min_, Builtin.min2], .int _ _⟩
 ·exact hs.elim
theorem Wl (r : Rel T0 B σ a w X h) {v : V} (hs : Ya P σ o.op o.type v) :
  ∃ val, (execOp a.eval o).run P w = .ok (.value val) w /\ JP (Tof T0 X) h σ.ob w v val := by
 cases my : o.op with
 | move x => exact Hr r (.inl my) hs
 | assign x => exact Hr r (.inr my) hs
 | pick c x y => exact AW r my hs
 | load T x => exact AH r my hs
 | fieldAddr T x f => exact IP r my hs
 | nilCheck x => exact FB r my hs
 | indexAddr T x i => exact L4 r my hs
 | index T x i => exact C9 r my hs
 | field T x f => exact BR r my hs
 | slice T x lo hi m =>
  cases m with
  | none => exact BU r my hs
  | some m => rw [my] at hs; exact hs.elim
 | binOp op T x y T' => exact vu r my hs
 | unOp op T x => exact u4 r my hs
 | convert S T x => rw [my] at hs; exact F7 r my hs.2.1 (by rw [my]; exact hs)
 | extract x i => exact EA r my hs
 | call c => exact Cv r my hs
 | build T ps => exact C3 r my hs
 | _ => rw [my] at hs; exact hs.elim
def At.ref (d : Nat) : At -> Bool
 | .sref t _ _ _ => t == d
 | .ptr t _ _ _ => t == d
 | .bptr t _ => t == d
 | .fn _ t => t == d
 | .tref t _ _ _ _ => t == d
 | _ => false
def YW (d : Nat) : List At -> Bool
 | [] => false
 | x :: xs => x.ref d || YW d xs
def V.N5 (d : Nat) : V -> Bool
 | .one x => x.ref d
 | .agg xs => YW d xs
 | _ => false
def Tp (d : Nat) : List V -> Bool
 | [] => false
 | x :: xs => x.N5 d || Tp d xs
def V.ref (d : Nat) : V -> Bool
 | .tup xs => Tp d xs
 | .cnd _ x => x.N5 d || (match x with | .tup xs => Tp d xs | _ => false)
 | .one x => x.ref d
 | .agg xs => YW d xs
 | .fix _ x => x.N5 d || (match x with | .tup xs => Tp d xs | _ => false)
 | .any => false
def Y6 (d : Nat) : List Ob -> Bool
 | [] => false
 | .box cells :: os => YW d cells || Y6 d os
 | .lit _ rows :: os => YW d rows.flatten || Y6 d os
 | _ :: os => Y6 d os
def ym (d : Nat) : Nat -> St -> Bool
 | _, [] => true
 | k, e :: σ => (k == d || (!e.1.ref d && !Y6 d e.2)) && ym d (k + 1) σ
def St.fresh (σ : St) (d : Nat) : Bool := decide (d < σ.length) && ym d 0 σ
theorem xZ {d : Nat} : ∀ {σ : St} {k : Nat}, ym d k σ = true -> ∀ t e, σ[t]? = some e -> k + t ≠ d -> e.1.ref d = false /\ Y6 d e.2 = false
 | [], _, _, t, e, he, _ => by simp at he
 | e0 :: σ, k, hf, t, e, he, lA => by
  simp only [ym, Bool.and_eq_true, Bool.or_eq_true, beq_iff_eq, Bool.not_eq_true'] at hf
  cases t with
  | zero =>
   simp at he; subst he
   rcases hf.1 with h | h
   ·omega
   ·exact h
  | succ t => exact xZ hf.2 t e (by simpa using he) zAA
theorem St.vS (hf : σ.fresh d = true) (t : Nat) (lA : t ≠ d) : (σ.get t).ref d = false := by
 simp only [St.fresh, Bool.and_eq_true] at hf
 unfold St.get
 cases he : σ[t]? with
 | none => rfl
 | some e => exact (xZ hf.2 t e he zAA).1
theorem DL {d : Nat} : ∀ {os : List Ob}, Y6 d os = false -> ∀ j cells, Yj os j = .box cells -> YW d cells = false
 | [], _, j, cells, h => by simp [Yj] at h
 | o :: os, hr, j, cells, h => by
  cases j with
  | zero =>
   simp [Yj] at h; subst h
   simp [Y6] at hr; exact hr.1
  | succ j =>
   have : Yj os j = .box cells := zBu
   refine DL (os := os) ?_ j cells this
   cases o <;> simp_all [Y6]
theorem G3 {d : Nat} : ∀ {os : List Ob}, Y6 d os = false -> ∀ j size rows, Yj os j = .lit size rows -> YW d rows.flatten = false
 | [], _, j, _, _, h => by simp [Yj] at h
 | o :: os, hr, j, size, rows, h => by
  cases j with
  | zero =>
   simp [Yj] at h; subst h
   simp [Y6] at hr; exact hr.1
  | succ j =>
   have : Yj os j = .lit size rows := zBu
   refine G3 (os := os) ?_ j size rows this
   cases o <;> simp_all [Y6]
theorem St.uI (hf : σ.fresh d = true) (t j : Nat) (lA : t ≠ d) (size : Nat) (rows : List (List At)) (ho : σ.ob t j = .lit size rows) : YW d rows.flatten = false := by
 simp only [St.fresh, Bool.and_eq_true] at hf
 unfold St.ob at ho
 cases he : σ[t]? with
 | none => rw [he] at ho; cases ho
 | some e => rw [he] at ho; exact G3 (xZ hf.2 t e he zAA).2 j size rows ho
theorem St.sI (hf : σ.fresh d = true) (t j : Nat) (lA : t ≠ d) (cells : List At) (ho : σ.ob t j = .box cells) : YW d cells = false := by
 simp only [St.fresh, Bool.and_eq_true] at hf
 unfold St.ob at ho
 cases he : σ[t]? with
 | none => rw [he] at ho; cases ho
 | some e => rw [he] at ho; exact DL (xZ hf.2 t e he zAA).2 j cells ho
theorem St.zO (hf : σ.fresh d = true) : d < σ.length := by
 simp only [St.fresh, Bool.and_eq_true, decide_eq_true_eq] at hf; exact hf.1
def Cpt (h h' : Nat -> Nat -> Hd) (ob gS : Nat -> Nat -> Ob) (t j : Nat) : Prop :=
 (∀ q size rows, gS t j = .arr q size rows -> h' t j = h t j /\ ∃ lO, ob t j = .arr q size lO /\ lO.length = rows.length) /\
 (∀ size rows, gS t j = .lit size rows -> h' t j = h t j /\ ∃ lO, ob t j = .lit size lO /\ lO.length = rows.length) /\
 (∀ cells, gS t j = .box cells -> h' t j = h t j /\ ∃ hH, ob t j = .box hH)
theorem Cpt.same {ob : Nat -> Nat -> Ob} (hh : h' t j = h t j) (ho : gS t j = ob t j) : Cpt h h' ob gS t j :=
 ⟨fun q size rows e => ⟨hh, rows, by rw [<- ho]; exact e, rfl⟩, fun size rows e => ⟨hh, rows, by rw [<- ho]; exact e, rfl⟩, fun cells e => ⟨hh, cells, by rw [<- ho]; exact e⟩⟩
section
variable {ob : Nat -> Nat -> Ob}
theorem YF.carry (hT : ∀ b k v, T b k -> w.cell? ⟨b, k, none⟩ = some v -> w'.cell? ⟨b, k, none⟩ = some v /\ T' b k) (hc : ∀ t j, t ≠ d -> Cpt h h' ob gS t j)
  {x : At} (hx : x.ref d = false) (r : YF T h ob w x v) : YF T' h' gS w' x v := by
 cases x with
 | any => exact r
 | d x => exact Rd.mono hT r
 | nil s => exact r
 | sref t j lo len =>
  have ht : t ≠ d := zBh
  refine ⟨r.1, fun q size rows ho => ?_, fun size rows ho => ?_⟩
  ·obtain ⟨hh, lO, ia, hl⟩ := (hc t j ht).1 q size rows ho
   rw [hh, <- hl]; exact r.2.1 q size lO ia
  ·obtain ⟨hh, lO, ia, hl⟩ := (hc t j ht).2.1 size rows ho
   rw [hh, <- hl]; exact r.2.2 size lO ia
 | ptr t j i c =>
  have ht : t ≠ d := zBh
  refine ⟨r.1, fun q size rows ho => ?_⟩
  obtain ⟨hh, lO, ia, hl⟩ := (hc t j ht).1 q size rows ho
  rw [hh]; exact r.2 q size lO ia
 | bptr t c =>
  have ht : t ≠ d := zBh
  refine ⟨r.1, fun cells ho => ?_⟩
  obtain ⟨hh, hH, ia⟩ := (hc t 0 ht).2.2 cells ho
  rw [hh]; exact r.2 hH ia
 | fn f t =>
  have ht : t ≠ d := zBh
  refine ⟨r.1, fun cells ho => ?_⟩
  obtain ⟨hh, hH, ia⟩ := (hc t 0 ht).2.2 cells ho
  rw [hh]; exact r.2 hH ia
 | tref t j i c o =>
  have ht : t ≠ d := zBh
  refine ⟨r.1, fun size rows ho => ?_⟩
  obtain ⟨hh, lO, ia, hl⟩ := (hc t j ht).1 true size rows ho
  rw [hh]; exact r.2 size lO ia
 | rptr rr c =>
  obtain ⟨b, off, g, e, hk⟩ := r
  exact ⟨b, off, g, e, fun k d hd => ⟨(hT _ _ _ (hk k d hd).2.1 (hk k d hd).1).1, (hT _ _ _ (hk k d hd).2.1 (hk k d hd).1).2, Rd.mono hT (hk k d hd).2.2⟩⟩
theorem Vi (hT : ∀ b k v, T b k -> w.cell? ⟨b, k, none⟩ = some v -> w'.cell? ⟨b, k, none⟩ = some v /\ T' b k) (hc : ∀ t j, t ≠ d -> Cpt h h' ob gS t j)
  {xs : List At} (hx : YW d xs = false) (r : Z9 (YF T h ob w) xs vs) : Z9 (YF T' h' gS w') xs vs := by
 induction r with
 | nil => exact .nil
 | cons r _ ih =>
  simp only [YW, Bool.or_eq_false_iff] at hx
  exact .cons (YF.carry hT hc hx.1 r) (ih hx.2)
theorem zK.carry (hT : ∀ b k v, T b k -> w.cell? ⟨b, k, none⟩ = some v -> w'.cell? ⟨b, k, none⟩ = some v /\ T' b k) (hc : ∀ t j, t ≠ d -> Cpt h h' ob gS t j)
  {x : V} (hx : x.N5 d = false) (r : zK T h ob w x v) : zK T' h' gS w' x v := by
 cases x with
 | any => exact r
 | one x => exact YF.carry hT hc hx r
 | agg xs => obtain ⟨cs, e, r⟩ := r; exact ⟨cs, e, Vi hT hc hx r⟩
 | tup xs => exact r.elim
 | cnd g x => exact r.elim
 | fix u x => exact r.elim
theorem JP.carry (hT : ∀ b k v, T b k -> w.cell? ⟨b, k, none⟩ = some v -> w'.cell? ⟨b, k, none⟩ = some v /\ T' b k) (hc : ∀ t j, t ≠ d -> Cpt h h' ob gS t j)
  {x : V} (hx : x.ref d = false) (r : JP T h ob w x v) : JP T' h' gS w' x v := by
 cases x with
 | any => exact r
 | one x => exact YF.carry hT hc hx r
 | agg xs => obtain ⟨cs, e, r⟩ := r; exact ⟨cs, e, Vi hT hc hx r⟩
 | tup xs =>
  obtain ⟨vs, e, r⟩ := r
  refine ⟨vs, e, ?_⟩
  clear e
  generalize vs.toList = vl at r
  simp only [V.ref] at hx
  induction r with
  | nil => exact .nil
  | cons r _ ih =>
   simp only [Tp, Bool.or_eq_false_iff] at hx
   exact .cons (zK.carry hT hc hx.1 r) (ih hx.2)
 | cnd g x =>
  simp only [V.ref, Bool.or_eq_false_iff] at hx
  exact ⟨fun hg => zK.carry hT hc hx.1 (r.1 hg), r.2⟩
 | fix u x =>
  simp only [V.ref, Bool.or_eq_false_iff] at hx
  exact ⟨r.1, zK.carry hT hc hx.1 r.2⟩
end
theorem Rel.Tlt (r : Rel T0 B σ a w X h) {k : Nat} (hb : Tof T0 X b k) : b < w.heap.size := by
 rcases hb with hb | hb
 ·exact r.hB b (r.hT b k hb)
 ·exact (r.hX b hb).2
theorem qc {e : TypeId} {xs : List Value} (hb : ∀ b, blk v = some b -> w'.heap[b]? = w.heap[b]?) (ho : w.ownsRow 0 e size v n xs) : w'.ownsRow 0 e size v n xs := by
 refine ⟨ho.1, ?_⟩
 rcases ho.2 with hn | ⟨g, cap, cur, rfl, h0, hg, rest⟩
 ·exact .inl hn
 ·exact .inr ⟨g, cap, cur, rfl, h0, by rw [hb g rfl]; exact hg, rest⟩
theorem Own.Nd {d : D} (hb : ∀ b, S b -> w'.heap[b]? = w.heap[b]?) (ho : Own w v d S) : Own w' v d S := by
 induction ho with
 | int k n S => exact .int k n S
 | bool b S => exact .bool b S
 | str s S => exact .str s S
 | unk v h S => exact .unk v h S
 | sl v size rows S e xs Sk ho hz lP hl hk hs hd ih =>
  exact .sl v size rows S e xs Sk (qc (fun b h => hb b (lP b h)) ho) hz lP hl (fun k x d hx lL => ih k x d hx lL (fun b h => hb b (hs k b h).1)) hs hd
theorem Own.mono {d : D} {S' : Nat -> Prop} (hS : ∀ b, S b -> S' b) (ho : Own w v d S) : Own w v d S' := by
 cases ho with
 | int k n S => exact .int k n S'
 | bool b S => exact .bool b S'
 | str s S => exact .str s S'
 | unk v h S => exact .unk v h S'
 | sl v size rows S e xs Sk ho hz lP hl hk hs hd => exact .sl v size rows S' e xs Sk ho hz (fun b h => hS b (lP b h)) hl hk (fun k b h => ⟨hS b (hs k b h).1, (hs k b h).2⟩) hd
theorem KT.Nd {xs : List Value} (hb : ∀ b, S b -> w'.heap[b]? = w.heap[b]?) (ho : KT w xs ds S) : KT w' xs ds S := by
 obtain ⟨hl, Sk, h1, h2, h3⟩ := ho
 exact ⟨hl, Sk, fun k x d hx hd => (h1 k x d hx hd).Nd (fun b h => hb b (h2 k b h)), h2, h3⟩
theorem J0.Nd {ob : Nat -> Nat -> Ob} {o : Ob}
  (hT : ∀ b k v, T b k -> w.cell? ⟨b, k, none⟩ = some v -> w'.cell? ⟨b, k, none⟩ = some v /\ T' b k) (hc : ∀ t j, t ≠ d -> Cpt h h' ob gS t j)
  (ir : o ≠ .none -> ∀ b, blk hd.v = some b -> hd.u b) (hb : o ≠ .none -> ∀ b, hd.u b -> w'.heap[b]? = w.heap[b]?) (hr : Y6 d [o] = false) (r : J0 T h ob w hd o) : J0 T' h' gS w' hd o := by
 cases o with
 | none => trivial
 | box cells =>
  obtain ⟨b, cs, e, hv, hh, lC⟩ := r
  simp only [Y6, Bool.or_false] at hr
  exact ⟨b, cs, e, hv, by rw [hb zAF b (ir zAF b (by rw [hv]; rfl))]; exact hh, Vi hT hc hr lC⟩
 | arr q size rows =>
  have hk : ∀ {e : TypeId} {n : Nat} {xs : List Value}, w.ownsRow 0 e size hd.v n xs -> w'.ownsRow 0 e size hd.v n xs := fun ho => qc (fun b h => hb zAF b (ir zAF b h)) ho
  cases q with
  | false =>
   obtain ⟨e, xs, ho, hz, lC⟩ := r
   exact ⟨e, xs, hk ho, hz, lC.imp fun _ _ => Rd.mono hT⟩
  | true =>
   obtain ⟨e, xs, ho, hz, lC, hn⟩ := r
   exact ⟨e, xs, hk ho, hz, lC.Nd (fun b h => hb zAF b h.1), hn⟩
 | lit size rows =>
  obtain ⟨e, xs, ho, hz, lC⟩ := r
  simp only [Y6, Bool.or_false] at hr
  exact ⟨e, xs, qc (fun b h => hb zAF b (ir zAF b h)) ho, hz, Vi hT hc hr lC⟩
theorem St.vt (hf : σ.fresh d = true) (t j : Nat) (lA : t ≠ d) : Y6 d [σ.ob t j] = false := by
 cases ho : σ.ob t j with
 | none => rfl
 | box cells => simp [Y6, St.sI hf t j lA cells ho]
 | arr q size rows => rfl
 | lit size rows => simp only [Y6, St.uI hf t j lA size rows ho, Bool.or_false]
theorem Rel.wI (r : Rel T0 B σ a w X h) (hf : σ.fresh d = true) (M : Nat -> Prop) (iZ : w.heap.size <= w'.heap.size) (hg : ∀ k, k < w.heap.size -> ¬ M k -> w'.heap[k]? = w.heap[k]?)
  (hm : ∀ b, M b -> ¬ B b /\ ¬ X b /\ ∀ t j, t ≠ d -> σ.ob t j ≠ .none -> ¬ (h t j).u b) (hX : ∀ b, X b -> X' b) (dB : ∀ b, X' b -> X b \/ (w.heap.size <= b /\ b < w'.heap.size))
  (v : V) (val : Value) (os : List Ob) (hd : Nat -> Hd)
  (hv : JP (Tof T0 X') (fun t j => if t = d then hd j else h t j) (σ.new d v os).ob w' v val)
  (hos : ∀ j, J0 (Tof T0 X') (fun t j => if t = d then hd j else h t j) (σ.new d v os).ob w' (hd j) (Yj os j))
  (ir : ∀ j b, Yj os j ≠ .none -> blk (hd j).v = some b -> (hd j).u b)
  (lE : ∀ j b, Yj os j ≠ .none -> (hd j).u b -> (w.heap.size <= b \/ M b) /\ ¬ X' b /\ b < w'.heap.size)
  (cy : ∀ j j' b, Yj os j ≠ .none -> Yj os j' ≠ .none -> (hd j).u b -> (hd j').u b -> j = j') :
  Rel T0 B (σ.new d v os) (a.put (some d) val) w' X' (fun t j => if t = d then hd j else h t j) := by
 have lH := St.zO hf
 have hTm : ∀ b k, Tof T0 X b k -> ¬ M b := by
  intro b k hb hmb
  rcases hb with hb | hb
  ·exact (hm b hmb).1 (r.hT b k hb)
  ·exact (hm b hmb).2.1 hb
 have hT : ∀ b k v, Tof T0 X b k -> w.cell? ⟨b, k, none⟩ = some v -> w'.cell? ⟨b, k, none⟩ = some v /\ Tof T0 X' b k := by
  intro b k v hb lJ
  refine ⟨?_, hb.imp id (hX b)⟩
  rw [World.cell?_of_block (hg b (r.Tlt hb) (hTm b k hb))]; exact lJ
 have hc : ∀ t j, t ≠ d -> Cpt h (fun t j => if t = d then hd j else h t j) σ.ob (σ.new d v os).ob t j := by
  intro t j lA
  have he : (σ.new d v os).ob t j = σ.ob t j := zBj
  exact Cpt.same (by simp [lA]) he
 refine ⟨by simp [Act.put, r.size, St.WB], r.defers, fun b hb => Nat.lt_of_lt_of_le (r.hB b hb) iZ, fun b hb => ?_, r.hT, fun t ht => ?_, fun t j => ?_, fun t j b ho hb => ?_, fun t j b ho hb => ?_, fun t j t' j' b ho lb hb lP => ?_⟩
 ·rcases dB b hb with hb | hb
  ·have := r.hX b hb; exact ⟨this.1, zAA⟩
  ·exact ⟨fun gy => by have := r.hB b gy; omega, hb.2⟩
 ·rw [St.WB] at ht
  rw [St.VL]
  by_cases lL : t = d
  ·subst lL
   simp only [lH, and_self, if_true]
   have : (a.tmps.setIfInBounds t val).getD t undef = val := by simp [r.size, lH]
   simp only [Act.put, this]; exact hv
  ·rw [if_neg (fun hh => lL hh.1)]
   have : (a.tmps.setIfInBounds d val).getD t undef = a.tmps.getD t undef := by simp [Array.getElem?_setIfInBounds_ne (Ne.symm lL)]
   simp only [Act.put, this]
   exact JP.carry hT hc (St.vS hf t lL) (r.slot t ht)
 ·rw [St.Jt]
  by_cases lL : t = d
  ·subst lL
   simp only [lH, and_self, if_true]; exact hos j
  ·have lA : ¬ (t = d /\ d < σ.length) := fun hh => lL hh.1
   rw [if_neg lA]
   simp only [if_neg lL]
   exact J0.Nd hT hc (fun ho b => r.ub t j b ho) (fun ho b hu => hg b (r.own t j b ho hu).2.2 (fun hmb => (hm b hmb).2.2 t j lL ho hu)) (St.vt hf t j lL) (r.obj t j)
 ·rw [St.Jt] at ho
  by_cases lL : t = d
  ·subst lL
   simp only [lH, and_self, if_true] at ho hb ⊢
   exact ir j b ho hb
  ·rw [if_neg (fun hh => lL hh.1)] at ho
   simp only [lL, if_false] at hb ⊢
   exact r.ub t j b ho hb
 ·rw [St.Jt] at ho
  by_cases lL : t = d
  ·subst lL
   simp only [lH, and_self, if_true] at ho hb
   have h1 := lE j b ho hb
   refine ⟨?_, h1.2.1, h1.2.2⟩
   rcases h1.1 with h2 | h2
   ·exact fun gy => by have := r.hB b gy; omega
   ·exact (hm b h2).1
  ·rw [if_neg (fun hh => lL hh.1)] at ho
   simp only [lL, if_false] at hb
   have := r.own t j b ho hb
   refine ⟨this.1, fun hx => ?_, zAA⟩
   rcases dB b hx with hx | hx
   ·exact this.2.1 hx
   ·omega
 ·rw [St.Jt] at ho lb
  by_cases hd1 : t = d
  ·by_cases dA : t' = d
   ·subst hd1; subst dA
    simp only [lH, and_self, if_true] at ho hb lb lP
    exact ⟨rfl, cy j j' b ho lb hb lP⟩
   ·subst hd1
    simp only [lH, and_self, if_true] at ho hb
    rw [if_neg (fun hh => dA hh.1)] at lb
    simp only [dA, if_false] at lP
    have h1 := lE j b ho hb
    have h2 := r.own t' j' b lb lP
    rcases h1.1 with h3 | h3
    ·omega
    ·exact absurd lP ((hm b h3).2.2 t' j' dA lb)
  ·by_cases dA : t' = d
   ·subst dA
    simp only [lH, and_self, if_true] at lb lP
    rw [if_neg (fun hh => hd1 hh.1)] at ho
    simp only [hd1, if_false] at hb
    have h1 := lE j' b lb lP
    have h2 := r.own t j b ho hb
    rcases h1.1 with h3 | h3
    ·omega
    ·exact absurd hb ((hm b h3).2.2 t j hd1 ho)
   ·rw [if_neg (fun hh => hd1 hh.1)] at ho
    rw [if_neg (fun hh => dA hh.1)] at lb
    simp only [hd1, dA, if_false] at hb lP
    exact r.inj t j t' j' b ho lb hb lP
theorem Rel.new (r : Rel T0 B σ a w X h) (hf : σ.fresh d = true) (hg : w.grownBy w' none) (hX : ∀ b, X b -> X' b) (dB : ∀ b, X' b -> X b \/ (w.heap.size <= b /\ b < w'.heap.size))
  (v : V) (val : Value) (os : List Ob) (hd : Nat -> Hd)
  (hv : JP (Tof T0 X') (fun t j => if t = d then hd j else h t j) (σ.new d v os).ob w' v val)
  (hos : ∀ j, J0 (Tof T0 X') (fun t j => if t = d then hd j else h t j) (σ.new d v os).ob w' (hd j) (Yj os j))
  (ir : ∀ j b, Yj os j ≠ .none -> blk (hd j).v = some b -> (hd j).u b)
  (lE : ∀ j b, Yj os j ≠ .none -> (hd j).u b -> w.heap.size <= b /\ ¬ X' b /\ b < w'.heap.size)
  (cy : ∀ j j' b, Yj os j ≠ .none -> Yj os j' ≠ .none -> (hd j).u b -> (hd j').u b -> j = j') :
  Rel T0 B (σ.new d v os) (a.put (some d) val) w' X' (fun t j => if t = d then hd j else h t j) :=
 r.wI hf (fun _ => False) hg.size (fun k hk _ => hg.block k hk zAF) (fun _ hh => hh.elim) hX dB v val os hd hv hos ir (fun j b h1 h2 => ⟨.inl (lE j b h1 h2).1, (lE j b h1 h2).2⟩) cy
open Go.RowKit
def yb (v : Value) (cs : List Value) : Prop := (∃ c, cs = [c] /\ v = c /\ c.oneCell' = true) \/ (cs.length ≠ 1 /\ v = .agg cs.toArray)
def Rm : List Value -> Value
 | [v] => v
 | vs => .tuple vs.toArray
def KH (T : CS) (w : World) (v : Value) : D -> Prop
 | .sl size rows => ∃ e xs, w.ownsRow 0 e size v rows.length xs /\ (∀ r ∈ rows, r.length = size) /\ Z9 (Rd T w) xs rows.flatten
 | d => Rd T w v d
def qb (own : Bool) (T : CS) (w : World) (v : Value) (d : D) : Prop := if own then KH T w v d else Rd T w v d
def TL (P : Program) (f : FuncId) : Bool :=
 match P.funcs[f]? with
 | some fn => fn.body.isSome && fn.name != "runtime.NumGoroutine"
 | none => false
def o0 (B N : Nat) (Y : Nat -> Prop) (cs : List Value) (ds : List D) : Prop :=
 (∀ (i : Nat) (c : Value) (d : D) (b : Nat), cs[i]? = some c -> ds[i]? = some d -> d.scalar = false -> blk c = some b -> B <= b /\ b < N /\ ¬ Y b) /\
 (∀ (i j : Nat) (c c' : Value) (d d' : D) (b : Nat), cs[i]? = some c -> ds[i]? = some d -> cs[j]? = some c' -> ds[j]? = some d' -> d.scalar = false -> d'.scalar = false -> blk c = some b -> blk c' = some b -> i = j)
def nF (own : Bool) (T : CS) (w : World) (res : List (List D)) (e : Ending) (w' : World) : Prop :=
 ∃ (vs : List Value) (lu : List (List Value)) (Y : Nat -> Prop), e = .returned (Rm vs) /\ Below w.heap.size w w' /\ (∀ b, Y b -> w.heap.size <= b /\ b < w'.heap.size) /\
  Z9 yb vs lu /\ Z9 (fun cs row => Z9 (qb own (Tof T Y) w') cs row) lu res /\ (own = true -> o0 w.heap.size w'.heap.size Y lu.flatten res.flatten)
def JH (P : Program) (f : FuncId) (own : Bool) (args res : List (List D)) : Prop :=
 TL P f = true /\ ∀ (T : CS) (w : World) (l6 : List Value), (∀ b k, T b k -> b < w.heap.size) -> Z9 (fun v row => ∃ cs, yb v cs /\ Z9 (Rd T w) cs row) l6 args ->
  Calls P f l6.toArray w (nF own T w res)
def vOf : List At -> V
 | [x] => .one x
 | xs => .agg xs
def K1 (t : Nat) : Nat -> List D -> List At
 | _, [] => []
 | k, .sl _ rows :: ds => .sref t k 0 rows.length :: K1 t (k + 1) ds
 | k, d :: ds => .d d :: K1 t (k + 1) ds
def xm : List D -> List Ob
 | [] => []
 | .sl size rows :: ds => .arr false size rows :: xm ds
 | _ :: ds => .none :: xm ds
def EU (t : Nat) : Nat -> List (List D) -> List V
 | _, [] => []
 | k, r :: rs => vOf (K1 t k r) :: EU t (k + r.length) rs
def jv (t : Nat) : List (List D) -> V
 | [r] => vOf (K1 t 0 r)
 | rs => .tup (EU t 0 rs)
def qo : List (List D) -> V
 | [r] => vOf (r.map .d)
 | rs => .tup (rs.map fun r => vOf (r.map .d))
def yP (σ : St) : At -> Option D
 | .d x => some x
 | .nil s => some (.sl s [])
 | .sref t j lo len => (match σ.ob t j with | .arr _ size rows => some (.sl size (cut rows lo len)) | _ => none)
 | _ => none
def rowOf (σ : St) : List At -> Option (List D)
 | [] => some []
 | x :: xs => (match yP σ x, rowOf σ xs with | some d, some ds => some (d :: ds) | _, _ => none)
def V.zT (σ : St) : V -> Option (List D)
 | .one x => rowOf σ [x]
 | .agg [_] => none
 | .agg xs => rowOf σ xs
 | _ => none
def Qz (P : Program) (σ : St) : List Operand -> List TypeId -> List (List D) -> Prop
 | [], _, rs => rs = []
 | x :: xs, t :: ts, rs => gOf (look P σ t x) = true /\ ∃ r rest, (unc (look P σ t x)).zT σ = some r /\ Qz P σ xs ts rest /\ rs = r :: rest
 | _ :: _, [], _ => False
def At.Dm : At -> Bool
 | .sref _ _ _ _ => false
 | .tref _ _ _ _ _ => false
 | _ => true
def zb : List At -> Bool
 | [] => true
 | x :: xs => x.Dm && zb xs
def Yd (P : Program) (σ : St) : List Operand -> List TypeId -> Bool
 | x :: xs, t :: ts => zb (unc (look P σ t x)).cells && Yd P σ xs ts
 | _, _ => true
theorem Rel.grow (r : Rel T0 B σ a w X h) (hg : w.grownBy w' none) (hX : ∀ b, X b -> X' b) (dB : ∀ b, X' b -> X b \/ (w.heap.size <= b /\ b < w'.heap.size)) : Rel T0 B σ a w' X' h := by
 have hT : ∀ b k v, Tof T0 X b k -> w.cell? ⟨b, k, none⟩ = some v -> w'.cell? ⟨b, k, none⟩ = some v /\ Tof T0 X' b k := by
  intro b k v hb lJ
  refine ⟨?_, hb.imp id (hX b)⟩
  rw [World.cell?_of_block (hg.block b (r.Tlt hb) zAF)]; exact lJ
 have hB : w.heap.size <= w'.heap.size := hg.size
 refine ⟨r.size, r.defers, fun b hb => Nat.lt_of_lt_of_le (r.hB b hb) hB, fun b hb => ?_, r.hT, fun t ht => JP.mono hT (r.slot t ht), fun t j => ?_, r.ub, fun t j b ho hb => ?_, r.inj⟩
 ·rcases dB b hb with hb | hb
  ·have := r.hX b hb; exact ⟨this.1, zAA⟩
  ·exact ⟨fun gy => by have := r.hB b gy; omega, hb.2⟩
 ·have h0 := r.obj t j
  have hk : σ.ob t j ≠ .none -> ∀ b, (h t j).u b -> w'.heap[b]? = w.heap[b]? := fun ho b hu => hg.block b (r.own t j b ho hu).2.2 zAF
  have lS := r.ub t j
  cases ho : σ.ob t j with
  | none => trivial
  | box cells =>
   rw [ho] at h0 hk lS
   obtain ⟨b, cs, e, hv, hh, lC⟩ := h0
   exact ⟨b, cs, e, hv, by rw [hk zAF b (lS b zAF (by rw [hv]; rfl))]; exact hh, lC.imp fun _ _ => YF.mono hT⟩
  | arr q size rows =>
   rw [ho] at h0 hk lS
   cases q with
   | false =>
    obtain ⟨e, xs, gf, hz, lC⟩ := h0
    exact ⟨e, xs, qc (fun b hb => hk zAF b (lS b zAF hb)) gf, hz, lC.imp fun _ _ => Rd.mono hT⟩
   | true =>
    obtain ⟨e, xs, gf, hz, lC, hn⟩ := h0
    exact ⟨e, xs, qc (fun b hb => hk zAF b (lS b zAF hb)) gf, hz, lC.Nd (fun b hb => hk zAF b hb.1), hn⟩
  | lit size rows =>
   rw [ho] at h0 hk lS
   obtain ⟨e, xs, gf, hz, lC⟩ := h0
   exact ⟨e, xs, qc (fun b hb => hk zAF b (lS b zAF hb)) gf, hz, lC.imp fun _ _ => YF.mono hT⟩
 ·have := r.own t j b ho hb
  refine ⟨this.1, fun hx => ?_, zAA⟩
  rcases dB b hx with hx | hx
  ·exact this.2.1 hx
  ·omega
def Ox (T0 : CS) (X : Nat -> Prop) (h : Nat -> Nat -> Hd) (σ : St) : CS := fun b k => Tof T0 X b k \/ ∃ t j q size rows, σ.ob t j = .arr q size rows /\ (h t j).u b
theorem Rel.Du (r : Rel T0 B σ a w X h) {k : Nat} (hb : Ox T0 X h σ b k) : b < w.heap.size := by
 rcases hb with hb | ⟨t, j, q, size, rows, ho, hb⟩
 ·exact r.Tlt hb
 ·exact (r.own t j b zAr hb).2.2
theorem vG {e : TypeId} {xs : List Value} (ho : w.ownsRow 0 e size v rows.length xs) (hz : ∀ r ∈ rows, r.length = size) (hT : ∀ b k, blk v = some b -> T b k)
  (lC : Z9 (Rd T w) xs rows.flatten) : Rd T w v (.sl size rows) := by
 rcases ho.2 with ⟨rfl, hn⟩ | ⟨g, cap, cur, rfl, _, hh, gh, gb, ga, g6⟩
 ·have : rows = [] := List.eq_nil_of_length_eq_zero hn
  subst this; exact .nil _
 ·refine .sl ⟨g, 0, none⟩ _ cap size rows (fun k => (xs[k]?).getD undef) rfl gh gb hz (fun _ => rfl) (fun k d hd => ?_) (fun k d hd => ?_)
  ·obtain ⟨u, hu, _⟩ := lC.get' k d hd
   have lH : k < rows.length * size := by
    have := (List.getElem?_eq_some_iff.1 hd).1
    rw [YM rows size hz] at this; exact this
   rw [hu]
   refine ⟨?_, hT g _ rfl⟩
   simp only [Nat.zero_add]
   refine zc hh _ _ ?_
   rw [<- g6, List.getElem?_take, if_pos lH] at hu
   exact hu
  ·obtain ⟨u, hu, hr⟩ := lC.get' k d hd
   rw [hu]; exact hr
theorem Own.rd {d : D} (ho : Own w v d S) (hT : ∀ b k, S b -> T b k) : Rd T w v d := by
 induction ho with
 | int k n S => exact .int k n
 | bool b S => exact .bool b
 | str s S => exact .str s
 | unk v h S => exact .unk v h
 | sl v size rows S e xs Sk ho hz lP hl hk hs hd ih =>
  exact vG ho hz (fun b k hb => hT b k (lP b hb)) (Z9.xk hl (fun k x d hx lL => ih k x d hx lL (fun b k' hb => hT b k' (hs k b hb).1)))
theorem KT.rd {xs : List Value} (ho : KT w xs ds S) (hT : ∀ b k, S b -> T b k) : Z9 (Rd T w) xs ds := by
 obtain ⟨hl, Sk, h1, h2, h3⟩ := ho
 exact Z9.xk hl (fun k x d hx hd => (h1 k x d hx hd).rd (fun b k' hb => hT b k' (h2 k b hb)))
theorem Rel.cells (r : Rel T0 B σ a w X h) (ho : σ.ob t j = .arr q size rows) :
  ∃ e xs, w.ownsRow 0 e size (h t j).v rows.length xs /\ (∀ r ∈ rows, r.length = size) /\ ∀ T : CS, (∀ b k, Tof T0 X b k -> T b k) -> (∀ b k, (h t j).u b -> T b k) -> Z9 (Rd T w) xs rows.flatten := by
 have h0 := r.obj t j
 rw [ho] at h0
 cases q with
 | false =>
  obtain ⟨e, xs, gf, hz, lC⟩ := h0
  exact ⟨e, xs, gf, hz, fun T h1 _ => lC.imp fun _ _ => Rd.mono (fun b k v hb hc => ⟨hc, h1 b k hb⟩)⟩
 | true =>
  obtain ⟨e, xs, gf, hz, lC, hn⟩ := h0
  exact ⟨e, xs, gf, hz, fun T _ h2 => lC.rd (fun b k hb => h2 b k hb.1)⟩
theorem Rel.wz (r : Rel T0 B σ a w X h) {lo : Nat} (ho : σ.ob t j = .arr q size rows) (hv : YF (Tof T0 X) h σ.ob w (.sref t j lo len) v)
  (T : CS) (hT1 : ∀ b k, Tof T0 X b k -> T b k) (hT2 : ∀ b k, (h t j).u b -> T b k) : Rd T w v (.sl size (cut rows lo len)) := by
 obtain ⟨hle, hZ, _, base, cap, rfl, hQ, bS, fz, hb⟩ := hv.2.1 q size rows ho
 obtain ⟨e, xs, ⟨hl, lE⟩, hz, ao⟩ := r.cells ho
 have lC := ao T hT1 hT2
 have ir := r.ub t j
 have lp : (cut rows lo len).length = len := XQ _ _ _ hle
 have g8 : ∀ x ∈ cut rows lo len, x.length = size := fun x hx => hz x (List.mem_of_mem_drop (List.mem_of_mem_take hx))
 by_cases iS : 0 < len
 ·obtain ⟨b, fj, hh, rfl⟩ := hb iS
  rcases lE with ⟨hn, _⟩ | ⟨g, cA, cur, fD, _, aq, gh, gb, ga, g6⟩
  ·rw [hh] at hn; cases hn
  ·rw [hh] at fD
   cases fD
   have key : ∀ k d, (cut rows lo len).flatten[k]? = some d -> ∃ u, w.cell? ⟨b, lo * size + k, none⟩ = some u /\ T b (lo * size + k) /\ Rd T w u d := by
    intro k d hd
    have lL := jg rows size lo len hz k d hd
    obtain ⟨u, hu, hr⟩ := lC.get' _ _ lL
    have lH : lo * size + k < rows.length * size := by
     have := (List.getElem?_eq_some_iff.1 lL).1
     rw [YM rows size hz] at this; exact this
    refine ⟨u, zc aq _ _ ?_, hT2 b _ (ir b zAr (by rw [hh]; rfl)), hr⟩
    rw [<- g6, List.getElem?_take, if_pos lH] at hu
    exact hu
   refine .sl ⟨b, lo * size, none⟩ len cap size _ (fun k => (w.cell? ⟨b, lo * size + k, none⟩).getD undef) lp hQ bS g8 (fun _ => rfl) (fun k d hd => ?_) (fun k d hd => ?_)
   ·obtain ⟨u, hu, ht, _⟩ := key k d hd
    rw [hu]; exact ⟨rfl, ht⟩
   ·obtain ⟨u, hu, _, hr⟩ := key k d hd
    rw [hu]; exact hr
 ·have h0' : len = 0 := zAA
  subst h0'
  have fg : cut rows lo 0 = [] := by simp [cut]
  rw [fg]
  cases base with
  | none => have := fz rfl; subst this; exact .nil _
  | some ad => exact .sl ad 0 cap size [] (fun _ => undef) rfl hQ bS (by intro r hr; cases hr) zAF zAF zAF
open Go.RowKit
def D.CW : D -> Prop
 | .sl _ rows => ∀ r ∈ rows, ∀ d ∈ r, d.scalar = true
 | _ => True
def Kf (own : Bool) (res : List (List D)) : Prop := ∀ r ∈ res, ∀ d ∈ r, if own = true then d.CW else d.scalar = true
theorem Rd.scalar {d : D} (hd : d.scalar = true) (r : Rd T w v d) : Rd T' w v d := by
 cases r with
 | int k n => exact .int k n
 | bool b => exact .bool b
 | str s => exact .str s
 | unk v h => exact .unk v h
 | nil => cases hd
 | sl => cases hd
theorem KH.flat {d : D} (hd : d.CW) (r : KH T w v d) : KH T' w v d := by
 cases d with
 | sl size rows =>
  obtain ⟨e, xs, ho, hz, lC⟩ := r
  refine ⟨e, xs, ho, hz, ?_⟩
  refine Z9.xk lC.length (fun i x d hx lL => ?_)
  obtain ⟨d2, dA, hr⟩ := lC.get i x hx
  rw [lL] at dA; cases dA
  have hm : d ∈ rows.flatten := List.mem_of_getElem? lL
  obtain ⟨r0, fb, hdr⟩ := List.mem_flatten.1 hm
  exact Rd.scalar (hd r0 fb d hdr) hr
 | int k n => exact Rd.scalar rfl r
 | bool b => exact Rd.scalar rfl r
 | str s => exact Rd.scalar rfl r
 | unk => exact Rd.scalar rfl r
theorem VC {e : TypeId} {xs : List Value} (ho : w.ownsRow 0 e size v n xs) : sU v size n 0 n v := by
 refine ⟨zAA, fun _ _ => rfl, ?_, ?_⟩
 ·intro _
  rcases ho.2 with ⟨rfl, rfl⟩ | ⟨g, cap, cur, rfl, _⟩ <;> rfl
 rcases ho.2 with ⟨rfl, rfl⟩ | ⟨g, cap, cur, rfl, _, _, gh, gb, _, _⟩
 ·exact ⟨none, 0, rfl, zAA, by simp [maxLen], fun _ => rfl, fun hh => zAA⟩
 ·exact ⟨_, cap, rfl, gh, gb, (fun hh => by cases hh), fun _ => ⟨g, cap, rfl, zAF⟩⟩
theorem KD {e : TypeId} {xs : List Value} (ho : w.ownsRow 0 e size v n xs) : v.oneCell' = true := by
 rcases ho.2 with ⟨rfl, rfl⟩ | ⟨g, cap, cur, rfl, _⟩ <;> rfl
theorem KH.QL {d : D} (r : KH T w v d) : v.oneCell' = true := by
 cases d with
 | sl size rows => obtain ⟨e, xs, ho, _⟩ := r; exact KD ho
 | int k n => exact Rd.QL r
 | bool b => exact Rd.QL r
 | str s => exact Rd.QL r
 | unk => exact Rd.QL r
theorem KH.rd {d : D} (r : KH T w v d) (h1 : ∀ b k, T b k -> T' b k) (h2 : d.scalar = false -> ∀ b k, blk v = some b -> T' b k) : Rd T' w v d := by
 cases d with
 | sl size rows =>
  obtain ⟨e, xs, ⟨hl, lE⟩, hz, lC⟩ := r
  rcases lE with ⟨rfl, hn⟩ | ⟨g, cap, cur, rfl, _, hh, gh, gb, ga, g6⟩
  ·have : rows = [] := List.eq_nil_of_length_eq_zero hn
   subst this; exact .nil _
  ·refine .sl ⟨g, 0, none⟩ _ cap size rows (fun k => (xs[k]?).getD undef) rfl gh gb hz (fun _ => rfl) (fun k d hd => ?_) (fun k d hd => ?_)
   ·obtain ⟨u, hu, _⟩ := lC.get' k d hd
    have lH : k < rows.length * size := by
     have := (List.getElem?_eq_some_iff.1 hd).1
     rw [YM rows size hz] at this; exact this
    rw [hu]
    refine ⟨?_, h2 rfl g _ rfl⟩
    simp only [Nat.zero_add]
    refine zc hh _ _ ?_
    rw [<- g6, List.getElem?_take, if_pos lH] at hu
    exact hu
   ·obtain ⟨u, hu, hr⟩ := lC.get' k d hd
    rw [hu]; exact Rd.mono (fun b k v hb hc => ⟨hc, h1 b k hb⟩) hr
 | int k n => exact Rd.scalar rfl r
 | bool b => exact Rd.scalar rfl r
 | str s => exact Rd.scalar rfl r
 | unk => exact Rd.scalar rfl r
theorem Rel.yP (r : Rel T0 B σ a w X h) {x : At} {d : D} (hd : yP σ x = some d) (hv : YF (Tof T0 X) h σ.ob w x v) (st : Bool) (ld : st = true -> x.Dm = true) :
  Rd (if st then Tof T0 X else Ox T0 X h σ) w v d := by
 cases x with
 | d x => simp [Vm.yP] at hd; subst hd; cases st <;> simp <;> first | exact hv | exact Rd.mono (fun b k v hb hc => ⟨hc, .inl hb⟩) hv
 | nil s => simp [Vm.yP] at hd; subst hd; cases hv; exact .nil _
 | sref t j lo len =>
  cases st with
  | true => have := ld rfl; simp [At.Dm] at this
  | false =>
   simp only [Vm.yP] at hd
   split at hd
   ·rename_i q size rows ho
    cases hd
    exact r.wz ho hv _ (fun b k hb => .inl hb) (fun b k hb => .inr ⟨t, j, _, size, rows, ho, hb⟩)
   ·cases hd
 | any => simp [Vm.yP] at hd
 | ptr => simp [Vm.yP] at hd
 | bptr => simp [Vm.yP] at hd
 | fn => simp [Vm.yP] at hd
 | rptr => simp [Vm.yP] at hd
 | tref => simp [Vm.yP] at hd
theorem Rel.rowOf (r : Rel T0 B σ a w X h) (st : Bool) : ∀ {xs : List At} {vs : List Value} {ds : List D}, rowOf σ xs = some ds -> Z9 (YF (Tof T0 X) h σ.ob w) xs vs -> (st = true -> zb xs = true) ->
  Z9 (Rd (if st then Tof T0 X else Ox T0 X h σ) w) vs ds
 | [], _, ds, hd, lC, _ => by cases lC; simp [Vm.rowOf] at hd; subst hd; exact .nil
 | x :: xs, _, ds, hd, lC, ld => by
  cases lC with
  | cons hx lC =>
   simp only [Vm.rowOf] at hd
   split at hd
   ·rename_i d dh h1 h2
    cases hd
    refine .cons (r.yP h1 hx st (fun hs => ?_)) (Rel.rowOf r st h2 lC (fun hs => ?_))
    ·have := ld hs; simp [zb] at this; exact this.1
    ·have := ld hs; simp [zb] at this; exact this.2
   ·cases hd
theorem Rel.zT (r : Rel T0 B σ a w X h) (st : Bool) {v : V} {row : List D} (hr : v.zT σ = some row) (hv : JP (Tof T0 X) h σ.ob w v val) (ld : st = true -> zb v.cells = true) :
  ∃ cs, yb val cs /\ Z9 (Rd (if st then Tof T0 X else Ox T0 X h σ) w) cs row := by
 cases v with
 | one x => exact ⟨[val], .inl ⟨val, rfl, rfl, YF.QL (show YF _ _ _ _ _ _ from hv)⟩, r.rowOf st (xs := [x]) hr (.cons hv .nil) ld⟩
 | agg xs =>
  obtain ⟨cs, rfl, lC⟩ := hv
  have hl := lC.length
  match xs, hr, lC, hl, ld with
  | [], hr, lC, hl, ld => exact ⟨cs.toList, .inr ⟨by rw [<- hl]; simp, zAF⟩, r.rowOf st hr lC ld⟩
  | [_], hr, _, _, _ => simp [V.zT] at hr
  | x :: y :: xs, hr, lC, hl, ld => exact ⟨cs.toList, .inr ⟨by rw [<- hl]; simp, zAF⟩, r.rowOf st hr lC ld⟩
 | any => simp [V.zT] at hr
 | tup xs => simp [V.zT] at hr
 | cnd g x => simp [V.zT] at hr
 | fix u x => simp [V.zT] at hr
theorem Rel.Qz (r : Rel T0 B σ a w X h) (st : Bool) : ∀ {xs : List Operand} {ts : List TypeId} {rs : List (List D)}, Qz P σ xs ts rs -> (st = true -> Yd P σ xs ts = true) ->
  Z9 (fun v row => ∃ cs, yb v cs /\ Z9 (Rd (if st then Tof T0 X else Ox T0 X h σ) w) cs row) (xs.map a.eval) rs
 | [], _, rs, hr, _ => by cases hr; exact .nil
 | x :: xs, [], rs, hr, _ => hr.elim
 | x :: xs, t :: ts, rs, hr, ld => by
  obtain ⟨hg, row, rest, h1, h2, rfl⟩ := hr
  refine .cons (r.zT st h1 (r.arg t x rfl hg) (fun hs => ?_)) (Rel.Qz r st h2 (fun hs => ?_))
  ·have := ld hs; simp [Yd] at this; exact this.1
  ·have := ld hs; simp [Yd] at this; exact this.2
theorem UH {f : FuncId} (my : o.op = .call c) (hc : c.callee = .value (.func f)) (hf : TL P f = true) : (execOp a.eval o).run P w = .ok (.enter f (c.args.toList.map a.eval).toArray) w := by
 unfold TL at hf
 split at hf
 ·rename_i fn hfn
  simp only [Bool.and_eq_true, bne_iff_ne, ne_eq] at hf
  obtain ⟨cd, hb⟩ := Option.isSome_iff_exists.1 hf.1
  obtain ⟨callee, args, eO⟩ := c
  simp only at hc; subst hc
  have hm : (args.toList.map a.eval).toArray = args.map a.eval := by apply Array.toList_inj.1; simp
  rw [hm]
  simp [execOp, my, resolve, Act.eval, Deferred.ofValue, invoke, callFunc, hfn, hf.2, hb]
 ·cases hf
open Go.RowKit
variable {Q : Exit -> Act -> World -> Prop} {K : Act -> World -> Prop} {lu : List (List Value)}
theorem Below.grownBy (hb : Below w.heap.size w w') : w.grownBy w' none := ⟨hb.os, hb.tape, hb.output, hb.size, fun k hk _ => hb.block k hk⟩
theorem HG {ob : Nat -> Nat -> Ob} {xs : List At} (hf : yb v cs) (lC : Z9 (YF T h ob w) xs cs) : zK T h ob w (vOf xs) v := by
 have hl := lC.length
 rcases hf with ⟨c, rfl, rfl, h1⟩ | ⟨lA, rfl⟩
 ·cases lC with
  | cons hx lC => cases lC; exact hx
 ·match xs, lC, hl with
  | [], lC, _ => exact ⟨_, rfl, by simpa using lC⟩
  | [x], lC, hl => exact absurd hl.symm (by simpa using lA)
  | x :: y :: xs, lC, _ => exact ⟨_, rfl, by simpa using lC⟩
theorem VW {ob : Nat -> Nat -> Ob} {row : List D} (lC : Z9 (Rd T w) cs row) : Z9 (YF T h ob w) (row.map .d) cs := by
 induction lC with
 | nil => exact .nil
 | cons r _ ih => exact .cons r ih
theorem Aq {ob : Nat -> Nat -> Ob} (hf : Z9 yb vs lu) (lC : Z9 (fun cs row => Z9 (Rd T w) cs row) lu res) :
  Z9 (zK T h ob w) (res.map fun r => vOf (r.map .d)) vs := by
 induction hf generalizing res with
 | nil => cases lC; exact .nil
 | cons f _ ih => cases lC with
  | cons r lC => exact .cons (HG f (VW r)) (ih lC)
theorem DE {ob : Nat -> Nat -> Ob} (hf : Z9 yb vs lu) (lC : Z9 (fun cs row => Z9 (Rd T w) cs row) lu res) :
  JP T h ob w (qo res) (Rm vs) := by
 have hl := Aq (h := h) (ob := ob) hf lC
 have h1 := hl.length
 match res, vs, hl, h1 with
 | [r], [v], hl, _ => cases hl with | cons x _ => exact x.up
 | [], [], hl, _ => exact ⟨_, rfl, by simpa using hl⟩
 | r :: r' :: rs, v :: v' :: vs, hl, _ => exact ⟨_, rfl, by simpa using hl⟩
 | [], v :: vs, _, h1 => simp at h1
 | [r], [], _, h1 => simp at h1
 | [r], v :: v' :: vs, _, h1 => simp at h1
 | r :: r' :: rs, [], _, h1 => simp at h1
 | r :: r' :: rs, [v], _, h1 => simp at h1
theorem Mh {α β : Type} {R S : α -> β -> Prop} {l : List (List α)} {m : List (List β)} (fC : ∀ (a : α) (b : β) (row : List β), row ∈ m -> b ∈ row -> R a b -> S a b) (lC : Z9 (fun x y => Z9 R x y) l m) : Z9 (fun x y => Z9 S x y) l m := by
 induction lC with
 | nil => exact .nil
 | @cons x y _ _ fc _ ih =>
  refine .cons ?_ (ih (fun a b row hr => fC a b row zBx))
  have iv : ∀ b ∈ y, ∀ a, R a b -> S a b := fun b hb a hr => fC a b y zAF hb hr
  clear ih fC
  induction fc with
  | nil => exact .nil
  | cons r _ bW => exact .cons (iv _ zAF _ r) (bW (fun b hb => iv b (by simp [hb])))
theorem VN (r : Rel T0 B σ a w X h) {f : FuncId} {own : Bool} (my : o.op = .call c) (hc : c.callee = .value (.func f)) (hd : o.dst = some d)
  (lF : Qz P σ c.args.toList c.argTypes.toList rows) (st : Bool) (ld : st = true -> Yd P σ c.args.toList c.argTypes.toList = true) (hE : st = false -> Kf own res) (hs : JH P f own rows res)
  (hK : ∀ a' w', Jz T0 B (σ.put d (qo res)) a' w' -> Y8 B w w' -> K a' w') : o.wp P a w K Q := by
 unfold Oper.wp
 rw [UH my hc hs.1, Oper.upon_enter]
 refine (hs.2 (if st then Tof T0 X else Ox T0 X h σ) w _ (fun b k hb => ?_) (r.Qz st lF ld)).mono ?_
 ·cases st
  ·exact r.Du hb
  ·exact r.Tlt hb
 ·rintro e w' ⟨vs, lu, Y, rfl, gI, hY, l4, gd, dt⟩
  have dB : ∀ b, (X b \/ (w.heap.size <= b /\ b < w'.heap.size)) -> X b \/ (w.heap.size <= b /\ b < w'.heap.size) := fun b hb => hb
  have r2 := r.grow (X' := fun b => X b \/ (w.heap.size <= b /\ b < w'.heap.size)) (Below.grownBy gI) (fun b hb => .inl hb) dB
  have fK : Z9 (fun cs row => Z9 (Rd (Tof T0 fun b => X b \/ (w.heap.size <= b /\ b < w'.heap.size)) w') cs row) lu res := by
   have iv : ∀ (i : Nat) (c : Value) (d : D), lu.flatten[i]? = some c -> res.flatten[i]? = some d -> own = true -> d.scalar = false -> ∀ b, blk c = some b -> w.heap.size <= b /\ b < w'.heap.size := by
    intro i c d h1 h2 ho ib b hb
    have := (dt ho).1 i c d b h1 h2 ib hb
    exact ⟨this.1, this.2.1⟩
   have conv : ∀ (c : Value) (d : D), (∀ b, own = true -> d.scalar = false -> blk c = some b -> w.heap.size <= b /\ b < w'.heap.size) -> (st = false -> if own = true then d.CW else d.scalar = true) ->
     qb own (Tof (if st then Tof T0 X else Ox T0 X h σ) Y) w' c d -> Rd (Tof T0 fun b => X b \/ (w.heap.size <= b /\ b < w'.heap.size)) w' c d := by
    intro c d lk cx hr
    cases own with
    | true =>
     have iu : KH (Tof (if st then Tof T0 X else Ox T0 X h σ) Y) w' c d := by simpa [qb] using hr
     cases st with
     | true =>
      refine KH.rd iu (fun b k hb => ?_) (fun ib b k hb => .inr (.inr (lk b rfl ib hb)))
      rcases hb with hb | hb
      ·rcases (show Tof T0 X b k from by simpa using hb) with hb | hb
       ·exact .inl hb
       ·exact .inr (.inl hb)
      ·exact .inr (.inr (hY b hb))
     | false =>
      exact KH.rd (KH.flat (T' := fun _ _ => False) (by simpa using cx rfl) iu) (fun b k hb => hb.elim) (fun ib b k hb => .inr (.inr (lk b rfl ib hb)))
    | false =>
     have iu : Rd (Tof (if st then Tof T0 X else Ox T0 X h σ) Y) w' c d := by simpa [qb] using hr
     cases st with
     | true =>
      refine Rd.mono (fun b k v hb hc => ⟨hc, ?_⟩) iu
      rcases hb with hb | hb
      ·rcases (show Tof T0 X b k from by simpa using hb) with hb | hb
       ·exact .inl hb
       ·exact .inr (.inl hb)
      ·exact .inr (.inr (hY b hb))
     | false => exact Rd.scalar (by simpa using cx rfl) iu
   have go : ∀ (lu : List (List Value)) (res : List (List D)), Z9 (fun cs row => Z9 (qb own (Tof (if st then Tof T0 X else Ox T0 X h σ) Y) w') cs row) lu res ->
     (∀ (i : Nat) (c : Value) (d : D), lu.flatten[i]? = some c -> res.flatten[i]? = some d -> own = true -> d.scalar = false -> ∀ b, blk c = some b -> w.heap.size <= b /\ b < w'.heap.size) ->
     (st = false -> Kf own res) -> Z9 (fun cs row => Z9 (Rd (Tof T0 fun b => X b \/ (w.heap.size <= b /\ b < w'.heap.size)) w') cs row) lu res := by
    intro lu res lC
    induction lC with
    | nil => intro _ _; exact .nil
    | @cons cs row css' res' lv _ ih =>
     intro hm hf
     have hlen := lv.length
     refine .cons (Z9.xk hlen (fun i c d hc lL => ?_)) (ih (fun i c d h1 h2 => ?_) (fun hs r hr => hf hs r zBx))
     ·obtain ⟨d2, dA, hr⟩ := lv.get i c hc
      rw [lL] at dA; cases dA
      refine conv c d (fun b ho ib hb => hm i c d ?_ ?_ ho ib b hb) (fun hs => hf hs row zAF d (List.mem_of_getElem? lL)) hr
      ·rw [List.flatten_cons, List.getElem?_append_left (List.getElem?_eq_some_iff.1 hc).1]; exact hc
      ·rw [List.flatten_cons, List.getElem?_append_left (List.getElem?_eq_some_iff.1 lL).1]; exact lL
     ·refine hm (cs.length + i) c d ?_ ?_
      ·rw [List.flatten_cons, List.getElem?_append_right zAA]; simpa using h1
      ·rw [List.flatten_cons, List.getElem?_append_right zAA, hlen]; simpa using h2
   exact go lu res gd iv hE
  rw [hd]
  exact hK _ _ ⟨_, _, r2.put d _ _ (DE l4 fK)⟩ (Y8.Nh gI r.hB)
open Go.RowKit
theorem SL : ∀ (ds : List D) (k : Nat), Yj (xm ds) k = (match ds[k]? with | some (.sl size rows) => .arr false size rows | _ => .none)
 | [], k => by simp [xm, Yj]
 | d :: ds, 0 => by cases d <;> simp [xm, Yj]
 | d :: ds, k + 1 => by
  have := SL ds k
  cases d <;> simpa [xm, Yj] using this
def WM (T : CS) (w : World) (v : Value) : D -> Prop
 | .sl size rows => ∃ e xs, w.ownsRow 0 e size v rows.length xs
 | d => Rd T w v d
theorem KH.top {d : D} (r : KH T w v d) : WM T w v d := by
 cases d with
 | sl size rows => obtain ⟨e, xs, ho, _⟩ := r; exact ⟨e, xs, ho⟩
 | int k n => exact r
 | bool b => exact r
 | str s => exact r
 | unk => exact r
theorem WM.QL {d : D} (r : WM T w v d) : v.oneCell' = true := by
 cases d with
 | sl size rows => obtain ⟨e, xs, ho⟩ := r; exact KD ho
 | int k n => exact Rd.QL r
 | bool b => exact Rd.QL r
 | str s => exact Rd.QL r
 | unk => exact Rd.QL r
theorem SQ {T : CS} {ob : Nat -> Nat -> Ob} {t : Nat} : ∀ {ds : List D} {cs : List Value} {k : Nat}, Z9 (WM T w) cs ds ->
  (∀ i size rows, ds[i]? = some (.sl size rows) -> ∃ q, ob t (k + i) = .arr q size rows) -> (∀ i c, cs[i]? = some c -> (h t (k + i)).v = c) -> Z9 (YF T h ob w) (K1 t k ds) cs
 | [], _, k, lC, _, _ => by cases lC; exact .nil
 | d :: ds, _, k, lC, ho, hh => by
  cases lC with
  | @cons c _ cs _ hc lC =>
   have ih := SQ (k := k + 1) lC (fun i size rows hi => by have := ho (i + 1) size rows (by simpa using hi); rw [show k + 1 + i = k + (i + 1) by omega]; exact this)
    (fun i c' l7 => by have := hh (i + 1) c' (by simpa using l7); rw [show k + 1 + i = k + (i + 1) by omega]; exact this)
   cases d with
   | sl size rows =>
    obtain ⟨q0, h0⟩ := ho 0 size rows zAF
    have h1 := hh 0 c zAF
    rw [Nat.add_zero] at h0 h1
    refine .cons ⟨WM.QL hc, fun q' lU lM lb => ?_, fun lU lM lb => by rw [h0] at lb; cases lb⟩ ih
    rw [h0] at lb; cases lb
    obtain ⟨e, xs, lE⟩ := hc
    rw [h1]; exact VC lE
   | int k' n => exact .cons hc ih
   | bool b => exact .cons hc ih
   | str s => exact .cons hc ih
   | unk => exact .cons hc ih
theorem vq {ob : Nat -> Nat -> Ob} (hf : Z9 yb vs lu) : ∀ {res : List (List D)} {k : Nat}, Z9 (fun cs row => Z9 (WM T w) cs row) lu res ->
  (∀ i size rows, res.flatten[i]? = some (.sl size rows) -> ∃ q, ob t (k + i) = .arr q size rows) -> (∀ i c, lu.flatten[i]? = some c -> (h t (k + i)).v = c) -> Z9 (zK T h ob w) (EU t k res) vs := by
 induction hf with
 | nil => intro res k lC _ _; cases lC; exact .nil
 | @cons v cs vs' css' f _ ih =>
  intro res k lC ho hh
  cases lC with
  | @cons _ row _ res' r lC =>
   have hlen := r.length
   refine .cons (HG f (SQ r (fun i size rows hi => ho i size rows ?_) (fun i c hc => hh i c ?_))) (ih lC (fun i size rows hi => ?_) (fun i c hc => ?_))
   ·rw [List.flatten_cons, List.getElem?_append_left (List.getElem?_eq_some_iff.1 hi).1]; exact hi
   ·rw [List.flatten_cons, List.getElem?_append_left (List.getElem?_eq_some_iff.1 hc).1]; exact hc
   ·have := ho (row.length + i) size rows (by rw [List.flatten_cons, List.getElem?_append_right zAA]; simpa using hi)
    rw [Nat.add_assoc]; exact this
   ·have := hh (row.length + i) c (by rw [List.flatten_cons, List.getElem?_append_right zAA, <- hlen]; simpa using hc)
    rw [Nat.add_assoc]; exact this
theorem GQ {ob : Nat -> Nat -> Ob} (hf : Z9 yb vs lu) (lC : Z9 (fun cs row => Z9 (WM T w) cs row) lu res)
  (ho : ∀ i size rows, res.flatten[i]? = some (.sl size rows) -> ∃ q, ob t i = .arr q size rows) (hh : ∀ i c, lu.flatten[i]? = some c -> (h t i).v = c) : JP T h ob w (jv t res) (Rm vs) := by
 have hl := vq (k := 0) hf lC (by simpa using ho) (by simpa using hh)
 have h1 : res.length = vs.length := by rw [hf.length, lC.length]
 match res, vs, hl, h1 with
 | [r], [v], hl, _ => cases hl with | cons x _ => exact x.up
 | [], [], hl, _ => exact ⟨_, rfl, by simpa using hl⟩
 | r :: r' :: rs, v :: v' :: vs, hl, _ => exact ⟨_, rfl, by simpa using hl⟩
 | [], v :: vs, _, h1 => simp at h1
 | [r], [], _, h1 => simp at h1
 | [r], v :: v' :: vs, _, h1 => simp at h1
 | r :: r' :: rs, [], _, h1 => simp at h1
 | r :: r' :: rs, [v], _, h1 => simp at h1
theorem qZ {α β : Type} {R : α -> β -> Prop} {l : List (List α)} {m : List (List β)} (lC : Z9 (fun x y => Z9 R x y) l m) : Z9 R l.flatten m.flatten := by
 induction lC with
 | nil => exact .nil
 | cons r _ ih => rw [List.flatten_cons, List.flatten_cons]; exact r.append ih
theorem P5 (r : Rel T0 B σ a w X h) {f : FuncId} (my : o.op = .call c) (hc : c.callee = .value (.func f)) (hd : o.dst = some d) (iJ : σ.fresh d = true)
  (lF : Qz P σ c.args.toList c.argTypes.toList rows) (st : Bool) (ld : st = true -> Yd P σ c.args.toList c.argTypes.toList = true) (hE : st = false -> Kf true res) (hs : JH P f true rows res)
  (hK : ∀ a' w', Jz T0 B (σ.new d (jv d res) (xm res.flatten)) a' w' -> Y8 B w w' -> K a' w') : o.wp P a w K Q := by
 have lH := St.zO iJ
 unfold Oper.wp
 rw [UH my hc hs.1, Oper.upon_enter]
 refine (hs.2 (if st then Tof T0 X else Ox T0 X h σ) w _ (fun b k hb => ?_) (r.Qz st lF ld)).mono ?_
 ·cases st
  ·exact r.Du hb
  ·exact r.Tlt hb
 ·rintro e w' ⟨vs, lu, Y, rfl, gI, hY, l4, gd, dt⟩
  have dt := dt rfl
  have fK : Z9 (fun cs row => Z9 (KH (Tof T0 fun b => X b \/ Y b) w') cs row) lu res := by
   refine Mh (fun c d row lv hdr hr => ?_) gd
   have iu : KH (Tof (if st then Tof T0 X else Ox T0 X h σ) Y) w' c d := by simpa [qb] using hr
   cases st with
   | true =>
    have hT : ∀ b k, Tof (if true = true then Tof T0 X else Ox T0 X h σ) Y b k -> Tof T0 (fun b => X b \/ Y b) b k := by
     intro b k hb
     rcases hb with hb | hb
     ·rcases (show Tof T0 X b k from by simpa using hb) with hb | hb
      ·exact .inl hb
      ·exact .inr (.inl hb)
     ·exact .inr (.inr hb)
    cases d with
    | sl size rows =>
     obtain ⟨e, xs, ho, hz, lC⟩ := iu
     exact ⟨e, xs, ho, hz, lC.imp fun _ _ => Rd.mono (fun b k v hb hc => ⟨hc, hT b k hb⟩)⟩
    | int k n => exact Rd.scalar rfl iu
    | bool b => exact Rd.scalar rfl iu
    | str s => exact Rd.scalar rfl iu
    | unk => exact Rd.scalar rfl iu
   | false => exact KH.flat (by simpa using hE rfl row lv d hdr) iu
  have hD := qZ fK
  rw [hd]
  refine hK _ _ ⟨fun b => X b \/ Y b, fun t j => if t = d then Hd.of ((lu.flatten[j]?).getD undef) else h t j, ?_⟩ (Y8.Nh gI r.hB)
  have lJ : ∀ (j size : Nat) (rows : List (List D)), res.flatten[j]? = some (D.sl size rows) -> ∃ c, lu.flatten[j]? = some c /\ KH (Tof T0 fun b => X b \/ Y b) w' c (D.sl size rows) := fun j size rows hj => hD.get' j _ hj
  have lS : ∀ j, (σ.new d (jv d res) (xm res.flatten)).ob d j = Yj (xm res.flatten) j := fun j => by rw [St.Jt]; simp [lH]
  have aw : ∀ j, Yj (xm res.flatten) j ≠ .none -> ∃ size rows, res.flatten[j]? = some (D.sl size rows) := by
   intro j lA
   rw [SL] at lA
   split at lA
   ·rename_i size rows hj; exact ⟨size, rows, hj⟩
   ·exact absurd rfl lA
  refine r.new iJ (Below.grownBy gI) (fun b hb => .inl hb) (fun b hb => hb.imp id (fun hy => hY b hy)) (jv d res) (Rm vs) (xm res.flatten) (fun j => Hd.of ((lu.flatten[j]?).getD undef)) ?_ (fun j => ?_) (fun j b _ hb => hb) (fun j b lA hb => ?_) (fun j j' b lA l8 hb lP => ?_)
  ·refine GQ l4 (Mh (fun _ _ _ _ _ hr => KH.top hr) fK) (fun i size rows hi => ⟨false, ?_⟩) (fun i c hi => by simp [hi, Hd.of])
   rw [lS, SL, hi]
  ·rw [SL]
   split
   ·rename_i size rows hj
    obtain ⟨c, l7, lE⟩ := lJ j size rows hj
    obtain ⟨e, xs, ho, hz, lC⟩ := lE
    exact ⟨e, xs, by rw [l7]; exact ho, hz, lC⟩
   ·trivial
  ·obtain ⟨size, rows, hj⟩ := aw j lA
   obtain ⟨c, l7, _⟩ := lJ j size rows hj
   have lP : blk c = some b := by simpa [Hd.of, l7] using hb
   have := dt.1 j c _ b l7 hj rfl lP
   refine ⟨this.1, ?_, this.2.1⟩
   rintro (hx | hy)
   ·have := r.hX b hx; omega
   ·exact this.2.2 hy
  ·obtain ⟨size, rows, hj⟩ := aw j lA
   obtain ⟨lU, lM, fP⟩ := aw j' l8
   obtain ⟨c, l7, _⟩ := lJ j size rows hj
   obtain ⟨c2, dC, _⟩ := lJ j' lU lM fP
   exact dt.2 j j' c c2 _ _ b l7 hj dC fP rfl rfl (by simpa [Hd.of, l7] using hb) (by simpa [Hd.of, dC] using lP)
open Go.RowKit
theorem Y8.Tm (hg : w.grownBy w' none) (hB : ∀ b, B b -> b < w.heap.size) : Y8 B w w' := ⟨hg.os, hg.tape, hg.output, hg.size, fun k hk => hg.block k (hB k hk) zAF⟩
theorem Rel.sA (r : Rel T0 B σ a w X h) (hf : σ.fresh d = true) (cs : Array Value) (T : TypeId) (xs : List At) (hx : YW d xs = false) (lC : Z9 (YF (Tof T0 X) h σ.ob w) xs cs.toList) :
  Jz T0 B (σ.new d (.one (.bptr d 0)) [.box xs]) (a.put (some d) (.pointer (some ⟨w.heap.size, 0, none⟩))) (w.alloc (.cells cs T)) /\ Y8 B w (w.alloc (.cells cs T)) := by
 have hg := World.grownBy_alloc w (.cells cs T) none
 have lH := St.zO hf
 have hT : ∀ b k v, Tof T0 X b k -> w.cell? ⟨b, k, none⟩ = some v -> (w.alloc (.cells cs T)).cell? ⟨b, k, none⟩ = some v /\ Tof T0 X b k := by
  intro b k v hb lJ
  refine ⟨?_, hb⟩
  rw [World.cell?_of_block (hg.block b (r.Tlt hb) zAF)]; exact lJ
 refine ⟨⟨X, fun t j => if t = d then Hd.of (.pointer (some ⟨w.heap.size, 0, none⟩)) else h t j, ?_⟩, Y8.Tm hg r.hB⟩
 have iT : (σ.new d (.one (.bptr d 0)) [.box xs]).ob d 0 = .box xs := zA2
 have hc : ∀ t j, t ≠ d -> Cpt h (fun t j => if t = d then Hd.of (.pointer (some ⟨w.heap.size, 0, none⟩)) else h t j) σ.ob (σ.new d (.one (.bptr d 0)) [.box xs]).ob t j := by
  intro t j lA
  have he : (σ.new d (.one (.bptr d 0)) [.box xs]).ob t j = σ.ob t j := zBj
  exact Cpt.same (by simp [lA]) he
 refine r.new hf hg (fun _ hb => hb) (fun _ hb => .inl hb) _ _ [.box xs] (fun _ => Hd.of (.pointer (some ⟨w.heap.size, 0, none⟩))) ?_ (fun j => ?_) (fun j b _ hb => hb) (fun j b _ hb => ?_) (fun j j' b lA l8 _ _ => ?_)
 ·exact ⟨rfl, fun cells _ => ⟨w.heap.size, by simp [Hd.of], rfl⟩⟩
 ·cases j with
  | zero =>
   refine ⟨w.heap.size, cs, T, rfl, ?_, Vi hT hc hx lC⟩
   exact heap_alloc_new w _
  | succ j => simp [Yj, J0]
 ·simp [Hd.of, blk] at hb; subst hb
  refine ⟨Nat.le_refl _, fun eR => ?_, zAF⟩
  have := (r.hX _ eR).2; omega
 ·have : ∀ j, Yj [Ob.box xs] j ≠ .none -> j = 0 := by
   intro j hj
   cases j with
   | zero => rfl
   | succ j => simp [Yj] at hj
  rw [this j lA, this j' l8]
theorem Rel.tT (r : Rel T0 B σ a w X h) (hf : σ.fresh d = true) (hg : w.grownBy w' none) (v : Value)
  (ho : KH (Tof T0 X) w' v (.sl size rows)) (hb : ∀ b, blk v = some b -> w.heap.size <= b /\ b < w'.heap.size) :
  Jz T0 B (σ.new d (.one (.sref d 0 0 rows.length)) [.arr false size rows]) (a.put (some d) v) w' /\ Y8 B w w' := by
 have lH := St.zO hf
 refine ⟨⟨X, fun t j => if t = d then Hd.of v else h t j, ?_⟩, Y8.Tm hg r.hB⟩
 have iT : (σ.new d (.one (.sref d 0 0 rows.length)) [.arr false size rows]).ob d 0 = .arr false size rows := zA2
 obtain ⟨e, xs, lE, hz, lC⟩ := ho
 refine r.new hf hg (fun _ hb => hb) (fun _ hb => .inl hb) _ _ [.arr false size rows] (fun _ => Hd.of v) ?_ (fun j => ?_) (fun j b _ hb => hb) (fun j b _ lP => ?_) (fun j j' b lA l8 _ _ => ?_)
 ·refine ⟨KD lE, fun q' lU lM lb => ?_, fun lU lM lb => by rw [iT] at lb; cases lb⟩
  rw [iT] at lb; cases lb
  simp only [if_true]
  exact VC lE
 ·cases j with
  | zero => exact ⟨e, xs, lE, hz, lC⟩
  | succ j => simp [Yj, J0]
 ·have := hb b lP
  refine ⟨this.1, fun eR => ?_, this.2⟩
  have := (r.hX _ eR).2; omega
 ·have : ∀ j, Yj [Ob.arr false size rows] j ≠ .none -> j = 0 := by
   intro j hj
   cases j with
   | zero => rfl
   | succ j => simp [Yj] at hj
  rw [this j lA, this j' l8]
theorem Rel.rU (r : Rel T0 B σ a w X h) (hf : σ.fresh d = true) (hg : w.grownBy w' none) (v : Value) {e : TypeId} {xs : List Value}
  (lE : w'.ownsRow 0 e size v rows.length xs) (hz : ∀ r ∈ rows, r.length = size) (lC : KT w' xs rows.flatten (fun _ => False)) (hb : ∀ b, blk v = some b -> w.heap.size <= b /\ b < w'.heap.size) :
  Jz T0 B (σ.new d (.one (.sref d 0 0 rows.length)) [.arr true size rows]) (a.put (some d) v) w' /\ Y8 B w w' := by
 have lH := St.zO hf
 refine ⟨⟨X, fun t j => if t = d then ⟨v, fun k => (xs[k]?).getD undef, fun b => blk v = some b⟩ else h t j, ?_⟩, Y8.Tm hg r.hB⟩
 have iT : (σ.new d (.one (.sref d 0 0 rows.length)) [.arr true size rows]).ob d 0 = .arr true size rows := zA2
 refine r.new hf hg (fun _ hb => hb) (fun _ hb => .inl hb) _ _ [.arr true size rows] (fun _ => ⟨v, fun k => (xs[k]?).getD undef, fun b => blk v = some b⟩) ?_ (fun j => ?_) (fun j b _ hb => hb) (fun j b _ lP => ?_) (fun j j' b lA l8 _ _ => ?_)
 ·refine ⟨KD lE, fun q' lU lM lb => ?_, fun lU lM lb => by rw [iT] at lb; cases lb⟩
  rw [iT] at lb; cases lb
  simp only [if_true]
  exact VC lE
 ·cases j with
  | zero =>
   obtain ⟨hl, Sk, h1, h2, h3⟩ := lC
   exact ⟨e, xs, lE, hz, ⟨hl, Sk, h1, fun k b hk => (h2 k b hk).elim, h3⟩, fun k x d hx _ _ => by simp [hx]⟩
  | succ j => simp [Yj, J0]
 ·have := hb b lP
  refine ⟨this.1, fun eR => ?_, this.2⟩
  have := (r.hX _ eR).2; omega
 ·have : ∀ j, Yj [Ob.arr true size rows] j ≠ .none -> j = 0 := by
   intro j hj
   cases j with
   | zero => rfl
   | succ j => simp [Yj] at hj
  rw [this j lA, this j' l8]
theorem Ba (r : Rel T0 B σ a w X h) {T : TypeId} {row : List At} (my : o.op = .alloc T) (hd : o.dst = some d) (hf : σ.fresh d = true) (hz : Qc P T = true) (gx : Wa P 12 T = some row) (lv : YW d row = false)
  (hK : ∀ a' w', Jz T0 B (σ.new d (.one (.bptr d 0)) [.box row]) a' w' -> Y8 B w w' -> K a' w') : o.wp P a w K Q := by
 obtain ⟨i, z, hi, hzv, iZ, lC⟩ := GF hz gx
 have lT : (execOp a.eval o).run P w = .ok (.value (.pointer (some ⟨w.heap.size, 0, none⟩))) (w.alloc (.cells z.cells T)) := by
  simp [execOp, my, Instr.alloc, zeroValue, typeInfo, hi, hzv, newVar, newRow]
 unfold Oper.wp
 rw [lT, Oper.upon_value, hd]
 have := r.sA hf z.cells T row lv (lC _ _ _ _)
 exact hK _ _ this.1 this.2
theorem vZ (r : Rel T0 B σ a w X h) {T : TypeId} (my : o.op = .box T x) (hd : o.dst = some d) (hf : σ.fresh d = true) (hg : gOf (look P σ T x) = true) (hE : (unc (look P σ T x)).flat = true) (lv : YW d (unc (look P σ T x)).cells = false)
  (hK : ∀ a' w', Jz T0 B (σ.new d (.one (.bptr d 0)) [.box (unc (look P σ T x)).cells]) a' w' -> Y8 B w w' -> K a' w') : o.wp P a w K Q := by
 have lC := Wf hE (r.arg (P := P) T x rfl hg)
 have lT : (execOp a.eval o).run P w = .ok (.value (.pointer (some ⟨w.heap.size, 0, none⟩))) (w.alloc (.cells (a.eval x).cells T)) := by
  simp [execOp, my, Instr.box, newVar, newRow]
 unfold Oper.wp
 rw [lT, Oper.upon_value, hd]
 have := r.sA hf (a.eval x).cells T _ lv lC
 exact hK _ _ this.1 this.2
end Go.Vm
