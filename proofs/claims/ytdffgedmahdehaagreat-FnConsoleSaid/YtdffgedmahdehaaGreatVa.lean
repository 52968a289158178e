/- An abstract machine Gi the model of Go, by value, and that it is sound: part Va. No condition. -/
import Derived.WalkKit
import Derived.Below
set_option linter.unusedVariables false
set_option linter.unusedSimpArgs false
namespace Go.Vm
theorem zAA{p:Prop}(h:p:=by(first|exact sg (Yw (n:=2281472) (by decide))|exact sg u0|exact sg u1|exact sg u2|exact u3|exact sg (ZT.XD u0)|exact sg (ZT.Xq u0)|exact sg (ZY (K:=2281472) u1 u3 (by decide))|exact sg (Yq (ZY (K:=2281472) u1 u3 (by decide)))|exact sg (Y0 (ZY (K:=2281472) u1 u3 (by decide))))):p:=h
theorem zAB{p:Prop}(h:p:=by(first|(exact⟨Nat.zero_le _,fun _ _=>trivial⟩)|(refine ZJ (n:=2322432) ?_;exact⟨Nat.zero_le _,fun _ _=>trivial⟩)|(refine ZJ (n:=2322432) (ZJ (n:=2322432-1) ?_);exact⟨Nat.zero_le _,fun _ _=>trivial⟩)|(refine ZK (n:=3) (by decide) (ZJ (ZJ (ZJ (n:=0) ?_)));exact⟨Nat.zero_le _,fun _ _=>trivial⟩)|(refine ZK (n:=2) (by decide) (ZJ (ZJ (n:=0) ?_));exact⟨Nat.zero_le _,fun _ _=>trivial⟩)|(refine ZK (n:=1) (by decide) (ZJ (n:=0) ?_);exact⟨Nat.zero_le _,fun _ _=>trivial⟩))):p:=h
theorem zAC{p:Prop}(h:p:=by omega):p:=h
theorem zAD{p:Prop}(h:p:=by first|exact ZK (n:=210+U) (by omega) j1.2.2.2.2.2.1|exact(Kl (n:=210+U) (by omega) j1.2.2.2.2.2.1 j1.2.2.2.2.2.2).1|exact(Kl (n:=210+U) (by omega) j1.2.2.2.2.2.1 j1.2.2.2.2.2.2).2|exact ZK (n:=210+iZ) (by omega) j2.2.2.2.2.2.1|exact(Kl (n:=210+iZ) (by omega) j2.2.2.2.2.2.1 j2.2.2.2.2.2.2).1|exact(Kl (n:=210+iZ) (by omega) j2.2.2.2.2.2.1 j2.2.2.2.2.2.2).2|exact(XT 10 u0).2 _ _|exact(XT 10 u0).1 _):p:=h
theorem zAE{p:Prop}(h:p:=by simp):p:=h
theorem zAF{p:Prop}(h:p:=by decide):p:=h
theorem zAH{p:Prop}(h:p:=by first|with_reducible exact ZK (n:=80) (by decide) (Z4 a0).1.1|with_reducible exact(Z4 a0).1.2.1|with_reducible exact(Z4 a0).1.2.2|with_reducible exact QB a0|with_reducible exact ZK (n:=81) (by decide) (YE a0).1|with_reducible exact(YE a0).2.1|with_reducible exact(YE a0).2.2|exact VH (by decide) _):p:=h
theorem zAI{p:Prop}(h:p:=by(first|exact sg u0|exact sg u2|exact sg (ZO.KU u1)|exact sg (n:=2097152) (show Sm 2097152 (Zh.mk [a1.ZN] [])from⟨⟨Nat.le_of_ble_eq_true rfl,fun x hx=>by rcases List.mem_cons.1 hx with rfl|hx;exact ZO.Yz u1;cases hx⟩,⟨Nat.zero_le _,fun x hx=>by cases hx⟩⟩)|exact(show a1.ZN.ZM.length+0<=2097152 from YA (ZU.XV (ZO.Yz u1)))|exact sg u1)):p:=h
theorem zAJ{p:Prop}(h:p:=by(first|exact sg u0|exact sg (ZO.KU u1)|exact sg (n:=2097152) (show Sm 2097152 (Zh.mk [a1.ZN] [])from⟨⟨Nat.le_of_ble_eq_true rfl,fun x hx=>by rcases List.mem_cons.1 hx with rfl|hx;exact ZO.Yz u1;cases hx⟩,⟨Nat.zero_le _,fun x hx=>by cases hx⟩⟩)|exact(show a1.ZN.ZM.length+0<=2097152 from YA (ZU.XV (ZO.Yz u1)))|exact sg u1)):p:=h
theorem zAK{p:Prop}(h:p:=by(have z:=Zj a0;simp_all;done)):p:=h
theorem zAL{p:Prop}(h:p:=by first|omega|(have fi:=XO a0 a1 (by first|omega|(simp at*;omega));omega)|(simp only[Bool.or_eq_false_iff,decide_eq_false_iff_not]at*;omega)|(have z:=Zf G;(try simp only[]at z);omega)|(have z:=Zf G.1;(try simp only[]at z);omega)|(have z:=Zf G.2;(try simp only[]at z);omega)|(have z:=Zf G.2.1;(try simp only[]at z);omega)|(have z:=Zf G.2.2;(try simp only[]at z);omega)|(have z:=Zf G.1.2;(try simp only[]at z);omega)|(have z:=Zf G.2.2.2;(try simp only[]at z);omega)):p:=h
theorem zAM{p:Prop}(h:p:=by first|omega|(exact List.length_pos_iff.2 (fun e=>by rw[e]at h1;simp at h1))|exact zL (by assumption) (by decide+kernel)):p:=h
theorem zAN{p:Prop}(h:p:=by first|(simp(maxDischargeDepth:=12) [Y9];omega)|(simp(maxDischargeDepth:=12) [ZK (m:=68719476736) (by decide) u0];done)):p:=h
theorem zAO{p:Prop}(h:p:=by have:=Jw a0.Frame.Zz (nth a0.Zd (YI a0.Zd (Zl (nth (nth (nth a0.ZA (ZH a0 a1).1.toNat).ZE (ZH a0 a1).2.toNat).ZN.ZM 1)).1.Zk).toNat).YG;first|omega|(have fi:=XO a0 a1 (by first|omega|(simp at*;omega));omega)|(simp only[Bool.or_eq_false_iff,decide_eq_false_iff_not]at*;omega)|(have z:=Zf G;(try simp only[]at z);omega)|(have z:=Zf G.1;(try simp only[]at z);omega)|(have z:=Zf G.2;(try simp only[]at z);omega)|(have z:=Zf G.2.1;(try simp only[]at z);omega)|(have z:=Zf G.2.2;(try simp only[]at z);omega)|(have z:=Zf G.1.2;(try simp only[]at z);omega)|(have z:=Zf G.2.2.2;(try simp only[]at z);omega)):p:=h
theorem zAP{p:Prop}(h:p:=by(first|exact sg u0|exact sg u1|exact sg u2|exact sg (ZT.XD u0)|exact sg j2.2.2.2.2|exact sg (Zi j2.2.2.2.2)|exact sg (Zi (ZU.XV (Zi (Zh.Xc u1)))))):p:=h
theorem zAQ{p:Prop}(h:p:=by first|(simp;done)|(simp[G];done)|(simp[G];omega)|(simp_all;done)):p:=h
theorem zAR{p:Prop}(h:p:=by have:=PN a0.Zd (Zl (nth (nth (nth a0.ZA (ZH a0 a1).1.toNat).ZE (ZH a0 a1).2.toNat).ZN.ZM 1)).1.Zk;first|omega|(have fi:=XO a0 a1 (by first|omega|(simp at*;omega));omega)|(simp only[Bool.or_eq_false_iff,decide_eq_false_iff_not]at*;omega)|(have z:=Zf G;(try simp only[]at z);omega)|(have z:=Zf G.1;(try simp only[]at z);omega)|(have z:=Zf G.2;(try simp only[]at z);omega)|(have z:=Zf G.2.1;(try simp only[]at z);omega)|(have z:=Zf G.2.2;(try simp only[]at z);omega)|(have z:=Zf G.1.2;(try simp only[]at z);omega)|(have z:=Zf G.2.2.2;(try simp only[]at z);omega)):p:=h
theorem zAS{p:Prop}(h:p:=by(first|(exact Kp (s:=(nth a0.ZE U).ZN) (by decide) (show Sm 2314240 _ by simp(maxDischargeDepth:=12) [u0]) (by simp))|(refine kD ?_;exact Kp (s:=(nth a0.ZE U).ZN) (by decide) (show Sm 2314240 _ by simp(maxDischargeDepth:=12) [u0]) (by simp))|(exact ZK (n:=2314240) (by decide) (xs u0)))):p:=h
theorem zAT{p:Prop}(h:p:=by first|(simp(maxDischargeDepth:=12) [Y9];omega)|(simp(maxDischargeDepth:=12) [ZK (m:=2322432) (by decide) u0];done)):p:=h
theorem zAU{p:Prop}(h:p:=by first|exact sg u0|exact⟨⟨Sz.zero _,Sz.zero _⟩,Sz.zero _⟩):p:=h
theorem zAV{p:Prop}(h:p:=by(have cc:a0.ZR.length<=2318336:=YA (xs u0);have z0:=fk;simp at z0;have z:=jt (by omega) z0.1;have z2:=z0.2;(try have w3:IntKind.i64.wrap (a2-1)=a2-1:=YQ (by omega) (by omega));(try have w4:W (a2-1)=a2-1:=w3);omega)):p:=h
theorem zAW{p:Prop}(h:p:=by(have cc:a0.ZR.length<=2318336:=YA (xs u0);have z0:=fk;simp at z0;have z:=T7 (by omega) z0.1;have z2:=z0.2;(try have w3:IntKind.i64.wrap (a2-1)=a2-1:=YQ (by omega) (by omega));(try have w4:W (a2-1)=a2-1:=w3);omega)):p:=h
theorem zAX{p:Prop}(h:p:=by first|omega|(simp at*;omega)):p:=h
theorem zAY{p:Prop}(h:p:=by first|omega|(simp;done)|(simp;omega)):p:=h
theorem zAa{p:Prop}(h:p:=by first|omega|exact zL (by assumption) (by decide+kernel)|(simp[YH,ZP,Yd]at*;omega)):p:=h
theorem zAb{p:Prop}(h:p:=by first|omega|(have f0:0<=(ZH a0 a1).1:=(by first|omega|(simp at*;omega));have fi:=XO a0 a1 f0;omega)|(have f0:0<=(ZH a0 a1).1:=(by first|omega|(simp at*;omega));have fi:=XO a0 a1 f0;have ll:=kE (nth a0.ZA (ZH a0 a1).1.toNat) (Zp a0.Frame.Methods a0.Frame.Now);omega)):p:=h
theorem zAc{p:Prop}(h:p:=by first|exact sg u0|exact ZK (n:=1048577) (by decide) (QK (n:=1048577) (a0:=a1) (by have:=Qh u1;omega))|exact .inr rfl|exact .inl rfl):p:=h
theorem zAd{p:Prop}(h:p:=by(first|exact⟨by omega,fun x hx=>Nat.le_trans (j1.2.2.2.2 x hx) (by decide)⟩|exact⟨by omega,fun x hx=>Nat.le_trans (j2.2.2.2.2.2 x hx) (by decide)⟩|exact Nat.le_of_ble_eq_true rfl)):p:=h
theorem zAe{p:Prop}(h:p:=by simp[w1]):p:=h
theorem zAf{p:Prop}(h:p:=by first|rfl|trivial):p:=h
theorem zAg{p:Prop}(h:p:=by simp[Op.operands]):p:=h
theorem zAh{p:Prop}(h:p:=by(first|exact sg u0|exact sg u1|exact sg u2|exact u3|exact sg (Q0 (n:=2277376) u1))):p:=h
theorem zAi{p:Prop}(h:p:=by(first|exact sg u0|exact sg u1|exact sg u2|exact u3|exact sg (Xx (n:=2277376) u1))):p:=h
theorem zAj{p:Prop}(h:p:=by first|omega|(have z:=xd (a1.tail.take ((W (a2+1)).toNat-1)) (by simpa using h2);simp at h1 z;simp only[Yd]at*;omega)):p:=h
theorem zAk{p:Prop}(h:p:=by simp;omega):p:=h
theorem zAl{p:Prop}(h:p:=by first|exact sg u0|exact⟨zW (ZK (n:=2289664) (by decide) (TT u1)) (by have:=YA u1;rw[List.length_drop];omega),Sz.zero _⟩):p:=h
theorem zAm{p:Prop}(h:p:=by first|(exact ZK (n:=2314240) (by decide) (xs (an u0 u1)))|(exact ZK (n:=2314240) (by decide) (jN (xs (an u0 u1)) (by decide)))):p:=h
theorem zAn{p:Prop}(h:p:=by have:=Qw a0.Frame.ZC (nth a2 ia);first|omega|(have z:=JW (a0:=a0) (a1:=a2) (j:=U) (by have z1:=h1;simp at z1;simp[z1]) (by omega);omega)|(have z:=JW (a0:=a0) (a1:=a2) (j:=ia) (by have z1:=h1;simp at z1;simp[z1]) (by omega);omega)):p:=h
theorem zAo{p:Prop}(h:p:=by have:=Qw a0.Frame.ZC (nth a2 U);first|omega|(have z:=JW (a0:=a0) (a1:=a2) (j:=U) (by have z1:=h1;simp at z1;simp[z1]) (by omega);omega)|(have z:=JW (a0:=a0) (a1:=a2) (j:=ia) (by have z1:=h1;simp at z1;simp[z1]) (by omega);omega)):p:=h
theorem zAp{p:Prop}(h:p:=by first|(exact ZK (n:=2310144) (by decide) (xs (an u0 u1)))|(exact ZK (n:=2310144+1) (by decide) (Kk (n:=2310144) (xs (an u0 u1)) (xs (an u0 u1)) (by decide)))):p:=h
theorem zAq{p:Prop}(h:p:=by(first|exact⟨by omega,fun x hx=>Nat.le_trans (j1.2.2.2.2 x hx) (by decide)⟩|exact Nat.le_of_ble_eq_true rfl)):p:=h
theorem zAr{p:Prop}(h:p:=by simp(maxDischargeDepth:=12) [Y9];try omega):p:=h
theorem zAs{p:Prop}(h:p:=by first|omega|(have fi:=QH a0 a1 (by first|omega|(simp at*;omega));omega)|(simp only[Bool.or_eq_false_iff,decide_eq_false_iff_not]at*;omega)):p:=h
theorem zAu{p:Prop}(h:p:=by(have mm:a1.ZR.length<=2306048:=YA (xs u1);(try simp[ZP]at q1);have ww:=DN a1.ZR.length (by omega);first|omega|((try rw[ww]at q1);(try rw[ww]at q2);have w3:W (a2+1)=a2+1:=YQ (by omega) (by omega);omega))):p:=h
theorem zAv{p:Prop}(h:p:=by first|omega|(have fi:=XO a0 a1 (by first|omega|(simp at*;omega));omega)|(simp only[Bool.or_eq_false_iff,decide_eq_false_iff_not]at*;omega)):p:=h
theorem zAw{p:Prop}(h:p:=by first|exact sg (ZF.Yx u0)|exact sg (Zi (ZD.YD (Zi (ZF.Z6 u0))))|exact ZK (n:=1048577) (by decide) (xP (n:=1048576) (Zi (ZD.YD (Zi (ZF.Z6 u0)))))):p:=h
theorem zAx{p:Prop}(h:p:=by first|exact sg u0|exact⟨⟨Sz.zero _,Sz.zero _⟩,jW (by have:=YA u1;rw[List.length_drop];omega)⟩):p:=h
theorem zAy{p:Prop}(h:p:=by first|exact ZK (n:=101) (by decide) (OB _ _ _)|exact ZK (n:=1048577) (by decide) (PM (Zi (ZF.Z6 u0)))|exact sg (qJ (ZF.Yx u0))|exact sg u2):p:=h
theorem zAz{p:Prop}(h:p:=by have z1:=h1;simp at z1;simp[z1]):p:=h
theorem zA0{p:Prop}(h:p:=by first|exact sg (ZT.XD (ZF.Yx u0))|exact sg (ZT.Yv (ZF.Yx u0))|exact⟨Nat.le_trans (Uo a0) (by omega),fun _ _=>trivial⟩):p:=h
theorem zA1{p:Prop}(h:p:=by(have z:=Xb a0;simp_all;done)):p:=h
theorem zA2{p:Prop}(h:p:=by injection gQ with gQ;injection gQ with gQ;injection gQ with gQ;exact gQ.symm):p:=h
theorem zA3{p:Prop}(h:p:=by first|exact sg u0|exact ZK (n:=1048577) (by decide) (QK (n:=1048577) (a0:=a1) (by have:=Qh u1;omega))|exact Rj a1):p:=h
theorem zA4{p:Prop}(h:p:=by(first|(have d:=Hg (l:=(nth a0.Zg J).ZR) (i:=ia) (by first|omega|(simp at*;omega));omega)|(have d:=DC (l:=a0.Yl) (i:=hC) (by first|omega|(simp at*;omega));omega))):p:=h
theorem zA5{p:Prop}(h:p:=by first|omega|(have tm:=Int.tmod_eq_emod_of_nonneg (b:=2) (show 0<=U by omega);(try simp only[Yd,show ∀x,IntKind.i64.wrap x=W x from fun _=>rfl]at*);(try simp at*);omega)):p:=h
theorem zA6{p:Prop}(h:p:=by first|omega|(have tm:=Int.tmod_eq_emod_of_nonneg (b:=2) (show 0<=J by omega);(try simp only[Yd,show ∀x,IntKind.i64.wrap x=W x from fun _=>rfl]at*);(try simp at*);omega)):p:=h
theorem zA7{p:Prop}(h:p:=by simp[List.getD_eq_getElem?_getD,List.getElem?_eq_getElem hi]):p:=h
theorem zA8{p:Prop}(h:p:=by first|omega|(simp;omega)):p:=h
theorem zA9{p:Prop}(h:p:=by rw[ho];simp):p:=h
theorem zBA{p:Prop}(h:p:=by have:=YA u1;rw[List.length_drop];omega):p:=h
theorem zBB{p:Prop}(h:p:=by decide+kernel):p:=h
theorem zBC{p:Prop}(h:p:=by simp[At.ref]):p:=h
theorem zBD{p:Prop}(h:p:=by first|(have fl:=Kh a0;have fm:=YA (ZT.Yv (ZF.Yx u0));simp[Y9];omega)|(refine ZK (n:=2314240) (by decide) ?_;simp(maxDischargeDepth:=12) [u0];done)):p:=h
theorem zBE{p:Prop}(h:p:=by first|(have fl:=Kf a0;have fm:=YA (ZT.Yv (ZF.Yx u0));simp[Y9];omega)|(refine ZK (n:=2310144) (by decide) ?_;simp(maxDischargeDepth:=12) [u0];done)):p:=h
theorem zBF{p:Prop}(h:p:=by first|omega|((try simp only[Yd,show ∀x,IntKind.i64.wrap x=W x from fun _=>rfl]at*);omega)):p:=h
theorem zBG{p:Prop}(h:p:=by first|(exact ZK (n:=2310144) (by decide) (xs (an u0 u1)))|(exact ZK (by decide) (Kk (n:=2310144) (xs (an u0 u1)) (xs (an u0 u1)) (by decide)))):p:=h
theorem zBH{p:Prop}(h:p:=by first|exact sg u0|exact u3|exact u4):p:=h
theorem zBI{p:Prop}(h:p:=by assumption):p:=h
theorem zBJ{p:Prop}(h:p:=by have:=Qh u1;omega):p:=h
theorem zBK{p:Prop}(h:p:=by first|(have hc:=h1;simp at hc;have hl:=j1.2.2.2.1 hc.2;exact ZK (n:=2306048+U) (by omega) j1.2.2.2.2)|exact sg (Zi (Yy.YD u1))):p:=h
theorem zBL{p:Prop}(h:p:=by(have z:=Iy h1 (v:=U) i1;first|omega|(have y:=z.2.2.2 (by simpa using h3);omega))):p:=h
theorem zBM{p:Prop}(h:p:=by first|exact ZK (n:=2318336+1) (by decide) (Wz u0)|exact sg (ZO.KU u0)|exact sg u1):p:=h
theorem zBN{p:Prop}(h:p:=by first|(have hl:=S7 a1 a2 (by simp at h1;exact h1.1);exact ZK (n:=2306048+J) (by omega) j1.2.2.2)|exact sg (Zi (Yy.YD u1))):p:=h
theorem zBO{p:Prop}(h:p:=by first|(simp(maxDischargeDepth:=12) [Y9];omega)|(simp(maxDischargeDepth:=12) [ZK (m:=2318336) (by decide) u0];done)):p:=h
theorem zBP{p:Prop}(h:p:=by intro i h;(have z:i=0\/i=1\/i=2\/i=3\/i=4:=by omega);rcases z with rfl|rfl|rfl|rfl|rfl<;>rfl):p:=h
theorem zBQ{p:Prop}(h:p:=by rw[St.JN];simp[hD,Yr]):p:=h
theorem zBR{p:Prop}(h:p:=by simp(maxDischargeDepth:=12) [yR,ZK (m:=2322432) (by decide) u0];try omega):p:=h
theorem zBS{p:Prop}(h:p:=by first|omega|(simp only[Bool.and_eq_true,decide_eq_true_eq,ZP]at*;omega)):p:=h
theorem zBT{p:Prop}(h:p:=by intro q hq;cases hq):p:=h
theorem zBU{p:Prop}(h:p:=by first|omega|(have f0:0<=(ZW a0 a1).1:=(by first|omega|(simp at*;omega));have fi:=QH a0 a1 f0;omega)):p:=h
theorem zBV{p:Prop}(h:p:=by cases h):p:=h
theorem zBW{p:Prop}(h:p:=by simp(maxDischargeDepth:=12) [Wf,ZK (m:=2318336) (by decide) u0,ZK (m:=2318336) (by decide) u1];try omega):p:=h
theorem zBX{p:Prop}(h:p:=by first|omega|(have z:=Jt a0 a1 (by simp_all);(try simp at*);omega)):p:=h
theorem zBY{p:Prop}(h:p:=by(have q:=YA (show Sm 2310144 a2 from u1);exact ZK (n:=2310144) (by decide) ⟨by omega,j1.2.2.2.2⟩)):p:=h
theorem zBZ{p:Prop}(h:p:=by have:=X0 a0.Frame.ZC (nth a2 U);exact il):p:=h
theorem zBa{p:Prop}(h:p:=by(first|exact sg u0|exact u1)):p:=h
theorem zBb{p:Prop}(h:p:=by first|exact u0|exact u1|exact u2|exact u3):p:=h
theorem zBc{p:Prop}(h:p:=by simpa using hc):p:=h
theorem zBd{p:Prop}(h:p:=by first|exact sg (Zi u1)|exact we (sg (Zi u1))):p:=h
theorem zBe{p:Prop}(h:p:=by rw[List.length_take];omega):p:=h
theorem zBf{p:Prop}(h:p:=by have:=(List.getElem?_eq_some_iff.1 hq).1;omega):p:=h
theorem zBg{p:Prop}(h:p:=by have:=ij _ _ _ ht e;simpa[At.ref]using this):p:=h
theorem zBh{p:Prop}(h:p:=by cases h;exact⟨Nat.zero_le _,fun x hx=>(by cases hx)⟩):p:=h
theorem zBi{p:Prop}(h:p:=by(first|(rw[<-e1.h,KX];exact sg (Im u0 u1 (by decide)))|(rw[<-e1.h,KX];exact u2))):p:=h
theorem zBj{p:Prop}(h:p:=by simp at hy⊢;exact .inr hy):p:=h
theorem zBk{p:Prop}(h:p:=by rw[h];rfl):p:=h
theorem zBl{p:Prop}(h:p:=by(have z:=Jt a0 a1 (by simp_all);(try simp at*);omega)):p:=h
theorem zBm{p:Prop}(h:p:=by have:=Jw a0.Frame.Zz (nth a0.Frame.ZC (Zt a0.Frame.ZC (nth a1 J)).toNat).Key;exact il):p:=h
theorem zBn{p:Prop}(h:p:=by cases hb;exact⟨cells,[],rfl,by simp[place],.nil,(by intro q hq;cases hq),rfl⟩):p:=h
theorem zBo{p:Prop}(h:p:=by(have h0:0<=(ZW a0 a1).1:=(by simp at h1;omega);have fi:=QH a0 a1 h0;omega)):p:=h
theorem zBp{p:Prop}(h:p:=by simp(maxDischargeDepth:=12) [TW,Y9,ZK (m:=2330624) (by decide) u0];try omega):p:=h
theorem zBq{p:Prop}(h:p:=by(simp at h1;omega)):p:=h
theorem zBr{p:Prop}(h:p:=by first|omega|(have fi:=QH a0 a1 (by first|omega|(simp at q1;omega));omega)):p:=h
theorem zBs{p:Prop}(h:p:=by simp[Region.wanted,hg]):p:=h
theorem zBt{p:Prop}(h:p:=by simp[nth,List.getD_eq_getElem?_getD,List.getElem?_eq_none (Nat.le_of_not_lt hv)]):p:=h
theorem zBu{p:Prop}(h:p:=by rw[List.length_append,List.length_singleton];omega):p:=h
theorem zBv{p:Prop}(h:p:=by rw[<-Nat.succ_mul];exact Nat.mul_le_mul_right _ hi):p:=h
theorem zBw{p:Prop}(h:p:=by rw[<-Nat.add_mul];exact Nat.mul_le_mul_right _ hle):p:=h
theorem zBx{p:Prop}(h:p:=by injection gn with gn;injection gn with gn;injection gn with gn;exact gn.symm):p:=h
theorem zBy{p:Prop}(h:p:=by simp[Program.bytesOf,hi]):p:=h
theorem zBz{p:Prop}(h:p:=by cases‹List (DataW H)›<;>exact h.elim):p:=h
theorem zB0{p:Prop}(h:p:=by first|exact Rn (by decide)|exact Tz (by decide) (by decide) (by decide)):p:=h
theorem zB1{p:Prop}(h:p:=by rw[<-List.flatten_append,List.take_append_drop]):p:=h
theorem zB2{p:Prop}(h:p:=by rw[qg (by first|omega|(simp;omega))];first|omega|(simp;omega)):p:=h
theorem zB3{p:Prop}(h:p:=by rw[ha];simp):p:=h
theorem zB4{p:Prop}(h:p:=by cases qs<;>simp[YZ,XB,yn u _ ds]):p:=h
theorem zB5{p:Prop}(h:p:=by rw[Nat.add_mul,Nat.add_mul];omega):p:=h
theorem zB6{p:Prop}(h:p:=by simp(maxDischargeDepth:=12) [RD];try omega):p:=h
theorem zB7{p:Prop}(h:p:=by first|exact sg u0|exact sg u2):p:=h
theorem zB8{p:Prop}(h:p:=by first|exact sg u1|exact ZK (n:=2301952) (by decide) (Ux u0 u2)):p:=h
theorem zB9{p:Prop}(h:p:=by first|exact sg u0|exact sg u1):p:=h
theorem zCA{p:Prop}(h:p:=by first|exact sg u1|exact ZK (n:=2301952) (by decide) (Uf u0 u2)):p:=h
theorem zCB{p:Prop}(h:p:=by cases hx):p:=h
theorem zCC{p:Prop}(h:p:=by simp[w1,w2]):p:=h
theorem zCD{p:Prop}(h:p:=by apply Array.toList_inj.1;simpa using ha):p:=h
theorem zCE{p:Prop}(h:p:=by simp[Region.wanted,cM]):p:=h
theorem zCF{p:Prop}(h:p:=by simpa using h):p:=h
theorem zCG{p:Prop}(h:p:=by rw[g8];simp):p:=h
theorem zCH{p:Prop}(h:p:=by simpa[At.ref]using hx):p:=h
theorem zCI{p:Prop}(h:p:=by simp at hl⊢;omega):p:=h
theorem zCJ{p:Prop}(h:p:=by rw[St.JN,if_neg (fun hh=>ij hh.1)]):p:=h
theorem zCK{p:Prop}(h:p:=by simp[w1,G]):p:=h
theorem zCL{p:Prop}(h:p:=by cases h;rfl):p:=h
theorem zCM{p:Prop}(h:p:=by first|omega|(simp at q1;omega)):p:=h
theorem zCN{p:Prop}(h:p:=by have:=X0 a0 a1.Authority;exact il):p:=h
theorem zCO{p:Prop}(h:p:=by rw[hd,e]):p:=h
theorem zCP{p:Prop}(h:p:=by cases h;exact⟨by omega,hs⟩):p:=h
theorem zCQ{p:Prop}(h:p:=by simp_all):p:=h
theorem zCR{p:Prop}(h:p:=by simp[XY]):p:=h
theorem zCS{p:Prop}(h:p:=by simpa using h2):p:=h
theorem zCT{p:Prop}(h:p:=by rw[bg];exact hz):p:=h
theorem zCU{p:Prop}(h:p:=by rw[bh];exact hz):p:=h
theorem zCV{p:Prop}(h:p:=by cases qs<;>exact hf):p:=h
theorem zCW{p:Prop}(h:p:=by simpa[Yr]using h):p:=h
theorem zCX{p:Prop}(h:p:=by rw[JF];exact h):p:=h
theorem zCY{p:Prop}(h:p:=by rw[h]):p:=h
theorem zCZ{p:Prop}(h:p:=by simp[hr]):p:=h
theorem zCa{p:Prop}(h:p:=by simp[World.setRow]):p:=h
theorem zCb{p:Prop}(h:p:=by rw[fB];rfl):p:=h
theorem zCc{p:Prop}(h:p:=by simpa using h3):p:=h
theorem zCd{p:Prop}(h:p:=by(intro z;simp;(repeat(with_reducible refine Go.Mo.sd ?_));exact z.h)):p:=h
theorem zCe{p:Prop}(h:p:=by((try dsimp only);first|omega|(simp at*;omega))):p:=h
theorem zCf{p:Prop}(h:p:=by(intro h;(try simp only[beq_true,beq_false,Bool.not_eq_true',Bool.not_eq_false',Bool.true_and,Bool.and_true]at h);exact h)):p:=h
theorem zCg{p:Prop}(h:p:=by(intro z;simp[G,Go.Vm.ZB];(repeat(with_reducible refine Go.Mo.sdg ?_));exact z.h)):p:=h
theorem zCh{p:Prop}(h:p:=by(intro F;exact Qs (by simp[F]))):p:=h
variable{v val u:Value}{w w':World}{B X S X':Nat->Prop}{P:Program}{o:Oper}{d size t n f i j b off len cap:Nat}{x y:Operand}{a:Act}{vs cs:List Value}{k kk:IntKind}{op:BinOp}{q p:Bool}{c:Call}{parts:Array (Nat×Operand)}{lo hi:Option Operand}{base:Option Addr}{code:BoundsCode}
inductive D where
 |int (k:IntKind) (n:Int)
 |bool (b:Bool)
 |str (s:ByteArray)
 |sl (size:Nat) (rows:List (List D))
 |unk
 deriving Inhabited
variable{rows res s:List (List D)}{ds:List D}
def D.scalar:D->Bool
 |.sl _ _=>false
 |_=>true
abbrev CS:=Nat->Nat->Prop
variable{T T0 T':CS}
inductive Rd(T:CS)(w:World):Value->D->Prop
 |int (k:IntKind) (n:Int):Rd T w (.int k n) (.int k n)
 |bool (b:Bool):Rd T w (.bool b) (.bool b)
 |str (s:ByteArray):Rd T w (.string s) (.str s)
 |unk (v:Value) (h:v.oneCell'=true):Rd T w v .unk
 |nil (size:Nat):Rd T w (.slice none 0 0) (.sl size [])
 |sl (a:Addr) (len cap size:Nat) (rows:List (List D)) (g:Nat->Value)
   (hl:rows.length=len) (hc:len<=cap) (hm:cap<=maxLen) (hz:∀r∈rows,r.length=size) (hs:rows.flatten≠[]->a.spot=none)
   (hg:∀k d,rows.flatten[k]?=some d->w.cell? ⟨a.block,a.off+k,none⟩=some (g k)/\T a.block (a.off+k))
   (hr:∀k d,rows.flatten[k]?=some d->Rd T w (g k) d):Rd T w (.slice (some a) len cap) (.sl size rows)
theorem Rd.mono(hT:∀b k v,T b k->w.cell? ⟨b,k,none⟩=some v->w'.cell? ⟨b,k,none⟩=some v/\T' b k)
  {d:D} (h:Rd T w v d):Rd T' w' v d:=by
 induction h with
 |int k n=>exact .int k n
 |bool b=>exact .bool b
 |str s=>exact .str s
 |unk v h=>exact .unk v h
 |nil s=>exact .nil s
 |sl a len cap size rows g hl hc hm hz hs hg hr ih=>exact .sl a len cap size rows g hl hc hm hz hs (fun k d hk=>hT _ _ _ (hg k d hk).2 (hg k d hk).1) (fun k d hk=>ih k d hk)
theorem Rd.X1{d:D}(h:Rd T w v d):v.oneCell'=true:=by cases h<;>first|rfl|assumption
inductive At where
 |any
 |d (x:D)
 |nil (size:Nat)
 |sref (t j lo len:Nat)
 |ptr (t j i c:Nat)
 |bptr (t c:Nat)
 |fn (f t:Nat)
 |rptr (r:List D) (c:Nat)
 |tref (t j i c:Nat) (o:Option Nat)
 deriving Inhabited
inductive V where
 |any
 |one (x:At)
 |agg (xs:List At)
 |tup (xs:List V)
 |cnd (g:Bool) (x:V)
 |fix (v:Value) (x:V)
 deriving Inhabited
inductive Ob where
 |none
 |box (cells:List At)
 |arr (q:Bool) (size:Nat) (rows:List (List D))
 |lit (size:Nat) (rows:List (List At))
 deriving Inhabited
variable{eK:Nat->Nat->Ob}
structure Hd where
 v:Value
 n:Nat->Value
 u:Nat->Prop
variable{h h':Nat->Nat->Hd}{hd:Hd}
abbrev Ent:=V×List Ob
abbrev St:=List Ent
variable{σ:St}
def St.get(σ:St)(t:Nat):V:=match σ[t]? with|some e=>e.1|none=>.any
def Yr(os:List Ob)(j:Nat):Ob:=match os[j]? with|some o=>o|none=>.none
def St.ob(σ:St)(t j:Nat):Ob:=match σ[t]? with|some e=>Yr e.2 j|none=>.none
def St.put:St->Nat->V->St
 |[],_,_=>[]
 |e::σ,0,v=>(v,e.2)::σ
 |e::σ,t+1,v=>e::St.put σ t v
def St.Z0:St->Nat->Nat->Ob->St
 |[],_,_,_=>[]
 |e::σ,0,j,o=>(e.1,e.2.set j o)::σ
 |e::σ,t+1,j,o=>e::St.Z0 σ t j o
def St.new:St->Nat->V->List Ob->St
 |[],_,_,_=>[]
 |_::σ,0,v,os=>(v,os)::σ
 |e::σ,t+1,v,os=>e::St.new σ t v os
theorem St.Qv(σ:St)(t:Nat)(v:V):(σ.put t v).length=σ.length:=by
 induction σ generalizing t with
 |nil=>rfl
 |cons e σ ih=>cases t<;>simp[St.put,ih]
theorem St.XR(σ:St)(t j:Nat)(o:Ob):(σ.Z0 t j o).length=σ.length:=by
 induction σ generalizing t with
 |nil=>rfl
 |cons e σ ih=>cases t<;>simp[St.Z0,ih]
theorem St.Vw(σ:St)(t:Nat)(v:V)(os:List Ob):(σ.new t v os).length=σ.length:=by
 induction σ generalizing t with
 |nil=>rfl
 |cons e σ ih=>cases t<;>simp[St.new,ih]
theorem St.zc(σ:St)(t:Nat)(v:V)(u:Nat):(σ.put t v).get u=if u=t/\t<σ.length then v else σ.get u:=by
 induction σ generalizing t u with
 |nil=>simp[St.put,St.get]
 |cons e σ ih=>
  cases t with
  |zero=>cases u<;>simp[St.put,St.get]
  |succ t=>cases u with
   |zero=>simp[St.put,St.get]
   |succ u=>have:=ih t u;simp only[St.get,St.put]at this⊢;simpa using this
theorem St.Qz(σ:St)(t:Nat)(v:V):(σ.put t v).ob=σ.ob:=by
 funext u j;induction σ generalizing t u with
 |nil=>simp[St.put,St.ob]
 |cons e σ ih=>
  cases t with
  |zero=>cases u<;>simp[St.put,St.ob]
  |succ t=>cases u with
   |zero=>simp[St.put,St.ob]
   |succ u=>have:=ih t u;simp only[St.ob,St.put]at this⊢;simpa using this
theorem St.Xz(σ:St)(t j:Nat)(o:Ob)(u:Nat):(σ.Z0 t j o).get u=σ.get u:=by
 induction σ generalizing t u with
 |nil=>simp[St.Z0,St.get]
 |cons e σ ih=>
  cases t with
  |zero=>cases u<;>simp[St.Z0,St.get]
  |succ t=>cases u with
   |zero=>simp[St.Z0,St.get]
   |succ u=>have:=ih t u;simp only[St.get,St.Z0]at this⊢;simpa using this
theorem vx(os:List Ob)(j:Nat)(o:Ob)(i:Nat):Yr (os.set j o) i=if i=j/\j<os.length then o else Yr os i:=by
 unfold Yr;rw[List.getElem?_set];by_cases h:j=i
 ·subst h;by_cases h2:j<os.length
  ·simp[h2]
  ·simp[h2]
 ·simp[h,Ne.symm h]
theorem St.Xh(σ:St)(t j:Nat)(o:Ob)(u i:Nat)(hl:σ.ob t j≠ .none):(σ.Z0 t j o).ob u i=if u=t/\i=j then o else σ.ob u i:=by
 induction σ generalizing t u with
 |nil=>simp[St.ob]at hl
 |cons e σ ih=>
  cases t with
  |zero=>
   have hj:j<e.2.length:=by
    simp only[St.ob,List.getElem?_cons_zero,Yr]at hl;rcases Nat.lt_or_ge j e.2.length with h|h
    ·exact h
    ·simp[List.getElem?_eq_none h]at hl
   cases u with
   |zero=>simp[St.Z0,St.ob,vx,hj]
   |succ u=>simp[St.Z0,St.ob]
  |succ t=>cases u with
   |zero=>simp[St.Z0,St.ob]
   |succ u=>have:=ih t u (by simpa[St.ob]using hl);simp only[St.ob,St.Z0]at this⊢;simpa using this
theorem St.TD(σ:St)(t:Nat)(v:V)(os:List Ob)(u:Nat):(σ.new t v os).get u=if u=t/\t<σ.length then v else σ.get u:=by
 induction σ generalizing t u with
 |nil=>simp[St.new,St.get]
 |cons e σ ih=>
  cases t with
  |zero=>cases u<;>simp[St.new,St.get]
  |succ t=>cases u with
   |zero=>simp[St.new,St.get]
   |succ u=>have:=ih t u;simp only[St.get,St.new]at this⊢;simpa using this
theorem St.JN(σ:St)(t:Nat)(v:V)(os:List Ob)(u j:Nat):(σ.new t v os).ob u j=if u=t/\t<σ.length then Yr os j else σ.ob u j:=by
 induction σ generalizing t u with
 |nil=>simp[St.new,St.ob]
 |cons e σ ih=>
  cases t with
  |zero=>cases u<;>simp[St.new,St.ob]
  |succ t=>cases u with
   |zero=>simp[St.new,St.ob]
   |succ u=>have:=ih t u;simp only[St.ob,St.new]at this⊢;simpa using this
def II(h:Value)(len:Nat):Value:=match h with|.slice b _ c=>.slice b len c|v=>v
def pE(h:Value)(size n lo len:Nat)(v:Value):Prop:=
 lo+len<=n/\(len=n->lo=0->v=h)/\(lo=0->v=II h len)/\∃base cap,v= .slice base len cap/\len<=cap/\cap<=maxLen/\(base=none->cap=0)/\(0<len->∃b dc,h= .slice (some ⟨b,0,none⟩) n dc/\base=some ⟨b,lo*size,none⟩)
def m7:Option Nat->Value->Value->Prop
 |none,x,v=>v=x
 |some k,x,v=>∃b n cap,x= .slice (some ⟨b,0,none⟩) n cap/\v= .pointer (some ⟨b,k,none⟩)
def YR(T:CS)(h:Nat->Nat->Hd)(ob:Nat->Nat->Ob)(w:World):At->Value->Prop
 |.any,v=>v.oneCell'=true
 |.d x,v=>Rd T w v x
 |.nil _,v=>v= .slice none 0 0
 |.sref t j lo len,v=>v.oneCell'=true/\(∀q size rows,ob t j= .arr q size rows->pE (h t j).v size rows.length lo len v)/\(∀size rows,ob t j= .lit size rows->pE (h t j).v size rows.length lo len v)
 |.ptr t j i c,v=>v.oneCell'=true/\(∀q size rows,ob t j= .arr q size rows->∃b n cap,(h t j).v= .slice (some ⟨b,0,none⟩) n cap/\v= .pointer (some ⟨b,i*size+c,none⟩))
 |.bptr t c,v=>v.oneCell'=true/\∀cells,ob t 0= .box cells->∃b,(h t 0).v= .pointer (some ⟨b,0,none⟩)/\v= .pointer (some ⟨b,c,none⟩)
 |.fn f t,v=>v.oneCell'=true/\∀cells,ob t 0= .box cells->∃b,(h t 0).v= .pointer (some ⟨b,0,none⟩)/\v= .func (.func f) #[] #[.pointer (some ⟨b,0,none⟩)]
 |.rptr r c,v=>∃b off,∃g:Nat->Value,v= .pointer (some ⟨b,off+c,none⟩)/\∀k d,r[k]?=some d->w.cell? ⟨b,off+k,none⟩=some (g k)/\T b (off+k)/\Rd T w (g k) d
 |.tref t j i c o,v=>v.oneCell'=true/\∀size rows,ob t j= .arr true size rows->m7 o ((h t j).n (i*size+c)) v
theorem YR.X1{ob:Nat->Nat->Ob}{x:At}(r:YR T h ob w x v):v.oneCell'=true:=by
 cases x with
 |any=>exact r
 |d x=>exact Rd.X1 r
 |nil s=>cases r;rfl
 |sref=>exact r.1
 |ptr=>exact r.1
 |bptr=>exact r.1
 |fn=>exact r.1
 |tref=>exact r.1
 |rptr r' c=>obtain⟨b,off,g,rfl,_⟩:=r;rfl
inductive YJ{α β:Type}(R:α->β->Prop):List α->List β->Prop
 |nil:YJ R [] []
 |cons {a b l m}:R a b->YJ R l m->YJ R (a::l) (b::m)
theorem YJ.imp{α β:Type}{R S:α->β->Prop}(h:∀a b,R a b->S a b){l:List α}{m:List β}(x:YJ R l m):YJ S l m:=by
 induction x with
 |nil=>exact .nil
 |cons r _ ih=>exact .cons (h _ _ r) ih
theorem YJ.length{α β:Type}{R:α->β->Prop}{l:List α}{m:List β}(x:YJ R l m):l.length=m.length:=by
 induction x with
 |nil=>rfl
 |cons r _ ih=>simp[ih]
theorem YJ.get{α β:Type}{R:α->β->Prop}{l:List α}{m:List β}(x:YJ R l m):∀(i:Nat)(a:α),l[i]?=some a->∃b,m[i]?=some b/\R a b:=by
 induction x with
 |nil=>intro i a h;simp at h
 |cons r _ ih=>
  intro i a h;cases i with
  |zero=>simp at h;subst h;exact⟨_,zAE,r⟩
  |succ i=>simpa using ih i a zCF
theorem YJ.get'{α β:Type}{R:α->β->Prop}{l:List α}{m:List β}(x:YJ R l m):∀(i:Nat)(b:β),m[i]?=some b->∃a,l[i]?=some a/\R a b:=by
 induction x with
 |nil=>intro i a h;simp at h
 |cons r _ ih=>
  intro i a h;cases i with
  |zero=>simp at h;subst h;exact⟨_,zAE,r⟩
  |succ i=>simpa using ih i a zCF
theorem YJ.xm{α β:Type}{R:α->β->Prop}{l:List α}{m:List β}(hl:l.length=m.length)(h:∀(i:Nat)(a:α)(b:β),l[i]?=some a->m[i]?=some b->R a b):YJ R l m:=by
 induction l generalizing m with
 |nil=>cases m with
  |nil=>exact .nil
  |cons b m=>simp at hl
 |cons a l ih=>cases m with
  |nil=>simp at hl
  |cons b m=>exact .cons (h 0 a b zAE zAE) (ih (by simpa using hl) (fun i a b ha hb=>h (i+1) a b (by simpa using ha) (by simpa using hb)))
theorem YJ.append{α β:Type}{R:α->β->Prop}{l l':List α}{m m':List β}(x:YJ R l m)(y:YJ R l' m'):YJ R (l++l') (m++m'):=by
 induction x with
 |nil=>exact y
 |cons r _ ih=>exact .cons r ih
theorem YJ.take{α β:Type}{R:α->β->Prop}{l:List α}{m:List β}(x:YJ R l m)(n:Nat):YJ R (l.take n) (m.take n):=by
 induction x generalizing n with
 |nil=>simpa using YJ.nil
 |cons r _ ih=>cases n with
  |zero=>simpa using YJ.nil
  |succ n=>simpa using YJ.cons r (ih n)
theorem YJ.drop{α β:Type}{R:α->β->Prop}{l:List α}{m:List β}(x:YJ R l m)(n:Nat):YJ R (l.drop n) (m.drop n):=by
 induction x generalizing n with
 |nil=>simpa using YJ.nil
 |cons r x ih=>cases n with
  |zero=>simpa using YJ.cons r x
  |succ n=>simpa using ih n
theorem YJ.set{α β:Type}{R:α->β->Prop}{l:List α}{m:List β}(x:YJ R l m)(i:Nat){a:α}{b:β}(r:R a b):YJ R (l.set i a) (m.set i b):=by
 induction x generalizing i with
 |nil=>simpa using YJ.nil
 |cons r' x ih=>cases i with
  |zero=>simpa using YJ.cons r x
  |succ i=>simpa using YJ.cons r' (ih i)
theorem YJ.mem{α β:Type}{R:α->β->Prop}{l:List α}{m:List β}(x:YJ R l m){b:β}(h:b∈m):∃a,a∈l/\R a b:=by obtain⟨i,hi⟩:=List.mem_iff_getElem?.1 h;obtain⟨a,ha,r⟩:=x.get' i b hi;exact⟨a,List.mem_of_getElem? ha,r⟩
def K8(T:CS)(h:Nat->Nat->Hd)(ob:Nat->Nat->Ob)(w:World):V->Value->Prop
 |.any,_=>True
 |.one x,v=>YR T h ob w x v
 |.agg xs,v=>∃cs:Array Value,v= .agg cs/\YJ (YR T h ob w) xs cs.toList
 |.tup _,_=>False
 |.cnd _ _,_=>False
 |.fix _ _,_=>False
def Qk(T:CS)(h:Nat->Nat->Hd)(ob:Nat->Nat->Ob)(w:World):V->Value->Prop
 |.tup xs,v=>∃vs:Array Value,v= .tuple vs/\YJ (K8 T h ob w) xs vs.toList
 |.cnd g x,v=>(g=true->K8 T h ob w x v)/\(g=false->v=undef)
 |.any,_=>True
 |.one x,v=>YR T h ob w x v
 |.agg xs,v=>K8 T h ob w (.agg xs) v
 |.fix u x,v=>v=u/\K8 T h ob w x v
theorem K8.up{ob:Nat->Nat->Ob}{x:V}(r:K8 T h ob w x v):Qk T h ob w x v:=by cases x<;>first|exact r|exact r.elim
def blk:Value->Option Nat
 |.slice (some a) _ _=>some a.block
 |.pointer (some a)=>some a.block
 |_=>none
def Hd.of(v:Value):Hd:=⟨v,fun _=>undef,fun b=>blk v=some b⟩
inductive Own(w:World):Value->D->(Nat->Prop)->Prop
 |int (k:IntKind) (n:Int) (S:Nat->Prop):Own w (.int k n) (.int k n) S
 |bool (b:Bool) (S:Nat->Prop):Own w (.bool b) (.bool b) S
 |str (s:ByteArray) (S:Nat->Prop):Own w (.string s) (.str s) S
 |unk (v:Value) (h:v.oneCell'=true) (S:Nat->Prop):Own w v .unk S
 |sl (v:Value) (size:Nat) (rows:List (List D)) (S:Nat->Prop) (e:TypeId) (xs:List Value) (Sk:Nat->Nat->Prop) (ho:w.ownsRow 0 e size v rows.length xs) (hz:∀r∈rows,r.length=size)
   (hb:∀b,blk v=some b->S b) (hl:xs.length=rows.flatten.length) (hk:∀k x d,xs[k]?=some x->rows.flatten[k]?=some d->Own w x d (Sk k))
   (hs:∀k b,Sk k b->S b/\blk v≠some b) (hd:∀i j b,Sk i b->Sk j b->i=j):Own w v (.sl size rows) S
def KC(w:World)(xs:List Value)(ds:List D)(S:Nat->Prop):Prop:=
 xs.length=ds.length/\∃Sk:Nat->Nat->Prop,(∀k x d,xs[k]?=some x->ds[k]?=some d->Own w x d (Sk k))/\(∀k b,Sk k b->S b)/\(∀i j b,Sk i b->Sk j b->i=j)
def JZ(T:CS)(h:Nat->Nat->Hd)(ob:Nat->Nat->Ob)(w:World)(hd:Hd):Ob->Prop
 |.none=>True
 |.box cells=>∃b cs e,hd.v= .pointer (some ⟨b,0,none⟩)/\w.heap[b]?=some (.cells cs e (0,0))/\YJ (YR T h ob w) cells cs.toList
 |.arr false size rows=>∃e xs,w.ownsRow 0 e size hd.v rows.length xs/\(∀r∈rows,r.length=size)/\YJ (Rd T w) xs rows.flatten
 |.arr true size rows=>∃e xs,w.ownsRow 0 e size hd.v rows.length xs/\(∀r∈rows,r.length=size)/\KC w xs rows.flatten (fun b=>hd.u b/\blk hd.v≠some b)/\(∀k x d,xs[k]?=some x->rows.flatten[k]?=some d->d.scalar=false->hd.n k=x)
 |.lit size rows=>∃e xs,w.ownsRow 0 e size hd.v rows.length xs/\(∀r∈rows,r.length=size)/\YJ (YR T h ob w) rows.flatten xs
def Tof(T0:CS)(X:Nat->Prop):CS:=fun b k=>T0 b k\/X b
structure XL(B:Nat->Prop)(w w':World):Prop where
 os:w'.os=w.os
 tape:w'.tape=w.tape
 output:w'.output=w.output
 size:w.heap.size<=w'.heap.size
 block:∀k,B k->w'.heap[k]?=w.heap[k]?
theorem XL.refl(B:Nat->Prop)(w:World):XL B w w:=⟨rfl,rfl,rfl,Nat.le_refl _,fun _ _=>rfl⟩
theorem XL.trans{a b c:World}(h:XL B a b)(k:XL B b c):XL B a c:=
 ⟨k.os.trans h.os,k.tape.trans h.tape,k.output.trans h.output,Nat.le_trans h.size k.size,fun i hi=>(k.block i hi).trans (h.block i hi)⟩
theorem XL.HV(h:RowKit.Below w.heap.size w w')(hB:∀b,B b->b<w.heap.size):XL B w w':=⟨h.os,h.tape,h.output,h.size,fun k hk=>h.block k (hB k hk)⟩
structure Rel(T0:CS)(B:Nat->Prop)(σ:St)(a:Act)(w:World)(X:Nat->Prop)(h:Nat->Nat->Hd):Prop where
 size:a.tmps.size=σ.length
 defers:a.defers=[]
 hB:∀b,B b->b<w.heap.size
 hX:∀b,X b->¬B b/\b<w.heap.size
 hT:∀b k,T0 b k->B b
 slot:∀t,t<σ.length->Qk (Tof T0 X) h σ.ob w (σ.get t) (a.tmps.getD t undef)
 obj:∀t j,JZ (Tof T0 X) h σ.ob w (h t j) (σ.ob t j)
 ub:∀t j b,σ.ob t j≠ .none->blk (h t j).v=some b->(h t j).u b
 own:∀t j b,σ.ob t j≠ .none->(h t j).u b->¬B b/\¬X b/\b<w.heap.size
 inj:∀t j t' j' b,σ.ob t j≠ .none->σ.ob t' j'≠ .none->(h t j).u b->(h t' j').u b->t=t'/\j=j'
def JV(T0:CS)(B:Nat->Prop)(σ:St)(a:Act)(w:World):Prop:=∃X h,Rel T0 B σ a w X h
theorem Rel.nf(r:Rel T0 B σ a w X h)(ho:σ.ob t j≠ .none)(hb:blk (h t j).v=some b):¬B b/\¬X b/\b<w.heap.size:=
 r.own t j b ho (r.ub t j b ho hb)
section
variable{ob:Nat->Nat->Ob}
theorem YR.mono(hT:∀b k v,T b k->w.cell? ⟨b,k,none⟩=some v->w'.cell? ⟨b,k,none⟩=some v/\T' b k){x:At}
  (r:YR T h ob w x v):YR T' h ob w' x v:=by
 cases x with
 |any=>exact r
 |d x=>exact Rd.mono hT r
 |nil s=>exact r
 |sref t j lo len=>exact r
 |ptr t j i c=>exact r
 |bptr t c=>exact r
 |fn f t=>exact r
 |tref t j i c o=>exact r
 |rptr rr c=>obtain⟨b,off,g,e,hk⟩:=r;exact⟨b,off,g,e,fun k d hd=>⟨(hT _ _ _ (hk k d hd).2.1 (hk k d hd).1).1,(hT _ _ _ (hk k d hd).2.1 (hk k d hd).1).2,Rd.mono hT (hk k d hd).2.2⟩⟩
theorem K8.mono(hT:∀b k v,T b k->w.cell? ⟨b,k,none⟩=some v->w'.cell? ⟨b,k,none⟩=some v/\T' b k){x:V}
  (r:K8 T h ob w x v):K8 T' h ob w' x v:=by
 cases x with
 |any=>exact r
 |one x=>exact YR.mono hT r
 |agg xs=>obtain⟨cs,e,r⟩:=r;exact⟨cs,e,r.imp fun _ _=>YR.mono hT⟩
 |tup xs=>exact r.elim
 |cnd g x=>exact r.elim
 |fix u x=>exact r.elim
theorem Qk.mono(hT:∀b k v,T b k->w.cell? ⟨b,k,none⟩=some v->w'.cell? ⟨b,k,none⟩=some v/\T' b k){x:V}
  (r:Qk T h ob w x v):Qk T' h ob w' x v:=by
 cases x with
 |any=>exact r
 |one x=>exact YR.mono hT r
 |agg xs=>exact K8.mono (x:=.agg xs) hT r
 |tup xs=>obtain⟨vs,e,r⟩:=r;exact⟨vs,e,r.imp fun _ _=>K8.mono hT⟩
 |cnd g x=>exact⟨fun hg=>K8.mono hT (r.1 hg),r.2⟩
 |fix u x=>exact⟨r.1,K8.mono hT r.2⟩
end
def unc:V->V
 |.cnd _ x=>x
 |.fix _ x=>x
 |x=>x
def gOf:V->Bool
 |.cnd g _=>g
 |_=>true
def ZS(P:Program)(t:TypeId):TypeId:=
 match P.underlying t with
 |some (.slice e)=>e
 |some (.array _ e)=>e
 |_=>0
def XS(P:Program)(t:TypeId):Bool:=
 match P.underlying t with
 |some (.slice e)=>(P.info? e).isSome
 |_=>false
def EZ(P:Program)(t:TypeId):Option Nat:=
 match P.underlying t with
 |some (.array n e)=>if(P.info? e).isSome then some n else none
 |_=>none
def PH(P:Program)(t:TypeId):Bool:=
 match P.underlying t with
 |some (.struct _)|some (.array _ _)=>true
 |_=>false
def jc(P:Program)(t:TypeId):Bool:=
 (P.underlying t).isSome&&(P.info? t).isSome&&(PH P t||P.cellsOf t==1)
def Qc(P:Program)(t:TypeId)(f:Nat):Nat:=
 match P.underlying t with
 |some (.struct fs)=>(match fs[f]? with|some fd=>fd.offset|none=>0)
 |_=>0
def jZ(P:Program)(t:TypeId)(f:Nat):TypeId:=
 match P.underlying t with
 |some (.struct fs)=>(match fs[f]? with|some fd=>fd.type|none=>0)
 |_=>0
def WR(P:Program)(t:TypeId)(f:Nat):Bool:=
 match P.underlying t with
 |some (.struct fs)=>(match fs[f]? with|some fd=>(P.info? fd.type).isSome&&decide (P.cellsOf fd.type≠0)|none=>false)
 |_=>false
def uo(P:Program)(t:TypeId):Option IntKind:=
 match P.underlying t with
 |some (.int k)=>some k
 |_=>none
def R8(P:Program)(t:TypeId):Bool:=
 match P.underlying t with
 |some .string=>true
 |_=>false
def G8(P:Program)(t:TypeId):Bool:=
 match P.underlying t with
 |some .bool=>true
 |_=>false
def cst(P:Program)(ty:TypeId):Value->V
 |.int k n=>.one (.d (.int k n))
 |.bool b=>.one (.d (.bool b))
 |.string s=>.one (.d (.str s))
 |.slice none 0 0=>.one (.nil (P.cellsOf (ZS P ty)))
 |_=>.any
def look(P:Program)(σ:St)(ty:TypeId):Operand->V
 |.tmp t=>σ.get t
 |.const v=>cst P ty v
 |_=>.any
theorem Rel.get(r:Rel T0 B σ a w X h)(t:Nat):Qk (Tof T0 X) h σ.ob w (σ.get t) (a.tmps.getD t undef):=by
 rcases Nat.lt_or_ge t σ.length with hl|hl
 ·exact r.slot t hl
 ·simp[St.get,List.getElem?_eq_none hl,Qk]
theorem ow(T:CS)(h:Nat->Nat->Hd)(ob:Nat->Nat->Ob)(w:World)(ty:TypeId)(v:Value):Qk T h ob w (cst P ty v) v:=by
 unfold cst;split
 ·exact .int _ _
 ·exact .bool _
 ·exact .str _
 ·rfl
 ·trivial
theorem Rel.look(r:Rel T0 B σ a w X h)(ty:TypeId)(x:Operand):Qk (Tof T0 X) h σ.ob w (look P σ ty x) (a.eval x):=by
 cases x with
 |tmp t=>exact r.get t
 |const v=>exact ow _ _ _ _ _ _
 |global g=>trivial
 |func f=>trivial
theorem Qk.unc{ob:Nat->Nat->Ob}{x:V}(r:Qk T h ob w x v)(hg:gOf x=true):Qk T h ob w (unc x) v:=by
 cases x with
 |cnd g x=>exact K8.up (r.1 hg)
 |fix u x=>exact K8.up r.2
 |_=>exact r
theorem Rel.arg(r:Rel T0 B σ a w X h)(ty:TypeId)(x:Operand){v:V}(he:Vm.unc (Vm.look P σ ty x)=v)(hg:gOf (Vm.look P σ ty x)=true):Qk (Tof T0 X) h σ.ob w v (a.eval x):=by subst he;exact(r.look ty x).unc hg
theorem Rel.put(r:Rel T0 B σ a w X h)(d:Nat)(v:V)(val:Value)(hv:Qk (Tof T0 X) h σ.ob w v val):Rel T0 B (σ.put d v) (a.put (some d) val) w X h:=by
 refine⟨by simp[Act.put,r.size,St.Qv],r.defers,r.hB,r.hX,r.hT,fun t ht=>?_,fun t j=>?_,fun t j b=>?_,fun t j b=>?_,fun t j t' j' b=>?_⟩
 ·rw[St.Qz,St.zc];rw[St.Qv]at ht;by_cases hd:t=d/\d<σ.length
  ·obtain⟨rfl,hl⟩:=hd;simp only[hl,and_self,if_true];have:(a.tmps.setIfInBounds t val).getD t undef=val:=by simp[r.size,hl]
   simp only[Act.put,this];exact hv
  ·rw[if_neg hd];have ij:d≠t:=fun e=>hd ⟨e.symm,e▸ht⟩
   have:(a.tmps.setIfInBounds d val).getD t undef=a.tmps.getD t undef:=by simp[Array.getElem?_setIfInBounds_ne ij]
   simp only[Act.put,this];exact r.slot t ht
 ·rw[St.Qz];exact r.obj t j
 ·rw[St.Qz];exact r.ub t j b
 ·rw[St.Qz];exact r.own t j b
 ·rw[St.Qz];exact r.inj t j t' j' b
def ldV(P:Program)(T:TypeId)(xs:List At):V:=if PH P T then .agg xs else(match xs with|[x]=>.one x|_=>.any)
def Ba(k:IntKind)(x y:Int):Int:=k.wrap (BitVec.ofInt k.bits x&&&BitVec.ofInt k.bits y).toNat
def iOr(k:IntKind)(x y:Int):Int:=k.wrap (BitVec.ofInt k.bits x|||BitVec.ofInt k.bits y).toNat
def py(k:IntKind)(x y:Int):Int:=k.wrap (BitVec.ofInt k.bits x^^^BitVec.ofInt k.bits y).toNat
def Es(op:BinOp)(k:IntKind)(x y:Int)(v:V):Prop:=
 match op with
 |.eql=>v= .one (.d (.bool (x==y)))
 |.neq=>v= .one (.d (.bool (x !=y)))
 |.lss=>v= .one (.d (.bool (decide (x<y))))
 |.leq=>v= .one (.d (.bool (decide (x<=y))))
 |.gtr=>v= .one (.d (.bool (decide (x>y))))
 |.geq=>v= .one (.d (.bool (decide (x>=y))))
 |.add=>v= .one (.d (.int k (k.wrap (x+y))))
 |.sub=>v= .one (.d (.int k (k.wrap (x-y))))
 |.mul=>v= .one (.d (.int k (k.wrap (x*y))))
 |.quo=>y≠0/\v= .one (.d (.int k (k.wrap (x.tdiv y))))
 |.rem=>y≠0/\v= .one (.d (.int k (x.tmod y)))
 |.and=>v= .one (.d (.int k (Ba k x y)))
 |.or=>v= .one (.d (.int k (iOr k x y)))
 |.xor=>v= .one (.d (.int k (py k x y)))
 |.shl=>0<=y/\v= .one (.d (.int k (k.wrap (x*2^min y.toNat k.bits))))
 |.shr=>0<=y/\v= .one (.d (.int k (x.fdiv (2^min y.toNat k.bits))))
 |_=>False
def DV(op:BinOp)(x y:ByteArray)(v:V):Prop:=
 match op with
 |.add=>((x.size+y.size:Nat):Int)<=9223372036854775807/\v= .one (.d (.str (x++y)))
 |.eql=>v= .one (.d (.bool (decide (x=y))))
 |.neq=>v= .one (.d (.bool (!decide (x=y))))
 |_=>False
def I3(op:BinOp)(x y:Bool)(v:V):Prop:=
 match op with
 |.eql=>v= .one (.d (.bool (x==y)))
 |.neq=>v= .one (.d (.bool (!(x==y))))
 |_=>False
theorem uh{x y:Int}{v:V}{t:TypeId}(hk:(op= .shl\/op= .shr)\/kk=k)(hb:Es op k x y v)(w:World):
  ∃d,v= .one (.d d)/\∃val,(binOp op t (.int k x) (.int kk y)).run P w= .ok val w/\∀T w',Rd T w' val d:=by
 cases op<;>simp only[Es]at hb;case shl=>obtain⟨h0,rfl⟩:=hb;exact⟨_,rfl,_,by simp[binOp,Op.shift,Int.not_lt.2 h0],fun _ _=>.int _ _⟩
 case shr=>obtain⟨h0,rfl⟩:=hb;exact⟨_,rfl,_,by simp[binOp,Op.shift,Int.not_lt.2 h0],fun _ _=>.int _ _⟩
 all_goals(have hkk:kk=k:=by rcases hk with(hk|hk)|hk<;>first|exact hk|cases hk)
 all_goals subst hkk
 case quo=>obtain⟨h0,rfl⟩:=hb;exact⟨_,rfl,_,by simp[binOp,Op.intDiv,h0],fun _ _=>.int _ _⟩
 case rem=>obtain⟨h0,rfl⟩:=hb;exact⟨_,rfl,_,by simp[binOp,Op.intDiv,h0],fun _ _=>.int _ _⟩
 case add=>subst hb;exact⟨_,rfl,_,by simp[binOp,Op.intArith],fun _ _=>.int _ _⟩
 case sub=>subst hb;exact⟨_,rfl,_,by simp[binOp,Op.intArith],fun _ _=>.int _ _⟩
 case mul=>subst hb;exact⟨_,rfl,_,by simp[binOp,Op.intArith],fun _ _=>.int _ _⟩
 case and=>subst hb;exact⟨_,rfl,_,by simp[binOp,Op.intBits,Ba],fun _ _=>.int _ _⟩
 case or=>subst hb;exact⟨_,rfl,_,by simp[binOp,Op.intBits,iOr],fun _ _=>.int _ _⟩
 case xor=>subst hb;exact⟨_,rfl,_,by simp[binOp,Op.intBits,py],fun _ _=>.int _ _⟩
 all_goals(subst hb;exact⟨_,rfl,.bool _,by simp only[binOp,Op.intCmp,ne_eq,not_true_eq_false,if_false];rfl,fun _ _=>.bool _⟩)
theorem ug(x y:ByteArray):(x.toList==y.toList)=decide (x=y):=by
 rw[ByteArray.toList_eq,ByteArray.toList_eq,Bool.eq_iff_iff];simp only[beq_iff_eq,decide_eq_true_eq];constructor
 ·intro hh;cases x;cases y;simp_all
 ·rintro rfl;rfl
theorem tM{x y:ByteArray}{v:V}{t:TypeId}(hb:DV op x y v)(w:World):
  ∃d,v= .one (.d d)/\∃val,(binOp op t (.string x) (.string y)).run P w= .ok val w/\∀T w',Rd T w' val d:=by
 cases op<;>simp only[DV]at hb;case add=>obtain⟨h0,rfl⟩:=hb;exact⟨_,rfl,_,by simp only[binOp,Op.stringOp];rw[if_neg (by simp[IntKind.max,IntKind.signed,IntKind.bits];omega)];rfl,fun _ _=>.str _⟩
 case eql=>subst hb;exact⟨_,rfl,.bool _,by simp only[binOp,Op.stringOp,ug];rfl,fun _ _=>.bool _⟩
 case neq=>subst hb;exact⟨_,rfl,.bool _,by simp only[binOp,Op.stringOp,ug];rfl,fun _ _=>.bool _⟩
theorem run_equalIn_bool{t:TypeId}(hu:P.underlying t=some .bool)(d:Nat)(x y:Bool)(w:World):(Op.equalIn (d+1) t (.bool x) (.bool y)).run P w= .ok (x==y) w:=by simp[Op.equalIn,run_underlying hu]
theorem vQ{x y:Bool}{v:V}{t:TypeId}(ht:G8 P t=true)(hb:I3 op x y v)(w:World):
  ∃d,v= .one (.d d)/\∃val,(binOp op t (.bool x) (.bool y)).run P w= .ok val w/\∀T w',Rd T w' val d:=by
 have hu:P.underlying t=some .bool:=by unfold G8 at ht;split at ht<;>first|assumption|cases ht
 cases op<;>simp only[I3]at hb;case eql=>subst hb;exact⟨_,rfl,_,by simp only[binOp,Op.equal,Op.maxDepth,Sem.run_bind,run_equalIn_bool hu 9999,Result.andThen_ok,Sem.run_pure],fun _ _=>.bool _⟩
 case neq=>subst hb;exact⟨_,rfl,_,by simp only[binOp,Op.equal,Op.maxDepth,Sem.run_bind,run_equalIn_bool hu 9999,Result.andThen_ok,Sem.run_pure],fun _ _=>.bool _⟩
def SU(P:Program)(σ:St)(x:Operand)(k:IntKind)(n:Int):Prop:=gOf (look P σ 0 x)=true/\unc (look P σ 0 x)= .one (.d (.int k n))
def bnd(P:Program)(σ:St)(fa:Nat):Option Operand->Nat->Prop
 |none,n=>n=fa
 |some x,n=>∃k i,gOf (look P σ 0 x)=true/\unc (look P σ 0 x)= .one (.d (.int k i))/\0<=i/\n=i.toNat
def cut{α:Type}(xs:List α)(off n:Nat):List α:=(xs.drop off).take n
def UD(P:Program):Nat->TypeId->Option (List At)
 |0,_=>none
 |n+1,t=>
  match P.underlying t with
  |some .bool=>some [.d (.bool false)]
  |some (.int k)=>some [.d (.int k 0)]
  |some .string=>some [.d (.str ⟨#[]⟩)]
  |some (.slice e)=>some [.nil (P.cellsOf e)]
  |some (.struct fs)=>(fs.toList.mapM (fun f=>UD P n f.type)).map List.flatten
  |some (.array m e)=>(UD P n e).map (fun r=>(List.replicate m r).flatten)
  |_=>none
def zAt:At->Value->Bool
 |.d (.bool b),.bool b'=>b==b'
 |.d (.int k n),.int k' n'=>k==k'&&n==n'
 |.d (.str s),.string s'=>s.data.toList==s'.data.toList
 |.nil _,.slice none 0 0=>true
 |_,_=>false
def sZ:List At->List Value->Bool
 |[],[]=>true
 |x::xs,v::vs=>zAt x v&&sZ xs vs
 |_,_=>false
def QE(P:Program)(t:TypeId):Bool:=
 match UD P 12 t,P.info? t with
 |some row,some i=>(match i.zero with|some z=>sZ row z.cells.toList&&i.size==row.length|none=>false)
 |_,_=>false
theorem oD{x:At}(hz:zAt x v=true)(T:CS)(h:Nat->Nat->Hd)(ob:Nat->Nat->Ob)(w:World):YR T h ob w x v:=by
 unfold zAt at hz;split at hz
 ·simp at hz;subst hz;exact .bool _
 ·simp at hz;obtain⟨rfl,rfl⟩:=hz;exact .int _ _
 ·rename_i s s';simp at hz;have:s=s':=by cases s;cases s';simp_all
  subst this;exact .str _
 ·rfl
 ·cases hz
theorem px{xs:List At}(hz:sZ xs vs=true)(T:CS)(h:Nat->Nat->Hd)(ob:Nat->Nat->Ob)(w:World):YJ (YR T h ob w) xs vs:=by
 induction xs generalizing vs with
 |nil=>cases vs with
  |nil=>exact .nil
  |cons v vs=>simp[sZ]at hz
 |cons x xs ih=>cases vs with
  |nil=>simp[sZ]at hz
  |cons v vs=>simp[sZ]at hz;exact .cons (oD hz.1 _ _ _ _) (ih hz.2)
theorem CK{t:TypeId}{row:List At}(hz:QE P t=true)(hr:UD P 12 t=some row):
  ∃i z,P.info? t=some i/\i.zero=some z/\i.size=row.length/\(∀T h ob w,YJ (YR T h ob w) row z.cells.toList):=by
 unfold QE at hz;rw[hr]at hz;split at hz
 ·rename_i iu i fG hi;cases fG;split at hz
  ·rename_i z dN;simp at hz;exact⟨i,z,hi,dN,hz.2,fun T h ob w=>px hz.1 T h ob w⟩
  ·cases hz
 ·cases hz
def V.cells:V->List At
 |.one c=>[c]
 |.agg xs=>xs
 |_=>[]
def V.flat:V->Bool
 |.one _=>true
 |.agg _=>true
 |_=>false
def place{α:Type}(r:List α)(off:Nat)(xs:List α):List α:=r.take off++xs++r.drop (off+xs.length)
def jx(P:Program)(T:TypeId)(i:Nat):Nat:=match P.underlying T with|some (.array _ e)=>i*P.cellsOf e|_=>Qc P T i
def bTy(P:Program)(T:TypeId)(i:Nat):TypeId:=match P.underlying T with|some (.array _ e)=>e|_=>jZ P T i
def bOk(P:Program)(T:TypeId)(i:Nat):Bool:=match P.underlying T with
 |some (.array _ e)=>(P.info? e).isSome
 |some (.struct fs)=>fs.all (fun f=>(P.info? f.type).isSome)&&decide (i<fs.size)
 |_=>false
def Rk(P:Program)(σ:St)(T:TypeId):List (Nat×Operand)->List At->List At->Prop
 |[],r,out=>out=r
 |(i,x)::ps,r,out=>bOk P T i=true/\gOf (look P σ (bTy P T i) x)=true/\(unc (look P σ (bTy P T i) x)).flat=true/\
   (unc (look P σ (bTy P T i) x)).cells.length=P.cellsOf (bTy P T i)/\jx P T i+P.cellsOf (bTy P T i)<=r.length/\
   Rk P σ T ps (place r (jx P T i) (unc (look P σ (bTy P T i) x)).cells) out
def Mi(P:Program)(t:TypeId):Bool:=match P.underlying t with|some .bool=>true|some (.int _)=>true|some .string=>true|_=>false
def Tv(P:Program):List Field->Nat->Bool
 |[],_=>true
 | f :: fs, i => decide (f.name ≠ "_") && f.offset == i && Mi P f.type && Tv P fs (i + 1)
def Pw(P:Program):List Field->Nat->Bool
 |[],_=>true
 | f :: fs, i => decide (f.name ≠ "_") && f.offset == i && (if Mi P f.type then Pw P fs (i + 1) else (match P.underlying f.type with | some (.struct gs) => jc P f.type && PH P f.type && P.cellsOf f.type == gs.size && decide (0 < gs.size) && !P.stoodInHeld f.type && Tv P gs.toList 0 && Pw P fs (i + gs.size) | _ => false))
def Ab(P:Program)(f:Field):List TypeId:=if Mi P f.type then[f.type]else(match P.underlying f.type with|some (.struct gs)=>gs.toList.map (·.type)|_=>[])
def zX(P:Program)(T:TypeId):List TypeId:=(P.fieldsOf T).toList.flatMap (Ab P)
def My(P:Program)(t:TypeId):Bool:=match P.underlying t with
 |some (.struct fs)=>!P.stoodInHeld t&&!P.eqGuardType P.depth t&&Pw P fs.toList 0
 |_=>false
def oV(P:Program)(t:TypeId):At->At->Option Bool
 |.d (.int k a),.d (.int k' b)=>if k=k'/\(uo P t).isSome then some (a==b)else none
 |.d (.bool a),.d (.bool b)=>if G8 P t then some (a==b)else none
 |.d (.str a),.d (.str b)=>if R8 P t then some (decide (a=b))else none
 |_,_=>none
def QW(P:Program):List TypeId->List At->List At->Option Bool
 |[],_,_=>some true
 |f::fs,x::xs,y::ys=>(match oV P f x y,QW P fs xs ys with|some p,some q=>some (p&&q)|_,_=>none)
 |_,_,_=>none
def uT(P:Program)(op:BinOp)(T:TypeId)(x y v:V):Prop:=
 match x,y with
 |.one (.d (.int k m)),.one (.d (.int k' n))=>((op= .shl\/op= .shr)\/k'=k)/\Es op k m n v
 |.one (.d (.str m)),.one (.d (.str n))=>DV op m n v
 |.one (.d (.bool m)),.one (.d (.bool n))=>G8 P T=true/\I3 op m n v
 |.agg xs,.agg ys=>My P T=true/\∃q,QW P (zX P T) xs ys=some q/\((op= .eql/\v= .one (.d (.bool q)))\/(op= .neq/\v= .one (.d (.bool (!q)))))
 |_,_=>False
def UZ(t j i:Nat):Nat->List D->List At
 |_,[]=>[]
 |c,x::xs=>(match x with|.sl _ _=>.tref t j i c none|x=>.d x)::UZ t j i (c+1) xs
def OL(q:Bool)(t j i c:Nat)(xs:List D):List At:=match q with|true=>UZ t j i c xs|false=>xs.map .d
def Yj(P:Program)(σ:St)(op:Op)(ty:TypeId)(v:V):Prop:=
 match op with
 |.move x=>v=look P σ ty x
 |.assign x=>v=look P σ ty x
 |.pick c a b=>∃bc p q,gOf (look P σ ty c)=true/\unc (look P σ ty c)= .one (.d (.bool bc))/\(bc=true->unc (look P σ ty a)= .one (.d (.bool p)))/\(bc=false->unc (look P σ ty b)= .one (.d (.bool q)))/\
   (bc=true->gOf (look P σ ty a)=true)/\(bc=false->gOf (look P σ ty b)=true)/\v= .one (.d (.bool (cond bc p q)))
 |.load T x=>gOf (look P σ 0 x)=true/\jc P T=true/\
   (match unc (look P σ 0 x)with
   |.one (.bptr t c)=>∃cells,σ.ob t 0= .box cells/\c+P.cellsOf T<=cells.length/\v=ldV P T (cut cells c (P.cellsOf T))
   |.one (.ptr t j i c)=>∃q size rows,σ.ob t j= .arr q size rows/\i<rows.length/\c+P.cellsOf T<=size/\v=ldV P T (OL q t j i c (cut (rows.getD i []) c (P.cellsOf T)))
   |.one (.rptr r c)=>c+P.cellsOf T<=r.length/\v=ldV P T ((cut r c (P.cellsOf T)).map .d)
   |.one (.tref t j i c (some k))=>∃size rows s,σ.ob t j= .arr true size rows/\i<rows.length/\(rows.getD i [])[c]?=some (.sl 1 s)/\P.cellsOf T=1/\k<s.length/\(s.getD k []).all D.scalar=true/\v=ldV P T ((s.getD k []).map .d)
   |_=>False)
 |.fieldAddr T x f=>gOf (look P σ 0 x)=true/\WR P T f=true/\
   (match unc (look P σ 0 x)with
   |.one (.bptr t c)=>(∃cells,σ.ob t 0= .box cells)/\v= .one (.bptr t (c+Qc P T f))
   |.one (.ptr t j i c)=>(∃q size rows,σ.ob t j= .arr q size rows)/\v= .one (.ptr t j i (c+Qc P T f))
   |.one (.rptr r c)=>v= .one (.rptr r (c+Qc P T f))
   |.one (.tref t j i c (some k))=>(∃size rows,σ.ob t j= .arr true size rows)/\v= .one (.tref t j i c (some (k+Qc P T f)))
   |_=>False)
 |.nilCheck x=>gOf (look P σ 0 x)=true/\
   (match unc (look P σ 0 x)with
   |.one (.bptr t c)=>(∃cells,σ.ob t 0= .box cells)/\v= .one (.bptr t c)
   |_=>False)
 |.indexAddr T x ix=>∃k i,SU P σ ix k i/\0<=i/\gOf (look P σ 0 x)=true/\
   (match unc (look P σ 0 x)with
   |.one (.d (.sl size rows))=>XS P T=true/\size=P.cellsOf (ZS P T)/\0<size/\i<(rows.length:Int)/\v= .one (.rptr (rows.getD i.toNat []) 0)
   |.one (.sref t j lo len)=>XS P T=true/\0<P.cellsOf (ZS P T)/\(∃q rows,σ.ob t j= .arr q (P.cellsOf (ZS P T)) rows)/\i<(len:Int)/\v= .one (.ptr t j (lo+i.toNat) 0)
   |.one (.bptr t c)=>(∃cells,σ.ob t 0= .box cells)/\(∃n,EZ P T=some n/\1<n/\i<(n:Int))/\v= .one (.bptr t (c+i.toNat*P.cellsOf (ZS P T)))
   |.one (.tref t j m c none)=>XS P T=true/\0<P.cellsOf (ZS P T)/\(∃size rows s,σ.ob t j= .arr true size rows/\m<rows.length/\(rows.getD m [])[c]?=some (.sl (P.cellsOf (ZS P T)) s)/\i<(s.length:Int))/\v= .one (.tref t j m c (some (i.toNat*P.cellsOf (ZS P T))))
   |_=>False)
 |.index T x ix=>∃k i,SU P σ ix k i/\0<=i/\gOf (look P σ 0 x)=true/\
   (match unc (look P σ 0 x)with
   |.one (.d (.str s))=>R8 P T=true/\i<(s.size:Int)/\v= .one (.d (.int .u8 (s.data.toList.getD i.toNat 0).toNat))
   |.agg xs=>(∃n,EZ P T=some n/\i<(n:Int))/\jc P (ZS P T)=true/\i.toNat*P.cellsOf (ZS P T)+P.cellsOf (ZS P T)<=xs.length/\v=ldV P (ZS P T) (cut xs (i.toNat*P.cellsOf (ZS P T)) (P.cellsOf (ZS P T)))
   |_=>False)
 |.slice T x lo hi none=>gOf (look P σ 0 x)=true/\
   (match unc (look P σ 0 x)with
   |.one (.d (.str s))=>R8 P T=true/\∃l h,bnd P σ 0 lo l/\bnd P σ s.size hi h/\l<=h/\h<=s.size/\v= .one (.d (.str (s.extract l h)))
   |.one (.d (.sl size rows))=>XS P T=true/\size=P.cellsOf (ZS P T)/\∃l h,bnd P σ 0 lo l/\bnd P σ rows.length hi h/\l<=h/\h<=rows.length/\v= .one (.d (.sl size (cut rows l (h-l))))
   |.one (.sref t j o len)=>XS P T=true/\(∃q rows,σ.ob t j= .arr q (P.cellsOf (ZS P T)) rows)/\∃l h,bnd P σ 0 lo l/\bnd P σ len hi h/\l<=h/\h<=len/\v= .one (.sref t j (o+l) (h-l))
   |_=>False)
 |.binOp op T x y _=>gOf (look P σ T x)=true/\gOf (look P σ T y)=true/\
   uT P op T (unc (look P σ T x)) (unc (look P σ T y)) v
 |.unOp op _ x=>gOf (look P σ 0 x)=true/\
   (match op,unc (look P σ 0 x)with
   |.not,.one (.d (.bool b))=>v= .one (.d (.bool (!b)))
   |.neg,.one (.d (.int k n))=>v= .one (.d (.int k (k.wrap (-n))))
   |_,_=>False)
 |.convert S T x=>gOf (look P σ 0 x)=true/\(P.underlying S).isSome=true/\
   (match unc (look P σ 0 x)with
   |.one (.d (.int _ n))=>∃k,uo P T=some k/\v= .one (.d (.int k (k.wrap n)))
   |_=>False)
 |.extract x i=>gOf (look P σ 0 x)=true/\
   (match unc (look P σ 0 x)with
   |.tup xs=>xs[i]?=some v/\v.flat=true
   |_=>False)
 |.field T x f=>gOf (look P σ 0 x)=true/\WR P T f=true/\jc P (jZ P T f)=true/\
   (match unc (look P σ 0 x)with
   |.agg xs=>Qc P T f+P.cellsOf (jZ P T f)<=xs.length/\v=ldV P (jZ P T f) (cut xs (Qc P T f) (P.cellsOf (jZ P T f)))
   |_=>False)
 |.build T parts=>QE P T=true/\PH P T=true/\∃z out,UD P 12 T=some z/\Rk P σ T parts.toList z out/\v= .agg out
 |.call c=>
   (match c.callee,c.args.toList,c.argTypes.toList with
   |.builtin .len,[x],[t]=>gOf (look P σ t x)=true/\
     (match unc (look P σ t x)with
     |.one (.d (.str s))=>R8 P t=true/\v= .one (.d (.int .i64 s.size))
     |.one (.d (.sl _ rows))=>XS P t=true/\v= .one (.d (.int .i64 rows.length))
     |.one (.nil _)=>XS P t=true/\v= .one (.d (.int .i64 0))
     |.one (.sref u j _ len)=>XS P t=true/\((∃q size rows,σ.ob u j= .arr q size rows)\/∃size rows,σ.ob u j= .lit size rows)/\v= .one (.d (.int .i64 len))
     |.one (.tref u j i c none)=>XS P t=true/\∃size rows n s,σ.ob u j= .arr true size rows/\i<rows.length/\(rows.getD i [])[c]?=some (.sl n s)/\v= .one (.d (.int .i64 s.length))
     |_=>False)
   |.builtin .max,[x,y],_=>∃k m n,SU P σ x k m/\SU P σ y k n/\v= .one (.d (.int k (if n>m then n else m)))
   |.builtin .min,[x,y],_=>∃k m n,SU P σ x k m/\SU P σ y k n/\v= .one (.d (.int k (if n<m then n else m)))
   |_,_,_=>False)
 |_=>False
theorem qO(b off n:Nat):(⟨b,off,none⟩:Addr).add n=⟨b,off+n,none⟩:=by unfold Addr.add;split<;>simp_all
theorem VT{T:TypeId}(ht:jc P T=true):∃d i,P.underlying T=some d/\P.info? T=some i/\i.size=P.cellsOf T/\(PH P T=true\/P.cellsOf T=1):=by simp only[jc,Bool.and_eq_true,Bool.or_eq_true,beq_iff_eq]at ht;obtain⟨⟨h1,h2⟩,h3⟩:=ht;obtain⟨d,hd⟩:=Option.isSome_iff_exists.1 h1;obtain⟨i,hi⟩:=Option.isSome_iff_exists.1 h2;exact⟨d,i,hd,hi,by simp[Program.cellsOf,hi],h3⟩
theorem Ma{T:TypeId}{d:TypeDesc}(hd:P.underlying T=some d)(w:World):(isAgg T).run P w= .ok (PH P T) w:=by unfold isAgg PH;rw[hd];simp only[Sem.run_bind,run_underlying hd,Result.andThen_ok];cases d<;>simp
theorem J4{T:TypeId}{i:TypeInfo}(hi:P.info? T=some i)(w:World):(sizeOf T).run P w= .ok (P.cellsOf T) w:=by simp[sizeOf,typeInfo,hi,Program.cellsOf]
theorem pM{T:TypeId}(ht:jc P T=true)(hl:cs.length=P.cellsOf T)(hc:∀j v,cs[j]?=some v->w.cell? ⟨b,off+j,none⟩=some v):
  ∃val,(Instr.loadAt T (.pointer (some ⟨b,off,none⟩))).run P w= .ok val w/\(PH P T=true->val= .agg cs.toArray)/\(PH P T=false->cs=[val]):=by
 obtain⟨d,i,hd,hi,g7,gz⟩:=VT ht;cases cE:PH P T with
 |true=>
  refine⟨.agg cs.toArray,?_,fun _=>rfl,(fun hh=>by cases hh)⟩;have:=run_loadCells_list (P:=P) w ⟨b,off,none⟩ cs (fun j v hv=>by rw[qO];exact hc j v hv)
  simp only[Instr.loadAt,Instr.sureAddr,loadVar,Sem.run_bind,Sem.run_pure,Result.andThen_ok,Ma hd,cE,if_true,J4 hi,<-hl,this]
 |false=>
  rcases gz with gz|gz
  ·rw[cE]at gz;cases gz
  ·rw[gz]at hl;obtain⟨val,rfl⟩:=List.length_eq_one_iff.1 hl;refine⟨val,?_,(fun hh=>by cases hh),fun _=>rfl⟩;have hc0:=hc 0 val zAE
   simp only[Nat.add_zero]at hc0;simp[Instr.loadAt,Instr.sureAddr,loadVar,Ma hd,cE,load,Sem.run,hc0]
theorem sB{T:TypeId}(_ht:jc P T=true){ob:Nat->Nat->Ob}{xs:List At}(hx:YJ (YR T' h ob w) xs cs)
  (h1:PH P T=true->val= .agg cs.toArray) (h2:PH P T=false->cs=[val]):Qk T' h ob w (ldV P T xs) val:=by
 unfold ldV;cases cE:PH P T with
 |true=>simp only[if_true];exact⟨_,h1 cE,by simpa using hx⟩
 |false=>
  simp only[Bool.false_eq_true,if_false];rw[h2 cE]at hx;cases hx with
  |cons r hx=>cases hx;exact r
theorem YJ.cut{α β:Type}{R:α->β->Prop}{l:List α}{m:List β}(x:YJ R l m)(o n:Nat):YJ R (Vm.cut l o n) (Vm.cut m o n):=(x.drop o).take n
theorem XJ{α:Type}(l:List α)(o n:Nat)(hl:o+n<=l.length):(cut l o n).length=n:=by simp[cut];omega
theorem ze{α:Type}(l:List α)(o n j:Nat)(v:α)(hv:(cut l o n)[j]?=some v):l[o+j]?=some v:=by
 simp only[cut,List.getElem?_take,List.getElem?_drop]at hv;split at hv
 ·exact hv
 ·cases hv
theorem WL{α:Type}:∀(rows:List (List α))(size:Nat),(∀r∈rows,r.length=size)->∀(i:Nat)(r:List α),rows[i]?=some r->∀(j:Nat)(d:α),r[j]?=some d->rows.flatten[i*size+j]?=some d
 |[],_,_,i,r,hr,_,_,_=>by simp at hr
 |r0::rows,size,hz,0,r,hr,j,d,hd=>by
  simp at hr;subst hr;have hj:j<r0.length:=(List.getElem?_eq_some_iff.1 hd).1
  simp[List.getElem?_append_left hj,hd]
 |r0::rows,size,hz,i+1,r,hr,j,d,hd=>by
  have ih:=WL rows size (fun r hr=>hz r zCZ) i r (by simpa using hr) j d hd;have h0:r0.length=size:=hz r0 zAE;rw[List.flatten_cons,List.getElem?_append_right (by rw[h0,Nat.add_mul];omega),h0];have:(i+1)*size+j-size=i*size+j:=by rw[Nat.add_mul];omega
  rw[this];exact ih
theorem YV{α:Type}(rows:List (List α))(size:Nat)(hz:∀r∈rows,r.length=size):rows.flatten.length=rows.length*size:=by
 induction rows with
 |nil=>simp
 |cons r rows ih=>rw[List.flatten_cons,List.length_append,ih (fun r hr=>hz r zCZ),hz r zAE,List.length_cons,Nat.add_mul];omega
theorem Rd.row(r:Rd T w v (.sl size rows))(i:Nat)(hi:i<rows.length)(g7:0<size):
  ∃a len cap,v= .slice (some a) len cap/\len=rows.length/\a.spot=none/\
   ∃g:Nat->Value,∀k d,(rows.getD i [])[k]?=some d->w.cell? ⟨a.block,a.off+i*size+k,none⟩=some (g k)/\T a.block (a.off+i*size+k)/\Rd T w (g k) d:=by
 cases r with
 |nil=>simp at hi
 |sl a len cap size rows g hl hc hm hz hs hg hr=>
  have gN:rows[i]?=some (rows.getD i []):=zA7;have ij:rows.flatten≠[]:=by
   have hlen:=YV rows size hz;have hp:0<rows.length*size:=Nat.mul_pos zAC g7;intro he;have h0:rows.flatten.length=0:=by rw[he];rfl
   omega
  refine⟨a,len,cap,rfl,hl.symm,hs ij,fun k=>g (i*size+k),fun k d hd=>?_⟩;have hf:=WL rows size hz i _ gN k d hd
  have h1:=hg _ _ hf;rw[Nat.add_assoc];exact⟨h1.1,h1.2,hr _ _ hf⟩
theorem C6(r:Rd T w v (.sl size rows)):∀x∈rows,x.length=size:=by
 cases r with
 |nil=>intro x hx;cases hx
 |sl a len cap size rows g hl hc hm hz hs hg hr=>exact hz
theorem tK(r:Rd T w v (.sl size rows)):∃base cap,v= .slice base rows.length cap/\rows.length<=cap/\cap<=maxLen:=by
 cases r with
 |nil=>exact⟨none,0,rfl,zAE,by simp[maxLen]⟩
 |sl a len cap size rows g hl hc hm hz hs hg hr=>exact⟨some a,cap,by rw[hl],zAC,hm⟩
theorem Xs{t:TypeId}(ht:XS P t=true):∃i,P.underlying t=some (.slice (ZS P t))/\P.info? (ZS P t)=some i/\i.size=P.cellsOf (ZS P t):=by
 unfold XS at ht;split at ht
 ·rename_i e he;obtain⟨i,hi⟩:=Option.isSome_iff_exists.1 ht;have:ZS P t=e:=by simp[ZS,he]
  rw[this];exact⟨i,he,hi,by simp[Program.cellsOf,hi]⟩
 ·cases ht
theorem DQ{t:TypeId}(ht:EZ P t=some n):∃i,P.underlying t=some (.array n (ZS P t))/\P.info? (ZS P t)=some i/\i.size=P.cellsOf (ZS P t):=by
 unfold EZ at ht;split at ht
 ·rename_i m e he;split at ht
  ·rename_i hh;cases ht;obtain⟨i,hi⟩:=Option.isSome_iff_exists.1 hh;have:ZS P t=e:=by simp[ZS,he]
   rw[this];exact⟨i,he,hi,by simp[Program.cellsOf,hi]⟩
  ·cases ht
 ·cases ht
theorem M7{t:TypeId}(ht:WR P t f=true):∃fs fd i,P.underlying t=some (.struct fs)/\fs[f]?=some fd/\fd.offset=Qc P t f/\fd.type=jZ P t f/\P.info? fd.type=some i/\i.size≠0:=by
 unfold WR at ht;split at ht
 ·rename_i fs he;split at ht
  ·rename_i fd hf;simp at ht;obtain⟨i,hi⟩:=Option.isSome_iff_exists.1 ht.1;exact⟨fs,fd,i,he,hf,by simp[Qc,he,hf],by simp[jZ,he,hf],hi,by simpa[Program.cellsOf,hi]using ht.2⟩
  ·cases ht
 ·cases ht
theorem kb{t:TypeId}(ht:R8 P t=true):P.underlying t=some .string:=by unfold R8 at ht;split at ht<;>first|assumption|cases ht
theorem Db{t:TypeId}(ht:uo P t=some k):P.underlying t=some (.int k):=by
 unfold uo at ht;split at ht
 ·cases ht;assumption
 ·cases ht
theorem OR{n:Int}(r:Rd T w v (.int k n)):v= .int k n:=by cases r;rfl
theorem WX{b:Bool}(r:Rd T w v (.bool b)):v= .bool b:=by cases r;rfl
theorem NF{s:ByteArray}(r:Rd T w v (.str s)):v= .string s:=by cases r;rfl
theorem qa(r:Rel T0 B σ a w X h){n:Int}(hx:SU P σ x k n):a.eval x= .int k n:=
 OR (r.arg 0 x hx.2 hx.1)
theorem Own.X1{d:D}(h:Own w v d S):v.oneCell'=true:=by
 cases h with
 |int=>rfl
 |bool=>rfl
 |str=>rfl
 |unk _ h=>exact h
 |sl v size rows S e xs Sk ho hz hb hl hk hs hd=>rcases ho.2 with⟨rfl,_⟩|⟨g,cap,cur,rfl,_⟩<;>rfl
theorem D0{t j i:Nat}:∀{xs:List D}{c k:Nat}{x:At},(UZ t j i c xs)[k]?=some x->∃d,xs[k]?=some d/\x=(match d with|.sl _ _=>.tref t j i (c+k) none|d=>.d d)
 |[],c,k,x,hx=>by simp[UZ]at hx
 |d::xs,c,0,x,hx=>by simp only[UZ,List.getElem?_cons_zero]at hx;cases hx;exact⟨d,zAE,by cases d<;>simp⟩
 |d::xs,c,k+1,x,hx=>by simp only[UZ,List.getElem?_cons_succ]at hx;obtain⟨d',hJ,rfl⟩:=D0 hx;exact⟨d',by simpa using hJ,by cases d'<;>simp;omega⟩
theorem LB{t j i:Nat}:∀(c:Nat)(xs:List D),(UZ t j i c xs).length=xs.length
 |_,[]=>rfl
 |c,d::xs=>by simp[UZ,LB (c+1) xs]
theorem BV(q:Bool)(t j i c:Nat)(xs:List D):(OL q t j i c xs).length=xs.length:=by cases q<;>simp[OL,LB]
theorem Rel.box(r:Rel T0 B σ a w X h){cells:List At}(ho:σ.ob t 0= .box cells){c:Nat}(hv:YR (Tof T0 X) h σ.ob w (.bptr t c) v):
  ∃b cs e,(h t 0).v= .pointer (some ⟨b,0,none⟩)/\v= .pointer (some ⟨b,c,none⟩)/\w.heap[b]?=some (.cells cs e (0,0))/\YJ (YR (Tof T0 X) h σ.ob w) cells cs.toList:=by
 obtain⟨b,hb,rfl⟩:=hv.2 cells ho;have hZ:=r.obj t 0
 rw[ho]at hZ;obtain⟨b',cs,e,hR,hh,ir⟩:=hZ;rw[hb]at hR;cases hR;exact⟨b,cs,e,hb,rfl,hh,ir⟩
theorem zU{cs:Array Value}{e:TypeId}{f:Nat×Nat}(hh:w.heap[b]?=some (.cells cs e f))(k:Nat)(v:Value)(hv:cs.toList[k]?=some v):w.cell? ⟨b,k,none⟩=some v:=by simp only[World.cell?,hh];simpa using hv
theorem Rel.arr(r:Rel T0 B σ a w X h)(ho:σ.ob t j= .arr q size rows){c:Nat}(hv:YR (Tof T0 X) h σ.ob w (.ptr t j i c) v):
  ∃b cap cur e xs,(h t j).v= .slice (some ⟨b,0,none⟩) rows.length cap/\v= .pointer (some ⟨b,i*size+c,none⟩)/\w.heap[b]?=some (.cells cur e (0,0))/\rows.length<=cap/\cap<=maxLen/\cur.size=cap*size/\
   cur.toList.take (rows.length*size)=xs/\(∀r∈rows,r.length=size)/\xs.length=rows.flatten.length/\(q=false->YJ (Rd (Tof T0 X) w) xs rows.flatten)/\
   (q=true->KC w xs rows.flatten (fun b=>(h t j).u b/\blk (h t j).v≠some b)/\∀k x d,xs[k]?=some x->rows.flatten[k]?=some d->d.scalar=false->(h t j).n k=x):=by
 obtain⟨b,n,cap,hb,rfl⟩:=hv.2 q size rows ho;have hZ:=r.obj t j
 rw[ho]at hZ;cases q with
 |false=>
  obtain⟨e,xs,iv,hz,ir⟩:=hZ;rcases iv.2 with⟨h0,_⟩|⟨g,bn,cur,hg,_,hh,hle,eU,eT,et⟩
  ·rw[hb]at h0;cases h0
  ·rw[hb]at hg;cases hg;exact⟨b,cap,cur,e,xs,hb,rfl,hh,hle,eU,eT,et,hz,ir.length,fun _=>ir,fun hh=>by cases hh⟩
 |true=>
  obtain⟨e,xs,iv,hz,ir,hn⟩:=hZ;rcases iv.2 with⟨h0,_⟩|⟨g,bn,cur,hg,_,hh,hle,eU,eT,et⟩
  ·rw[hb]at h0;cases h0
  ·rw[hb]at hg;cases hg;exact⟨b,cap,cur,e,xs,hb,rfl,hh,hle,eU,eT,et,hz,ir.1,(fun hh=>by cases hh),fun _=>⟨ir,hn⟩⟩
theorem Own.hdr(h:Own w v (.sl n s) S)(hp:0<s.length):∃b cap,v= .slice (some ⟨b,0,none⟩) s.length cap:=by
 cases h with
 |sl v size rows S e xs Sk ho hz hb hl hk hs hd=>
  obtain⟨_,⟨_,h0⟩|⟨g,cap,cur,hv,_⟩⟩:=ho
  ·omega
  ·exact⟨g,cap,hv⟩
theorem Rel.nest(r:Rel T0 B σ a w X h){c:Nat}(ho:σ.ob t j= .arr true size rows)(hi:i<rows.length)(iz:(rows.getD i [])[c]?=some (.sl n s)):∃v0 S,(h t j).n (i*size+c)=v0/\Own w v0 (.sl n s) S:=by
 have h0:=r.obj t j;rw[ho]at h0;obtain⟨e,vs,eZ,hz,⟨hl,Sk,o1,o2,o3⟩,hn⟩:=h0;have gN:rows[i]?=some (rows.getD i []):=zA7;have fK:rows.flatten[i*size+c]?=some (.sl n s):=WL rows size hz i _ gN c _ iz;have hD:i*size+c<vs.length:=by rw[hl];exact(List.getElem?_eq_some_iff.1 fK).1
 have hvs:vs[i*size+c]?=some vs[i*size+c]:=List.getElem?_eq_getElem hD;exact⟨_,_,hn _ _ _ hvs fK rfl,o1 _ _ _ hvs fK⟩
theorem u6(r:Rel T0 B σ a w X h){T:TypeId}{v:V}(ig:o.op= .load T x)(hs:Yj P σ o.op o.type v):
  ∃val,(execOp a.eval o).run P w= .ok (.value val) w/\Qk (Tof T0 X) h σ.ob w v val:=by
 simp only[ig,Yj]at hs;obtain⟨hg,ej,hs⟩:=hs;have hx:=r.arg (P:=P) 0 x rfl hg
 have key:∀(b off:Nat)(xs:List At)(cs:List Value),a.eval x= .pointer (some ⟨b,off,none⟩)->v=ldV P T xs->cs.length=P.cellsOf T->
   (∀j u,cs[j]?=some u->w.cell? ⟨b,off+j,none⟩=some u)->YJ (YR (Tof T0 X) h σ.ob w) xs cs->∃val,(execOp a.eval o).run P w= .ok (.value val) w/\Qk (Tof T0 X) h σ.ob w v val:=by
  intro b off xs cs he hv hl hc ir;obtain⟨val,hr,h1,h2⟩:=pM (P:=P) ej hl hc;refine⟨val,?_,?_⟩
  ·simp only[execOp,ig,he,Sem.run_bind,hr,Result.andThen_ok,Sem.run_pure]
  ·rw[hv];exact sB ej ir h1 h2
 split at hs
 ·rename_i t c heq;rw[heq]at hx;obtain⟨cells,ho,hle,hv⟩:=hs;obtain⟨b,cs,e,hb,he,hh,ir⟩:=r.box ho hx;have hlen:=ir.length
  refine key b c _ (cut cs.toList c (P.cellsOf T)) he hv (XJ _ _ _ zAC) (fun j u hu=>zU hh _ _ (ze _ _ _ _ _ hu)) (ir.cut _ _)
 ·rename_i t j i c heq;rw[heq]at hx;obtain⟨q,size,rows,ho,hi,hle,hv⟩:=hs;obtain⟨b,cap,cur,e,xs,hb,he,hh,fS,eU,eT,et,hz,bl,ir,iv⟩:=r.arr ho hx;have gN:rows[i]?=some (rows.getD i []):=zA7
  have dv:(rows.getD i []).length=size:=hz _ (List.mem_of_getElem? gN);have fL:=YV rows size hz;have hmul:i*size+size<=rows.length*size:=zBv;have bI:∀k d',(cut (rows.getD i []) c (P.cellsOf T))[k]?=some d'->rows.flatten[i*size+c+k]?=some d':=by
   intro k d' hJ;have h2:=WL rows size hz i _ gN (c+k) d' (ze _ _ _ _ _ hJ)
   rw[show i*size+c+k=i*size+(c+k)by omega];exact h2
  refine key b (i*size+c) _ (cut xs (i*size+c) (P.cellsOf T)) he hv (XJ _ _ _ zAC) (fun j u hu=>?_) ?_
  ·have h1:=ze _ _ _ _ _ hu;refine zU hh _ _ ?_;rw[<-et,List.getElem?_take]at h1;split at h1
   ·exact h1
   ·cases h1
  ·refine YJ.xm (by rw[XJ _ _ _ zAC,BV,XJ _ _ _ zAC]) (fun k x u hx hu=>?_);have h1:=ze _ _ _ _ _ hu
   cases q with
   |false=>
    obtain⟨d,hd,hr⟩:=(ir rfl).get _ _ h1;simp only[OL]at hx;rw[List.getElem?_map]at hx;cases hJ:(cut (rows.getD i []) c (P.cellsOf T))[k]? with
    |none=>rw[hJ]at hx;cases hx
    |some d'=>rw[hJ]at hx;cases hx;rw[bI k d' hJ]at hd;cases hd;exact hr
   |true=>
    obtain⟨⟨_,Sk,iv,_,_⟩,hn⟩:=iv rfl;simp only[OL]at hx;obtain⟨d',hJ,rfl⟩:=D0 hx;have gG:=iv _ _ _ h1 (bI k d' hJ)
    cases d' with
    |sl s rs=>
     refine⟨gG.X1,fun gB hO ed=>?_⟩;rw[ho]at ed;cases ed;show _=_
     rw[<-hn _ _ _ h1 (bI k _ hJ) rfl,Nat.add_assoc]
    |int k n=>cases gG;exact .int _ _
    |bool b=>cases gG;exact .bool _
    |str s=>cases gG;exact .str _
    |unk=>exact .unk _ gG.X1
 ·rename_i rr c heq;rw[heq]at hx;obtain⟨hle,hv⟩:=hs;obtain⟨b,off,g,he,hk⟩:=hx;refine key b (off+c) _ ((List.range (P.cellsOf T)).map fun j=>g (c+j)) he hv zAE (fun j u hu=>?_) ?_
  ·rw[List.getElem?_map]at hu;rcases Nat.lt_or_ge j (P.cellsOf T)with hj|hj
   ·rw[List.getElem?_range hj]at hu;cases hu;have hd:=hk (c+j) (rr[c+j]'zAC) (List.getElem?_eq_getElem _)
    rw[Nat.add_assoc];exact hd.1
   ·rw[List.getElem?_eq_none (by simpa using hj)]at hu;cases hu
  ·refine YJ.xm (by rw[List.length_map,XJ _ _ _ zAC];simp) (fun k x u hx hu=>?_);rw[List.getElem?_map]at hx hu;cases hJ:(cut rr c (P.cellsOf T))[k]? with
   |none=>rw[hJ]at hx;cases hx
   |some d'=>
    rw[hJ]at hx;cases hx;have hkl:k<P.cellsOf T:=by have:=(List.getElem?_eq_some_iff.1 hJ).1;rw[XJ _ _ _ zAC]at this;exact this
    rw[List.getElem?_range hkl]at hu;cases hu;exact(hk (c+k) d' (ze _ _ _ _ _ hJ)).2.2
 ·rename_i t j i c k heq;rw[heq]at hx;obtain⟨size,rows,s,ho,hi,iz,hT1,hks,g9,hv⟩:=hs;obtain⟨v0,S,hn,iv⟩:=r.nest ho hi iz;obtain⟨b,len,dc,hv0,he⟩:=hx.2 _ _ ho;rw[hn]at hv0;cases iv with
  |sl v gB hO S e xs Sk ed hz hb hl hk hH hd=>
   rcases ed.2 with⟨rfl,h0⟩|⟨g,cap,cur,rfl,_,hh,eW,eU,eT,et⟩
   ·omega
   ·cases hv0;have gN:s[k]?=some (s.getD k []):=by simp[List.getD_eq_getElem?_getD,List.getElem?_eq_getElem hks]
    have dv:(s.getD k []).length=1:=hz _ (List.mem_of_getElem? gN);have fL:=YV s 1 hz;refine key b k _ (cut xs k (P.cellsOf T)) he hv (XJ _ _ _ zAC) (fun j u hu=>?_) ?_
    ·have h1:=ze _ _ _ _ _ hu;refine zU hh _ _ ?_;rw[<-et,List.getElem?_take]at h1;split at h1
     ·exact h1
     ·cases h1
    ·refine YJ.xm (by rw[List.length_map,XJ _ _ _ zAC];omega) (fun q x u hx hu=>?_);rw[List.getElem?_map]at hx;cases hJ:(s.getD k [])[q]? with
     |none=>rw[hJ]at hx;cases hx
     |some d'=>
      rw[hJ]at hx;cases hx;have hq:q=0:=by have:=(List.getElem?_eq_some_iff.1 hJ).1;omega
      subst hq;have hf:=WL s 1 hz k _ gN 0 d' hJ
      rw[Nat.mul_one]at hf;have ho3:=hk _ _ _ (ze _ _ _ _ _ hu) hf
      have hs3:d'.scalar=true:=List.all_eq_true.1 g9 d' (List.mem_of_getElem? hJ);cases d' with
      |sl s' rs=>cases hs3
      |int k' n'=>cases ho3;exact .int _ _
      |bool b'=>cases ho3;exact .bool _
      |str s'=>cases ho3;exact .str _
      |unk=>exact .unk _ ho3.X1
 ·exact hs.elim
theorem Sv{T:TypeId}(hf:WR P T f=true)(b off:Nat):(Instr.fieldAt T (.pointer (some ⟨b,off,none⟩)) f).run P w= .ok (.pointer (some ⟨b,off+Qc P T f,none⟩)) w:=by
 obtain⟨fs,fd,i,hu,bq,ah,ej,hi,ij⟩:=M7 hf;have gf:P.cellsOf fd.type≠0:=by simpa[Program.cellsOf,hi]using ij
 simp[Instr.fieldAt,run_underlying hu,bq,Instr.sureAddr,fieldPlace,J4 hi,gf,qO,ah]
theorem Fs(r:Rel T0 B σ a w X h){T:TypeId}{v:V}(ig:o.op= .fieldAddr T x f)(hs:Yj P σ o.op o.type v):
  ∃val,(execOp a.eval o).run P w= .ok (.value val) w/\Qk (Tof T0 X) h σ.ob w v val:=by
 simp only[ig,Yj]at hs;obtain⟨hg,hf,hs⟩:=hs;have hx:=r.arg (P:=P) 0 x rfl hg
 split at hs
 ·rename_i t c heq;rw[heq]at hx;obtain⟨⟨cells,ho⟩,rfl⟩:=hs;obtain⟨b,hb,he⟩:=hx.2 cells ho;refine⟨.pointer (some ⟨b,c+Qc P T f,none⟩),by simp only[execOp,ig,he,Sem.run_bind,Sv hf,Result.andThen_ok,Sem.run_pure],rfl,fun iy _=>⟨b,hb,rfl⟩⟩
 ·rename_i t j i c heq;rw[heq]at hx;obtain⟨⟨q,size,rows,ho⟩,rfl⟩:=hs;obtain⟨b,n,cap,hb,he⟩:=hx.2 q size rows ho;refine⟨.pointer (some ⟨b,i*size+c+Qc P T f,none⟩),by simp only[execOp,ig,he,Sem.run_bind,Sv hf,Result.andThen_ok,Sem.run_pure],rfl,fun q' gB hO gG=>?_⟩;rw[ho]at gG;cases gG;exact⟨b,n,cap,hb,by rw[Nat.add_assoc]⟩
 ·rename_i rr c heq;rw[heq]at hx;subst hs;obtain⟨b,off,g,he,hk⟩:=hx;exact⟨.pointer (some ⟨b,off+c+Qc P T f,none⟩),by simp only[execOp,ig,he,Sem.run_bind,Sv hf,Result.andThen_ok,Sem.run_pure],b,off,g,by rw[Nat.add_assoc],hk⟩
 ·rename_i t j i c k heq;rw[heq]at hx;obtain⟨⟨size,rows,ho⟩,rfl⟩:=hs;obtain⟨b,n,cap,hb,he⟩:=hx.2 size rows ho;refine⟨.pointer (some ⟨b,k+Qc P T f,none⟩),by simp only[execOp,ig,he,Sem.run_bind,Sv hf,Result.andThen_ok,Sem.run_pure],rfl,fun gB hO gG=>?_⟩;rw[ho]at gG;cases gG;exact⟨b,n,cap,hb,rfl⟩
 ·exact hs.elim
theorem DA(r:Rel T0 B σ a w X h){v:V}(ig:o.op= .nilCheck x)(hs:Yj P σ o.op o.type v):
  ∃val,(execOp a.eval o).run P w= .ok (.value val) w/\Qk (Tof T0 X) h σ.ob w v val:=by
 simp only[ig,Yj]at hs;obtain⟨hg,hs⟩:=hs;have hx:=r.arg (P:=P) 0 x rfl hg
 split at hs
 ·rename_i t c heq;rw[heq]at hx;obtain⟨⟨cells,ho⟩,rfl⟩:=hs;obtain⟨b,hb,he⟩:=hx.2 cells ho;exact⟨.pointer (some ⟨b,c,none⟩),by simp only[execOp,ig,he,Sem.run_pure],rfl,fun iy _=>⟨b,hb,rfl⟩⟩
 ·exact hs.elim
theorem N1{T:TypeId}(ht:XS P T=true)(ad:Addr)(bX:ad.spot=none)(len cap:Nat)(k:IntKind)(i:Int)(h0:0<=i)(hl:i<(len:Int)):
  (Instr.indexAt T (.slice (some ad) len cap) (.int k i)).run P w= .ok (.pointer (some ⟨ad.block,ad.off+i.toNat*P.cellsOf (ZS P T),none⟩)) w:=by
 obtain⟨ti,hu,hi,g7⟩:=Xs ht;obtain⟨b,off,sp⟩:=ad;simp at bX;subst bX;simp[Instr.indexAt,asIntOf,run_underlying hu,h0,hl,J4 hi,qO]
theorem wi{T:TypeId}(ht:EZ P T=some n)(_h1:1<n)(b off:Nat)(k:IntKind)(i:Int)(h0:0<=i)(hl:i<(n:Int)):
  (Instr.indexAt T (.pointer (some ⟨b,off,none⟩)) (.int k i)).run P w= .ok (.pointer (some ⟨b,off+i.toNat*P.cellsOf (ZS P T),none⟩)) w:=by
 obtain⟨ti,hu,hi,g7⟩:=DQ ht;simp[Instr.indexAt,Instr.sureAddr,asIntOf,run_underlying hu,h0,hl,J4 hi,qO]
theorem EE(r:Rel T0 B σ a w X h){T:TypeId}{ix:Operand}{v:V}(ig:o.op= .indexAddr T x ix)(hs:Yj P σ o.op o.type v):
  ∃val,(execOp a.eval o).run P w= .ok (.value val) w/\Qk (Tof T0 X) h σ.ob w v val:=by
 simp only[ig,Yj]at hs;obtain⟨k,i,hix,h0,hg,hs⟩:=hs;have hx:=r.arg (P:=P) 0 x rfl hg
 have hie:=qa r hix;split at hs
 ·rename_i size rows heq;rw[heq]at hx;obtain⟨ht,rfl,gp,hD,rfl⟩:=hs;have hil:i.toNat<rows.length:=zAC
  obtain⟨ad,len,cap,he,hlen,bX,g,hk⟩:=Rd.row (show Rd _ _ _ _ from hx) i.toNat hil gp;refine⟨.pointer (some ⟨ad.block,ad.off+i.toNat*P.cellsOf (ZS P T),none⟩),by simp only[execOp,ig,he,hie,Sem.run_bind,N1 ht ad bX len cap k i h0 zAC,Result.andThen_ok,Sem.run_pure],ad.block,ad.off+i.toNat*P.cellsOf (ZS P T),g,zAE,hk⟩
 ·rename_i t j lo len heq;rw[heq]at hx;obtain⟨ht,gp,⟨q,rows,ho⟩,hD,rfl⟩:=hs;obtain⟨hle,_,_,base,cap,he,fS,_,_,hb⟩:=hx.2.1 _ _ rows ho;obtain⟨b,dc,hh,eh⟩:=hb zAC;rw[eh]at he;refine⟨.pointer (some ⟨b,lo*P.cellsOf (ZS P T)+i.toNat*P.cellsOf (ZS P T),none⟩),by simp only[execOp,ig,he,hie,Sem.run_bind,N1 ht ⟨b,lo*P.cellsOf (ZS P T),none⟩ rfl len cap k i h0 hD,Result.andThen_ok,Sem.run_pure],rfl,fun q' gB hO gG=>?_⟩;rw[ho]at gG;cases gG;exact⟨b,rows.length,dc,hh,by simp[Nat.add_mul]⟩
 ·rename_i t c heq;rw[heq]at hx;obtain⟨⟨cells,ho⟩,⟨n,hn,h1,hD⟩,rfl⟩:=hs;obtain⟨b,hb,he⟩:=hx.2 cells ho;exact⟨.pointer (some ⟨b,c+i.toNat*P.cellsOf (ZS P T),none⟩),by simp only[execOp,ig,he,hie,Sem.run_bind,wi hn h1 b c k i h0 hD,Result.andThen_ok,Sem.run_pure],rfl,fun iy _=>⟨b,hb,rfl⟩⟩
 ·rename_i t j m c heq;rw[heq]at hx;obtain⟨ht,gp,⟨size,rows,s,ho,hm,iz,hD⟩,rfl⟩:=hs;obtain⟨v0,S,hn,iv⟩:=r.nest ho hm iz;have he:a.eval x=v0:=by rw[<-hn];exact hx.2 size rows ho
  obtain⟨b,cap,hv0⟩:=iv.hdr zAC;rw[hv0]at he hn;refine⟨.pointer (some ⟨b,0+i.toNat*P.cellsOf (ZS P T),none⟩),by simp only[execOp,ig,he,hie,Sem.run_bind,N1 ht ⟨b,0,none⟩ rfl s.length cap k i h0 hD,Result.andThen_ok,Sem.run_pure],rfl,fun gB hO gG=>?_⟩;rw[ho]at gG;cases gG;exact⟨b,s.length,cap,hn,zAE⟩
 ·exact hs.elim
theorem Ex{T:TypeId}(ht:jc P T=true){cs:Array Value}(hl:off+P.cellsOf T<=cs.size):
  ∃val,(part T cs off).run P w= .ok val w/\(PH P T=true->val= .agg (cut cs.toList off (P.cellsOf T)).toArray)/\(PH P T=false->cut cs.toList off (P.cellsOf T)=[val]):=by
 obtain⟨d,i,hd,hi,g7,gz⟩:=VT ht;cases cE:PH P T with
 |true=>
  refine⟨.agg (cs.extract off (off+P.cellsOf T)),?_,fun _=>?_,(fun hh=>by cases hh)⟩
  ·simp only[part,Sem.run_bind,Ma hd,cE,Result.andThen_ok,if_true,J4 hi,Sem.run_pure]
  ·congr 1;apply Array.toList_inj.1;simp[cut,Array.toList_extract,List.extract_eq_take_drop]
 |false=>
  rcases gz with gz|gz
  ·rw[cE]at gz;cases gz
  ·rw[gz]at hl⊢;have hD:off<cs.size:=zAC
   refine⟨cs[off],?_,(fun hh=>by cases hh),fun _=>?_⟩
   ·simp[part,Ma hd,cE,Array.getElem?_eq_getElem hD]
   ·have:cut cs.toList off 1=[cs.toList[off]'(by simpa using hD)]:=by simp only[cut];rw[List.drop_eq_getElem_cons (by simpa using hD)];simp
    rw[this];simp
theorem uZ{T:TypeId}(ht:jc P T=true){xs:List At}{x:Value}(hx:Qk (Tof T0 X) h σ.ob w (.agg xs) x)(hl:off+P.cellsOf T<=xs.length):
  ∃cs:Array Value,x= .agg cs/\∃val,(part T cs off).run P w= .ok val w/\Qk (Tof T0 X) h σ.ob w (ldV P T (cut xs off (P.cellsOf T))) val:=by
 obtain⟨cs,rfl,ir⟩:=hx;obtain⟨val,hr,h1,h2⟩:=Ex (P:=P) (w:=w) ht (cs:=cs) (off:=off) (by have:=ir.length;simp at this;omega);exact⟨cs,rfl,val,hr,sB ht (ir.cut _ _) h1 h2⟩
theorem vq(r:Rel T0 B σ a w X h){T:TypeId}{ix:Operand}{v:V}(ig:o.op= .index T x ix)(hs:Yj P σ o.op o.type v):
  ∃val,(execOp a.eval o).run P w= .ok (.value val) w/\Qk (Tof T0 X) h σ.ob w v val:=by
 simp only[ig,Yj]at hs;obtain⟨k,i,hix,h0,hg,hs⟩:=hs;have hx:=r.arg (P:=P) 0 x rfl hg
 have hie:=qa r hix;split at hs
 ·rename_i s heq;rw[heq]at hx;obtain⟨ht,hD,rfl⟩:=hs;have he:=NF hx
  have hil:i.toNat<s.size:=zAC;refine⟨.int .u8 (s.data.toList.getD i.toNat 0).toNat,?_,.int _ _⟩;have fA:s[i.toNat]?=some (s.data.toList.getD i.toNat 0):=by
   rw[List.getD_eq_getElem?_getD];have h1:s.data.toList[i.toNat]?=some (s.data[i.toNat]'hil):=by rw[List.getElem?_eq_getElem (by simpa using hil)];simp
   rw[h1,getElem?_pos s i.toNat hil];rfl
  simp[execOp,ig,he,hie,Instr.index,asIntOf,run_underlying (kb ht),h0,fA]
 ·rename_i xs heq;rw[heq]at hx;obtain⟨⟨n,hn,hD⟩,ht,hl,rfl⟩:=hs;obtain⟨ti,hu,hi,g7⟩:=DQ hn;obtain⟨cs,he,val,hr,hv⟩:=uZ ht hx hl;refine⟨val,?_,hv⟩;simp[execOp,ig,he,hie,Instr.index,asIntOf,run_underlying hu,h0,hD,J4 hi,hr]
 ·exact hs.elim
theorem uB(r:Rel T0 B σ a w X h){T:TypeId}{v:V}(ig:o.op= .field T x f)(hs:Yj P σ o.op o.type v):
  ∃val,(execOp a.eval o).run P w= .ok (.value val) w/\Qk (Tof T0 X) h σ.ob w v val:=by
 simp only[ig,Yj]at hs;obtain⟨hg,hf,ht,hs⟩:=hs;have hx:=r.arg (P:=P) 0 x rfl hg
 split at hs
 ·rename_i xs heq;rw[heq]at hx;obtain⟨hl,rfl⟩:=hs;obtain⟨fs,fd,i,hu,bq,ah,ej,hi,ij⟩:=M7 hf;obtain⟨cs,he,val,hr,hv⟩:=uZ ht hx hl;refine⟨val,?_,hv⟩;rw[<-ah,<-ej]at hr;simp[execOp,ig,he,Instr.field,run_underlying hu,bq,asAgg,hr]
 ·exact hs.elim
theorem wX(r:Rel T0 B σ a w X h){fa y:Nat}{x:Option Operand}(hb:bnd P σ fa x n)(hy:n<=y)(ij:x≠none):
  (Instr.sliceBound ((x.map a.eval).getD undef) y code).run P w= .ok n w:=by
 cases x with
 |none=>exact absurd rfl ij
 |some x=>
  obtain⟨k,i,hg,hx,h0,rfl⟩:=hb;have he:=OR (r.arg (P:=P) 0 x hx hg)
  have:i<=(y:Int):=zAC;simp[he,Instr.sliceBound,asIntOf,h0,this]
theorem L4(r:Rel T0 B σ a w X h){sl:Bool}{l hh:Nat}(dQ:bnd P σ 0 lo l)(bB:bnd P σ len hi hh)(h1:l<=hh)(h2:hh<=cap):
  (Instr.sliceBounds sl len cap (lo.map a.eval) (hi.map a.eval) none).run P w= .ok (l,hh,cap) w:=by
 unfold Instr.sliceBounds;cases hi with
 |none=>
  cases bB;cases lo with
  |none=>cases dQ;simp
  |some x=>have:=wX (w:=w) r (code:=.sliceB) dQ h1 zAE;simp at this;simp[this]
 |some y=>
  have hb:=wX (w:=w) r (code:=if sl then .sliceAcap else .sliceAlen) bB h2 zAE;simp at hb;cases lo with
  |none=>cases dQ;simp[hb]
  |some x=>have:=wX (w:=w) r (code:=.sliceB) dQ h1 zAE;simp at this;simp[this,hb]
theorem WE{α:Type}(rows:List (List α))(size l n:Nat)(hz:∀r∈rows,r.length=size)(k:Nat)(d:α)(hd:(cut rows l n).flatten[k]?=some d):rows.flatten[l*size+k]?=some d:=by
 induction rows generalizing l with
 |nil=>simp[cut]at hd
 |cons r rows ih=>
  have hr:r.length=size:=hz r zAE;cases l with
  |zero=>
   simp only[cut,List.drop_zero,Nat.zero_mul,Nat.zero_add]at hd⊢;have hsplit:(r::rows).flatten=((r::rows).take n).flatten++((r::rows).drop n).flatten:=zB1
   rw[hsplit,List.getElem?_append_left (List.getElem?_eq_some_iff.1 hd).1];exact hd
  |succ l=>have:=ih l (fun r hr=>hz r zCZ) (by simpa[cut]using hd);rw[List.flatten_cons,List.getElem?_append_right (by rw[hr,Nat.add_mul];omega),hr];rw[show(l+1)*size+k-size=l*size+k by rw[Nat.add_mul];omega];exact this
theorem Rd.cut(hv:v= .slice base len cap)(r:Rd T w v (.sl size rows))(l hh:Nat)(h1:l<=hh)(h2:hh<=rows.length)(_hsz:0<size\/True):
  Rd T w (.slice (if cap=l then base else base.map (·.add (l*size))) (hh-l) (cap-l)) (.sl size (Vm.cut rows l (hh-l))):=by
 subst hv;cases r with
 |nil=>
  simp at h2;subst h2;have:l=0:=zAC
  subst this;simp[Vm.cut];exact .nil _
 |sl a len cap size rows g hl hc hm hz hs hg hr=>
  have hlen:(Vm.cut rows l (hh-l)).length=hh-l:=XJ _ _ _ zAC;have ev:∀r∈Vm.cut rows l (hh-l),r.length=size:=fun r hr=>hz r (List.mem_of_mem_drop (List.mem_of_mem_take hr));by_cases gM:cap=l
  ·have h0:hh-l=0:=zAC;have dW:Vm.cut rows l (hh-l)=[]:=List.eq_nil_of_length_eq_zero zAC;rw[if_pos gM,dW,h0];exact .sl a 0 (cap-l) size [] g rfl (Nat.zero_le _) zAC (by intro r hr;cases hr) zAE zAE zAE
  ·rw[if_neg gM];refine .sl (a.add (l*size)) (hh-l) (cap-l) size _ (fun k=>g (l*size+k)) hlen zAC zAC ev (fun ij=>?_) (fun k d hd=>?_) (fun k d hd=>hr _ _ (WE rows size l _ hz k d hd))
   ·have:rows.flatten≠[]:=by
     intro he;apply ij;cases ga:(Vm.cut rows l (hh-l)).flatten with
     |nil=>rfl
     |cons d ds=>have:=WE rows size l (hh-l) hz 0 d (by rw[ga];rfl);rw[he]at this;simp at this
    have bX:=hs this;unfold Addr.add;split<;>simp[bX]
   ·have bX:a.spot=none:=hs (by
     intro he;have:=WE rows size l (hh-l) hz k d hd
     rw[he]at this;simp at this)
    have:=hg _ _ (WE rows size l (hh-l) hz k d hd);obtain⟨b,off,sp⟩:=a;simp at bX;subst bX;rw[qO];simp only[Nat.add_assoc]at this⊢;exact this
theorem vm(r:Rel T0 B σ a w X h){T:TypeId}{v:V}(ig:o.op= .slice T x lo hi none)(hs:Yj P σ o.op o.type v):
  ∃val,(execOp a.eval o).run P w= .ok (.value val) w/\Qk (Tof T0 X) h σ.ob w v val:=by
 simp only[ig,Yj]at hs;obtain⟨hg,hs⟩:=hs;have hx:=r.arg (P:=P) 0 x rfl hg
 split at hs
 ·rename_i s heq;rw[heq]at hx;obtain⟨ht,l,hh,dQ,bB,h1,h2,rfl⟩:=hs;have he:=NF hx
  have hb:=L4 (w:=w) r (sl:=false) dQ bB h1 h2;refine⟨.string (s.extract l hh),?_,.str _⟩;simp[execOp,ig,he,Instr.sliceAt,Instr.slice,run_underlying (kb ht),hb]
 ·rename_i size rows heq;rw[heq]at hx;obtain⟨ht,rfl,l,hh,dQ,bB,h1,h2,rfl⟩:=hs;obtain⟨ti,hu,fP,g7⟩:=Xs ht;obtain⟨base,cap,he,fS,eU⟩:=tK (show Rd _ _ _ _ from hx);have hb:=L4 (w:=w) r (sl:=true) (cap:=cap) dQ bB h1 zAC
  refine⟨_,?_,Rd.cut he hx l hh h1 h2 (.inr trivial)⟩;simp[execOp,ig,he,Instr.sliceAt,Instr.slice,run_underlying hu,hb,J4 fP]
 ·rename_i t j lo0 len heq;rw[heq]at hx;obtain⟨ht,⟨q,rows,ho⟩,l,hh,dQ,bB,h1,h2,rfl⟩:=hs;obtain⟨ti,hu,fP,g7⟩:=Xs ht;obtain⟨hle,fc,eF,base,cap,he,fS,eU,dq,hbs⟩:=hx.2.1 _ _ rows ho;have hb:=L4 (w:=w) r (sl:=true) (cap:=cap) dQ bB h1 zAC
  refine⟨.slice (if cap=l then base else base.map (·.add (l*P.cellsOf (ZS P T)))) (hh-l) (cap-l),?_,rfl,fun q' gB hO gG=>?_,fun gB hO gG=>by rw[ho]at gG;cases gG⟩
  ·simp[execOp,ig,he,Instr.sliceAt,Instr.slice,run_underlying hu,hb,J4 fP]
  ·rw[ho]at gG;cases gG;refine⟨zAC,fun hl0 hl1=>?_,fun hl1=>?_,_,cap-l,rfl,zAC,zAC,fun hn=>?_,fun gp=>?_⟩
   ·have hl:l=0:=zAC;subst hl;have:len=rows.length:=zAC;have hv:=fc this zAC;rw[<-hv,he];simp only[Nat.sub_zero,Nat.zero_mul];have h3:hh=len:=zAC;rw[h3];congr 1;split
    ·rfl
    ·cases base<;>simp[Addr.add]
   ·have hl:l=0:=zAC;subst hl;have hv:=eF zAC;rw[he]at hv;have hh0:(if cap=0 then base else base.map (·.add (0*P.cellsOf (ZS P T))))=base:=by
     split
     ·rfl
     ·cases base<;>simp[Addr.add]
    rw[hh0];unfold II at hv⊢;revert hv;cases(h t j).v with
    |slice b n c=>intro hv;cases hv;simp
    |_=>intro hv;cases hv
   ·have hb0:base=none:=by
     by_cases gM:cap=l
     ·rw[if_pos gM]at hn;exact hn
     ·rw[if_neg gM]at hn;simpa using hn
    have:=dq hb0;omega
   ·obtain⟨b,dc,hhd,eh⟩:=hbs zAC;refine⟨b,dc,hhd,?_⟩;rw[if_neg zAC,eh];simp[qO,Nat.add_mul]
 ·exact hs.elim
theorem tJ{α:Type}(l:List α)(k:Nat)(v:α)(vs:List α)(hk:k+(vs.length+1)<=l.length):place (l.set k v) (k+1) vs=place l k (v::vs):=by
 unfold place;have h1:(l.set k v).take (k+1)=l.take k++[v]:=by rw[List.take_set,List.take_succ_eq_append_getElem zAC];rw[List.set_append_right _ _ zAk];simp[Nat.min_eq_left (show k<=l.length by omega)]
 have h2:(l.set k v).drop (k+1+vs.length)=l.drop (k+(vs.length+1)):=by rw[List.drop_set_of_lt zAC];congr 1;omega
 rw[h1,h2];simp
theorem FH(off:Nat):∀(vs:List Value)(j:Nat)(cs:Array Value),off+j+vs.length<=cs.size->
  ((vs.zipIdx j).foldl (fun cs x=>cs.setIfInBounds (off+x.2) x.1) cs).toList=place cs.toList (off+j) vs
 |[],j,cs,_=>by simp[place]
 |v::vs,j,cs,hl=>by rw[List.zipIdx_cons,List.foldl_cons,FH off vs (j+1) _ zCI];rw[Array.toList_setIfInBounds,show off+(j+1)=off+j+1 by omega,tJ _ _ _ _ zCI]
theorem OF(off:Nat)(vs cs:Array Value)(hl:off+vs.size<=cs.size):
  (vs.zipIdx.foldl (fun cs x=>cs.setIfInBounds (off+x.2) x.1) cs).toList=place cs.toList off vs.toList:=by
 rw[<-Array.foldl_toList,Array.toList_zipIdx,FH off vs.toList 0 cs (by simpa using hl)];rfl
theorem Xu{α:Type}(r:List α)(off:Nat)(xs:List α)(hl:off+xs.length<=r.length):(place r off xs).length=r.length:=by simp[place];omega
theorem YJ.place{α β:Type}{R:α->β->Prop}{l:List α}{m:List β}(x:YJ R l m)(off:Nat){l':List α}{m':List β}(y:YJ R l' m'):YJ R (Vm.place l off l') (Vm.place m off m'):=by unfold Vm.place;rw[y.length];exact((x.take _).append y).append (x.drop _)
theorem UL{ob:Nat->Nat->Ob}{x:V}(hf:x.flat=true)(hv:Qk T' h ob w x v):YJ (YR T' h ob w) x.cells v.cells.toList:=by
 cases x with
 |one c=>
  have h1:=YR.X1 (show YR _ _ _ _ _ _ from hv);have:v.cells=#[v]:=by cases v<;>first|rfl|(simp[Value.oneCell']at h1)
  rw[this];exact .cons hv .nil
 |agg xs=>obtain⟨cs,rfl,ir⟩:=hv;exact ir
 |any=>cases hf
 |tup xs=>cases hf
 |cnd g x=>cases hf
 |fix u x=>cases hf
theorem Cg(r:Rel T0 B σ a w X h)(T:TypeId)(pl:Nat->Option (Nat×Nat))(bA:∀i,bOk P T i=true->pl i=some (jx P T i,P.cellsOf (bTy P T i))):
  ∀(ps:List (Nat×Operand))(row out:List At)(cells:Array Value),YJ (YR (Tof T0 X) h σ.ob w) row cells.toList->Rk P σ T ps row out->
   ∃iy,Instr.fill pl cells (ps.map fun x=>(x.1,a.eval x.2))=some iy/\YJ (YR (Tof T0 X) h σ.ob w) out iy.toList
 |[],row,out,cells,ir,hb=>by cases hb;exact⟨cells,rfl,ir⟩
 |(i,x)::ps,row,out,cells,ir,hb=>by
  obtain⟨gF,hg,hf,hlen,hle,hb⟩:=hb;have hx:=UL hf (r.arg (P:=P) (bTy P T i) x rfl hg)
  have hl2:=hx.length;have hl1:=ir.length;have e1:cells.toList.length=cells.size:=Array.length_toList;have e2:(a.eval x).cells.toList.length=(a.eval x).cells.size:=Array.length_toList;have cV:=ir.place (jx P T i) hx;have heq:=OF (jx P T i) (a.eval x).cells cells zAC;rw[<-heq]at cV;obtain⟨iy,h1,h2⟩:=Cg r T pl bA ps _ out _ cV hb;refine⟨iy,?_,h2⟩;have g7:(a.eval x).cells.size=P.cellsOf (bTy P T i):=zAC;simp only[List.map_cons,Instr.fill,bA i gF];rw[if_neg (by simp[g7];omega)];exact h1
theorem run_places(fs:List Field)(aH:∀f∈fs,(P.info? f.type).isSome=true)(w:World):
  (fs.mapM (m:=Sem) fun f=>do pure (f.offset,<-sizeOf f.type)).run P w= .ok (fs.map fun f=>(f.offset,P.cellsOf f.type)) w:=by
 induction fs with
 |nil=>simp
 |cons f fs ih=>obtain⟨i,hi⟩:=Option.isSome_iff_exists.1 (aH f zAE);simp only[List.mapM_cons,Sem.run_bind,J4 hi,Result.andThen_ok,Sem.run_pure,ih (fun f hf=>aH f (by simp[hf])),List.map_cons]
theorem vR(r:Rel T0 B σ a w X h){T:TypeId}{v:V}(ig:o.op= .build T parts)(hs:Yj P σ o.op o.type v):
  ∃val,(execOp a.eval o).run P w= .ok (.value val) w/\Qk (Tof T0 X) h σ.ob w v val:=by
 simp only[ig,Yj]at hs;obtain⟨hz,cE,z,out,ep,hb,rfl⟩:=hs;obtain⟨i,zv,hi,hzv,g7,eg⟩:=CK hz ep;have ez:(zeroValue T).run P w= .ok zv w:=by simp[zeroValue,typeInfo,hi,hzv]
 have dO:(parts.map fun(x:Nat×Operand)=>(x.1,a.eval x.2)).toList=parts.toList.map fun x=>(x.1,a.eval x.2):=zAE;unfold PH at cE;split at cE
 ·rename_i fs hu;by_cases g5:∀f∈fs.toList,(P.info? f.type).isSome=true
  ·have bA:∀i,bOk P T i=true->(fs.toList.map fun f=>(f.offset,P.cellsOf f.type)).toArray[i]?=some (jx P T i,P.cellsOf (bTy P T i)):=by
    intro i gF;simp only[bOk,hu,Bool.and_eq_true,decide_eq_true_eq]at gF;have hD:=gF.2
    simp[jx,bTy,hu,Qc,jZ,hD]
   obtain⟨iy,h1,h2⟩:=Cg r T _ bA parts.toList z out zv.cells (eg _ _ _ _) hb;refine⟨.agg iy,?_,iy,rfl,h2⟩;have hm:=run_places (P:=P) fs.toList g5 w
   have:(fs.mapM (m:=Sem) fun f=>do pure (f.offset,<-sizeOf f.type)).run P w= .ok (fs.toList.map fun f=>(f.offset,P.cellsOf f.type)).toArray w:=by rw[Array.mapM_eq_mapM_toList];change((fs.toList.mapM (m:=Sem) fun f=>do pure (f.offset,<-sizeOf f.type))>>=fun l=>pure l.toArray).run P w=_;simp only[Sem.run_bind,hm,Result.andThen_ok,Sem.run_pure]
   simp only[execOp,ig,Instr.build,Sem.run_bind,ez,Result.andThen_ok,run_underlying hu,this,dO,h1,Sem.run_pure]
  · -- no part can be placed:then there are none
   have dW:parts.toList=[]:=by
    cases hp:parts.toList with
    |nil=>rfl
    |cons p ps=>
     obtain⟨i,x⟩:=p;rw[hp]at hb;have gF:=hb.1
     simp only[bOk,hu,Bool.and_eq_true]at gF;exact absurd (by intro f hf;exact Array.all_eq_true'.1 gF.1 f (by simpa using hf)) g5
   exfalso;rw[show(12:Nat)=11+1 from rfl,UD,hu]at ep;simp only[Option.map_eq_some_iff]at ep;obtain⟨rs,e8,_⟩:=ep;apply g5;intro f hf;have:∀(l:List Field)(rs:List (List At)),l.mapM (fun f=>UD P 11 f.type)=some rs->∀f∈l,(P.info? f.type).isSome=true:=by
    intro l;induction l with
    |nil=>intro rs _ f hf;cases hf
    |cons g l ih=>
     intro rs e8 f hf;simp only[List.mapM_cons,Option.bind_eq_bind,Option.bind_eq_some_iff]at e8;obtain⟨r0,dY,rs',hrs',_⟩:=e8;rcases List.mem_cons.1 hf with rfl|hf
     ·rw[show(11:Nat)=10+1 from rfl,UD]at dY;cases hi0:P.info? f.type with
      |some i=>rfl
      |none=>simp[Program.underlying,hi0]at dY
     ·exact ih rs' hrs' f hf
   exact this fs.toList rs e8 f hf
 ·rename_i n e hu;cases hie:P.info? e with
  |none=>exfalso;rw[show(12:Nat)=11+1 from rfl,UD,hu]at ep;simp only[Option.map_eq_some_iff]at ep;obtain⟨r0,dY,_⟩:=ep;rw[show(11:Nat)=10+1 from rfl,UD]at dY;simp[Program.underlying,hie]at dY
  |some ie=>
   have bA:∀i,bOk P T i=true->(fun i=>some (i*P.cellsOf e,P.cellsOf e)) i=some (jx P T i,P.cellsOf (bTy P T i)):=by intro i _;simp[jx,bTy,hu]
   obtain⟨iy,h1,h2⟩:=Cg r T _ bA parts.toList z out zv.cells (eg _ _ _ _) hb;refine⟨.agg iy,?_,iy,rfl,h2⟩;simp only[execOp,ig,Instr.build,Sem.run_bind,ez,Result.andThen_ok,run_underlying hu,J4 hie,dO,h1,Sem.run_pure]
 ·cases cE
theorem TM{t:TypeId}(ht:Mi P t=true){cs:Array Value}(hv:cs[i]?=some v):(part t cs i).run P w= .ok v w:=by unfold Mi at ht;split at ht<;>first|(rename_i hu;simp[part,isAgg,run_underlying hu,hv])|cases ht
theorem vL{t:TypeId}{ob:Nat->Nat->Ob}{x y:At}(hp:oV P t x y=some p)(hx:YR T' h ob w x u)(hy:YR T' h ob w y v)(d:Nat)(w':World):
  (Op.equalIn (d+1) t u v).run P w'= .ok p w':=by
 unfold oV at hp;split at hp
 ·rename_i k a' k' b';split at hp
  ·rename_i hc;obtain⟨rfl,hi⟩:=hc;obtain⟨k2,aD⟩:=Option.isSome_iff_exists.1 hi;cases hp;rw[OR hx,OR hy];exact Go.run_equalIn_int w' d t _ _ _ _ (Db aD)
  ·cases hp
 ·split at hp
  ·rename_i hc;cases hp;rw[WX hx,WX hy];have hu:P.underlying t=some .bool:=by unfold G8 at hc;split at hc<;>first|assumption|cases hc
   exact Go.run_equalIn_bool' w' d t _ _ hu
  ·cases hp
 ·split at hp
  ·rename_i hc;cases hp;rw[NF hx,NF hy];rw[Go.run_equalIn_string w' d t _ _ (kb hc),ug]
  ·cases hp
 ·cases hp
theorem Ge{T':CS}{ob:Nat->Nat->Ob}(d:Nat)(cs ds:Array Value)(w':World):∀(fs:List Field)(i:Nat)(xs ys:List At)(q:Bool),Tv P fs i=true->QW P (fs.map (·.type)) xs ys=some q->
  YJ (YR T' h ob w) xs (cs.toList.drop i)->YJ (YR T' h ob w) ys (ds.toList.drop i)->(Op.eqFields (d+1) cs ds fs).run P w'= .ok q w'
 |[],i,xs,ys,q,_,hq,_,_=>by simp[QW]at hq;subst hq;simp[Op.eqFields]
 |f::fs,i,[],ys,q,_,hq,_,_=>by simp[QW]at hq
 |f::fs,i,x::xs,[],q,_,hq,_,_=>by simp[QW]at hq
 |f::fs,i,x::xs,y::ys,q,gF,hq,hx,hy=>by
  simp only[Tv,Bool.and_eq_true,decide_eq_true_eq,beq_iff_eq]at gF;obtain⟨⟨⟨hn,ho⟩,g9⟩,gF⟩:=gF;simp only[List.map_cons,QW]at hq;split at hq
  ·rename_i p q' hp ea;cases hq;cases hcd:cs.toList.drop i with
   |nil=>rw[hcd]at hx;cases hx
   |cons u us=>
    cases eR:ds.toList.drop i with
    |nil=>rw[eR]at hy;cases hy
    |cons v vs=>
     rw[hcd]at hx;rw[eR]at hy;cases hx with
     |cons hxu hx=>
      cases hy with
      |cons hyv hy=>
       have hu:cs[i]?=some u:=by
        have:(cs.toList.drop i)[0]?=some u:=by rw[hcd];rfl
        simpa using this
       have hv:ds[i]?=some v:=by
        have:(ds.toList.drop i)[0]?=some v:=by rw[eR];rfl
        simpa using this
       have hus:cs.toList.drop (i+1)=us:=by rw[<-List.drop_drop,hcd];rfl
       have hvs:ds.toList.drop (i+1)=vs:=by rw[<-List.drop_drop,eR];rfl
       have ih:=Ge d cs ds w' fs (i+1) xs ys q' gF ea (by rw[hus];exact hx) (by rw[hvs];exact hy);subst ho;simp only[Op.eqFields,if_pos hn,Sem.run_bind,TM g9 hu,TM g9 hv,Result.andThen_ok,vL hp hxu hyv d w'];cases p
       ·simp
       ·simpa using ih
  ·cases hq
theorem ID(P:Program):∀(ts:List TypeId)(xs ys:List At)(q:Bool),QW P ts xs ys=some q->ts.length<=xs.length/\ts.length<=ys.length
 |[],_,_,_,_=>⟨Nat.zero_le _,Nat.zero_le _⟩
 |t::ts,[],_,_,h=>by simp[QW]at h
 |t::ts,x::xs,[],_,h=>by simp[QW]at h
 |t::ts,x::xs,y::ys,q,h=>by
  simp only[QW]at h;split at h
  ·rename_i p q' hp ea;have:=ID P ts xs ys q' ea
   simp only[List.length_cons];omega
  ·cases h
theorem FO(P:Program):∀(ts:List TypeId)(xs ys:List At)(m:Nat),ts.length<=m->QW P ts (xs.take m) (ys.take m)=QW P ts xs ys
 |[],_,_,_,_=>by simp[QW]
 |t::ts,_,_,0,h=>by simp at h
 |t::ts,[],_,m+1,_=>by simp[QW]
 |t::ts,x::xs,[],m+1,_=>by simp[QW]
 |t::ts,x::xs,y::ys,m+1,h=>by simp only[List.take_succ_cons,QW];rw[FO P ts xs ys m zCF]
theorem Dj(P:Program):∀(ts us:List TypeId)(xs ys:List At)(q:Bool),QW P (ts++us) xs ys=some q->∃p q',QW P ts xs ys=some p/\QW P us (xs.drop ts.length) (ys.drop ts.length)=some q'/\q=(p&&q')
 |[],us,xs,ys,q,h=>⟨true,q,by simp[QW],by simpa using h,zAE⟩
 |t::ts,us,[],_,_,h=>by simp[QW]at h
 |t::ts,us,x::xs,[],_,h=>by simp[QW]at h
 |t::ts,us,x::xs,y::ys,q,h=>by
  simp only[List.cons_append,QW]at h;split at h
  ·rename_i p q0 hp hq0;obtain⟨p2,q2,h1,h2,h3⟩:=Dj P ts us xs ys q0 hq0;cases h;exact⟨p&&p2,q2,by simp only[QW,hp,h1],by simpa using h2,by rw[h3,Bool.and_assoc]⟩
  ·cases h
theorem L3{T':CS}{ob:Nat->Nat->Ob}(d:Nat)(cs ds:Array Value)(w':World):∀(fs:List Field)(i:Nat)(xs ys:List At)(q:Bool),Pw P fs i=true->QW P (fs.flatMap (Ab P)) xs ys=some q->
  YJ (YR T' h ob w) xs (cs.toList.drop i)->YJ (YR T' h ob w) ys (ds.toList.drop i)->(Op.eqFields (d+2) cs ds fs).run P w'= .ok q w'
 |[],i,xs,ys,q,_,hq,_,_=>by simp[QW]at hq;subst hq;simp[Op.eqFields]
 |f::fs,i,xs,ys,q,gF,hq,hx,hy=>by
  simp only[Pw,Bool.and_eq_true,decide_eq_true_eq,beq_iff_eq]at gF;obtain⟨⟨hn,ho⟩,gF⟩:=gF;subst ho;rw[List.flatMap_cons]at hq;obtain⟨p,q',hp,ea,rfl⟩:=Dj P _ _ _ _ _ hq;cases g9:Mi P f.type with
  |true=>
   rw[g9,if_pos rfl]at gF;have hl:Ab P f=[f.type]:=by unfold Ab;rw[g9,if_pos rfl]
   rw[hl]at hp ea;have fK:=Ge (P:=P) (d+1) cs ds w' [f] f.offset xs ys p (by simp only[Tv,Bool.and_eq_true,decide_eq_true_eq,beq_iff_eq];exact⟨⟨⟨hn,trivial⟩,g9⟩,trivial⟩) hp hx hy
   have ih:=L3 d cs ds w' fs (f.offset+1) (xs.drop 1) (ys.drop 1) q' gF ea (by rw[<-List.drop_drop];exact hx.drop 1) (by rw[<-List.drop_drop];exact hy.drop 1);simp only[Op.eqFields,if_pos hn]at fK⊢;have hlen:=ID P _ _ _ _ hp;have bl:=hx.length;have eC:=hy.length;simp only[List.length_cons,List.length_nil,List.length_drop,Array.length_toList]at hlen bl eC;have hu:cs[f.offset]?=some (cs[f.offset]'zAC):=Array.getElem?_eq_getElem _;have hv:ds[f.offset]?=some (ds[f.offset]'zAC):=Array.getElem?_eq_getElem _;simp only[Sem.run_bind,TM g9 hu,TM g9 hv,Result.andThen_ok]at fK⊢;cases xs with
   |nil=>simp at hlen
   |cons x xs=>
    cases ys with
    |nil=>simp at hlen
    |cons y ys=>
     obtain⟨u,hu2,hxu⟩:=hx.get 0 x rfl;obtain⟨v,gn,hyv⟩:=hy.get 0 y rfl;simp only[QW]at hp;split at hp
     ·rename_i p0 q0 hp0 hq0;cases hq0;cases hp;have e1:cs[f.offset]'zAC=u:=by
       have:cs[f.offset]?=some u:=by simpa using hu2
       rw[hu]at this;exact Option.some.inj this
      have e2:ds[f.offset]'zAC=v:=by
       have:ds[f.offset]?=some v:=by simpa using gn
       rw[hv]at this;exact Option.some.inj this
      rw[e1,e2,vL hp0 hxu hyv (d+1) w',Result.andThen_ok];cases p0
      ·simp
      ·simpa using ih
     ·cases hp
  |false=>
   rw[g9,if_neg zAE]at gF;cases hu:P.underlying f.type with
   |none=>rw[hu]at gF;cases gF
   |some de=>
    rw[hu]at gF;cases de with
    |struct gs=>
     simp only[Bool.and_eq_true,beq_iff_eq,Bool.not_eq_true',decide_eq_true_eq]at gF;obtain⟨⟨⟨⟨⟨⟨ej,cE⟩,gM⟩,hgp⟩,gH⟩,hgs⟩,gF⟩:=gF;have hl:Ab P f=gs.toList.map (·.type):=by unfold Ab;rw[g9,if_neg zAE,hu]
     rw[hl]at hp ea;rw[List.length_map,Array.length_toList]at ea;have hf:P.fieldsOf f.type=gs:=by simp[Program.fieldsOf,hu]
     have hlen:=ID P _ _ _ _ hp;have bl:=hx.length;have eC:=hy.length;simp only[List.length_map,Array.length_toList,List.length_drop]at hlen bl eC;have ih:=L3 d cs ds w' fs (f.offset+gs.size) (xs.drop gs.size) (ys.drop gs.size) q' gF ea (by rw[<-List.drop_drop];exact hx.drop gs.size) (by rw[<-List.drop_drop];exact hy.drop gs.size);obtain⟨va,hra,ha1,_⟩:=Ex (P:=P) (w:=w') ej (cs:=cs) (off:=f.offset) (by rw[gM];omega);obtain⟨vb,hrb,fB,_⟩:=Ex (P:=P) (w:=w') ej (cs:=ds) (off:=f.offset) (by rw[gM];omega);rw[gM]at ha1 fB;have hin:(Op.equalIn (d+2) f.type va vb).run P w'= .ok p w':=by
      rw[ha1 cE,fB cE,show d+2=(d+1)+1 from rfl,Go.run_equalIn_struct w' (d+1) f.type _ _ (by rw[hf];exact hu) gH,hf];refine Ge (P:=P) (h:=h) (w:=w) (T':=T') (ob:=ob) d _ _ w' gs.toList 0 (xs.take gs.size) (ys.take gs.size) p hgs ?_ ?_ ?_
      ·rw[FO P _ _ _ _ zAE];exact hp
      ·simpa[cut]using hx.take gs.size
      ·simpa[cut]using hy.take gs.size
     simp only[Op.eqFields,if_pos hn,Sem.run_bind,hra,hrb,Result.andThen_ok,hin];cases p
     ·simp
     ·simpa using ih
    |_=>cases gF
theorem sc{T:TypeId}{ob:Nat->Nat->Ob}{xs ys:List At}(gF:My P T=true)(hq:QW P (zX P T) xs ys=some q)
  (hx:Qk T' h ob w (.agg xs) u) (hy:Qk T' h ob w (.agg ys) v) (op:BinOp) (x y:Operand) (w':World):
  (eqGuard op T x y u v).run P w'= .ok () w'/\(binOp .eql T u v).run P w'= .ok (.bool q) w'/\(binOp .neq T u v).run P w'= .ok (.bool (!q)) w':=by
 obtain⟨cs,rfl,eT⟩:=hx;obtain⟨ds,rfl,bU⟩:=hy;unfold My at gF;split at gF
 ·rename_i fs hu;simp only[Bool.and_eq_true,Bool.not_eq_true']at gF;have hf:P.fieldsOf T=fs:=by simp[Program.fieldsOf,hu]
  have ef:P.underlying T=some (.struct (P.fieldsOf T)):=by rw[hf];exact hu
  have gA:(Op.equalIn 10000 T (.agg cs) (.agg ds)).run P w'= .ok q w':=by rw[show(10000:Nat)=9999+1 from rfl,Go.run_equalIn_struct w' 9999 T cs ds ef gF.1.1,show(9999:Nat)=9997+2 from rfl];exact L3 9997 cs ds w' _ 0 xs ys q (by rw[hf];exact gF.2) hq (by simpa using eT) (by simpa using bU)
  refine⟨Go.run_eqGuard_agg w' op T x y cs ds gF.1.2,?_,?_⟩
  ·rw[Go.run_eql_struct,gA];rfl
  ·rw[Go.run_neq_struct,gA];rfl
 ·cases gF
theorem DD(r:Rel T0 B σ a w X h){v:V}(ig:o.op= .move x\/o.op= .assign x)(hs:Yj P σ o.op o.type v):
  ∃val,(execOp a.eval o).run P w= .ok (.value val) w/\Qk (Tof T0 X) h σ.ob w v val:=by
 rcases ig with ig|ig<;>
 ·simp only[ig,Yj]at hs;subst hs;exact⟨a.eval x,by simp[execOp,ig],r.look _ x⟩
theorem tR(r:Rel T0 B σ a w X h){c:Operand}{v:V}(ig:o.op= .pick c x y)(hs:Yj P σ o.op o.type v):
  ∃val,(execOp a.eval o).run P w= .ok (.value val) w/\Qk (Tof T0 X) h σ.ob w v val:=by
 simp only[ig,Yj]at hs;obtain⟨bc,p,q,hg,hc,hp,hq,hgp,hgq,rfl⟩:=hs;have he:=WX (r.arg (P:=P) o.type c hc hg)
 cases bc with
 |true=>have hx:=WX (r.arg (P:=P) o.type x (hp rfl) (hgp rfl));exact⟨.bool p,by simp[execOp,ig,he,asBool,hx],.bool _⟩
 |false=>have hy:=WX (r.arg (P:=P) o.type y (hq rfl) (hgq rfl));exact⟨.bool q,by simp[execOp,ig,he,asBool,hy],.bool _⟩
theorem Wd(op:BinOp)(T:TypeId)(x y:Operand)(hv:∀cs,v≠ .agg cs)(hn:v≠ .nilIface):(eqGuard op T x y v u).run P w= .ok () w:=by unfold eqGuard;cases op<;>simp<;>(split<;>first|exact absurd rfl hn|exact absurd rfl (hv _)|simp)
theorem rF(r:Rel T0 B σ a w X h){T T':TypeId}{v:V}(ig:o.op= .binOp op T x y T')(hs:Yj P σ o.op o.type v):
  ∃val,(execOp a.eval o).run P w= .ok (.value val) w/\Qk (Tof T0 X) h σ.ob w v val:=by
 simp only[ig,Yj]at hs;obtain⟨dt,du,hs⟩:=hs;have hx:=r.arg (P:=P) T x rfl dt
 have hy:=r.arg (P:=P) T y rfl du;unfold uT at hs;split at hs
 ·rename_i k m k' n heq dU;rw[heq]at hx;rw[dU]at hy;have ex:=OR hx
  have ey:=OR hy;obtain⟨d,rfl,val,hr,hd⟩:=uh (P:=P) (t:=T) hs.1 hs.2 w;refine⟨val,?_,hd _ _⟩;simp only[execOp,ig,ex,ey,Sem.run_bind,Wd op T x y (v:=.int k m) (u:=.int k' n) zAE zAE,Result.andThen_ok,hr,Sem.run_pure]
 ·rename_i m n heq dU;rw[heq]at hx;rw[dU]at hy;have ex:=NF hx
  have ey:=NF hy;obtain⟨d,rfl,val,hr,hd⟩:=tM (P:=P) (t:=T) hs w;refine⟨val,?_,hd _ _⟩;simp only[execOp,ig,ex,ey,Sem.run_bind,Wd op T x y (v:=.string m) (u:=.string n) zAE zAE,Result.andThen_ok,hr,Sem.run_pure]
 ·rename_i m n heq dU;rw[heq]at hx;rw[dU]at hy;have ex:=WX hx
  have ey:=WX hy;obtain⟨d,rfl,val,hr,hd⟩:=vQ (P:=P) (t:=T) hs.1 hs.2 w;refine⟨val,?_,hd _ _⟩;simp only[execOp,ig,ex,ey,Sem.run_bind,Wd op T x y (v:=.bool m) (u:=.bool n) zAE zAE,Result.andThen_ok,hr,Sem.run_pure]
 ·rename_i xs ys heq dU;rw[heq]at hx;rw[dU]at hy;obtain⟨gF,q,hq,hs⟩:=hs;obtain⟨h1,h2,h3⟩:=sc (P:=P) gF hq hx hy op x y w;rcases hs with⟨rfl,rfl⟩|⟨rfl,rfl⟩
  ·exact⟨.bool q,by simp only[execOp,ig,Sem.run_bind,h1,Result.andThen_ok,h2,Sem.run_pure],.bool _⟩
  ·exact⟨.bool (!q),by simp only[execOp,ig,Sem.run_bind,h1,Result.andThen_ok,h3,Sem.run_pure],.bool _⟩
 ·exact hs.elim
theorem rb(r:Rel T0 B σ a w X h){op:UnOp}{T:TypeId}{v:V}(ig:o.op= .unOp op T x)(hs:Yj P σ o.op o.type v):
  ∃val,(execOp a.eval o).run P w= .ok (.value val) w/\Qk (Tof T0 X) h σ.ob w v val:=by
 simp only[ig,Yj]at hs;obtain⟨hg,hs⟩:=hs;have hx:=r.arg (P:=P) 0 x rfl hg
 split at hs
 ·rename_i b heq;rw[heq]at hx;subst hs;have he:=WX hx
  exact⟨.bool (!b),by simp[execOp,ig,he,Op.unary],.bool _⟩
 ·rename_i k n heq;rw[heq]at hx;subst hs;have he:=OR hx
  exact⟨.int k (k.wrap (-n)),by simp[execOp,ig,he,Op.unary,Op.intArith],.int _ _⟩
 ·exact hs.elim
theorem BK(r:Rel T0 B σ a w X h){S T:TypeId}{v:V}(ig:o.op= .convert S T x)(hS:(P.underlying S).isSome=true)(hs:Yj P σ o.op o.type v):
  ∃val,(execOp a.eval o).run P w= .ok (.value val) w/\Qk (Tof T0 X) h σ.ob w v val:=by
 simp only[ig,Yj]at hs;obtain⟨hg,_,hs⟩:=hs;have hx:=r.arg (P:=P) 0 x rfl hg
 split at hs
 ·rename_i k' n heq;rw[heq]at hx;obtain⟨k,hk,rfl⟩:=hs;have he:=OR hx
  obtain⟨d,hd⟩:=Option.isSome_iff_exists.1 hS;exact⟨.int k (k.wrap n),by simp[execOp,ig,he,convert,run_underlying hd,run_underlying (Db hk),Conv.intToInt],.int _ _⟩
 ·exact hs.elim
theorem Bf(r:Rel T0 B σ a w X h){v:V}(ig:o.op= .extract x i)(hs:Yj P σ o.op o.type v):
  ∃val,(execOp a.eval o).run P w= .ok (.value val) w/\Qk (Tof T0 X) h σ.ob w v val:=by
 simp only[ig,Yj]at hs;obtain⟨hg,hs⟩:=hs;have hx:=r.arg (P:=P) 0 x rfl hg
 split at hs
 ·rename_i xs heq;rw[heq]at hx;obtain⟨vs,he,ir⟩:=hx;obtain⟨val,dM,hr⟩:=ir.get i v hs.1;have:vs[i]?=some val:=by simpa using dM
  exact⟨val,by simp[execOp,ig,he,Instr.extract,this],hr.up⟩
 ·exact hs.elim
theorem v7(r:Rel T0 B σ a w X h){v:V}(ig:o.op= .call c)(hs:Yj P σ o.op o.type v):
  ∃val,(execOp a.eval o).run P w= .ok (.value val) w/\Qk (Tof T0 X) h σ.ob w v val:=by
 simp only[ig,Yj]at hs;obtain⟨callee,args,argTypes⟩:=c;simp only at hs;split at hs
 ·rename_i x t ha ht;obtain rfl:args=#[x]:=zCD;obtain rfl:argTypes=#[t]:=by apply Array.toList_inj.1;simpa using ht
  obtain⟨hg,hs⟩:=hs;have hx:=r.arg (P:=P) t x rfl hg
  split at hs
  ·rename_i s heq;rw[heq]at hx;obtain⟨gH,rfl⟩:=hs;have he:=NF hx
   exact⟨.int .i64 s.size,by simp[execOp,ig,resolve,invoke,builtin,he,Builtin.len_,run_underlying (kb gH),goInt],.int _ _⟩
  ·rename_i size rows heq;rw[heq]at hx;obtain⟨gH,rfl⟩:=hs;obtain⟨ti,hu,_,_⟩:=Xs gH;obtain⟨base,cap,he,_,_⟩:=tK (show Rd _ _ _ _ from hx);exact⟨.int .i64 rows.length,by simp[execOp,ig,resolve,invoke,builtin,he,Builtin.len_,run_underlying hu,goInt],.int _ _⟩
  ·rename_i size heq;rw[heq]at hx;obtain⟨gH,rfl⟩:=hs;obtain⟨ti,hu,_,_⟩:=Xs gH;have he:a.eval x= .slice none 0 0:=hx
   exact⟨.int .i64 0,by simp[execOp,ig,resolve,invoke,builtin,he,Builtin.len_,run_underlying hu,goInt],.int _ _⟩
  ·rename_i u j lo len heq;rw[heq]at hx;obtain⟨gH,ho,rfl⟩:=hs;obtain⟨ti,hu,_,_⟩:=Xs gH;have hhd:∃base cap,a.eval x= .slice base len cap:=by
    rcases ho with⟨q,size,rows,ho⟩|⟨size,rows,ho⟩
    ·obtain⟨_,_,_,base,cap,he,_,_,_,_⟩:=hx.2.1 _ _ _ ho;exact⟨base,cap,he⟩
    ·obtain⟨_,_,_,base,cap,he,_,_,_,_⟩:=hx.2.2 _ _ ho;exact⟨base,cap,he⟩
   obtain⟨base,cap,he⟩:=hhd;exact⟨.int .i64 len,by simp[execOp,ig,resolve,invoke,builtin,he,Builtin.len_,run_underlying hu,goInt],.int _ _⟩
  ·rename_i u j i c heq;rw[heq]at hx;obtain⟨gH,size,rows,n,s,ho,hi,iz,rfl⟩:=hs;obtain⟨ti,hu,_,_⟩:=Xs gH;obtain⟨v0,S,hn,iv⟩:=r.nest ho hi iz;have hnr:a.eval x=_:=hx.2 _ _ ho
   rw[hn]at hnr;have he:∃base cap,a.eval x= .slice base s.length cap:=by
    rw[hnr];cases iv with
    |sl v size rows S e xs Sk ed hz hb hl hk hs hd=>
     rcases ed.2 with⟨rfl,h0⟩|⟨g,cap,cur,rfl,_⟩
     ·exact⟨none,0,by rw[h0]⟩
     ·exact⟨_,cap,rfl⟩
   obtain⟨base,cap,he⟩:=he;exact⟨.int .i64 s.length,by simp[execOp,ig,resolve,invoke,builtin,he,Builtin.len_,run_underlying hu,goInt],.int _ _⟩
  ·exact hs.elim
 ·rename_i x y ha;obtain rfl:args=#[x,y]:=zCD;obtain⟨k,m,n,hx,hy,rfl⟩:=hs;have ex:=qa r hx
  have ey:=qa r hy;exact⟨.int k (if n>m then n else m),by simp[execOp,ig,resolve,invoke,builtin,ex,ey,Builtin.max_,Builtin.max2],.int _ _⟩
 ·rename_i x y ha;obtain rfl:args=#[x,y]:=zCD;obtain⟨k,m,n,hx,hy,rfl⟩:=hs;have ex:=qa r hx
  have ey:=qa r hy;exact⟨.int k (if n<m then n else m),by simp[execOp,ig,resolve,invoke,builtin,ex,ey,Builtin.min_,Builtin.min2],.int _ _⟩
 ·exact hs.elim
theorem UP(r:Rel T0 B σ a w X h){v:V}(hs:Yj P σ o.op o.type v):
  ∃val,(execOp a.eval o).run P w= .ok (.value val) w/\Qk (Tof T0 X) h σ.ob w v val:=by
 cases ig:o.op with
 |move x=>exact DD r (.inl ig) hs
 |assign x=>exact DD r (.inr ig) hs
 |pick c x y=>exact tR r ig hs
 |load T x=>exact u6 r ig hs
 |fieldAddr T x f=>exact Fs r ig hs
 |nilCheck x=>exact DA r ig hs
 |indexAddr T x i=>exact EE r ig hs
 |index T x i=>exact vq r ig hs
 |field T x f=>exact uB r ig hs
 |slice T x lo hi m=>
  cases m with
  |none=>exact vm r ig hs
  |some m=>rw[ig]at hs;exact hs.elim
 |binOp op T x y T'=>exact rF r ig hs
 |unOp op T x=>exact rb r ig hs
 |convert S T x=>rw[ig]at hs;exact BK r ig hs.2.1 (by rw[ig];exact hs)
 |extract x i=>exact Bf r ig hs
 |call c=>exact v7 r ig hs
 |build T ps=>exact vR r ig hs
 |_=>rw[ig]at hs;exact hs.elim
def At.ref(d:Nat):At->Bool
 |.sref t _ _ _=>t==d
 |.ptr t _ _ _=>t==d
 |.bptr t _=>t==d
 |.fn _ t=>t==d
 |.tref t _ _ _ _=>t==d
 |_=>false
def Yb(d:Nat):List At->Bool
 |[]=>false
 |x::xs=>x.ref d||Yb d xs
def V.IU(d:Nat):V->Bool
 |.one x=>x.ref d
 |.agg xs=>Yb d xs
 |_=>false
def Po(d:Nat):List V->Bool
 |[]=>false
 |x::xs=>x.IU d||Po d xs
def V.ref(d:Nat):V->Bool
 |.tup xs=>Po d xs
 |.cnd _ x=>x.IU d||(match x with|.tup xs=>Po d xs|_=>false)
 |.one x=>x.ref d
 |.agg xs=>Yb d xs
 |.fix _ x=>x.IU d||(match x with|.tup xs=>Po d xs|_=>false)
 |.any=>false
def XB(d:Nat):List Ob->Bool
 |[]=>false
 |.box cells::os=>Yb d cells||XB d os
 |.lit _ rows::os=>Yb d rows.flatten||XB d os
 |_::os=>XB d os
def yG(d:Nat):Nat->St->Bool
 |_,[]=>true
 |k,e::σ=>(k==d||(!e.1.ref d&&!XB d e.2))&&yG d (k+1) σ
def St.fresh(σ:St)(d:Nat):Bool:=decide (d<σ.length)&&yG d 0 σ
theorem xW{d:Nat}:∀{σ:St}{k:Nat},yG d k σ=true->∀t e,σ[t]?=some e->k+t≠d->e.1.ref d=false/\XB d e.2=false
 |[],_,_,t,e,he,_=>by simp at he
 |e0::σ,k,hf,t,e,he,ij=>by
  simp only[yG,Bool.and_eq_true,Bool.or_eq_true,beq_iff_eq,Bool.not_eq_true']at hf;cases t with
  |zero=>
   simp at he;subst he;rcases hf.1 with h|h
   ·omega
   ·exact h
  |succ t=>exact xW hf.2 t e (by simpa using he) zAC
theorem St.rA(hf:σ.fresh d=true)(t:Nat)(ij:t≠d):(σ.get t).ref d=false:=by
 simp only[St.fresh,Bool.and_eq_true]at hf;unfold St.get;cases he:σ[t]? with
 |none=>rfl
 |some e=>exact(xW hf.2 t e he zAC).1
theorem AG{d:Nat}:∀{os:List Ob},XB d os=false->∀j cells,Yr os j= .box cells->Yb d cells=false
 |[],_,j,cells,h=>by simp[Yr]at h
 |o::os,hr,j,cells,h=>by
  cases j with
  |zero=>simp[Yr]at h;subst h;simp[XB]at hr;exact hr.1
  |succ j=>have:Yr os j= .box cells:=zCW;refine AG (os:=os) ?_ j cells this;cases o<;>simp_all[XB]
theorem Cl{d:Nat}:∀{os:List Ob},XB d os=false->∀j size rows,Yr os j= .lit size rows->Yb d rows.flatten=false
 |[],_,j,_,_,h=>by simp[Yr]at h
 |o::os,hr,j,size,rows,h=>by
  cases j with
  |zero=>simp[Yr]at h;subst h;simp[XB]at hr;exact hr.1
  |succ j=>have:Yr os j= .lit size rows:=zCW;refine Cl (os:=os) ?_ j size rows this;cases o<;>simp_all[XB]
theorem St.sk(hf:σ.fresh d=true)(t j:Nat)(ij:t≠d)(size:Nat)(rows:List (List At))(ho:σ.ob t j= .lit size rows):Yb d rows.flatten=false:=by
 simp only[St.fresh,Bool.and_eq_true]at hf;unfold St.ob at ho;cases he:σ[t]? with
 |none=>rw[he]at ho;cases ho
 |some e=>rw[he]at ho;exact Cl (xW hf.2 t e he zAC).2 j size rows ho
theorem St.pz(hf:σ.fresh d=true)(t j:Nat)(ij:t≠d)(cells:List At)(ho:σ.ob t j= .box cells):Yb d cells=false:=by
 simp only[St.fresh,Bool.and_eq_true]at hf;unfold St.ob at ho;cases he:σ[t]? with
 |none=>rw[he]at ho;cases ho
 |some e=>rw[he]at ho;exact AG (xW hf.2 t e he zAC).2 j cells ho
theorem St.zC(hf:σ.fresh d=true):d<σ.length:=by simp only[St.fresh,Bool.and_eq_true,decide_eq_true_eq]at hf;exact hf.1
def Cpt(h h':Nat->Nat->Hd)(ob eK:Nat->Nat->Ob)(t j:Nat):Prop:=
 (∀q size rows,eK t j= .arr q size rows->h' t j=h t j/\∃hP,ob t j= .arr q size hP/\hP.length=rows.length)/\
 (∀size rows,eK t j= .lit size rows->h' t j=h t j/\∃hP,ob t j= .lit size hP/\hP.length=rows.length)/\
 (∀cells,eK t j= .box cells->h' t j=h t j/\∃fM,ob t j= .box fM)
theorem Cpt.same{ob:Nat->Nat->Ob}(hh:h' t j=h t j)(ho:eK t j=ob t j):Cpt h h' ob eK t j:=
 ⟨fun q size rows e=>⟨hh,rows,by rw[<-ho];exact e,rfl⟩,fun size rows e=>⟨hh,rows,by rw[<-ho];exact e,rfl⟩,fun cells e=>⟨hh,cells,by rw[<-ho];exact e⟩⟩
section
variable{ob:Nat->Nat->Ob}
theorem YR.carry(hT:∀b k v,T b k->w.cell? ⟨b,k,none⟩=some v->w'.cell? ⟨b,k,none⟩=some v/\T' b k)(hc:∀t j,t≠d->Cpt h h' ob eK t j)
  {x:At} (hx:x.ref d=false) (r:YR T h ob w x v):YR T' h' eK w' x v:=by
 cases x with
 |any=>exact r
 |d x=>exact Rd.mono hT r
 |nil s=>exact r
 |sref t j lo len=>
  have ht:t≠d:=zCH;refine⟨r.1,fun q size rows ho=>?_,fun size rows ho=>?_⟩
  ·obtain⟨hh,hP,g8,hl⟩:=(hc t j ht).1 q size rows ho;rw[hh,<-hl];exact r.2.1 q size hP g8
  ·obtain⟨hh,hP,g8,hl⟩:=(hc t j ht).2.1 size rows ho;rw[hh,<-hl];exact r.2.2 size hP g8
 |ptr t j i c=>have ht:t≠d:=zCH;refine⟨r.1,fun q size rows ho=>?_⟩;obtain⟨hh,hP,g8,hl⟩:=(hc t j ht).1 q size rows ho;rw[hh];exact r.2 q size hP g8
 |bptr t c=>have ht:t≠d:=zCH;refine⟨r.1,fun cells ho=>?_⟩;obtain⟨hh,fM,g8⟩:=(hc t 0 ht).2.2 cells ho;rw[hh];exact r.2 fM g8
 |fn f t=>have ht:t≠d:=zCH;refine⟨r.1,fun cells ho=>?_⟩;obtain⟨hh,fM,g8⟩:=(hc t 0 ht).2.2 cells ho;rw[hh];exact r.2 fM g8
 |tref t j i c o=>have ht:t≠d:=zCH;refine⟨r.1,fun size rows ho=>?_⟩;obtain⟨hh,hP,g8,hl⟩:=(hc t j ht).1 true size rows ho;rw[hh];exact r.2 size hP g8
 |rptr rr c=>obtain⟨b,off,g,e,hk⟩:=r;exact⟨b,off,g,e,fun k d hd=>⟨(hT _ _ _ (hk k d hd).2.1 (hk k d hd).1).1,(hT _ _ _ (hk k d hd).2.1 (hk k d hd).1).2,Rd.mono hT (hk k d hd).2.2⟩⟩
theorem Te(hT:∀b k v,T b k->w.cell? ⟨b,k,none⟩=some v->w'.cell? ⟨b,k,none⟩=some v/\T' b k)(hc:∀t j,t≠d->Cpt h h' ob eK t j)
  {xs:List At} (hx:Yb d xs=false) (r:YJ (YR T h ob w) xs vs):YJ (YR T' h' eK w') xs vs:=by
 induction r with
 |nil=>exact .nil
 |cons r _ ih=>simp only[Yb,Bool.or_eq_false_iff]at hx;exact .cons (YR.carry hT hc hx.1 r) (ih hx.2)
theorem K8.carry(hT:∀b k v,T b k->w.cell? ⟨b,k,none⟩=some v->w'.cell? ⟨b,k,none⟩=some v/\T' b k)(hc:∀t j,t≠d->Cpt h h' ob eK t j)
  {x:V} (hx:x.IU d=false) (r:K8 T h ob w x v):K8 T' h' eK w' x v:=by
 cases x with
 |any=>exact r
 |one x=>exact YR.carry hT hc hx r
 |agg xs=>obtain⟨cs,e,r⟩:=r;exact⟨cs,e,Te hT hc hx r⟩
 |tup xs=>exact r.elim
 |cnd g x=>exact r.elim
 |fix u x=>exact r.elim
theorem Qk.carry(hT:∀b k v,T b k->w.cell? ⟨b,k,none⟩=some v->w'.cell? ⟨b,k,none⟩=some v/\T' b k)(hc:∀t j,t≠d->Cpt h h' ob eK t j)
  {x:V} (hx:x.ref d=false) (r:Qk T h ob w x v):Qk T' h' eK w' x v:=by
 cases x with
 |any=>exact r
 |one x=>exact YR.carry hT hc hx r
 |agg xs=>obtain⟨cs,e,r⟩:=r;exact⟨cs,e,Te hT hc hx r⟩
 |tup xs=>
  obtain⟨vs,e,r⟩:=r;refine⟨vs,e,?_⟩;clear e;generalize vs.toList=vl at r;simp only[V.ref]at hx;induction r with
  |nil=>exact .nil
  |cons r _ ih=>simp only[Po,Bool.or_eq_false_iff]at hx;exact .cons (K8.carry hT hc hx.1 r) (ih hx.2)
 |cnd g x=>simp only[V.ref,Bool.or_eq_false_iff]at hx;exact⟨fun hg=>K8.carry hT hc hx.1 (r.1 hg),r.2⟩
 |fix u x=>simp only[V.ref,Bool.or_eq_false_iff]at hx;exact⟨r.1,K8.carry hT hc hx.1 r.2⟩
end
theorem Rel.Tlt(r:Rel T0 B σ a w X h){k:Nat}(hb:Tof T0 X b k):b<w.heap.size:=by
 rcases hb with hb|hb
 ·exact r.hB b (r.hT b k hb)
 ·exact(r.hX b hb).2
theorem jK{e:TypeId}{xs:List Value}(hb:∀b,blk v=some b->w'.heap[b]?=w.heap[b]?)(ho:w.ownsRow 0 e size v n xs):w'.ownsRow 0 e size v n xs:=by
 refine⟨ho.1,?_⟩;rcases ho.2 with hn|⟨g,cap,cur,rfl,h0,hg,rest⟩
 ·exact .inl hn
 ·exact .inr ⟨g,cap,cur,rfl,h0,by rw[hb g rfl];exact hg,rest⟩
theorem Own.Hf{d:D}(hb:∀b,S b->w'.heap[b]?=w.heap[b]?)(ho:Own w v d S):Own w' v d S:=by
 induction ho with
 |int k n S=>exact .int k n S
 |bool b S=>exact .bool b S
 |str s S=>exact .str s S
 |unk v h S=>exact .unk v h S
 |sl v size rows S e xs Sk ho hz hR hl hk hs hd ih=>exact .sl v size rows S e xs Sk (jK (fun b h=>hb b (hR b h)) ho) hz hR hl (fun k x d hx hJ=>ih k x d hx hJ (fun b h=>hb b (hs k b h).1)) hs hd
theorem Own.mono{d:D}{S':Nat->Prop}(hS:∀b,S b->S' b)(ho:Own w v d S):Own w v d S':=by
 cases ho with
 |int k n S=>exact .int k n S'
 |bool b S=>exact .bool b S'
 |str s S=>exact .str s S'
 |unk v h S=>exact .unk v h S'
 |sl v size rows S e xs Sk ho hz hR hl hk hs hd=>exact .sl v size rows S' e xs Sk ho hz (fun b h=>hS b (hR b h)) hl hk (fun k b h=>⟨hS b (hs k b h).1,(hs k b h).2⟩) hd
theorem KC.Hf{xs:List Value}(hb:∀b,S b->w'.heap[b]?=w.heap[b]?)(ho:KC w xs ds S):KC w' xs ds S:=by obtain⟨hl,Sk,h1,h2,h3⟩:=ho;exact⟨hl,Sk,fun k x d hx hd=>(h1 k x d hx hd).Hf (fun b h=>hb b (h2 k b h)),h2,h3⟩
theorem JZ.Hf{ob:Nat->Nat->Ob}{o:Ob}
  (hT:∀b k v,T b k->w.cell? ⟨b,k,none⟩=some v->w'.cell? ⟨b,k,none⟩=some v/\T' b k) (hc:∀t j,t≠d->Cpt h h' ob eK t j)
  (fE:o≠ .none->∀b,blk hd.v=some b->hd.u b) (hb:o≠ .none->∀b,hd.u b->w'.heap[b]?=w.heap[b]?) (hr:XB d [o]=false) (r:JZ T h ob w hd o):JZ T' h' eK w' hd o:=by
 cases o with
 |none=>trivial
 |box cells=>obtain⟨b,cs,e,hv,hh,ir⟩:=r;simp only[XB,Bool.or_false]at hr;exact⟨b,cs,e,hv,by rw[hb zAE b (fE zAE b (by rw[hv];rfl))];exact hh,Te hT hc hr ir⟩
 |arr q size rows=>
  have hk:∀{e:TypeId}{n:Nat}{xs:List Value},w.ownsRow 0 e size hd.v n xs->w'.ownsRow 0 e size hd.v n xs:=fun ho=>jK (fun b h=>hb zAE b (fE zAE b h)) ho;cases q with
  |false=>obtain⟨e,xs,ho,hz,ir⟩:=r;exact⟨e,xs,hk ho,hz,ir.imp fun _ _=>Rd.mono hT⟩
  |true=>obtain⟨e,xs,ho,hz,ir,hn⟩:=r;exact⟨e,xs,hk ho,hz,ir.Hf (fun b h=>hb zAE b h.1),hn⟩
 |lit size rows=>obtain⟨e,xs,ho,hz,ir⟩:=r;simp only[XB,Bool.or_false]at hr;exact⟨e,xs,jK (fun b h=>hb zAE b (fE zAE b h)) ho,hz,Te hT hc hr ir⟩
theorem St.si(hf:σ.fresh d=true)(t j:Nat)(ij:t≠d):XB d [σ.ob t j]=false:=by
 cases ho:σ.ob t j with
 |none=>rfl
 |box cells=>simp[XB,St.pz hf t j ij cells ho]
 |arr q size rows=>rfl
 |lit size rows=>simp only[XB,St.sk hf t j ij size rows ho,Bool.or_false]
theorem Rel.uv(r:Rel T0 B σ a w X h)(hf:σ.fresh d=true)(M:Nat->Prop)(g7:w.heap.size<=w'.heap.size)(hg:∀k,k<w.heap.size->¬M k->w'.heap[k]?=w.heap[k]?)
  (hm:∀b,M b->¬B b/\¬X b/\∀t j,t≠d->σ.ob t j≠ .none->¬(h t j).u b) (hX:∀b,X b->X' b) (bE:∀b,X' b->X b\/(w.heap.size<=b/\b<w'.heap.size))
  (v:V) (val:Value) (os:List Ob) (hd:Nat->Hd)
  (hv:Qk (Tof T0 X') (fun t j=>if t=d then hd j else h t j) (σ.new d v os).ob w' v val)
  (hos:∀j,JZ (Tof T0 X') (fun t j=>if t=d then hd j else h t j) (σ.new d v os).ob w' (hd j) (Yr os j))
  (fE:∀j b,Yr os j≠ .none->blk (hd j).v=some b->(hd j).u b)
  (iv:∀j b,Yr os j≠ .none->(hd j).u b->(w.heap.size<=b\/M b)/\¬X' b/\b<w'.heap.size)
  (az:∀j j' b,Yr os j≠ .none->Yr os j'≠ .none->(hd j).u b->(hd j').u b->j=j'):
  Rel T0 B (σ.new d v os) (a.put (some d) val) w' X' (fun t j=>if t=d then hd j else h t j):=by
 have hD:=St.zC hf;have hTm:∀b k,Tof T0 X b k->¬M b:=by
  intro b k hb hmb;rcases hb with hb|hb
  ·exact(hm b hmb).1 (r.hT b k hb)
  ·exact(hm b hmb).2.1 hb
 have hT:∀b k v,Tof T0 X b k->w.cell? ⟨b,k,none⟩=some v->w'.cell? ⟨b,k,none⟩=some v/\Tof T0 X' b k:=by intro b k v hb iz;refine⟨?_,hb.imp id (hX b)⟩;rw[World.cell?_of_block (hg b (r.Tlt hb) (hTm b k hb))];exact iz
 have hc:∀t j,t≠d->Cpt h (fun t j=>if t=d then hd j else h t j) σ.ob (σ.new d v os).ob t j:=by
  intro t j ij;have he:(σ.new d v os).ob t j=σ.ob t j:=zCJ
  exact Cpt.same (by simp[ij]) he
 refine⟨by simp[Act.put,r.size,St.Vw],r.defers,fun b hb=>Nat.lt_of_lt_of_le (r.hB b hb) g7,fun b hb=>?_,r.hT,fun t ht=>?_,fun t j=>?_,fun t j b ho hb=>?_,fun t j b ho hb=>?_,fun t j t' j' b ho gG hb hR=>?_⟩
 ·rcases bE b hb with hb|hb
  ·have:=r.hX b hb;exact⟨this.1,zAC⟩
  ·exact⟨fun er=>by have:=r.hB b er;omega,hb.2⟩
 ·rw[St.Vw]at ht;rw[St.TD];by_cases hJ:t=d
  ·subst hJ;simp only[hD,and_self,if_true];have:(a.tmps.setIfInBounds t val).getD t undef=val:=by simp[r.size,hD]
   simp only[Act.put,this];exact hv
  ·rw[if_neg (fun hh=>hJ hh.1)];have:(a.tmps.setIfInBounds d val).getD t undef=a.tmps.getD t undef:=by simp[Array.getElem?_setIfInBounds_ne (Ne.symm hJ)]
   simp only[Act.put,this];exact Qk.carry hT hc (St.rA hf t hJ) (r.slot t ht)
 ·rw[St.JN];by_cases hJ:t=d
  ·subst hJ;simp only[hD,and_self,if_true];exact hos j
  ·have ij:¬(t=d/\d<σ.length):=fun hh=>hJ hh.1;rw[if_neg ij];simp only[if_neg hJ];exact JZ.Hf hT hc (fun ho b=>r.ub t j b ho) (fun ho b hu=>hg b (r.own t j b ho hu).2.2 (fun hmb=>(hm b hmb).2.2 t j hJ ho hu)) (St.si hf t j hJ) (r.obj t j)
 ·rw[St.JN]at ho;by_cases hJ:t=d
  ·subst hJ;simp only[hD,and_self,if_true]at ho hb⊢;exact fE j b ho hb
  ·rw[if_neg (fun hh=>hJ hh.1)]at ho;simp only[hJ,if_false]at hb⊢;exact r.ub t j b ho hb
 ·rw[St.JN]at ho;by_cases hJ:t=d
  ·subst hJ;simp only[hD,and_self,if_true]at ho hb;have h1:=iv j b ho hb
   refine⟨?_,h1.2.1,h1.2.2⟩;rcases h1.1 with h2|h2
   ·exact fun er=>by have:=r.hB b er;omega
   ·exact(hm b h2).1
  ·rw[if_neg (fun hh=>hJ hh.1)]at ho;simp only[hJ,if_false]at hb;have:=r.own t j b ho hb
   refine⟨this.1,fun hx=>?_,zAC⟩;rcases bE b hx with hx|hx
   ·exact this.2.1 hx
   ·omega
 ·rw[St.JN]at ho gG;by_cases hd1:t=d
  ·by_cases cw:t'=d
   ·subst hd1;subst cw;simp only[hD,and_self,if_true]at ho hb gG hR;exact⟨rfl,az j j' b ho gG hb hR⟩
   ·subst hd1;simp only[hD,and_self,if_true]at ho hb;rw[if_neg (fun hh=>cw hh.1)]at gG;simp only[cw,if_false]at hR;have h1:=iv j b ho hb
    have h2:=r.own t' j' b gG hR;rcases h1.1 with h3|h3
    ·omega
    ·exact absurd hR ((hm b h3).2.2 t' j' cw gG)
  ·by_cases cw:t'=d
   ·subst cw;simp only[hD,and_self,if_true]at gG hR;rw[if_neg (fun hh=>hd1 hh.1)]at ho;simp only[hd1,if_false]at hb;have h1:=iv j' b gG hR
    have h2:=r.own t j b ho hb;rcases h1.1 with h3|h3
    ·omega
    ·exact absurd hb ((hm b h3).2.2 t j hd1 ho)
   ·rw[if_neg (fun hh=>hd1 hh.1)]at ho;rw[if_neg (fun hh=>cw hh.1)]at gG;simp only[hd1,cw,if_false]at hb hR;exact r.inj t j t' j' b ho gG hb hR
theorem Rel.new(r:Rel T0 B σ a w X h)(hf:σ.fresh d=true)(hg:w.grownBy w' none)(hX:∀b,X b->X' b)(bE:∀b,X' b->X b\/(w.heap.size<=b/\b<w'.heap.size))
  (v:V) (val:Value) (os:List Ob) (hd:Nat->Hd)
  (hv:Qk (Tof T0 X') (fun t j=>if t=d then hd j else h t j) (σ.new d v os).ob w' v val)
  (hos:∀j,JZ (Tof T0 X') (fun t j=>if t=d then hd j else h t j) (σ.new d v os).ob w' (hd j) (Yr os j))
  (fE:∀j b,Yr os j≠ .none->blk (hd j).v=some b->(hd j).u b)
  (iv:∀j b,Yr os j≠ .none->(hd j).u b->w.heap.size<=b/\¬X' b/\b<w'.heap.size)
  (az:∀j j' b,Yr os j≠ .none->Yr os j'≠ .none->(hd j).u b->(hd j').u b->j=j'):
  Rel T0 B (σ.new d v os) (a.put (some d) val) w' X' (fun t j=>if t=d then hd j else h t j):=
 r.uv hf (fun _=>False) hg.size (fun k hk _=>hg.block k hk zAE) (fun _ hh=>hh.elim) hX bE v val os hd hv hos fE (fun j b h1 h2=>⟨.inl (iv j b h1 h2).1,(iv j b h1 h2).2⟩) az
open Go.RowKit
def ye(v:Value)(cs:List Value):Prop:=(∃c,cs=[c]/\v=c/\c.oneCell'=true)\/(cs.length≠1/\v= .agg cs.toArray)
def N8:List Value->Value
 |[v]=>v
 |vs=>.tuple vs.toArray
def J0(T:CS)(w:World)(v:Value):D->Prop
 |.sl size rows=>∃e xs,w.ownsRow 0 e size v rows.length xs/\(∀r∈rows,r.length=size)/\YJ (Rd T w) xs rows.flatten
 |d=>Rd T w v d
def jB(own:Bool)(T:CS)(w:World)(v:Value)(d:D):Prop:=if own then J0 T w v d else Rd T w v d
def Rz(P:Program)(f:FuncId):Bool:=
 match P.funcs[f]? with
 | some fn => fn.body.isSome && fn.name != "runtime.NumGoroutine"
 |none=>false
def mZ(B N:Nat)(Y:Nat->Prop)(cs:List Value)(ds:List D):Prop:=
 (∀(i:Nat)(c:Value)(d:D)(b:Nat),cs[i]?=some c->ds[i]?=some d->d.scalar=false->blk c=some b->B<=b/\b<N/\¬Y b)/\
 (∀(i j:Nat)(c c':Value)(d d':D)(b:Nat),cs[i]?=some c->ds[i]?=some d->cs[j]?=some c'->ds[j]?=some d'->d.scalar=false->d'.scalar=false->blk c=some b->blk c'=some b->i=j)
def mW(own:Bool)(T:CS)(w:World)(res:List (List D))(e:Ending)(w':World):Prop:=
 ∃(vs:List Value)(gO:List (List Value))(Y:Nat->Prop),e= .returned (N8 vs)/\Below w.heap.size w w'/\(∀b,Y b->w.heap.size<=b/\b<w'.heap.size)/\
  YJ ye vs gO/\YJ (fun cs row=>YJ (jB own (Tof T Y) w') cs row) gO res/\(own=true->mZ w.heap.size w'.heap.size Y gO.flatten res.flatten)
def QX(P:Program)(f:FuncId)(own:Bool)(args res:List (List D)):Prop:=
 Rz P f=true/\∀(T:CS)(w:World)(gb:List Value),(∀b k,T b k->b<w.heap.size)->YJ (fun v row=>∃cs,ye v cs/\YJ (Rd T w) cs row) gb args->
  Calls P f gb.toArray w (mW own T w res)
def vOf:List At->V
 |[x]=>.one x
 |xs=>.agg xs
def Kg(t:Nat):Nat->List D->List At
 |_,[]=>[]
 |k,.sl _ rows::ds=>.sref t k 0 rows.length::Kg t (k+1) ds
 |k,d::ds=>.d d::Kg t (k+1) ds
def xj:List D->List Ob
 |[]=>[]
 |.sl size rows::ds=>.arr false size rows::xj ds
 |_::ds=>.none::xj ds
def AP(t:Nat):Nat->List (List D)->List V
 |_,[]=>[]
 |k,r::rs=>vOf (Kg t k r)::AP t (k+r.length) rs
def WM(t:Nat):List (List D)->V
 |[r]=>vOf (Kg t 0 r)
 |rs=>.tup (AP t 0 rs)
def qG:List (List D)->V
 |[r]=>vOf (r.map .d)
 |rs=>.tup (rs.map fun r=>vOf (r.map .d))
def yX(σ:St):At->Option D
 |.d x=>some x
 |.nil s=>some (.sl s [])
 |.sref t j lo len=>(match σ.ob t j with|.arr _ size rows=>some (.sl size (cut rows lo len))|_=>none)
 |_=>none
def rowOf(σ:St):List At->Option (List D)
 |[]=>some []
 |x::xs=>(match yX σ x,rowOf σ xs with|some d,some ds=>some (d::ds)|_,_=>none)
def V.zG(σ:St):V->Option (List D)
 |.one x=>rowOf σ [x]
 |.agg [_]=>none
 |.agg xs=>rowOf σ xs
 |_=>none
def Qb(P:Program)(σ:St):List Operand->List TypeId->List (List D)->Prop
 |[],_,rs=>rs=[]
 |x::xs,t::ts,rs=>gOf (look P σ t x)=true/\∃r rest,(unc (look P σ t x)).zG σ=some r/\Qb P σ xs ts rest/\rs=r::rest
 |_::_,[],_=>False
def At.wE:At->Bool
 |.sref _ _ _ _=>false
 |.tref _ _ _ _ _=>false
 |_=>true
def zS:List At->Bool
 |[]=>true
 |x::xs=>x.wE&&zS xs
def Yh(P:Program)(σ:St):List Operand->List TypeId->Bool
 |x::xs,t::ts=>zS (unc (look P σ t x)).cells&&Yh P σ xs ts
 |_,_=>true
theorem Rel.grow(r:Rel T0 B σ a w X h)(hg:w.grownBy w' none)(hX:∀b,X b->X' b)(bE:∀b,X' b->X b\/(w.heap.size<=b/\b<w'.heap.size)):Rel T0 B σ a w' X' h:=by
 have hT:∀b k v,Tof T0 X b k->w.cell? ⟨b,k,none⟩=some v->w'.cell? ⟨b,k,none⟩=some v/\Tof T0 X' b k:=by intro b k v hb iz;refine⟨?_,hb.imp id (hX b)⟩;rw[World.cell?_of_block (hg.block b (r.Tlt hb) zAE)];exact iz
 have hB:w.heap.size<=w'.heap.size:=hg.size;refine⟨r.size,r.defers,fun b hb=>Nat.lt_of_lt_of_le (r.hB b hb) hB,fun b hb=>?_,r.hT,fun t ht=>Qk.mono hT (r.slot t ht),fun t j=>?_,r.ub,fun t j b ho hb=>?_,r.inj⟩
 ·rcases bE b hb with hb|hb
  ·have:=r.hX b hb;exact⟨this.1,zAC⟩
  ·exact⟨fun er=>by have:=r.hB b er;omega,hb.2⟩
 ·have h0:=r.obj t j;have hk:σ.ob t j≠ .none->∀b,(h t j).u b->w'.heap[b]?=w.heap[b]?:=fun ho b hu=>hg.block b (r.own t j b ho hu).2.2 zAE;have hZ:=r.ub t j;cases ho:σ.ob t j with
  |none=>trivial
  |box cells=>rw[ho]at h0 hk hZ;obtain⟨b,cs,e,hv,hh,ir⟩:=h0;exact⟨b,cs,e,hv,by rw[hk zAE b (hZ b zAE (by rw[hv];rfl))];exact hh,ir.imp fun _ _=>YR.mono hT⟩
  |arr q size rows=>
   rw[ho]at h0 hk hZ;cases q with
   |false=>obtain⟨e,xs,eZ,hz,ir⟩:=h0;exact⟨e,xs,jK (fun b hb=>hk zAE b (hZ b zAE hb)) eZ,hz,ir.imp fun _ _=>Rd.mono hT⟩
   |true=>obtain⟨e,xs,eZ,hz,ir,hn⟩:=h0;exact⟨e,xs,jK (fun b hb=>hk zAE b (hZ b zAE hb)) eZ,hz,ir.Hf (fun b hb=>hk zAE b hb.1),hn⟩
  |lit size rows=>rw[ho]at h0 hk hZ;obtain⟨e,xs,eZ,hz,ir⟩:=h0;exact⟨e,xs,jK (fun b hb=>hk zAE b (hZ b zAE hb)) eZ,hz,ir.imp fun _ _=>YR.mono hT⟩
 ·have:=r.own t j b ho hb;refine⟨this.1,fun hx=>?_,zAC⟩;rcases bE b hx with hx|hx
  ·exact this.2.1 hx
  ·omega
def Lg(T0:CS)(X:Nat->Prop)(h:Nat->Nat->Hd)(σ:St):CS:=fun b k=>Tof T0 X b k\/∃t j q size rows,σ.ob t j= .arr q size rows/\(h t j).u b
theorem Rel.wK(r:Rel T0 B σ a w X h){k:Nat}(hb:Lg T0 X h σ b k):b<w.heap.size:=by
 rcases hb with hb|⟨t,j,q,size,rows,ho,hb⟩
 ·exact r.Tlt hb
 ·exact(r.own t j b zA9 hb).2.2
theorem tj{e:TypeId}{xs:List Value}(ho:w.ownsRow 0 e size v rows.length xs)(hz:∀r∈rows,r.length=size)(hT:∀b k,blk v=some b->T b k)
  (ir:YJ (Rd T w) xs rows.flatten):Rd T w v (.sl size rows):=by
 rcases ho.2 with⟨rfl,hn⟩|⟨g,cap,cur,rfl,_,hh,eW,eU,eT,et⟩
 ·have:rows=[]:=List.eq_nil_of_length_eq_zero hn;subst this;exact .nil _
 ·refine .sl ⟨g,0,none⟩ _ cap size rows (fun k=>(xs[k]?).getD undef) rfl eW eU hz (fun _=>rfl) (fun k d hd=>?_) (fun k d hd=>?_)
  ·obtain⟨u,hu,_⟩:=ir.get' k d hd;have hD:k<rows.length*size:=by have:=(List.getElem?_eq_some_iff.1 hd).1;rw[YV rows size hz]at this;exact this
   rw[hu];refine⟨?_,hT g _ rfl⟩;simp only[Nat.zero_add];refine zU hh _ _ ?_;rw[<-et,List.getElem?_take,if_pos hD]at hu;exact hu
  ·obtain⟨u,hu,hr⟩:=ir.get' k d hd;rw[hu];exact hr
theorem Own.rd{d:D}(ho:Own w v d S)(hT:∀b k,S b->T b k):Rd T w v d:=by
 induction ho with
 |int k n S=>exact .int k n
 |bool b S=>exact .bool b
 |str s S=>exact .str s
 |unk v h S=>exact .unk v h
 |sl v size rows S e xs Sk ho hz hR hl hk hs hd ih=>exact tj ho hz (fun b k hb=>hT b k (hR b hb)) (YJ.xm hl (fun k x d hx hJ=>ih k x d hx hJ (fun b k' hb=>hT b k' (hs k b hb).1)))
theorem KC.rd{xs:List Value}(ho:KC w xs ds S)(hT:∀b k,S b->T b k):YJ (Rd T w) xs ds:=by obtain⟨hl,Sk,h1,h2,h3⟩:=ho;exact YJ.xm hl (fun k x d hx hd=>(h1 k x d hx hd).rd (fun b k' hb=>hT b k' (h2 k b hb)))
theorem Rel.cells(r:Rel T0 B σ a w X h)(ho:σ.ob t j= .arr q size rows):
  ∃e xs,w.ownsRow 0 e size (h t j).v rows.length xs/\(∀r∈rows,r.length=size)/\∀T:CS,(∀b k,Tof T0 X b k->T b k)->(∀b k,(h t j).u b->T b k)->YJ (Rd T w) xs rows.flatten:=by
 have h0:=r.obj t j;rw[ho]at h0;cases q with
 |false=>obtain⟨e,xs,eZ,hz,ir⟩:=h0;exact⟨e,xs,eZ,hz,fun T h1 _=>ir.imp fun _ _=>Rd.mono (fun b k v hb hc=>⟨hc,h1 b k hb⟩)⟩
 |true=>obtain⟨e,xs,eZ,hz,ir,hn⟩:=h0;exact⟨e,xs,eZ,hz,fun T _ h2=>ir.rd (fun b k hb=>h2 b k hb.1)⟩
theorem Rel.th(r:Rel T0 B σ a w X h){lo:Nat}(ho:σ.ob t j= .arr q size rows)(hv:YR (Tof T0 X) h σ.ob w (.sref t j lo len) v)
  (T:CS) (hT1:∀b k,Tof T0 X b k->T b k) (hT2:∀b k,(h t j).u b->T b k):Rd T w v (.sl size (cut rows lo len)):=by
 obtain⟨hle,fc,_,base,cap,rfl,fS,hcm,dq,hb⟩:=hv.2.1 q size rows ho;obtain⟨e,xs,⟨hl,iv⟩,hz,hal0⟩:=r.cells ho;have ir:=hal0 T hT1 hT2
 have fE:=r.ub t j;have gM:(cut rows lo len).length=len:=XJ _ _ _ hle;have ev:∀x∈cut rows lo len,x.length=size:=fun x hx=>hz x (List.mem_of_mem_drop (List.mem_of_mem_take hx));by_cases gp:0<len
 ·obtain⟨b,dc,hh,rfl⟩:=hb gp;rcases iv with⟨hn,_⟩|⟨g,bn,cur,e9,_,hgg,eW,eU,eT,et⟩
  ·rw[hh]at hn;cases hn
  ·rw[hh]at e9;cases e9;have key:∀k d,(cut rows lo len).flatten[k]?=some d->∃u,w.cell? ⟨b,lo*size+k,none⟩=some u/\T b (lo*size+k)/\Rd T w u d:=by
    intro k d hd;have hJ:=WE rows size lo len hz k d hd
    obtain⟨u,hu,hr⟩:=ir.get' _ _ hJ;have hD:lo*size+k<rows.length*size:=by have:=(List.getElem?_eq_some_iff.1 hJ).1;rw[YV rows size hz]at this;exact this
    refine⟨u,zU hgg _ _ ?_,hT2 b _ (fE b zA9 (by rw[hh];rfl)),hr⟩;rw[<-et,List.getElem?_take,if_pos hD]at hu;exact hu
   refine .sl ⟨b,lo*size,none⟩ len cap size _ (fun k=>(w.cell? ⟨b,lo*size+k,none⟩).getD undef) gM fS hcm ev (fun _=>rfl) (fun k d hd=>?_) (fun k d hd=>?_)
   ·obtain⟨u,hu,ht,_⟩:=key k d hd;rw[hu];exact⟨rfl,ht⟩
   ·obtain⟨u,hu,_,hr⟩:=key k d hd;rw[hu];exact hr
 ·have h0':len=0:=zAC;subst h0';have dW:cut rows lo 0=[]:=by simp[cut]
  rw[dW];cases base with
  |none=>have:=dq rfl;subst this;exact .nil _
  |some ad=>exact .sl ad 0 cap size [] (fun _=>undef) rfl fS hcm (by intro r hr;cases hr) zAE zAE zAE
open Go.RowKit
def D.wv:D->Prop
 |.sl _ rows=>∀r∈rows,∀d∈r,d.scalar=true
 |_=>True
def Jv(own:Bool)(res:List (List D)):Prop:=∀r∈res,∀d∈r,if own=true then d.wv else d.scalar=true
theorem Rd.scalar{d:D}(hd:d.scalar=true)(r:Rd T w v d):Rd T' w v d:=by
 cases r with
 |int k n=>exact .int k n
 |bool b=>exact .bool b
 |str s=>exact .str s
 |unk v h=>exact .unk v h
 |nil=>cases hd
 |sl=>cases hd
theorem J0.flat{d:D}(hd:d.wv)(r:J0 T w v d):J0 T' w v d:=by
 cases d with
 |sl size rows=>
  obtain⟨e,xs,ho,hz,ir⟩:=r;refine⟨e,xs,ho,hz,?_⟩;refine YJ.xm ir.length (fun i x d hx hJ=>?_);obtain⟨d2,cw,hr⟩:=ir.get i x hx;rw[hJ]at cw;cases cw;have hm:d∈rows.flatten:=List.mem_of_getElem? hJ
  obtain⟨r0,dY,hdr⟩:=List.mem_flatten.1 hm;exact Rd.scalar (hd r0 dY d hdr) hr
 |int k n=>exact Rd.scalar rfl r
 |bool b=>exact Rd.scalar rfl r
 |str s=>exact Rd.scalar rfl r
 |unk=>exact Rd.scalar rfl r
theorem TO{e:TypeId}{xs:List Value}(ho:w.ownsRow 0 e size v n xs):pE v size n 0 n v:=by
 refine⟨zAC,fun _ _=>rfl,?_,?_⟩
 ·intro _;rcases ho.2 with⟨rfl,rfl⟩|⟨g,cap,cur,rfl,_⟩<;>rfl
 rcases ho.2 with⟨rfl,rfl⟩|⟨g,cap,cur,rfl,_,_,eW,eU,_,_⟩
 ·exact⟨none,0,rfl,zAC,by simp[maxLen],fun _=>rfl,fun hh=>zAC⟩
 ·exact⟨_,cap,rfl,eW,eU,(fun hh=>by cases hh),fun _=>⟨g,cap,rfl,zAE⟩⟩
theorem Jn{e:TypeId}{xs:List Value}(ho:w.ownsRow 0 e size v n xs):v.oneCell'=true:=by rcases ho.2 with⟨rfl,rfl⟩|⟨g,cap,cur,rfl,_⟩<;>rfl
theorem J0.X1{d:D}(r:J0 T w v d):v.oneCell'=true:=by
 cases d with
 |sl size rows=>obtain⟨e,xs,ho,_⟩:=r;exact Jn ho
 |int k n=>exact Rd.X1 r
 |bool b=>exact Rd.X1 r
 |str s=>exact Rd.X1 r
 |unk=>exact Rd.X1 r
theorem J0.rd{d:D}(r:J0 T w v d)(h1:∀b k,T b k->T' b k)(h2:d.scalar=false->∀b k,blk v=some b->T' b k):Rd T' w v d:=by
 cases d with
 |sl size rows=>
  obtain⟨e,xs,⟨hl,iv⟩,hz,ir⟩:=r;rcases iv with⟨rfl,hn⟩|⟨g,cap,cur,rfl,_,hh,eW,eU,eT,et⟩
  ·have:rows=[]:=List.eq_nil_of_length_eq_zero hn;subst this;exact .nil _
  ·refine .sl ⟨g,0,none⟩ _ cap size rows (fun k=>(xs[k]?).getD undef) rfl eW eU hz (fun _=>rfl) (fun k d hd=>?_) (fun k d hd=>?_)
   ·obtain⟨u,hu,_⟩:=ir.get' k d hd;have hD:k<rows.length*size:=by have:=(List.getElem?_eq_some_iff.1 hd).1;rw[YV rows size hz]at this;exact this
    rw[hu];refine⟨?_,h2 rfl g _ rfl⟩;simp only[Nat.zero_add];refine zU hh _ _ ?_;rw[<-et,List.getElem?_take,if_pos hD]at hu;exact hu
   ·obtain⟨u,hu,hr⟩:=ir.get' k d hd;rw[hu];exact Rd.mono (fun b k v hb hc=>⟨hc,h1 b k hb⟩) hr
 |int k n=>exact Rd.scalar rfl r
 |bool b=>exact Rd.scalar rfl r
 |str s=>exact Rd.scalar rfl r
 |unk=>exact Rd.scalar rfl r
theorem Rel.yX(r:Rel T0 B σ a w X h){x:At}{d:D}(hd:yX σ x=some d)(hv:YR (Tof T0 X) h σ.ob w x v)(st:Bool)(gH:st=true->x.wE=true):
  Rd (if st then Tof T0 X else Lg T0 X h σ) w v d:=by
 cases x with
 |d x=>simp[Vm.yX]at hd;subst hd;cases st<;>simp<;>first|exact hv|exact Rd.mono (fun b k v hb hc=>⟨hc,.inl hb⟩) hv
 |nil s=>simp[Vm.yX]at hd;subst hd;cases hv;exact .nil _
 |sref t j lo len=>
  cases st with
  |true=>have:=gH rfl;simp[At.wE]at this
  |false=>
   simp only[Vm.yX]at hd;split at hd
   ·rename_i q size rows ho;cases hd;exact r.th ho hv _ (fun b k hb=>.inl hb) (fun b k hb=>.inr ⟨t,j,_,size,rows,ho,hb⟩)
   ·cases hd
 |any=>simp[Vm.yX]at hd
 |ptr=>simp[Vm.yX]at hd
 |bptr=>simp[Vm.yX]at hd
 |fn=>simp[Vm.yX]at hd
 |rptr=>simp[Vm.yX]at hd
 |tref=>simp[Vm.yX]at hd
theorem Rel.rowOf(r:Rel T0 B σ a w X h)(st:Bool):∀{xs:List At}{vs:List Value}{ds:List D},rowOf σ xs=some ds->YJ (YR (Tof T0 X) h σ.ob w) xs vs->(st=true->zS xs=true)->
  YJ (Rd (if st then Tof T0 X else Lg T0 X h σ) w) vs ds
 |[],_,ds,hd,ir,_=>by cases ir;simp[Vm.rowOf]at hd;subst hd;exact .nil
 |x::xs,_,ds,hd,ir,gH=>by
  cases ir with
  |cons hx ir=>
   simp only[Vm.rowOf]at hd;split at hd
   ·rename_i d bk h1 h2;cases hd;refine .cons (r.yX h1 hx st (fun hs=>?_)) (Rel.rowOf r st h2 ir (fun hs=>?_))
    ·have:=gH hs;simp[zS]at this;exact this.1
    ·have:=gH hs;simp[zS]at this;exact this.2
   ·cases hd
theorem Rel.zG(r:Rel T0 B σ a w X h)(st:Bool){v:V}{row:List D}(hr:v.zG σ=some row)(hv:Qk (Tof T0 X) h σ.ob w v val)(gH:st=true->zS v.cells=true):
  ∃cs,ye val cs/\YJ (Rd (if st then Tof T0 X else Lg T0 X h σ) w) cs row:=by
 cases v with
 |one x=>exact⟨[val],.inl ⟨val,rfl,rfl,YR.X1 (show YR _ _ _ _ _ _ from hv)⟩,r.rowOf st (xs:=[x]) hr (.cons hv .nil) gH⟩
 |agg xs=>
  obtain⟨cs,rfl,ir⟩:=hv;have hl:=ir.length
  match xs,hr,ir,hl,gH with
  |[],hr,ir,hl,gH=>exact⟨cs.toList,.inr ⟨by rw[<-hl];simp,zAE⟩,r.rowOf st hr ir gH⟩
  |[_],hr,_,_,_=>simp[V.zG]at hr
  |x::y::xs,hr,ir,hl,gH=>exact⟨cs.toList,.inr ⟨by rw[<-hl];simp,zAE⟩,r.rowOf st hr ir gH⟩
 |any=>simp[V.zG]at hr
 |tup xs=>simp[V.zG]at hr
 |cnd g x=>simp[V.zG]at hr
 |fix u x=>simp[V.zG]at hr
theorem Rel.Qb(r:Rel T0 B σ a w X h)(st:Bool):∀{xs:List Operand}{ts:List TypeId}{rs:List (List D)},Qb P σ xs ts rs->(st=true->Yh P σ xs ts=true)->
  YJ (fun v row=>∃cs,ye v cs/\YJ (Rd (if st then Tof T0 X else Lg T0 X h σ) w) cs row) (xs.map a.eval) rs
 |[],_,rs,hr,_=>by cases hr;exact .nil
 |x::xs,[],rs,hr,_=>hr.elim
 |x::xs,t::ts,rs,hr,gH=>by
  obtain⟨hg,row,rest,h1,h2,rfl⟩:=hr;refine .cons (r.zG st h1 (r.arg t x rfl hg) (fun hs=>?_)) (Rel.Qb r st h2 (fun hs=>?_))
  ·have:=gH hs;simp[Yh]at this;exact this.1
  ·have:=gH hs;simp[Yh]at this;exact this.2
theorem T8{f:FuncId}(ig:o.op= .call c)(hc:c.callee= .value (.func f))(hf:Rz P f=true):(execOp a.eval o).run P w= .ok (.enter f (c.args.toList.map a.eval).toArray) w:=by
 unfold Rz at hf;split at hf
 ·rename_i fn hfn;simp only[Bool.and_eq_true,bne_iff_ne,ne_eq]at hf;obtain⟨cd,hb⟩:=Option.isSome_iff_exists.1 hf.1;obtain⟨callee,args,dm⟩:=c;simp only at hc;subst hc;have hm:(args.toList.map a.eval).toArray=args.map a.eval:=by apply Array.toList_inj.1;simp
  rw[hm];simp[execOp,ig,resolve,Act.eval,Deferred.ofValue,invoke,callFunc,hfn,hf.2,hb]
 ·cases hf
open Go.RowKit
variable{Q:Exit->Act->World->Prop}{K:Act->World->Prop}{gO:List (List Value)}
theorem Below.grownBy(hb:Below w.heap.size w w'):w.grownBy w' none:=⟨hb.os,hb.tape,hb.output,hb.size,fun k hk _=>hb.block k hk⟩
theorem Ei{ob:Nat->Nat->Ob}{xs:List At}(hf:ye v cs)(ir:YJ (YR T h ob w) xs cs):K8 T h ob w (vOf xs) v:=by
 have hl:=ir.length;rcases hf with⟨c,rfl,rfl,h1⟩|⟨ij,rfl⟩
 ·cases ir with
  |cons hx ir=>cases ir;exact hx
 ·match xs,ir,hl with
  |[],ir,_=>exact⟨_,rfl,by simpa using ir⟩
  |[x],ir,hl=>exact absurd hl.symm (by simpa using ij)
  |x::y::xs,ir,_=>exact⟨_,rfl,by simpa using ir⟩
theorem TV{ob:Nat->Nat->Ob}{row:List D}(ir:YJ (Rd T w) cs row):YJ (YR T h ob w) (row.map .d) cs:=by
 induction ir with
 |nil=>exact .nil
 |cons r _ ih=>exact .cons r ih
theorem u5{ob:Nat->Nat->Ob}(hf:YJ ye vs gO)(ir:YJ (fun cs row=>YJ (Rd T w) cs row) gO res):
  YJ (K8 T h ob w) (res.map fun r=>vOf (r.map .d)) vs:=by
 induction hf generalizing res with
 |nil=>cases ir;exact .nil
 |cons f _ ih=>cases ir with
  |cons r ir=>exact .cons (Ei f (TV r)) (ih ir)
theorem AH{ob:Nat->Nat->Ob}(hf:YJ ye vs gO)(ir:YJ (fun cs row=>YJ (Rd T w) cs row) gO res):
  Qk T h ob w (qG res) (N8 vs):=by
 have hl:=u5 (h:=h) (ob:=ob) hf ir;have h1:=hl.length;match res,vs,hl,h1 with
 |[r],[v],hl,_=>cases hl with|cons x _=>exact x.up
 |[],[],hl,_=>exact⟨_,rfl,by simpa using hl⟩
 |r::r'::rs,v::v'::vs,hl,_=>exact⟨_,rfl,by simpa using hl⟩
 |[],v::vs,_,h1=>simp at h1
 |[r],[],_,h1=>simp at h1
 |[r],v::v'::vs,_,h1=>simp at h1
 |r::r'::rs,[],_,h1=>simp at h1
 |r::r'::rs,[v],_,h1=>simp at h1
theorem Gw{α β:Type}{R S:α->β->Prop}{l:List (List α)}{m:List (List β)}(e8:∀(a:α)(b:β)(row:List β),row∈m->b∈row->R a b->S a b)(ir:YJ (fun x y=>YJ R x y) l m):YJ (fun x y=>YJ S x y) l m:=by
 induction ir with
 |nil=>exact .nil
 |@cons x y _ _ dk _ ih=>
  refine .cons ?_ (ih (fun a b row hr=>e8 a b row zCZ));have fF:∀b∈y,∀a,R a b->S a b:=fun b hb a hr=>e8 a b y zAE hb hr
  clear ih e8;induction dk with
  |nil=>exact .nil
  |cons r _ ih2=>exact .cons (fF _ zAE _ r) (ih2 (fun b hb=>fF b (by simp[hb])))
theorem TN(r:Rel T0 B σ a w X h){f:FuncId}{own:Bool}(ig:o.op= .call c)(hc:c.callee= .value (.func f))(hd:o.dst=some d)
  (iw:Qb P σ c.args.toList c.argTypes.toList rows) (st:Bool) (gH:st=true->Yh P σ c.args.toList c.argTypes.toList=true) (fL:st=false->Jv own res) (hs:QX P f own rows res)
  (hK:∀a' w',JV T0 B (σ.put d (qG res)) a' w'->XL B w w'->K a' w'):o.wp P a w K Q:=by
 unfold Oper.wp;rw[T8 ig hc hs.1,Oper.upon_enter];refine(hs.2 (if st then Tof T0 X else Lg T0 X h σ) w _ (fun b k hb=>?_) (r.Qb st iw gH)).mono ?_
 ·cases st
  ·exact r.wK hb
  ·exact r.Tlt hb
 ·rintro e w' ⟨vs,gO,Y,rfl,fu,hY,gW,eV,aX⟩;have bE:∀b,(X b\/(w.heap.size<=b/\b<w'.heap.size))->X b\/(w.heap.size<=b/\b<w'.heap.size):=fun b hb=>hb
  have r2:=r.grow (X':=fun b=>X b\/(w.heap.size<=b/\b<w'.heap.size)) (Below.grownBy fu) (fun b hb=>.inl hb) bE;have dE:YJ (fun cs row=>YJ (Rd (Tof T0 fun b=>X b\/(w.heap.size<=b/\b<w'.heap.size)) w') cs row) gO res:=by
   have fF:∀(i:Nat)(c:Value)(d:D),gO.flatten[i]?=some c->res.flatten[i]?=some d->own=true->d.scalar=false->∀b,blk c=some b->w.heap.size<=b/\b<w'.heap.size:=by
    intro i c d h1 h2 ho g9 b hb;have:=(aX ho).1 i c d b h1 h2 g9 hb
    exact⟨this.1,this.2.1⟩
   have conv:∀(c:Value)(d:D),(∀b,own=true->d.scalar=false->blk c=some b->w.heap.size<=b/\b<w'.heap.size)->(st=false->if own=true then d.wv else d.scalar=true)->
     jB own (Tof (if st then Tof T0 X else Lg T0 X h σ) Y) w' c d->Rd (Tof T0 fun b=>X b\/(w.heap.size<=b/\b<w'.heap.size)) w' c d:=by
    intro c d gL aj hr;cases own with
    |true=>
     have fG:J0 (Tof (if st then Tof T0 X else Lg T0 X h σ) Y) w' c d:=by simpa[jB]using hr
     cases st with
     |true=>
      refine J0.rd fG (fun b k hb=>?_) (fun g9 b k hb=>.inr (.inr (gL b rfl g9 hb)));rcases hb with hb|hb
      ·rcases(show Tof T0 X b k from by simpa using hb)with hb|hb
       ·exact .inl hb
       ·exact .inr (.inl hb)
      ·exact .inr (.inr (hY b hb))
     |false=>exact J0.rd (J0.flat (T':=fun _ _=>False) (by simpa using aj rfl) fG) (fun b k hb=>hb.elim) (fun g9 b k hb=>.inr (.inr (gL b rfl g9 hb)))
    |false=>
     have fG:Rd (Tof (if st then Tof T0 X else Lg T0 X h σ) Y) w' c d:=by simpa[jB]using hr
     cases st with
     |true=>
      refine Rd.mono (fun b k v hb hc=>⟨hc,?_⟩) fG;rcases hb with hb|hb
      ·rcases(show Tof T0 X b k from by simpa using hb)with hb|hb
       ·exact .inl hb
       ·exact .inr (.inl hb)
      ·exact .inr (.inr (hY b hb))
     |false=>exact Rd.scalar (by simpa using aj rfl) fG
   have go:∀(gO:List (List Value))(res:List (List D)),YJ (fun cs row=>YJ (jB own (Tof (if st then Tof T0 X else Lg T0 X h σ) Y) w') cs row) gO res->
     (∀(i:Nat)(c:Value)(d:D),gO.flatten[i]?=some c->res.flatten[i]?=some d->own=true->d.scalar=false->∀b,blk c=some b->w.heap.size<=b/\b<w'.heap.size)->
     (st=false->Jv own res)->YJ (fun cs row=>YJ (Rd (Tof T0 fun b=>X b\/(w.heap.size<=b/\b<w'.heap.size)) w') cs row) gO res:=by
    intro gO res ir;induction ir with
    |nil=>intro _ _;exact .nil
    |@cons cs row css' res' gN _ ih=>
     intro hm hf;have hlen:=gN.length
     refine .cons (YJ.xm hlen (fun i c d hc hJ=>?_)) (ih (fun i c d h1 h2=>?_) (fun hs r hr=>hf hs r zCZ))
     ·obtain⟨d2,cw,hr⟩:=gN.get i c hc;rw[hJ]at cw;cases cw;refine conv c d (fun b ho g9 hb=>hm i c d ?_ ?_ ho g9 b hb) (fun hs=>hf hs row zAE d (List.mem_of_getElem? hJ)) hr
      ·rw[List.flatten_cons,List.getElem?_append_left (List.getElem?_eq_some_iff.1 hc).1];exact hc
      ·rw[List.flatten_cons,List.getElem?_append_left (List.getElem?_eq_some_iff.1 hJ).1];exact hJ
     ·refine hm (cs.length+i) c d ?_ ?_
      ·rw[List.flatten_cons,List.getElem?_append_right zAC];simpa using h1
      ·rw[List.flatten_cons,List.getElem?_append_right zAC,hlen];simpa using h2
   exact go gO res eV fF fL
  rw[hd];exact hK _ _ ⟨_,_,r2.put d _ _ (AH gW dE)⟩ (XL.HV fu r.hB)
open Go.RowKit
theorem Oa:∀(ds:List D)(k:Nat),Yr (xj ds) k=(match ds[k]? with|some (.sl size rows)=>.arr false size rows|_=>.none)
 |[],k=>by simp[xj,Yr]
 |d::ds,0=>by cases d<;>simp[xj,Yr]
 |d::ds,k+1=>by have:=Oa ds k;cases d<;>simpa[xj,Yr]using this
def V5(T:CS)(w:World)(v:Value):D->Prop
 |.sl size rows=>∃e xs,w.ownsRow 0 e size v rows.length xs
 |d=>Rd T w v d
theorem J0.top{d:D}(r:J0 T w v d):V5 T w v d:=by
 cases d with
 |sl size rows=>obtain⟨e,xs,ho,_⟩:=r;exact⟨e,xs,ho⟩
 |int k n=>exact r
 |bool b=>exact r
 |str s=>exact r
 |unk=>exact r
theorem V5.X1{d:D}(r:V5 T w v d):v.oneCell'=true:=by
 cases d with
 |sl size rows=>obtain⟨e,xs,ho⟩:=r;exact Jn ho
 |int k n=>exact Rd.X1 r
 |bool b=>exact Rd.X1 r
 |str s=>exact Rd.X1 r
 |unk=>exact Rd.X1 r
theorem OP{T:CS}{ob:Nat->Nat->Ob}{t:Nat}:∀{ds:List D}{cs:List Value}{k:Nat},YJ (V5 T w) cs ds->
  (∀i size rows,ds[i]?=some (.sl size rows)->∃q,ob t (k+i)= .arr q size rows)->(∀i c,cs[i]?=some c->(h t (k+i)).v=c)->YJ (YR T h ob w) (Kg t k ds) cs
 |[],_,k,ir,_,_=>by cases ir;exact .nil
 |d::ds,_,k,ir,ho,hh=>by
  cases ir with
  |@cons c _ cs _ hc ir=>
   have ih:=OP (k:=k+1) ir (fun i size rows hi=>by have:=ho (i+1) size rows (by simpa using hi);rw[show k+1+i=k+(i+1)by omega];exact this)
    (fun i c' ga=>by have:=hh (i+1) c' (by simpa using ga);rw[show k+1+i=k+(i+1)by omega];exact this)
   cases d with
   |sl size rows=>
    obtain⟨q0,h0⟩:=ho 0 size rows zAE;have h1:=hh 0 c zAE
    rw[Nat.add_zero]at h0 h1;refine .cons ⟨V5.X1 hc,fun q' gB hO gG=>?_,fun gB hO gG=>by rw[h0]at gG;cases gG⟩ ih;rw[h0]at gG;cases gG;obtain⟨e,xs,iv⟩:=hc;rw[h1];exact TO iv
   |int k' n=>exact .cons hc ih
   |bool b=>exact .cons hc ih
   |str s=>exact .cons hc ih
   |unk=>exact .cons hc ih
theorem rJ{ob:Nat->Nat->Ob}(hf:YJ ye vs gO):∀{res:List (List D)}{k:Nat},YJ (fun cs row=>YJ (V5 T w) cs row) gO res->
  (∀i size rows,res.flatten[i]?=some (.sl size rows)->∃q,ob t (k+i)= .arr q size rows)->(∀i c,gO.flatten[i]?=some c->(h t (k+i)).v=c)->YJ (K8 T h ob w) (AP t k res) vs:=by
 induction hf with
 |nil=>intro res k ir _ _;cases ir;exact .nil
 |@cons v cs vs' css' f _ ih=>
  intro res k ir ho hh;cases ir with
  |@cons _ row _ res' r ir=>
   have hlen:=r.length;refine .cons (Ei f (OP r (fun i size rows hi=>ho i size rows ?_) (fun i c hc=>hh i c ?_))) (ih ir (fun i size rows hi=>?_) (fun i c hc=>?_))
   ·rw[List.flatten_cons,List.getElem?_append_left (List.getElem?_eq_some_iff.1 hi).1];exact hi
   ·rw[List.flatten_cons,List.getElem?_append_left (List.getElem?_eq_some_iff.1 hc).1];exact hc
   ·have:=ho (row.length+i) size rows (by rw[List.flatten_cons,List.getElem?_append_right zAC];simpa using hi);rw[Nat.add_assoc];exact this
   ·have:=hh (row.length+i) c (by rw[List.flatten_cons,List.getElem?_append_right zAC,<-hlen];simpa using hc);rw[Nat.add_assoc];exact this
theorem DR{ob:Nat->Nat->Ob}(hf:YJ ye vs gO)(ir:YJ (fun cs row=>YJ (V5 T w) cs row) gO res)
  (ho:∀i size rows,res.flatten[i]?=some (.sl size rows)->∃q,ob t i= .arr q size rows) (hh:∀i c,gO.flatten[i]?=some c->(h t i).v=c):Qk T h ob w (WM t res) (N8 vs):=by
 have hl:=rJ (k:=0) hf ir (by simpa using ho) (by simpa using hh);have h1:res.length=vs.length:=by rw[hf.length,ir.length]
 match res,vs,hl,h1 with
 |[r],[v],hl,_=>cases hl with|cons x _=>exact x.up
 |[],[],hl,_=>exact⟨_,rfl,by simpa using hl⟩
 |r::r'::rs,v::v'::vs,hl,_=>exact⟨_,rfl,by simpa using hl⟩
 |[],v::vs,_,h1=>simp at h1
 |[r],[],_,h1=>simp at h1
 |[r],v::v'::vs,_,h1=>simp at h1
 |r::r'::rs,[],_,h1=>simp at h1
 |r::r'::rs,[v],_,h1=>simp at h1
theorem q9{α β:Type}{R:α->β->Prop}{l:List (List α)}{m:List (List β)}(ir:YJ (fun x y=>YJ R x y) l m):YJ R l.flatten m.flatten:=by
 induction ir with
 |nil=>exact .nil
 |cons r _ ih=>rw[List.flatten_cons,List.flatten_cons];exact r.append ih
theorem LY(r:Rel T0 B σ a w X h){f:FuncId}(ig:o.op= .call c)(hc:c.callee= .value (.func f))(hd:o.dst=some d)(gj:σ.fresh d=true)
  (iw:Qb P σ c.args.toList c.argTypes.toList rows) (st:Bool) (gH:st=true->Yh P σ c.args.toList c.argTypes.toList=true) (fL:st=false->Jv true res) (hs:QX P f true rows res)
  (hK:∀a' w',JV T0 B (σ.new d (WM d res) (xj res.flatten)) a' w'->XL B w w'->K a' w'):o.wp P a w K Q:=by
 have hD:=St.zC gj;unfold Oper.wp;rw[T8 ig hc hs.1,Oper.upon_enter];refine(hs.2 (if st then Tof T0 X else Lg T0 X h σ) w _ (fun b k hb=>?_) (r.Qb st iw gH)).mono ?_
 ·cases st
  ·exact r.wK hb
  ·exact r.Tlt hb
 ·rintro e w' ⟨vs,gO,Y,rfl,fu,hY,gW,eV,aX⟩;have aX:=aX rfl
  have dE:YJ (fun cs row=>YJ (J0 (Tof T0 fun b=>X b\/Y b) w') cs row) gO res:=by
   refine Gw (fun c d row gN hdr hr=>?_) eV;have fG:J0 (Tof (if st then Tof T0 X else Lg T0 X h σ) Y) w' c d:=by simpa[jB]using hr
   cases st with
   |true=>
    have hT:∀b k,Tof (if true=true then Tof T0 X else Lg T0 X h σ) Y b k->Tof T0 (fun b=>X b\/Y b) b k:=by
     intro b k hb;rcases hb with hb|hb
     ·rcases(show Tof T0 X b k from by simpa using hb)with hb|hb
      ·exact .inl hb
      ·exact .inr (.inl hb)
     ·exact .inr (.inr hb)
    cases d with
    |sl size rows=>obtain⟨e,xs,ho,hz,ir⟩:=fG;exact⟨e,xs,ho,hz,ir.imp fun _ _=>Rd.mono (fun b k v hb hc=>⟨hc,hT b k hb⟩)⟩
    |int k n=>exact Rd.scalar rfl fG
    |bool b=>exact Rd.scalar rfl fG
    |str s=>exact Rd.scalar rfl fG
    |unk=>exact Rd.scalar rfl fG
   |false=>exact J0.flat (by simpa using fL rfl row gN d hdr) fG
  have fK:=q9 dE;rw[hd];refine hK _ _ ⟨fun b=>X b\/Y b,fun t j=>if t=d then Hd.of ((gO.flatten[j]?).getD undef)else h t j,?_⟩ (XL.HV fu r.hB);have iz:∀(j size:Nat)(rows:List (List D)),res.flatten[j]?=some (D.sl size rows)->∃c,gO.flatten[j]?=some c/\J0 (Tof T0 fun b=>X b\/Y b) w' c (D.sl size rows):=fun j size rows hj=>fK.get' j _ hj;have hZ:∀j,(σ.new d (WM d res) (xj res.flatten)).ob d j=Yr (xj res.flatten) j:=fun j=>by rw[St.JN];simp[hD]
  have hsl:∀j,Yr (xj res.flatten) j≠ .none->∃size rows,res.flatten[j]?=some (D.sl size rows):=by
   intro j ij;rw[Oa]at ij;split at ij
   ·rename_i size rows hj;exact⟨size,rows,hj⟩
   ·exact absurd rfl ij
  refine r.new gj (Below.grownBy fu) (fun b hb=>.inl hb) (fun b hb=>hb.imp id (fun hy=>hY b hy)) (WM d res) (N8 vs) (xj res.flatten) (fun j=>Hd.of ((gO.flatten[j]?).getD undef)) ?_ (fun j=>?_) (fun j b _ hb=>hb) (fun j b ij hb=>?_) (fun j j' b ij gf hb hR=>?_)
  ·refine DR gW (Gw (fun _ _ _ _ _ hr=>J0.top hr) dE) (fun i size rows hi=>⟨false,?_⟩) (fun i c hi=>by simp[hi,Hd.of]);rw[hZ,Oa,hi]
  ·rw[Oa];split
   ·rename_i size rows hj;obtain⟨c,ga,iv⟩:=iz j size rows hj;obtain⟨e,xs,ho,hz,ir⟩:=iv;exact⟨e,xs,by rw[ga];exact ho,hz,ir⟩
   ·trivial
  ·obtain⟨size,rows,hj⟩:=hsl j ij;obtain⟨c,ga,_⟩:=iz j size rows hj;have hR:blk c=some b:=by simpa[Hd.of,ga]using hb
   have:=aX.1 j c _ b ga hj rfl hR;refine⟨this.1,?_,this.2.1⟩;rintro(hx|hy)
   ·have:=r.hX b hx;omega
   ·exact this.2.2 hy
  ·obtain⟨size,rows,hj⟩:=hsl j ij;obtain⟨gB,hO,dL⟩:=hsl j' gf;obtain⟨c,ga,_⟩:=iz j size rows hj;obtain⟨c2,bF,_⟩:=iz j' gB hO dL;exact aX.2 j j' c c2 _ _ b ga hj bF dL rfl rfl (by simpa[Hd.of,ga]using hb) (by simpa[Hd.of,bF]using hR)
open Go.RowKit
theorem XL.PW(hg:w.grownBy w' none)(hB:∀b,B b->b<w.heap.size):XL B w w':=⟨hg.os,hg.tape,hg.output,hg.size,fun k hk=>hg.block k (hB k hk) zAE⟩
theorem Rel.p7(r:Rel T0 B σ a w X h)(hf:σ.fresh d=true)(cs:Array Value)(T:TypeId)(xs:List At)(hx:Yb d xs=false)(ir:YJ (YR (Tof T0 X) h σ.ob w) xs cs.toList):
  JV T0 B (σ.new d (.one (.bptr d 0)) [.box xs]) (a.put (some d) (.pointer (some ⟨w.heap.size,0,none⟩))) (w.alloc (.cells cs T))/\XL B w (w.alloc (.cells cs T)):=by
 have hg:=World.grownBy_alloc w (.cells cs T) none;have hD:=St.zC hf;have hT:∀b k v,Tof T0 X b k->w.cell? ⟨b,k,none⟩=some v->(w.alloc (.cells cs T)).cell? ⟨b,k,none⟩=some v/\Tof T0 X b k:=by intro b k v hb iz;refine⟨?_,hb⟩;rw[World.cell?_of_block (hg.block b (r.Tlt hb) zAE)];exact iz
 refine⟨⟨X,fun t j=>if t=d then Hd.of (.pointer (some ⟨w.heap.size,0,none⟩))else h t j,?_⟩,XL.PW hg r.hB⟩;have gy:(σ.new d (.one (.bptr d 0)) [.box xs]).ob d 0= .box xs:=zBQ
 have hc:∀t j,t≠d->Cpt h (fun t j=>if t=d then Hd.of (.pointer (some ⟨w.heap.size,0,none⟩))else h t j) σ.ob (σ.new d (.one (.bptr d 0)) [.box xs]).ob t j:=by
  intro t j ij;have he:(σ.new d (.one (.bptr d 0)) [.box xs]).ob t j=σ.ob t j:=zCJ
  exact Cpt.same (by simp[ij]) he
 refine r.new hf hg (fun _ hb=>hb) (fun _ hb=>.inl hb) _ _ [.box xs] (fun _=>Hd.of (.pointer (some ⟨w.heap.size,0,none⟩))) ?_ (fun j=>?_) (fun j b _ hb=>hb) (fun j b _ hb=>?_) (fun j j' b ij gf _ _=>?_)
 ·exact⟨rfl,fun cells _=>⟨w.heap.size,by simp[Hd.of],rfl⟩⟩
 ·cases j with
  |zero=>refine⟨w.heap.size,cs,T,rfl,?_,Te hT hc hx ir⟩;exact heap_alloc_new w _
  |succ j=>simp[Yr,JZ]
 ·simp[Hd.of,blk]at hb;subst hb;refine⟨Nat.le_refl _,fun cL=>?_,zAE⟩;have:=(r.hX _ cL).2;omega
 ·have:∀j,Yr [Ob.box xs] j≠ .none->j=0:=by
   intro j hj;cases j with
   |zero=>rfl
   |succ j=>simp[Yr]at hj
  rw[this j ij,this j' gf]
theorem Rel.rz(r:Rel T0 B σ a w X h)(hf:σ.fresh d=true)(hg:w.grownBy w' none)(v:Value)
  (ho:J0 (Tof T0 X) w' v (.sl size rows)) (hb:∀b,blk v=some b->w.heap.size<=b/\b<w'.heap.size):
  JV T0 B (σ.new d (.one (.sref d 0 0 rows.length)) [.arr false size rows]) (a.put (some d) v) w'/\XL B w w':=by
 have hD:=St.zC hf;refine⟨⟨X,fun t j=>if t=d then Hd.of v else h t j,?_⟩,XL.PW hg r.hB⟩;have gy:(σ.new d (.one (.sref d 0 0 rows.length)) [.arr false size rows]).ob d 0= .arr false size rows:=zBQ;obtain⟨e,xs,iv,hz,ir⟩:=ho;refine r.new hf hg (fun _ hb=>hb) (fun _ hb=>.inl hb) _ _ [.arr false size rows] (fun _=>Hd.of v) ?_ (fun j=>?_) (fun j b _ hb=>hb) (fun j b _ hR=>?_) (fun j j' b ij gf _ _=>?_)
 ·refine⟨Jn iv,fun q' gB hO gG=>?_,fun gB hO gG=>by rw[gy]at gG;cases gG⟩;rw[gy]at gG;cases gG;simp only[if_true];exact TO iv
 ·cases j with
  |zero=>exact⟨e,xs,iv,hz,ir⟩
  |succ j=>simp[Yr,JZ]
 ·have:=hb b hR;refine⟨this.1,fun cL=>?_,this.2⟩;have:=(r.hX _ cL).2;omega
 ·have:∀j,Yr [Ob.arr false size rows] j≠ .none->j=0:=by
   intro j hj;cases j with
   |zero=>rfl
   |succ j=>simp[Yr]at hj
  rw[this j ij,this j' gf]
theorem Rel.ot(r:Rel T0 B σ a w X h)(hf:σ.fresh d=true)(hg:w.grownBy w' none)(v:Value){e:TypeId}{xs:List Value}
  (iv:w'.ownsRow 0 e size v rows.length xs) (hz:∀r∈rows,r.length=size) (ir:KC w' xs rows.flatten (fun _=>False)) (hb:∀b,blk v=some b->w.heap.size<=b/\b<w'.heap.size):
  JV T0 B (σ.new d (.one (.sref d 0 0 rows.length)) [.arr true size rows]) (a.put (some d) v) w'/\XL B w w':=by
 have hD:=St.zC hf;refine⟨⟨X,fun t j=>if t=d then⟨v,fun k=>(xs[k]?).getD undef,fun b=>blk v=some b⟩else h t j,?_⟩,XL.PW hg r.hB⟩;have gy:(σ.new d (.one (.sref d 0 0 rows.length)) [.arr true size rows]).ob d 0= .arr true size rows:=zBQ;refine r.new hf hg (fun _ hb=>hb) (fun _ hb=>.inl hb) _ _ [.arr true size rows] (fun _=>⟨v,fun k=>(xs[k]?).getD undef,fun b=>blk v=some b⟩) ?_ (fun j=>?_) (fun j b _ hb=>hb) (fun j b _ hR=>?_) (fun j j' b ij gf _ _=>?_)
 ·refine⟨Jn iv,fun q' gB hO gG=>?_,fun gB hO gG=>by rw[gy]at gG;cases gG⟩;rw[gy]at gG;cases gG;simp only[if_true];exact TO iv
 ·cases j with
  |zero=>obtain⟨hl,Sk,h1,h2,h3⟩:=ir;exact⟨e,xs,iv,hz,⟨hl,Sk,h1,fun k b hk=>(h2 k b hk).elim,h3⟩,fun k x d hx _ _=>by simp[hx]⟩
  |succ j=>simp[Yr,JZ]
 ·have:=hb b hR;refine⟨this.1,fun cL=>?_,this.2⟩;have:=(r.hX _ cL).2;omega
 ·have:∀j,Yr [Ob.arr true size rows] j≠ .none->j=0:=by
   intro j hj;cases j with
   |zero=>rfl
   |succ j=>simp[Yr]at hj
  rw[this j ij,this j' gf]
theorem vk(r:Rel T0 B σ a w X h){T:TypeId}{row:List At}(ig:o.op= .alloc T)(hd:o.dst=some d)(hf:σ.fresh d=true)(hz:QE P T=true)(ep:UD P 12 T=some row)(gN:Yb d row=false)
  (hK:∀a' w',JV T0 B (σ.new d (.one (.bptr d 0)) [.box row]) a' w'->XL B w w'->K a' w'):o.wp P a w K Q:=by
 obtain⟨i,z,hi,hzv,g7,ir⟩:=CK hz ep;have gA:(execOp a.eval o).run P w= .ok (.value (.pointer (some ⟨w.heap.size,0,none⟩))) (w.alloc (.cells z.cells T)):=by simp[execOp,ig,Instr.alloc,zeroValue,typeInfo,hi,hzv,newVar,newRow]
 unfold Oper.wp;rw[gA,Oper.upon_value,hd];have:=r.p7 hf z.cells T row gN (ir _ _ _ _)
 exact hK _ _ this.1 this.2
theorem s6(r:Rel T0 B σ a w X h){T:TypeId}(ig:o.op= .box T x)(hd:o.dst=some d)(hf:σ.fresh d=true)(hg:gOf (look P σ T x)=true)(fL:(unc (look P σ T x)).flat=true)(gN:Yb d (unc (look P σ T x)).cells=false)
  (hK:∀a' w',JV T0 B (σ.new d (.one (.bptr d 0)) [.box (unc (look P σ T x)).cells]) a' w'->XL B w w'->K a' w'):o.wp P a w K Q:=by
 have ir:=UL fL (r.arg (P:=P) T x rfl hg);have gA:(execOp a.eval o).run P w= .ok (.value (.pointer (some ⟨w.heap.size,0,none⟩))) (w.alloc (.cells (a.eval x).cells T)):=by simp[execOp,ig,Instr.box,newVar,newRow]
 unfold Oper.wp;rw[gA,Oper.upon_value,hd];have:=r.p7 hf (a.eval x).cells T _ gN ir
 exact hK _ _ this.1 this.2
end Go.Vm
