/- An abstract machine M1 the model of Go, by value, and that it is sound: part Va. No condition. -/
import Derived.WalkKit
import Derived.Below
set_option linter.unusedVariables false
set_option linter.unusedSimpArgs false
namespace Go.Vm
theorem zAA{p:Prop}(h:p:=by first|with_reducible exact ZH (n:=40) (by decide) (ZS (n:=40) (a0:=a0) (by decide)).1|with_reducible exact ZH (n:=40) (by decide) (KU (ZS (n:=40) (a0:=a0) (by decide)).2)|with_reducible exact ZH (n:=40) (by decide) (zC (ZS (n:=40) (a0:=a0) (by decide)).2)|with_reducible exact ZH (by decide) Ya|with_reducible exact ZH (by decide) QJ|with_reducible exact ZH (n:=40) (by decide) QW|with_reducible exact ZH (n:=80) (by decide) Z3.1|with_reducible exact ZH (n:=80) (by decide) Z3.2.1|with_reducible exact ZH (n:=40) (by decide) (ZS (n:=40) (a0:=a0) (by decide)).2):p:=h
theorem zAB{p:Prop}(h:p:=by(first|exact sg (Yz (n:=2281472) (by decide))|exact sg u0|exact sg u1|exact sg u2|exact u3|exact sg (Zb.Xd u0)|exact sg (Zb.X6 u0)|exact sg (Za (K:=2281472) u1 u3 (by decide))|exact sg (Yq (Za (K:=2281472) u1 u3 (by decide)))|exact sg (Y1 (Za (K:=2281472) u1 u3 (by decide))))):p:=h
theorem zAC{p:Prop}(h:p:=by(first|(exact⟨Nat.zero_le _,fun _ _=>trivial⟩)|(refine ZN (n:=2322432) ?_;exact⟨Nat.zero_le _,fun _ _=>trivial⟩)|(refine ZN (n:=2322432) (ZN (n:=2322432-1) ?_);exact⟨Nat.zero_le _,fun _ _=>trivial⟩)|(refine ZH (n:=3) (by decide) (ZN (ZN (ZN (n:=0) ?_)));exact⟨Nat.zero_le _,fun _ _=>trivial⟩)|(refine ZH (n:=2) (by decide) (ZN (ZN (n:=0) ?_));exact⟨Nat.zero_le _,fun _ _=>trivial⟩)|(refine ZH (n:=1) (by decide) (ZN (n:=0) ?_);exact⟨Nat.zero_le _,fun _ _=>trivial⟩))):p:=h
theorem zAD{p:Prop}(h:p:=by omega):p:=h
theorem zAE{p:Prop}(h:p:=by decide):p:=h
theorem zAF{p:Prop}(h:p:=by first|omega|(have z:=Tq (a0:=a0) (k:=5) (m:=((ZA a0).2.length:Int)) (YX u0) (by decide) (by decide) (by simp_all);omega)|(have vf:=Xq (w:=(ZI (ZA a0).1 ((ZA a0).2.take (Int.tmod (XO a0 5) ((ZA a0).2.length:Int)).toNat))) (k:=J) (by first|assumption|omega|(simp at*;omega));have fi:=Ym (ZI (ZA a0).1 ((ZA a0).2.take (Int.tmod (XO a0 5) ((ZA a0).2.length:Int)).toNat)) (nth (Zd (ZI (ZA a0).1 ((ZA a0).2.take (Int.tmod (XO a0 5) ((ZA a0).2.length:Int)).toNat))) J) vf;(try dsimp only at fi vf);omega)|(have vf:=Xq (w:=(ZI (ZA a0).1 [])) (k:=nc) (by first|assumption|omega|(simp at*;omega));have fi:=Ym (ZI (ZA a0).1 []) (nth (Zd (ZI (ZA a0).1 [])) nc) vf;(try dsimp only at fi vf);omega)):p:=h
theorem zAG{p:Prop}(h:p:=by simp):p:=h
theorem zAI{p:Prop}(h:p:=by(first|exact sg u0|exact sg (ZR.zt u1)|exact sg (n:=2097152) (show Sm 2097152 (YB.mk [a1.ZK] [])from⟨⟨Nat.le_of_ble_eq_true rfl,fun x hx=>by rcases List.mem_cons.1 hx with rfl|hx;exact ZR.Yv u1;cases hx⟩,⟨Nat.zero_le _,fun x hx=>by cases hx⟩⟩)|exact(show a1.ZK.ZM.length+0<=2097152 from YX (ZX.QE (ZR.Yv u1)))|exact sg u1)):p:=h
theorem zAJ{p:Prop}(h:p:=by(have z:=Zj a0;simp_all;done)):p:=h
theorem zAK{p:Prop}(h:p:=by first|omega|(have fi:=XY a0 a1 (by first|omega|(simp at*;omega));omega)|(simp only[Bool.or_eq_false_iff,decide_eq_false_iff_not]at*;omega)|(have z:=Zi G;(try simp only[]at z);omega)|(have z:=Zi G.1;(try simp only[]at z);omega)|(have z:=Zi G.2;(try simp only[]at z);omega)|(have z:=Zi G.2.1;(try simp only[]at z);omega)|(have z:=Zi G.2.2;(try simp only[]at z);omega)|(have z:=Zi G.1.2;(try simp only[]at z);omega)|(have z:=Zi G.2.2.2;(try simp only[]at z);omega)):p:=h
theorem zAL{p:Prop}(h:p:=by have:=KC a0.Frame.Z0 (nth a0.Zf (YE a0.Zf (Zl (nth (nth (nth a0.ZB (ZJ a0 a1).1.toNat).ZC (ZJ a0 a1).2.toNat).ZK.ZM 1)).1.Zc).toNat).YA;first|omega|(have fi:=XY a0 a1 (by first|omega|(simp at*;omega));omega)|(simp only[Bool.or_eq_false_iff,decide_eq_false_iff_not]at*;omega)|(have z:=Zi G;(try simp only[]at z);omega)|(have z:=Zi G.1;(try simp only[]at z);omega)|(have z:=Zi G.2;(try simp only[]at z);omega)|(have z:=Zi G.2.1;(try simp only[]at z);omega)|(have z:=Zi G.2.2;(try simp only[]at z);omega)|(have z:=Zi G.1.2;(try simp only[]at z);omega)|(have z:=Zi G.2.2.2;(try simp only[]at z);omega)):p:=h
theorem zAM{p:Prop}(h:p:=by first|(simp(maxDischargeDepth:=12) [XH];omega)|(simp(maxDischargeDepth:=12) [ZH (m:=68719476736) (by decide) u0];done)):p:=h
theorem zAN{p:Prop}(h:p:=by(first|exact sg u0|exact sg u1|exact sg u2|exact sg (Zb.Xd u0)|exact sg j2.2.2.2.2|exact sg (Zn j2.2.2.2.2)|exact sg (Zn (ZX.QE (Zn (YB.Qi u1)))))):p:=h
theorem zAO{p:Prop}(h:p:=by first|(simp;done)|(simp[G];done)|(simp[G];omega)|(simp_all;done)):p:=h
theorem zAP{p:Prop}(h:p:=by have:=TJ a0.Zf (Zl (nth (nth (nth a0.ZB (ZJ a0 a1).1.toNat).ZC (ZJ a0 a1).2.toNat).ZK.ZM 1)).1.Zc;first|omega|(have fi:=XY a0 a1 (by first|omega|(simp at*;omega));omega)|(simp only[Bool.or_eq_false_iff,decide_eq_false_iff_not]at*;omega)|(have z:=Zi G;(try simp only[]at z);omega)|(have z:=Zi G.1;(try simp only[]at z);omega)|(have z:=Zi G.2;(try simp only[]at z);omega)|(have z:=Zi G.2.1;(try simp only[]at z);omega)|(have z:=Zi G.2.2;(try simp only[]at z);omega)|(have z:=Zi G.1.2;(try simp only[]at z);omega)|(have z:=Zi G.2.2.2;(try simp only[]at z);omega)):p:=h
theorem zAQ{p:Prop}(h:p:=by(first|(exact Kq (s:=(nth a0.ZC U).ZK) (by decide) (show Sm 2314240 _ by simp(maxDischargeDepth:=12) [u0]) (by simp))|(refine qv ?_;exact Kq (s:=(nth a0.ZC U).ZK) (by decide) (show Sm 2314240 _ by simp(maxDischargeDepth:=12) [u0]) (by simp))|(exact ZH (n:=2314240) (by decide) (xs u0)))):p:=h
theorem zAR{p:Prop}(h:p:=by first|(simp(maxDischargeDepth:=12) [XH];omega)|(simp(maxDischargeDepth:=12) [ZH (m:=2322432) (by decide) u0];done)):p:=h
theorem zAS{p:Prop}(h:p:=by(have cc:a0.ZQ.length<=2318336:=YX (xs u0);have z0:=l3;simp at z0;have z:=qo (by omega) z0.1;have z2:=z0.2;(try have w3:IntKind.i64.wrap (a2-1)=a2-1:=YZ (by omega) (by omega));(try have w4:W (a2-1)=a2-1:=w3);omega)):p:=h
theorem zAT{p:Prop}(h:p:=by(have cc:a0.ZQ.length<=2318336:=YX (xs u0);have z0:=l3;simp at z0;have z:=UI (by omega) z0.1;have z2:=z0.2;(try have w3:IntKind.i64.wrap (a2-1)=a2-1:=YZ (by omega) (by omega));(try have w4:W (a2-1)=a2-1:=w3);omega)):p:=h
theorem zAU{p:Prop}(h:p:=by first|omega|(have f0:0<=(ZJ a0 a1).1:=(by first|omega|(simp at*;omega));have fi:=XY a0 a1 f0;omega)|(have f0:0<=(ZJ a0 a1).1:=(by first|omega|(simp at*;omega));have fi:=XY a0 a1 f0;have ll:=qw (nth a0.ZB (ZJ a0 a1).1.toNat) (Zq a0.Frame.Methods a0.Frame.Now);omega)):p:=h
theorem zAW{p:Prop}(h:p:=by first|with_reducible exact ZH (n:=160) (by decide) (Z3 (a0:=a0)).2.2|with_reducible exact ZH (n:=160) (by decide) (xw (a0:=a0))):p:=h
theorem zAX{p:Prop}(h:p:=by first|with_reducible exact ZH (by decide) Ya|with_reducible exact ZH (by decide) Z3.1|with_reducible exact Nat.le_trans (Rg Ya) (by decide)|with_reducible exact Nat.le_trans (Rg Z3.1) (by decide)):p:=h
theorem zAY{p:Prop}(h:p:=by first|omega|(simp;done)|(simp;omega)):p:=h
theorem zAZ{p:Prop}(h:p:=by first|omega|(simp at*;omega)):p:=h
theorem zAa{p:Prop}(h:p:=by first|rfl|trivial):p:=h
theorem zAb{p:Prop}(h:p:=by simp[Op.operands]):p:=h
theorem zAc{p:Prop}(h:p:=by(first|exact sg u0|exact sg u1|exact sg u2|exact u3|exact sg (JK (n:=2277376) u1))):p:=h
theorem zAd{p:Prop}(h:p:=by first|with_reducible exact ZH (by decide) (ZR.Yv (Zn (ZE.YC (Zn (ZG.Z5 Ya)))))|with_reducible exact ZH (by decide) (ZR.Yv (Zn (ZE.YC (Zn (ZG.Z5 Z3.1)))))):p:=h
theorem zAe{p:Prop}(h:p:=by simp[w1]):p:=h
theorem zAf{p:Prop}(h:p:=by first|assumption|omega|(simp at*;omega)):p:=h
theorem zAg{p:Prop}(h:p:=by first|(exact ZH (n:=2314240) (by decide) (xs (an u0 u1)))|(exact ZH (n:=2314240) (by decide) (qK (xs (an u0 u1)) (by decide)))):p:=h
theorem zAh{p:Prop}(h:p:=by have:=JH a0.Frame.ZD (nth a2 nc);first|omega|(have z:=Jr (a0:=a0) (a1:=a2) (j:=U) (by have z1:=h1;simp at z1;simp[z1]) (by omega);omega)|(have z:=Jr (a0:=a0) (a1:=a2) (j:=nc) (by have z1:=h1;simp at z1;simp[z1]) (by omega);omega)):p:=h
theorem zAi{p:Prop}(h:p:=by have:=JH a0.Frame.ZD (nth a2 U);first|omega|(have z:=Jr (a0:=a0) (a1:=a2) (j:=U) (by have z1:=h1;simp at z1;simp[z1]) (by omega);omega)|(have z:=Jr (a0:=a0) (a1:=a2) (j:=nc) (by have z1:=h1;simp at z1;simp[z1]) (by omega);omega)):p:=h
theorem zAj{p:Prop}(h:p:=by first|(exact ZH (n:=2310144) (by decide) (xs (an u0 u1)))|(exact ZH (n:=2310144+1) (by decide) (Kv (n:=2310144) (xs (an u0 u1)) (xs (an u0 u1)) (by decide)))):p:=h
theorem zAk{p:Prop}(h:p:=by simp(maxDischargeDepth:=12) [XH];try omega):p:=h
theorem zAl{p:Prop}(h:p:=by first|omega|(have fi:=Ym a0 a1 (by first|omega|(simp at*;omega));omega)|(simp only[Bool.or_eq_false_iff,decide_eq_false_iff_not]at*;omega)):p:=h
theorem zAm{p:Prop}(h:p:=by(have mm:a1.ZQ.length<=2306048:=YX (xs u1);(try simp[ZZ]at q1);have ww:=GH a1.ZQ.length (by omega);first|omega|((try rw[ww]at q1);(try rw[ww]at q2);have w3:W (a2+1)=a2+1:=YZ (by omega) (by omega);omega))):p:=h
theorem zAn{p:Prop}(h:p:=by first|omega|(have fi:=XY a0 a1 (by first|omega|(simp at*;omega));omega)|(simp only[Bool.or_eq_false_iff,decide_eq_false_iff_not]at*;omega)):p:=h
theorem zAo{p:Prop}(h:p:=by have z1:=h1;simp at z1;simp[z1]):p:=h
theorem zAp{p:Prop}(h:p:=by(have z:=Xr a0;simp_all;done)):p:=h
theorem zAq{p:Prop}(h:p:=by injection mQ with mQ;injection mQ with mQ;injection mQ with mQ;exact mQ.symm):p:=h
theorem zAr{p:Prop}(h:p:=by first|omega|(have tm:=Int.tmod_eq_emod_of_nonneg (b:=2) (show 0<=U by omega);(try simp only[Yw,show ∀x,IntKind.i64.wrap x=W x from fun _=>rfl]at*);(try simp at*);omega)):p:=h
theorem zAs{p:Prop}(h:p:=by first|omega|(have tm:=Int.tmod_eq_emod_of_nonneg (b:=2) (show 0<=J by omega);(try simp only[Yw,show ∀x,IntKind.i64.wrap x=W x from fun _=>rfl]at*);(try simp at*);omega)):p:=h
theorem zAu{p:Prop}(h:p:=by simp[List.getD_eq_getElem?_getD,List.getElem?_eq_getElem hi]):p:=h
theorem zAv{p:Prop}(h:p:=by first|omega|(simp;omega)):p:=h
theorem zAw{p:Prop}(h:p:=by rw[ho];simp):p:=h
theorem zAx{p:Prop}(h:p:=by simp;omega):p:=h
theorem zAy{p:Prop}(h:p:=by simp[At.ref]):p:=h
theorem zAz{p:Prop}(h:p:=by first|with_reducible exact ZH (by decide) (zJ (ZR.Yv (Zn (ZE.YC (Zn (ZG.Z5 Ya))))))|with_reducible exact ZH (by decide) (zJ (ZR.Yv (Zn (ZE.YC (Zn (ZG.Z5 Z3.1))))))):p:=h
theorem zA0{p:Prop}(h:p:=by first|(have fl:=Jl a0;have fm:=YX (Zb.XJ (ZG.Xk u0));simp[XH];omega)|(refine ZH (n:=2314240) (by decide) ?_;simp(maxDischargeDepth:=12) [u0];done)):p:=h
theorem zA1{p:Prop}(h:p:=by first|(have fl:=Kf a0;have fm:=YX (Zb.XJ (ZG.Xk u0));simp[XH];omega)|(refine ZH (n:=2310144) (by decide) ?_;simp(maxDischargeDepth:=12) [u0];done)):p:=h
theorem zA2{p:Prop}(h:p:=by first|exact sg (Zn u1)|(have hl:=YX u1;exact ZH (n:=1048576+J) (by omega) j1.2.2.2)|exact sg u0):p:=h
theorem zA3{p:Prop}(h:p:=by simp only[Yw];omega):p:=h
theorem zA4{p:Prop}(h:p:=by first|with_reducible exact ZH (by decide) (ZR.zt (Zn (ZE.YC (Zn (ZG.Z5 Ya)))))|with_reducible exact ZH (by decide) (ZR.zt (Zn (ZE.YC (Zn (ZG.Z5 Z3.1)))))):p:=h
theorem zA5{p:Prop}(h:p:=by first|(exact ZH (n:=2310144) (by decide) (xs (an u0 u1)))|(exact ZH (by decide) (Kv (n:=2310144) (xs (an u0 u1)) (xs (an u0 u1)) (by decide)))):p:=h
theorem zA6{p:Prop}(h:p:=by first|(have hc:=h1;simp at hc;have hl:=j1.2.2.2.1 hc.2;exact ZH (n:=2306048+U) (by omega) j1.2.2.2.2)|exact sg (Zn (Yk.YC u1))):p:=h
theorem zA7{p:Prop}(h:p:=by cases h):p:=h
theorem zA8{p:Prop}(h:p:=by first|(have hl:=Up a1 a2 (by simp at h1;exact h1.1);exact ZH (n:=2306048+J) (by omega) j1.2.2.2)|exact sg (Zn (Yk.YC u1))):p:=h
theorem zA9{p:Prop}(h:p:=by first|(simp(maxDischargeDepth:=12) [XH];omega)|(simp(maxDischargeDepth:=12) [ZH (m:=2318336) (by decide) u0];done)):p:=h
theorem zBA{p:Prop}(h:p:=by intro i h;(have z:i=0\/i=1\/i=2\/i=3\/i=4:=by omega);rcases z with rfl|rfl|rfl|rfl|rfl<;>rfl):p:=h
theorem zBB{p:Prop}(h:p:=by rw[St.Ji];simp[nn,Yp]):p:=h
theorem zBC{p:Prop}(h:p:=by simp(maxDischargeDepth:=12) [yX,ZH (m:=2322432) (by decide) u0];try omega):p:=h
theorem zBD{p:Prop}(h:p:=by intro q hq;cases hq):p:=h
theorem zBE{p:Prop}(h:p:=by first|omega|(have f0:0<=(ZO a0 a1).1:=(by first|omega|(simp at*;omega));have fi:=Ym a0 a1 f0;omega)):p:=h
theorem zBF{p:Prop}(h:p:=by simp(maxDischargeDepth:=12) [jl,ZH (m:=2318336) (by decide) u0,ZH (m:=2318336) (by decide) u1];try omega):p:=h
theorem zBG{p:Prop}(h:p:=by simpa using hc):p:=h
theorem zBH{p:Prop}(h:p:=by first|omega|(have z:=Qd a0 a1 (by simp_all);(try simp at*);omega)):p:=h
theorem zBI{p:Prop}(h:p:=by(have q:=YX (show Sm 2310144 a2 from u1);exact ZH (n:=2310144) (by decide) ⟨by omega,j1.2.2.2.2⟩)):p:=h
theorem zBJ{p:Prop}(h:p:=by have:=QN a0.Frame.ZD (nth a2 U);exact il):p:=h
theorem zBK{p:Prop}(h:p:=by first|with_reducible exact ZH (by decide) (ZG.Xk Ya)|with_reducible exact ZH (by decide) (ZG.Xk Z3.1)):p:=h
theorem zBL{p:Prop}(h:p:=by rw[List.length_take];omega):p:=h
theorem zBM{p:Prop}(h:p:=by have:=(List.getElem?_eq_some_iff.1 hq).1;omega):p:=h
theorem zBN{p:Prop}(h:p:=by have:=nf _ _ _ ht e;simpa[At.ref]using this):p:=h
theorem zBO{p:Prop}(h:p:=by cases h;exact⟨Nat.zero_le _,fun x hx=>(by cases hx)⟩):p:=h
theorem zBP{p:Prop}(h:p:=by simp at hy⊢;exact .inr hy):p:=h
theorem zBQ{p:Prop}(h:p:=by rw[XM (by omega)];exact List.getElem_mem _):p:=h
theorem zBR{p:Prop}(h:p:=by rw[h];rfl):p:=h
theorem zBS{p:Prop}(h:p:=by(have z:=Qd a0 a1 (by simp_all);(try simp at*);omega)):p:=h
theorem zBT{p:Prop}(h:p:=by have:=KC a0.Frame.Z0 (nth a0.Frame.ZD (Zu a0.Frame.ZD (nth a1 J)).toNat).Key;exact il):p:=h
theorem zBU{p:Prop}(h:p:=by cases hb;exact⟨cells,[],rfl,by simp[place],.nil,(by intro q hq;cases hq),rfl⟩):p:=h
theorem zBV{p:Prop}(h:p:=by first|omega|(have fi:=Ym a0 a1 (by first|omega|(simp at q1;omega));omega)):p:=h
theorem zBW{p:Prop}(h:p:=by simp[Region.wanted,hg]):p:=h
theorem zBX{p:Prop}(h:p:=by simp[nth,List.getD_eq_getElem?_getD,List.getElem?_eq_none (Nat.le_of_not_lt hv)]):p:=h
theorem zBY{p:Prop}(h:p:=by rw[<-Nat.succ_mul];exact Nat.mul_le_mul_right _ hi):p:=h
theorem zBZ{p:Prop}(h:p:=by rw[<-Nat.add_mul];exact Nat.mul_le_mul_right _ hle):p:=h
theorem zBa{p:Prop}(h:p:=by injection mv with mv;injection mv with mv;injection mv with mv;exact mv.symm):p:=h
theorem zBb{p:Prop}(h:p:=by simp[Program.bytesOf,hi]):p:=h
theorem zBc{p:Prop}(h:p:=by cases‹List (DataW H)›<;>exact h.elim):p:=h
theorem zBd{p:Prop}(h:p:=by rw[<-List.flatten_append,List.take_append_drop]):p:=h
theorem zBe{p:Prop}(h:p:=by rw[xx (by first|omega|(simp;omega))];first|omega|(simp;omega)):p:=h
theorem zBf{p:Prop}(h:p:=by rw[ha];simp):p:=h
theorem zBg{p:Prop}(h:p:=by cases qs<;>simp[YY,XE,yb u _ ds]):p:=h
theorem zBh{p:Prop}(h:p:=by rw[Nat.add_mul,Nat.add_mul];omega):p:=h
theorem zBi{p:Prop}(h:p:=by simp(maxDischargeDepth:=12) [Ui];try omega):p:=h
theorem zBj{p:Prop}(h:p:=by simp_all):p:=h
theorem zBk{p:Prop}(h:p:=by first|exact sg u0|exact sg u2):p:=h
theorem zBl{p:Prop}(h:p:=by first|exact sg u1|exact ZH (n:=2301952) (by decide) (Wl u0 u2)):p:=h
theorem zBm{p:Prop}(h:p:=by first|exact sg u1|exact ZH (n:=2301952) (by decide) (Wb u0 u2)):p:=h
theorem zBn{p:Prop}(h:p:=by cases hx):p:=h
theorem zBo{p:Prop}(h:p:=by cases h;rfl):p:=h
theorem zBp{p:Prop}(h:p:=by apply Array.toList_inj.1;simpa using ha):p:=h
theorem zBq{p:Prop}(h:p:=by simp[Region.wanted,gL]):p:=h
theorem zBr{p:Prop}(h:p:=by simpa using h):p:=h
theorem zBs{p:Prop}(h:p:=by rw[m9];simp):p:=h
theorem zBt{p:Prop}(h:p:=by simpa[At.ref]using hx):p:=h
theorem zBu{p:Prop}(h:p:=by simp at hl⊢;omega):p:=h
theorem zBv{p:Prop}(h:p:=by rw[St.Ji,if_neg (fun hh=>nf hh.1)]):p:=h
theorem zBw{p:Prop}(h:p:=by first|omega|(simp at q1;omega)):p:=h
theorem zBx{p:Prop}(h:p:=by have:=QN a0 a1.Authority;exact il):p:=h
theorem zBy{p:Prop}(h:p:=by rw[hd,e]):p:=h
theorem zBz{p:Prop}(h:p:=by cases h;exact⟨by omega,hs⟩):p:=h
theorem zB0{p:Prop}(h:p:=by rw[List.length_set];exact hl):p:=h
theorem zB1{p:Prop}(h:p:=by(simp at h1;omega)):p:=h
theorem zB2{p:Prop}(h:p:=by rw[eZ];exact hz):p:=h
theorem zB3{p:Prop}(h:p:=by rw[ec];exact hz):p:=h
theorem zB4{p:Prop}(h:p:=by cases qs<;>exact hf):p:=h
theorem zB5{p:Prop}(h:p:=by simpa[Yp]using h):p:=h
theorem zB6{p:Prop}(h:p:=by simp[w1,w2]):p:=h
theorem zB7{p:Prop}(h:p:=by rw[JQ];exact h):p:=h
theorem zB8{p:Prop}(h:p:=by simp[hr]):p:=h
theorem zB9{p:Prop}(h:p:=by simp[w1,G]):p:=h
theorem zCA{p:Prop}(h:p:=by simp[World.setRow]):p:=h
theorem zCB{p:Prop}(h:p:=by rw[lC];rfl):p:=h
theorem zCC{p:Prop}(h:p:=by simp[Xt]):p:=h
theorem zCD{p:Prop}(h:p:=by(intro z;simp;(repeat(with_reducible refine Go.Mo.sd ?_));exact z.h)):p:=h
theorem zCE{p:Prop}(h:p:=by((try dsimp only);first|omega|(simp at*;omega))):p:=h
theorem zCF{p:Prop}(h:p:=by(intro h;(try simp only[beq_true,beq_false,Bool.not_eq_true',Bool.not_eq_false',Bool.true_and,Bool.and_true]at h);exact h)):p:=h
theorem zCG{p:Prop}(h:p:=by(intro z;simp[G,Go.Vm.ZF];(repeat(with_reducible refine Go.Mo.sdg ?_));exact z.h)):p:=h
theorem zCH{p:Prop}(h:p:=by(intro F;exact KG (by simp[F]))):p:=h
variable{v val u:Value}{w w':World}{B X S X':Nat->Prop}{P:Program}{o:Oper}{d size t n f i j b off len cap:Nat}{x y:Operand}{a:Act}{vs cs:List Value}{k kk:IntKind}{op:BinOp}{q p:Bool}{c:Call}{parts:Array (Nat×Operand)}{lo hi:Option Operand}{base:Option Addr}{code:BoundsCode}
inductive D where
 |int (k:IntKind) (n:Int)
 |bool (b:Bool)
 |str (s:ByteArray)
 |sl (size:Nat) (rows:List (List D))
 |unk
 deriving Inhabited
variable{rows res s:List (List D)}{ds:List D}
def D.scalar:D->Bool
 |.sl _ _=>false
 |_=>true
abbrev CS:=Nat->Nat->Prop
variable{T T0 T':CS}
inductive Rd(T:CS)(w:World):Value->D->Prop
 |int (k:IntKind) (n:Int):Rd T w (.int k n) (.int k n)
 |bool (b:Bool):Rd T w (.bool b) (.bool b)
 |str (s:ByteArray):Rd T w (.string s) (.str s)
 |unk (v:Value) (h:v.oneCell'=true):Rd T w v .unk
 |nil (size:Nat):Rd T w (.slice none 0 0) (.sl size [])
 |sl (a:Addr) (len cap size:Nat) (rows:List (List D)) (g:Nat->Value)
   (hl:rows.length=len) (hc:len<=cap) (hm:cap<=maxLen) (hz:∀r∈rows,r.length=size) (hs:rows.flatten≠[]->a.spot=none)
   (hg:∀k d,rows.flatten[k]?=some d->w.cell? ⟨a.block,a.off+k,none⟩=some (g k)/\T a.block (a.off+k))
   (hr:∀k d,rows.flatten[k]?=some d->Rd T w (g k) d):Rd T w (.slice (some a) len cap) (.sl size rows)
theorem Rd.mono(hT:∀b k v,T b k->w.cell? ⟨b,k,none⟩=some v->w'.cell? ⟨b,k,none⟩=some v/\T' b k)
  {d:D} (h:Rd T w v d):Rd T' w' v d:=by
 induction h with
 |int k n=>exact .int k n
 |bool b=>exact .bool b
 |str s=>exact .str s
 |unk v h=>exact .unk v h
 |nil s=>exact .nil s
 |sl a len cap size rows g hl hc hm hz hs hg hr ih=>exact .sl a len cap size rows g hl hc hm hz hs (fun k d hk=>hT _ _ _ (hg k d hk).2 (hg k d hk).1) (fun k d hk=>ih k d hk)
theorem Rd.QM{d:D}(h:Rd T w v d):v.oneCell'=true:=by cases h<;>first|rfl|assumption
inductive At where
 |any
 |d (x:D)
 |nil (size:Nat)
 |sref (t j lo len:Nat)
 |ptr (t j i c:Nat)
 |bptr (t c:Nat)
 |fn (f t:Nat)
 |rptr (r:List D) (c:Nat)
 |tref (t j i c:Nat) (o:Option Nat)
 deriving Inhabited
inductive V where
 |any
 |one (x:At)
 |agg (xs:List At)
 |tup (xs:List V)
 |cnd (g:Bool) (x:V)
 |fix (v:Value) (x:V)
 deriving Inhabited
inductive Ob where
 |none
 |box (cells:List At)
 |arr (q:Bool) (size:Nat) (rows:List (List D))
 |lit (size:Nat) (rows:List (List At))
 deriving Inhabited
variable{l8:Nat->Nat->Ob}
structure Hd where
 v:Value
 n:Nat->Value
 u:Nat->Prop
variable{h h':Nat->Nat->Hd}{hd:Hd}
abbrev Ent:=V×List Ob
abbrev St:=List Ent
variable{σ:St}
def St.get(σ:St)(t:Nat):V:=match σ[t]? with|some e=>e.1|none=>.any
def Yp(os:List Ob)(j:Nat):Ob:=match os[j]? with|some o=>o|none=>.none
def St.ob(σ:St)(t j:Nat):Ob:=match σ[t]? with|some e=>Yp e.2 j|none=>.none
def St.put:St->Nat->V->St
 |[],_,_=>[]
 |e::σ,0,v=>(v,e.2)::σ
 |e::σ,t+1,v=>e::St.put σ t v
def St.Z1:St->Nat->Nat->Ob->St
 |[],_,_,_=>[]
 |e::σ,0,j,o=>(e.1,e.2.set j o)::σ
 |e::σ,t+1,j,o=>e::St.Z1 σ t j o
def St.new:St->Nat->V->List Ob->St
 |[],_,_,_=>[]
 |_::σ,0,v,os=>(v,os)::σ
 |e::σ,t+1,v,os=>e::St.new σ t v os
theorem St.JG(σ:St)(t:Nat)(v:V):(σ.put t v).length=σ.length:=by
 induction σ generalizing t with
 |nil=>rfl
 |cons e σ ih=>cases t<;>simp[St.put,ih]
theorem St.Xf(σ:St)(t j:Nat)(o:Ob):(σ.Z1 t j o).length=σ.length:=by
 induction σ generalizing t with
 |nil=>rfl
 |cons e σ ih=>cases t<;>simp[St.Z1,ih]
theorem St.ki(σ:St)(t:Nat)(v:V)(os:List Ob):(σ.new t v os).length=σ.length:=by
 induction σ generalizing t with
 |nil=>rfl
 |cons e σ ih=>cases t<;>simp[St.new,ih]
theorem St.zb(σ:St)(t:Nat)(v:V)(u:Nat):(σ.put t v).get u=if u=t/\t<σ.length then v else σ.get u:=by
 induction σ generalizing t u with
 |nil=>simp[St.put,St.get]
 |cons e σ ih=>
  cases t with
  |zero=>cases u<;>simp[St.put,St.get]
  |succ t=>cases u with
   |zero=>simp[St.put,St.get]
   |succ u=>have:=ih t u;simp only[St.get,St.put]at this⊢;simpa using this
theorem St.JJ(σ:St)(t:Nat)(v:V):(σ.put t v).ob=σ.ob:=by
 funext u j;induction σ generalizing t u with
 |nil=>simp[St.put,St.ob]
 |cons e σ ih=>
  cases t with
  |zero=>cases u<;>simp[St.put,St.ob]
  |succ t=>cases u with
   |zero=>simp[St.put,St.ob]
   |succ u=>have:=ih t u;simp only[St.ob,St.put]at this⊢;simpa using this
theorem St.QL(σ:St)(t j:Nat)(o:Ob)(u:Nat):(σ.Z1 t j o).get u=σ.get u:=by
 induction σ generalizing t u with
 |nil=>simp[St.Z1,St.get]
 |cons e σ ih=>
  cases t with
  |zero=>cases u<;>simp[St.Z1,St.get]
  |succ t=>cases u with
   |zero=>simp[St.Z1,St.get]
   |succ u=>have:=ih t u;simp only[St.get,St.Z1]at this⊢;simpa using this
theorem C7(os:List Ob)(j:Nat)(o:Ob)(i:Nat):Yp (os.set j o) i=if i=j/\j<os.length then o else Yp os i:=by
 unfold Yp;rw[List.getElem?_set];by_cases h:j=i
 ·subst h;by_cases h2:j<os.length
  ·simp[h2]
  ·simp[h2]
 ·simp[h,Ne.symm h]
theorem St.Xz(σ:St)(t j:Nat)(o:Ob)(u i:Nat)(hl:σ.ob t j≠ .none):(σ.Z1 t j o).ob u i=if u=t/\i=j then o else σ.ob u i:=by
 induction σ generalizing t u with
 |nil=>simp[St.ob]at hl
 |cons e σ ih=>
  cases t with
  |zero=>
   have hj:j<e.2.length:=by
    simp only[St.ob,List.getElem?_cons_zero,Yp]at hl;rcases Nat.lt_or_ge j e.2.length with h|h
    ·exact h
    ·simp[List.getElem?_eq_none h]at hl
   cases u with
   |zero=>simp[St.Z1,St.ob,C7,hj]
   |succ u=>simp[St.Z1,St.ob]
  |succ t=>cases u with
   |zero=>simp[St.Z1,St.ob]
   |succ u=>have:=ih t u (by simpa[St.ob]using hl);simp only[St.ob,St.Z1]at this⊢;simpa using this
theorem St.VA(σ:St)(t:Nat)(v:V)(os:List Ob)(u:Nat):(σ.new t v os).get u=if u=t/\t<σ.length then v else σ.get u:=by
 induction σ generalizing t u with
 |nil=>simp[St.new,St.get]
 |cons e σ ih=>
  cases t with
  |zero=>cases u<;>simp[St.new,St.get]
  |succ t=>cases u with
   |zero=>simp[St.new,St.get]
   |succ u=>have:=ih t u;simp only[St.get,St.new]at this⊢;simpa using this
theorem St.Ji(σ:St)(t:Nat)(v:V)(os:List Ob)(u j:Nat):(σ.new t v os).ob u j=if u=t/\t<σ.length then Yp os j else σ.ob u j:=by
 induction σ generalizing t u with
 |nil=>simp[St.new,St.ob]
 |cons e σ ih=>
  cases t with
  |zero=>cases u<;>simp[St.new,St.ob]
  |succ t=>cases u with
   |zero=>simp[St.new,St.ob]
   |succ u=>have:=ih t u;simp only[St.ob,St.new]at this⊢;simpa using this
def NO(h:Value)(len:Nat):Value:=match h with|.slice b _ c=>.slice b len c|v=>v
def tG(h:Value)(size n lo len:Nat)(v:Value):Prop:=
 lo+len<=n/\(len=n->lo=0->v=h)/\(lo=0->v=NO h len)/\∃base cap,v= .slice base len cap/\len<=cap/\cap<=maxLen/\(base=none->cap=0)/\(0<len->∃b gV,h= .slice (some ⟨b,0,none⟩) n gV/\base=some ⟨b,lo*size,none⟩)
def oG:Option Nat->Value->Value->Prop
 |none,x,v=>v=x
 |some k,x,v=>∃b n cap,x= .slice (some ⟨b,0,none⟩) n cap/\v= .pointer (some ⟨b,k,none⟩)
def YL(T:CS)(h:Nat->Nat->Hd)(ob:Nat->Nat->Ob)(w:World):At->Value->Prop
 |.any,v=>v.oneCell'=true
 |.d x,v=>Rd T w v x
 |.nil _,v=>v= .slice none 0 0
 |.sref t j lo len,v=>v.oneCell'=true/\(∀q size rows,ob t j= .arr q size rows->tG (h t j).v size rows.length lo len v)/\(∀size rows,ob t j= .lit size rows->tG (h t j).v size rows.length lo len v)
 |.ptr t j i c,v=>v.oneCell'=true/\(∀q size rows,ob t j= .arr q size rows->∃b n cap,(h t j).v= .slice (some ⟨b,0,none⟩) n cap/\v= .pointer (some ⟨b,i*size+c,none⟩))
 |.bptr t c,v=>v.oneCell'=true/\∀cells,ob t 0= .box cells->∃b,(h t 0).v= .pointer (some ⟨b,0,none⟩)/\v= .pointer (some ⟨b,c,none⟩)
 |.fn f t,v=>v.oneCell'=true/\∀cells,ob t 0= .box cells->∃b,(h t 0).v= .pointer (some ⟨b,0,none⟩)/\v= .func (.func f) #[] #[.pointer (some ⟨b,0,none⟩)]
 |.rptr r c,v=>∃b off,∃g:Nat->Value,v= .pointer (some ⟨b,off+c,none⟩)/\∀k d,r[k]?=some d->w.cell? ⟨b,off+k,none⟩=some (g k)/\T b (off+k)/\Rd T w (g k) d
 |.tref t j i c o,v=>v.oneCell'=true/\∀size rows,ob t j= .arr true size rows->oG o ((h t j).n (i*size+c)) v
theorem YL.QM{ob:Nat->Nat->Ob}{x:At}(r:YL T h ob w x v):v.oneCell'=true:=by
 cases x with
 |any=>exact r
 |d x=>exact Rd.QM r
 |nil s=>cases r;rfl
 |sref=>exact r.1
 |ptr=>exact r.1
 |bptr=>exact r.1
 |fn=>exact r.1
 |tref=>exact r.1
 |rptr r' c=>obtain⟨b,off,g,rfl,_⟩:=r;rfl
inductive YF{α β:Type}(R:α->β->Prop):List α->List β->Prop
 |nil:YF R [] []
 |cons {a b l m}:R a b->YF R l m->YF R (a::l) (b::m)
theorem YF.imp{α β:Type}{R S:α->β->Prop}(h:∀a b,R a b->S a b){l:List α}{m:List β}(x:YF R l m):YF S l m:=by
 induction x with
 |nil=>exact .nil
 |cons r _ ih=>exact .cons (h _ _ r) ih
theorem YF.length{α β:Type}{R:α->β->Prop}{l:List α}{m:List β}(x:YF R l m):l.length=m.length:=by
 induction x with
 |nil=>rfl
 |cons r _ ih=>simp[ih]
theorem YF.get{α β:Type}{R:α->β->Prop}{l:List α}{m:List β}(x:YF R l m):∀(i:Nat)(a:α),l[i]?=some a->∃b,m[i]?=some b/\R a b:=by
 induction x with
 |nil=>intro i a h;simp at h
 |cons r _ ih=>
  intro i a h;cases i with
  |zero=>simp at h;subst h;exact⟨_,zAG,r⟩
  |succ i=>simpa using ih i a zBr
theorem YF.get'{α β:Type}{R:α->β->Prop}{l:List α}{m:List β}(x:YF R l m):∀(i:Nat)(b:β),m[i]?=some b->∃a,l[i]?=some a/\R a b:=by
 induction x with
 |nil=>intro i a h;simp at h
 |cons r _ ih=>
  intro i a h;cases i with
  |zero=>simp at h;subst h;exact⟨_,zAG,r⟩
  |succ i=>simpa using ih i a zBr
theorem YF.xS{α β:Type}{R:α->β->Prop}{l:List α}{m:List β}(hl:l.length=m.length)(h:∀(i:Nat)(a:α)(b:β),l[i]?=some a->m[i]?=some b->R a b):YF R l m:=by
 induction l generalizing m with
 |nil=>cases m with
  |nil=>exact .nil
  |cons b m=>simp at hl
 |cons a l ih=>cases m with
  |nil=>simp at hl
  |cons b m=>exact .cons (h 0 a b zAG zAG) (ih (by simpa using hl) (fun i a b ha hb=>h (i+1) a b (by simpa using ha) (by simpa using hb)))
theorem YF.append{α β:Type}{R:α->β->Prop}{l l':List α}{m m':List β}(x:YF R l m)(y:YF R l' m'):YF R (l++l') (m++m'):=by
 induction x with
 |nil=>exact y
 |cons r _ ih=>exact .cons r ih
theorem YF.take{α β:Type}{R:α->β->Prop}{l:List α}{m:List β}(x:YF R l m)(n:Nat):YF R (l.take n) (m.take n):=by
 induction x generalizing n with
 |nil=>simpa using YF.nil
 |cons r _ ih=>cases n with
  |zero=>simpa using YF.nil
  |succ n=>simpa using YF.cons r (ih n)
theorem YF.drop{α β:Type}{R:α->β->Prop}{l:List α}{m:List β}(x:YF R l m)(n:Nat):YF R (l.drop n) (m.drop n):=by
 induction x generalizing n with
 |nil=>simpa using YF.nil
 |cons r x ih=>cases n with
  |zero=>simpa using YF.cons r x
  |succ n=>simpa using ih n
theorem YF.set{α β:Type}{R:α->β->Prop}{l:List α}{m:List β}(x:YF R l m)(i:Nat){a:α}{b:β}(r:R a b):YF R (l.set i a) (m.set i b):=by
 induction x generalizing i with
 |nil=>simpa using YF.nil
 |cons r' x ih=>cases i with
  |zero=>simpa using YF.cons r x
  |succ i=>simpa using YF.cons r' (ih i)
theorem YF.mem{α β:Type}{R:α->β->Prop}{l:List α}{m:List β}(x:YF R l m){b:β}(h:b∈m):∃a,a∈l/\R a b:=by obtain⟨i,hi⟩:=List.mem_iff_getElem?.1 h;obtain⟨a,ha,r⟩:=x.get' i b hi;exact⟨a,List.mem_of_getElem? ha,r⟩
def K7(T:CS)(h:Nat->Nat->Hd)(ob:Nat->Nat->Ob)(w:World):V->Value->Prop
 |.any,_=>True
 |.one x,v=>YL T h ob w x v
 |.agg xs,v=>∃cs:Array Value,v= .agg cs/\YF (YL T h ob w) xs cs.toList
 |.tup _,_=>False
 |.cnd _ _,_=>False
 |.fix _ _,_=>False
def JB(T:CS)(h:Nat->Nat->Hd)(ob:Nat->Nat->Ob)(w:World):V->Value->Prop
 |.tup xs,v=>∃vs:Array Value,v= .tuple vs/\YF (K7 T h ob w) xs vs.toList
 |.cnd g x,v=>(g=true->K7 T h ob w x v)/\(g=false->v=undef)
 |.any,_=>True
 |.one x,v=>YL T h ob w x v
 |.agg xs,v=>K7 T h ob w (.agg xs) v
 |.fix u x,v=>v=u/\K7 T h ob w x v
theorem K7.up{ob:Nat->Nat->Ob}{x:V}(r:K7 T h ob w x v):JB T h ob w x v:=by cases x<;>first|exact r|exact r.elim
def blk:Value->Option Nat
 |.slice (some a) _ _=>some a.block
 |.pointer (some a)=>some a.block
 |_=>none
def Hd.of(v:Value):Hd:=⟨v,fun _=>undef,fun b=>blk v=some b⟩
inductive Own(w:World):Value->D->(Nat->Prop)->Prop
 |int (k:IntKind) (n:Int) (S:Nat->Prop):Own w (.int k n) (.int k n) S
 |bool (b:Bool) (S:Nat->Prop):Own w (.bool b) (.bool b) S
 |str (s:ByteArray) (S:Nat->Prop):Own w (.string s) (.str s) S
 |unk (v:Value) (h:v.oneCell'=true) (S:Nat->Prop):Own w v .unk S
 |sl (v:Value) (size:Nat) (rows:List (List D)) (S:Nat->Prop) (e:TypeId) (xs:List Value) (Sk:Nat->Nat->Prop) (ho:w.ownsRow 0 e size v rows.length xs) (hz:∀r∈rows,r.length=size)
   (hb:∀b,blk v=some b->S b) (hl:xs.length=rows.flatten.length) (hk:∀k x d,xs[k]?=some x->rows.flatten[k]?=some d->Own w x d (Sk k))
   (hs:∀k b,Sk k b->S b/\blk v≠some b) (hd:∀i j b,Sk i b->Sk j b->i=j):Own w v (.sl size rows) S
def KJ(w:World)(xs:List Value)(ds:List D)(S:Nat->Prop):Prop:=
 xs.length=ds.length/\∃Sk:Nat->Nat->Prop,(∀k x d,xs[k]?=some x->ds[k]?=some d->Own w x d (Sk k))/\(∀k b,Sk k b->S b)/\(∀i j b,Sk i b->Sk j b->i=j)
def Jx(T:CS)(h:Nat->Nat->Hd)(ob:Nat->Nat->Ob)(w:World)(hd:Hd):Ob->Prop
 |.none=>True
 |.box cells=>∃b cs e,hd.v= .pointer (some ⟨b,0,none⟩)/\w.heap[b]?=some (.cells cs e (0,0))/\YF (YL T h ob w) cells cs.toList
 |.arr false size rows=>∃e xs,w.ownsRow 0 e size hd.v rows.length xs/\(∀r∈rows,r.length=size)/\YF (Rd T w) xs rows.flatten
 |.arr true size rows=>∃e xs,w.ownsRow 0 e size hd.v rows.length xs/\(∀r∈rows,r.length=size)/\KJ w xs rows.flatten (fun b=>hd.u b/\blk hd.v≠some b)/\(∀k x d,xs[k]?=some x->rows.flatten[k]?=some d->d.scalar=false->hd.n k=x)
 |.lit size rows=>∃e xs,w.ownsRow 0 e size hd.v rows.length xs/\(∀r∈rows,r.length=size)/\YF (YL T h ob w) rows.flatten xs
def Tof(T0:CS)(X:Nat->Prop):CS:=fun b k=>T0 b k\/X b
structure XI(B:Nat->Prop)(w w':World):Prop where
 os:w'.os=w.os
 tape:w'.tape=w.tape
 output:w'.output=w.output
 size:w.heap.size<=w'.heap.size
 block:∀k,B k->w'.heap[k]?=w.heap[k]?
theorem XI.refl(B:Nat->Prop)(w:World):XI B w w:=⟨rfl,rfl,rfl,Nat.le_refl _,fun _ _=>rfl⟩
theorem XI.trans{a b c:World}(h:XI B a b)(k:XI B b c):XI B a c:=
 ⟨k.os.trans h.os,k.tape.trans h.tape,k.output.trans h.output,Nat.le_trans h.size k.size,fun i hi=>(k.block i hi).trans (h.block i hi)⟩
theorem XI.NV(h:RowKit.Below w.heap.size w w')(hB:∀b,B b->b<w.heap.size):XI B w w':=⟨h.os,h.tape,h.output,h.size,fun k hk=>h.block k (hB k hk)⟩
structure Rel(T0:CS)(B:Nat->Prop)(σ:St)(a:Act)(w:World)(X:Nat->Prop)(h:Nat->Nat->Hd):Prop where
 size:a.tmps.size=σ.length
 defers:a.defers=[]
 hB:∀b,B b->b<w.heap.size
 hX:∀b,X b->¬B b/\b<w.heap.size
 hT:∀b k,T0 b k->B b
 slot:∀t,t<σ.length->JB (Tof T0 X) h σ.ob w (σ.get t) (a.tmps.getD t undef)
 obj:∀t j,Jx (Tof T0 X) h σ.ob w (h t j) (σ.ob t j)
 ub:∀t j b,σ.ob t j≠ .none->blk (h t j).v=some b->(h t j).u b
 own:∀t j b,σ.ob t j≠ .none->(h t j).u b->¬B b/\¬X b/\b<w.heap.size
 inj:∀t j t' j' b,σ.ob t j≠ .none->σ.ob t' j'≠ .none->(h t j).u b->(h t' j').u b->t=t'/\j=j'
def Jq(T0:CS)(B:Nat->Prop)(σ:St)(a:Act)(w:World):Prop:=∃X h,Rel T0 B σ a w X h
theorem Rel.rR(r:Rel T0 B σ a w X h)(ho:σ.ob t j≠ .none)(hb:blk (h t j).v=some b):¬B b/\¬X b/\b<w.heap.size:=
 r.own t j b ho (r.ub t j b ho hb)
section
variable{ob:Nat->Nat->Ob}
theorem YL.mono(hT:∀b k v,T b k->w.cell? ⟨b,k,none⟩=some v->w'.cell? ⟨b,k,none⟩=some v/\T' b k){x:At}
  (r:YL T h ob w x v):YL T' h ob w' x v:=by
 cases x with
 |any=>exact r
 |d x=>exact Rd.mono hT r
 |nil s=>exact r
 |sref t j lo len=>exact r
 |ptr t j i c=>exact r
 |bptr t c=>exact r
 |fn f t=>exact r
 |tref t j i c o=>exact r
 |rptr rr c=>obtain⟨b,off,g,e,hk⟩:=r;exact⟨b,off,g,e,fun k d hd=>⟨(hT _ _ _ (hk k d hd).2.1 (hk k d hd).1).1,(hT _ _ _ (hk k d hd).2.1 (hk k d hd).1).2,Rd.mono hT (hk k d hd).2.2⟩⟩
theorem K7.mono(hT:∀b k v,T b k->w.cell? ⟨b,k,none⟩=some v->w'.cell? ⟨b,k,none⟩=some v/\T' b k){x:V}
  (r:K7 T h ob w x v):K7 T' h ob w' x v:=by
 cases x with
 |any=>exact r
 |one x=>exact YL.mono hT r
 |agg xs=>obtain⟨cs,e,r⟩:=r;exact⟨cs,e,r.imp fun _ _=>YL.mono hT⟩
 |tup xs=>exact r.elim
 |cnd g x=>exact r.elim
 |fix u x=>exact r.elim
theorem JB.mono(hT:∀b k v,T b k->w.cell? ⟨b,k,none⟩=some v->w'.cell? ⟨b,k,none⟩=some v/\T' b k){x:V}
  (r:JB T h ob w x v):JB T' h ob w' x v:=by
 cases x with
 |any=>exact r
 |one x=>exact YL.mono hT r
 |agg xs=>exact K7.mono (x:=.agg xs) hT r
 |tup xs=>obtain⟨vs,e,r⟩:=r;exact⟨vs,e,r.imp fun _ _=>K7.mono hT⟩
 |cnd g x=>exact⟨fun hg=>K7.mono hT (r.1 hg),r.2⟩
 |fix u x=>exact⟨r.1,K7.mono hT r.2⟩
end
def unc:V->V
 |.cnd _ x=>x
 |.fix _ x=>x
 |x=>x
def gOf:V->Bool
 |.cnd g _=>g
 |_=>true
def ZT(P:Program)(t:TypeId):TypeId:=
 match P.underlying t with
 |some (.slice e)=>e
 |some (.array _ e)=>e
 |_=>0
def Xl(P:Program)(t:TypeId):Bool:=
 match P.underlying t with
 |some (.slice e)=>(P.info? e).isSome
 |_=>false
def Dx(P:Program)(t:TypeId):Option Nat:=
 match P.underlying t with
 |some (.array n e)=>if(P.info? e).isSome then some n else none
 |_=>none
def U9(P:Program)(t:TypeId):Bool:=
 match P.underlying t with
 |some (.struct _)|some (.array _ _)=>true
 |_=>false
def qP(P:Program)(t:TypeId):Bool:=
 (P.underlying t).isSome&&(P.info? t).isSome&&(U9 P t||P.cellsOf t==1)
def Qx(P:Program)(t:TypeId)(f:Nat):Nat:=
 match P.underlying t with
 |some (.struct fs)=>(match fs[f]? with|some fd=>fd.offset|none=>0)
 |_=>0
def qQ(P:Program)(t:TypeId)(f:Nat):TypeId:=
 match P.underlying t with
 |some (.struct fs)=>(match fs[f]? with|some fd=>fd.type|none=>0)
 |_=>0
def kA(P:Program)(t:TypeId)(f:Nat):Bool:=
 match P.underlying t with
 |some (.struct fs)=>(match fs[f]? with|some fd=>(P.info? fd.type).isSome&&decide (P.cellsOf fd.type≠0)|none=>false)
 |_=>false
def Ah(P:Program)(t:TypeId):Option IntKind:=
 match P.underlying t with
 |some (.int k)=>some k
 |_=>none
def T9(P:Program)(t:TypeId):Bool:=
 match P.underlying t with
 |some .string=>true
 |_=>false
def Le(P:Program)(t:TypeId):Bool:=
 match P.underlying t with
 |some .bool=>true
 |_=>false
def cst(P:Program)(ty:TypeId):Value->V
 |.int k n=>.one (.d (.int k n))
 |.bool b=>.one (.d (.bool b))
 |.string s=>.one (.d (.str s))
 |.slice none 0 0=>.one (.nil (P.cellsOf (ZT P ty)))
 |_=>.any
def look(P:Program)(σ:St)(ty:TypeId):Operand->V
 |.tmp t=>σ.get t
 |.const v=>cst P ty v
 |_=>.any
theorem Rel.get(r:Rel T0 B σ a w X h)(t:Nat):JB (Tof T0 X) h σ.ob w (σ.get t) (a.tmps.getD t undef):=by
 rcases Nat.lt_or_ge t σ.length with hl|hl
 ·exact r.slot t hl
 ·simp[St.get,List.getElem?_eq_none hl,JB]
theorem tw(T:CS)(h:Nat->Nat->Hd)(ob:Nat->Nat->Ob)(w:World)(ty:TypeId)(v:Value):JB T h ob w (cst P ty v) v:=by
 unfold cst;split
 ·exact .int _ _
 ·exact .bool _
 ·exact .str _
 ·rfl
 ·trivial
theorem Rel.look(r:Rel T0 B σ a w X h)(ty:TypeId)(x:Operand):JB (Tof T0 X) h σ.ob w (look P σ ty x) (a.eval x):=by
 cases x with
 |tmp t=>exact r.get t
 |const v=>exact tw _ _ _ _ _ _
 |global g=>trivial
 |func f=>trivial
theorem JB.unc{ob:Nat->Nat->Ob}{x:V}(r:JB T h ob w x v)(hg:gOf x=true):JB T h ob w (unc x) v:=by
 cases x with
 |cnd g x=>exact K7.up (r.1 hg)
 |fix u x=>exact K7.up r.2
 |_=>exact r
theorem Rel.arg(r:Rel T0 B σ a w X h)(ty:TypeId)(x:Operand){v:V}(he:Vm.unc (Vm.look P σ ty x)=v)(hg:gOf (Vm.look P σ ty x)=true):JB (Tof T0 X) h σ.ob w v (a.eval x):=by subst he;exact(r.look ty x).unc hg
theorem Rel.put(r:Rel T0 B σ a w X h)(d:Nat)(v:V)(val:Value)(hv:JB (Tof T0 X) h σ.ob w v val):Rel T0 B (σ.put d v) (a.put (some d) val) w X h:=by
 refine⟨by simp[Act.put,r.size,St.JG],r.defers,r.hB,r.hX,r.hT,fun t ht=>?_,fun t j=>?_,fun t j b=>?_,fun t j b=>?_,fun t j t' j' b=>?_⟩
 ·rw[St.JJ,St.zb];rw[St.JG]at ht;by_cases hd:t=d/\d<σ.length
  ·obtain⟨rfl,hl⟩:=hd;simp only[hl,and_self,if_true];have:(a.tmps.setIfInBounds t val).getD t undef=val:=by simp[r.size,hl]
   simp only[Act.put,this];exact hv
  ·rw[if_neg hd];have nf:d≠t:=fun e=>hd ⟨e.symm,e▸ht⟩
   have:(a.tmps.setIfInBounds d val).getD t undef=a.tmps.getD t undef:=by simp[Array.getElem?_setIfInBounds_ne nf]
   simp only[Act.put,this];exact r.slot t ht
 ·rw[St.JJ];exact r.obj t j
 ·rw[St.JJ];exact r.ub t j b
 ·rw[St.JJ];exact r.own t j b
 ·rw[St.JJ];exact r.inj t j t' j' b
def ldV(P:Program)(T:TypeId)(xs:List At):V:=if U9 P T then .agg xs else(match xs with|[x]=>.one x|_=>.any)
def EG(k:IntKind)(x y:Int):Int:=k.wrap (BitVec.ofInt k.bits x&&&BitVec.ofInt k.bits y).toNat
def iOr(k:IntKind)(x y:Int):Int:=k.wrap (BitVec.ofInt k.bits x|||BitVec.ofInt k.bits y).toNat
def tE(k:IntKind)(x y:Int):Int:=k.wrap (BitVec.ofInt k.bits x^^^BitVec.ofInt k.bits y).toNat
def I4(op:BinOp)(k:IntKind)(x y:Int)(v:V):Prop:=
 match op with
 |.eql=>v= .one (.d (.bool (x==y)))
 |.neq=>v= .one (.d (.bool (x !=y)))
 |.lss=>v= .one (.d (.bool (decide (x<y))))
 |.leq=>v= .one (.d (.bool (decide (x<=y))))
 |.gtr=>v= .one (.d (.bool (decide (x>y))))
 |.geq=>v= .one (.d (.bool (decide (x>=y))))
 |.add=>v= .one (.d (.int k (k.wrap (x+y))))
 |.sub=>v= .one (.d (.int k (k.wrap (x-y))))
 |.mul=>v= .one (.d (.int k (k.wrap (x*y))))
 |.quo=>y≠0/\v= .one (.d (.int k (k.wrap (x.tdiv y))))
 |.rem=>y≠0/\v= .one (.d (.int k (x.tmod y)))
 |.and=>v= .one (.d (.int k (EG k x y)))
 |.or=>v= .one (.d (.int k (iOr k x y)))
 |.xor=>v= .one (.d (.int k (tE k x y)))
 |.shl=>0<=y/\v= .one (.d (.int k (k.wrap (x*2^min y.toNat k.bits))))
 |.shr=>0<=y/\v= .one (.d (.int k (x.fdiv (2^min y.toNat k.bits))))
 |_=>False
def HL(op:BinOp)(x y:ByteArray)(v:V):Prop:=
 match op with
 |.add=>((x.size+y.size:Nat):Int)<=9223372036854775807/\v= .one (.d (.str (x++y)))
 |.eql=>v= .one (.d (.bool (decide (x=y))))
 |.neq=>v= .one (.d (.bool (!decide (x=y))))
 |_=>False
def NT(op:BinOp)(x y:Bool)(v:V):Prop:=
 match op with
 |.eql=>v= .one (.d (.bool (x==y)))
 |.neq=>v= .one (.d (.bool (!(x==y))))
 |_=>False
theorem Ap{x y:Int}{v:V}{t:TypeId}(hk:(op= .shl\/op= .shr)\/kk=k)(hb:I4 op k x y v)(w:World):
  ∃d,v= .one (.d d)/\∃val,(binOp op t (.int k x) (.int kk y)).run P w= .ok val w/\∀T w',Rd T w' val d:=by
 cases op<;>simp only[I4]at hb;case shl=>obtain⟨h0,rfl⟩:=hb;exact⟨_,rfl,_,by simp[binOp,Op.shift,Int.not_lt.2 h0],fun _ _=>.int _ _⟩
 case shr=>obtain⟨h0,rfl⟩:=hb;exact⟨_,rfl,_,by simp[binOp,Op.shift,Int.not_lt.2 h0],fun _ _=>.int _ _⟩
 all_goals(have hkk:kk=k:=by rcases hk with(hk|hk)|hk<;>first|exact hk|cases hk)
 all_goals subst hkk
 case quo=>obtain⟨h0,rfl⟩:=hb;exact⟨_,rfl,_,by simp[binOp,Op.intDiv,h0],fun _ _=>.int _ _⟩
 case rem=>obtain⟨h0,rfl⟩:=hb;exact⟨_,rfl,_,by simp[binOp,Op.intDiv,h0],fun _ _=>.int _ _⟩
 case add=>subst hb;exact⟨_,rfl,_,by simp[binOp,Op.intArith],fun _ _=>.int _ _⟩
 case sub=>subst hb;exact⟨_,rfl,_,by simp[binOp,Op.intArith],fun _ _=>.int _ _⟩
 case mul=>subst hb;exact⟨_,rfl,_,by simp[binOp,Op.intArith],fun _ _=>.int _ _⟩
 case and=>subst hb;exact⟨_,rfl,_,by simp[binOp,Op.intBits,EG],fun _ _=>.int _ _⟩
 case or=>subst hb;exact⟨_,rfl,_,by simp[binOp,Op.intBits,iOr],fun _ _=>.int _ _⟩
 case xor=>subst hb;exact⟨_,rfl,_,by simp[binOp,Op.intBits,tE],fun _ _=>.int _ _⟩
 all_goals(subst hb;exact⟨_,rfl,.bool _,by simp only[binOp,Op.intCmp,ne_eq,not_true_eq_false,if_false];rfl,fun _ _=>.bool _⟩)
theorem AE(x y:ByteArray):(x.toList==y.toList)=decide (x=y):=by
 rw[ByteArray.toList_eq,ByteArray.toList_eq,Bool.eq_iff_iff];simp only[beq_iff_eq,decide_eq_true_eq];constructor
 ·intro hh;cases x;cases y;simp_all
 ·rintro rfl;rfl
theorem AP{x y:ByteArray}{v:V}{t:TypeId}(hb:HL op x y v)(w:World):
  ∃d,v= .one (.d d)/\∃val,(binOp op t (.string x) (.string y)).run P w= .ok val w/\∀T w',Rd T w' val d:=by
 cases op<;>simp only[HL]at hb;case add=>obtain⟨h0,rfl⟩:=hb;exact⟨_,rfl,_,by simp only[binOp,Op.stringOp];rw[if_neg (by simp[IntKind.max,IntKind.signed,IntKind.bits];omega)];rfl,fun _ _=>.str _⟩
 case eql=>subst hb;exact⟨_,rfl,.bool _,by simp only[binOp,Op.stringOp,AE];rfl,fun _ _=>.bool _⟩
 case neq=>subst hb;exact⟨_,rfl,.bool _,by simp only[binOp,Op.stringOp,AE];rfl,fun _ _=>.bool _⟩
theorem run_equalIn_bool{t:TypeId}(hu:P.underlying t=some .bool)(d:Nat)(x y:Bool)(w:World):(Op.equalIn (d+1) t (.bool x) (.bool y)).run P w= .ok (x==y) w:=by simp[Op.equalIn,run_underlying hu]
theorem Ce{x y:Bool}{v:V}{t:TypeId}(ht:Le P t=true)(hb:NT op x y v)(w:World):
  ∃d,v= .one (.d d)/\∃val,(binOp op t (.bool x) (.bool y)).run P w= .ok val w/\∀T w',Rd T w' val d:=by
 have hu:P.underlying t=some .bool:=by unfold Le at ht;split at ht<;>first|assumption|cases ht
 cases op<;>simp only[NT]at hb;case eql=>subst hb;exact⟨_,rfl,_,by simp only[binOp,Op.equal,Op.maxDepth,Sem.run_bind,run_equalIn_bool hu 9999,Result.andThen_ok,Sem.run_pure],fun _ _=>.bool _⟩
 case neq=>subst hb;exact⟨_,rfl,_,by simp only[binOp,Op.equal,Op.maxDepth,Sem.run_bind,run_equalIn_bool hu 9999,Result.andThen_ok,Sem.run_pure],fun _ _=>.bool _⟩
def Vy(P:Program)(σ:St)(x:Operand)(k:IntKind)(n:Int):Prop:=gOf (look P σ 0 x)=true/\unc (look P σ 0 x)= .one (.d (.int k n))
def bnd(P:Program)(σ:St)(lY:Nat):Option Operand->Nat->Prop
 |none,n=>n=lY
 |some x,n=>∃k i,gOf (look P σ 0 x)=true/\unc (look P σ 0 x)= .one (.d (.int k i))/\0<=i/\n=i.toNat
def cut{α:Type}(xs:List α)(off n:Nat):List α:=(xs.drop off).take n
def WL(P:Program):Nat->TypeId->Option (List At)
 |0,_=>none
 |n+1,t=>
  match P.underlying t with
  |some .bool=>some [.d (.bool false)]
  |some (.int k)=>some [.d (.int k 0)]
  |some .string=>some [.d (.str ⟨#[]⟩)]
  |some (.slice e)=>some [.nil (P.cellsOf e)]
  |some (.struct fs)=>(fs.toList.mapM (fun f=>WL P n f.type)).map List.flatten
  |some (.array m e)=>(WL P n e).map (fun r=>(List.replicate m r).flatten)
  |_=>none
def zAt:At->Value->Bool
 |.d (.bool b),.bool b'=>b==b'
 |.d (.int k n),.int k' n'=>k==k'&&n==n'
 |.d (.str s),.string s'=>s.data.toList==s'.data.toList
 |.nil _,.slice none 0 0=>true
 |_,_=>false
def vW:List At->List Value->Bool
 |[],[]=>true
 |x::xs,v::vs=>zAt x v&&vW xs vs
 |_,_=>false
def Qb(P:Program)(t:TypeId):Bool:=
 match WL P 12 t,P.info? t with
 |some row,some i=>(match i.zero with|some z=>vW row z.cells.toList&&i.size==row.length|none=>false)
 |_,_=>false
theorem tV{x:At}(hz:zAt x v=true)(T:CS)(h:Nat->Nat->Hd)(ob:Nat->Nat->Ob)(w:World):YL T h ob w x v:=by
 unfold zAt at hz;split at hz
 ·simp at hz;subst hz;exact .bool _
 ·simp at hz;obtain⟨rfl,rfl⟩:=hz;exact .int _ _
 ·rename_i s s';simp at hz;have:s=s':=by cases s;cases s';simp_all
  subst this;exact .str _
 ·rfl
 ·cases hz
theorem uH{xs:List At}(hz:vW xs vs=true)(T:CS)(h:Nat->Nat->Hd)(ob:Nat->Nat->Ob)(w:World):YF (YL T h ob w) xs vs:=by
 induction xs generalizing vs with
 |nil=>cases vs with
  |nil=>exact .nil
  |cons v vs=>simp[vW]at hz
 |cons x xs ih=>cases vs with
  |nil=>simp[vW]at hz
  |cons v vs=>simp[vW]at hz;exact .cons (tV hz.1 _ _ _ _) (ih hz.2)
theorem GI{t:TypeId}{row:List At}(hz:Qb P t=true)(hr:WL P 12 t=some row):
  ∃i z,P.info? t=some i/\i.zero=some z/\i.size=row.length/\(∀T h ob w,YF (YL T h ob w) row z.cells.toList):=by
 unfold Qb at hz;rw[hr]at hz;split at hz
 ·rename_i nj i lG hi;cases lG;split at hz
  ·rename_i z hZ;simp at hz;exact⟨i,z,hi,hZ,hz.2,fun T h ob w=>uH hz.1 T h ob w⟩
  ·cases hz
 ·cases hz
def V.cells:V->List At
 |.one c=>[c]
 |.agg xs=>xs
 |_=>[]
def V.flat:V->Bool
 |.one _=>true
 |.agg _=>true
 |_=>false
def place{α:Type}(r:List α)(off:Nat)(xs:List α):List α:=r.take off++xs++r.drop (off+xs.length)
def RD(P:Program)(T:TypeId)(i:Nat):Nat:=match P.underlying T with|some (.array _ e)=>i*P.cellsOf e|_=>Qx P T i
def bTy(P:Program)(T:TypeId)(i:Nat):TypeId:=match P.underlying T with|some (.array _ e)=>e|_=>qQ P T i
def bOk(P:Program)(T:TypeId)(i:Nat):Bool:=match P.underlying T with
 |some (.array _ e)=>(P.info? e).isSome
 |some (.struct fs)=>fs.all (fun f=>(P.info? f.type).isSome)&&decide (i<fs.size)
 |_=>false
def TT(P:Program)(σ:St)(T:TypeId):List (Nat×Operand)->List At->List At->Prop
 |[],r,out=>out=r
 |(i,x)::ps,r,out=>bOk P T i=true/\gOf (look P σ (bTy P T i) x)=true/\(unc (look P σ (bTy P T i) x)).flat=true/\
   (unc (look P σ (bTy P T i) x)).cells.length=P.cellsOf (bTy P T i)/\RD P T i+P.cellsOf (bTy P T i)<=r.length/\
   TT P σ T ps (place r (RD P T i) (unc (look P σ (bTy P T i) x)).cells) out
def PL(P:Program)(t:TypeId):Bool:=match P.underlying t with|some .bool=>true|some (.int _)=>true|some .string=>true|_=>false
def V1(P:Program):List Field->Nat->Bool
 |[],_=>true
 | f :: fs, i => decide (f.name ≠ "_") && f.offset == i && PL P f.type && V1 P fs (i + 1)
def Tr(P:Program):List Field->Nat->Bool
 |[],_=>true
 | f :: fs, i => decide (f.name ≠ "_") && f.offset == i && (if PL P f.type then Tr P fs (i + 1) else (match P.underlying f.type with | some (.struct gs) => qP P f.type && U9 P f.type && P.cellsOf f.type == gs.size && decide (0 < gs.size) && !P.stoodInHeld f.type && V1 P gs.toList 0 && Tr P fs (i + gs.size) | _ => false))
def ES(P:Program)(f:Field):List TypeId:=if PL P f.type then[f.type]else(match P.underlying f.type with|some (.struct gs)=>gs.toList.map (·.type)|_=>[])
def zg(P:Program)(T:TypeId):List TypeId:=(P.fieldsOf T).toList.flatMap (ES P)
def Pg(P:Program)(t:TypeId):Bool:=match P.underlying t with
 |some (.struct fs)=>!P.stoodInHeld t&&!P.eqGuardType P.depth t&&Tr P fs.toList 0
 |_=>false
def sP(P:Program)(t:TypeId):At->At->Option Bool
 |.d (.int k a),.d (.int k' b)=>if k=k'/\(Ah P t).isSome then some (a==b)else none
 |.d (.bool a),.d (.bool b)=>if Le P t then some (a==b)else none
 |.d (.str a),.d (.str b)=>if T9 P t then some (decide (a=b))else none
 |_,_=>none
def Qq(P:Program):List TypeId->List At->List At->Option Bool
 |[],_,_=>some true
 |f::fs,x::xs,y::ys=>(match sP P f x y,Qq P fs xs ys with|some p,some q=>some (p&&q)|_,_=>none)
 |_,_,_=>none
def BJ(P:Program)(op:BinOp)(T:TypeId)(x y v:V):Prop:=
 match x,y with
 |.one (.d (.int k m)),.one (.d (.int k' n))=>((op= .shl\/op= .shr)\/k'=k)/\I4 op k m n v
 |.one (.d (.str m)),.one (.d (.str n))=>HL op m n v
 |.one (.d (.bool m)),.one (.d (.bool n))=>Le P T=true/\NT op m n v
 |.agg xs,.agg ys=>Pg P T=true/\∃q,Qq P (zg P T) xs ys=some q/\((op= .eql/\v= .one (.d (.bool q)))\/(op= .neq/\v= .one (.d (.bool (!q)))))
 |_,_=>False
def Wc(t j i:Nat):Nat->List D->List At
 |_,[]=>[]
 |c,x::xs=>(match x with|.sl _ _=>.tref t j i c none|x=>.d x)::Wc t j i (c+1) xs
def SY(q:Bool)(t j i c:Nat)(xs:List D):List At:=match q with|true=>Wc t j i c xs|false=>xs.map .d
def Yh(P:Program)(σ:St)(op:Op)(ty:TypeId)(v:V):Prop:=
 match op with
 |.move x=>v=look P σ ty x
 |.assign x=>v=look P σ ty x
 |.pick c a b=>∃bc p q,gOf (look P σ ty c)=true/\unc (look P σ ty c)= .one (.d (.bool bc))/\(bc=true->unc (look P σ ty a)= .one (.d (.bool p)))/\(bc=false->unc (look P σ ty b)= .one (.d (.bool q)))/\
   (bc=true->gOf (look P σ ty a)=true)/\(bc=false->gOf (look P σ ty b)=true)/\v= .one (.d (.bool (cond bc p q)))
 |.load T x=>gOf (look P σ 0 x)=true/\qP P T=true/\
   (match unc (look P σ 0 x)with
   |.one (.bptr t c)=>∃cells,σ.ob t 0= .box cells/\c+P.cellsOf T<=cells.length/\v=ldV P T (cut cells c (P.cellsOf T))
   |.one (.ptr t j i c)=>∃q size rows,σ.ob t j= .arr q size rows/\i<rows.length/\c+P.cellsOf T<=size/\v=ldV P T (SY q t j i c (cut (rows.getD i []) c (P.cellsOf T)))
   |.one (.rptr r c)=>c+P.cellsOf T<=r.length/\v=ldV P T ((cut r c (P.cellsOf T)).map .d)
   |.one (.tref t j i c (some k))=>∃size rows s,σ.ob t j= .arr true size rows/\i<rows.length/\(rows.getD i [])[c]?=some (.sl 1 s)/\P.cellsOf T=1/\k<s.length/\(s.getD k []).all D.scalar=true/\v=ldV P T ((s.getD k []).map .d)
   |_=>False)
 |.fieldAddr T x f=>gOf (look P σ 0 x)=true/\kA P T f=true/\
   (match unc (look P σ 0 x)with
   |.one (.bptr t c)=>(∃cells,σ.ob t 0= .box cells)/\v= .one (.bptr t (c+Qx P T f))
   |.one (.ptr t j i c)=>(∃q size rows,σ.ob t j= .arr q size rows)/\v= .one (.ptr t j i (c+Qx P T f))
   |.one (.rptr r c)=>v= .one (.rptr r (c+Qx P T f))
   |.one (.tref t j i c (some k))=>(∃size rows,σ.ob t j= .arr true size rows)/\v= .one (.tref t j i c (some (k+Qx P T f)))
   |_=>False)
 |.nilCheck x=>gOf (look P σ 0 x)=true/\
   (match unc (look P σ 0 x)with
   |.one (.bptr t c)=>(∃cells,σ.ob t 0= .box cells)/\v= .one (.bptr t c)
   |_=>False)
 |.indexAddr T x ix=>∃k i,Vy P σ ix k i/\0<=i/\gOf (look P σ 0 x)=true/\
   (match unc (look P σ 0 x)with
   |.one (.d (.sl size rows))=>Xl P T=true/\size=P.cellsOf (ZT P T)/\0<size/\i<(rows.length:Int)/\v= .one (.rptr (rows.getD i.toNat []) 0)
   |.one (.sref t j lo len)=>Xl P T=true/\0<P.cellsOf (ZT P T)/\(∃q rows,σ.ob t j= .arr q (P.cellsOf (ZT P T)) rows)/\i<(len:Int)/\v= .one (.ptr t j (lo+i.toNat) 0)
   |.one (.bptr t c)=>(∃cells,σ.ob t 0= .box cells)/\(∃n,Dx P T=some n/\1<n/\i<(n:Int))/\v= .one (.bptr t (c+i.toNat*P.cellsOf (ZT P T)))
   |.one (.tref t j m c none)=>Xl P T=true/\0<P.cellsOf (ZT P T)/\(∃size rows s,σ.ob t j= .arr true size rows/\m<rows.length/\(rows.getD m [])[c]?=some (.sl (P.cellsOf (ZT P T)) s)/\i<(s.length:Int))/\v= .one (.tref t j m c (some (i.toNat*P.cellsOf (ZT P T))))
   |_=>False)
 |.index T x ix=>∃k i,Vy P σ ix k i/\0<=i/\gOf (look P σ 0 x)=true/\
   (match unc (look P σ 0 x)with
   |.one (.d (.str s))=>T9 P T=true/\i<(s.size:Int)/\v= .one (.d (.int .u8 (s.data.toList.getD i.toNat 0).toNat))
   |.agg xs=>(∃n,Dx P T=some n/\i<(n:Int))/\qP P (ZT P T)=true/\i.toNat*P.cellsOf (ZT P T)+P.cellsOf (ZT P T)<=xs.length/\v=ldV P (ZT P T) (cut xs (i.toNat*P.cellsOf (ZT P T)) (P.cellsOf (ZT P T)))
   |_=>False)
 |.slice T x lo hi none=>gOf (look P σ 0 x)=true/\
   (match unc (look P σ 0 x)with
   |.one (.d (.str s))=>T9 P T=true/\∃l h,bnd P σ 0 lo l/\bnd P σ s.size hi h/\l<=h/\h<=s.size/\v= .one (.d (.str (s.extract l h)))
   |.one (.d (.sl size rows))=>Xl P T=true/\size=P.cellsOf (ZT P T)/\∃l h,bnd P σ 0 lo l/\bnd P σ rows.length hi h/\l<=h/\h<=rows.length/\v= .one (.d (.sl size (cut rows l (h-l))))
   |.one (.sref t j o len)=>Xl P T=true/\(∃q rows,σ.ob t j= .arr q (P.cellsOf (ZT P T)) rows)/\∃l h,bnd P σ 0 lo l/\bnd P σ len hi h/\l<=h/\h<=len/\v= .one (.sref t j (o+l) (h-l))
   |_=>False)
 |.binOp op T x y _=>gOf (look P σ T x)=true/\gOf (look P σ T y)=true/\
   BJ P op T (unc (look P σ T x)) (unc (look P σ T y)) v
 |.unOp op _ x=>gOf (look P σ 0 x)=true/\
   (match op,unc (look P σ 0 x)with
   |.not,.one (.d (.bool b))=>v= .one (.d (.bool (!b)))
   |.neg,.one (.d (.int k n))=>v= .one (.d (.int k (k.wrap (-n))))
   |_,_=>False)
 |.convert S T x=>gOf (look P σ 0 x)=true/\(P.underlying S).isSome=true/\
   (match unc (look P σ 0 x)with
   |.one (.d (.int _ n))=>∃k,Ah P T=some k/\v= .one (.d (.int k (k.wrap n)))
   |_=>False)
 |.extract x i=>gOf (look P σ 0 x)=true/\
   (match unc (look P σ 0 x)with
   |.tup xs=>xs[i]?=some v/\v.flat=true
   |_=>False)
 |.field T x f=>gOf (look P σ 0 x)=true/\kA P T f=true/\qP P (qQ P T f)=true/\
   (match unc (look P σ 0 x)with
   |.agg xs=>Qx P T f+P.cellsOf (qQ P T f)<=xs.length/\v=ldV P (qQ P T f) (cut xs (Qx P T f) (P.cellsOf (qQ P T f)))
   |_=>False)
 |.build T parts=>Qb P T=true/\U9 P T=true/\∃z out,WL P 12 T=some z/\TT P σ T parts.toList z out/\v= .agg out
 |.call c=>
   (match c.callee,c.args.toList,c.argTypes.toList with
   |.builtin .len,[x],[t]=>gOf (look P σ t x)=true/\
     (match unc (look P σ t x)with
     |.one (.d (.str s))=>T9 P t=true/\v= .one (.d (.int .i64 s.size))
     |.one (.d (.sl _ rows))=>Xl P t=true/\v= .one (.d (.int .i64 rows.length))
     |.one (.nil _)=>Xl P t=true/\v= .one (.d (.int .i64 0))
     |.one (.sref u j _ len)=>Xl P t=true/\((∃q size rows,σ.ob u j= .arr q size rows)\/∃size rows,σ.ob u j= .lit size rows)/\v= .one (.d (.int .i64 len))
     |.one (.tref u j i c none)=>Xl P t=true/\∃size rows n s,σ.ob u j= .arr true size rows/\i<rows.length/\(rows.getD i [])[c]?=some (.sl n s)/\v= .one (.d (.int .i64 s.length))
     |_=>False)
   |.builtin .max,[x,y],_=>∃k m n,Vy P σ x k m/\Vy P σ y k n/\v= .one (.d (.int k (if n>m then n else m)))
   |.builtin .min,[x,y],_=>∃k m n,Vy P σ x k m/\Vy P σ y k n/\v= .one (.d (.int k (if n<m then n else m)))
   |_,_,_=>False)
 |_=>False
theorem xY(b off n:Nat):(⟨b,off,none⟩:Addr).add n=⟨b,off+n,none⟩:=by unfold Addr.add;split<;>simp_all
theorem kb{T:TypeId}(ht:qP P T=true):∃d i,P.underlying T=some d/\P.info? T=some i/\i.size=P.cellsOf T/\(U9 P T=true\/P.cellsOf T=1):=by simp only[qP,Bool.and_eq_true,Bool.or_eq_true,beq_iff_eq]at ht;obtain⟨⟨h1,h2⟩,h3⟩:=ht;obtain⟨d,hd⟩:=Option.isSome_iff_exists.1 h1;obtain⟨i,hi⟩:=Option.isSome_iff_exists.1 h2;exact⟨d,i,hd,hi,by simp[Program.cellsOf,hi],h3⟩
theorem PX{T:TypeId}{d:TypeDesc}(hd:P.underlying T=some d)(w:World):(isAgg T).run P w= .ok (U9 P T) w:=by unfold isAgg U9;rw[hd];simp only[Sem.run_bind,run_underlying hd,Result.andThen_ok];cases d<;>simp
theorem KQ{T:TypeId}{i:TypeInfo}(hi:P.info? T=some i)(w:World):(sizeOf T).run P w= .ok (P.cellsOf T) w:=by simp[sizeOf,typeInfo,hi,Program.cellsOf]
theorem uT{T:TypeId}(ht:qP P T=true)(hl:cs.length=P.cellsOf T)(hc:∀j v,cs[j]?=some v->w.cell? ⟨b,off+j,none⟩=some v):
  ∃val,(Instr.loadAt T (.pointer (some ⟨b,off,none⟩))).run P w= .ok val w/\(U9 P T=true->val= .agg cs.toArray)/\(U9 P T=false->cs=[val]):=by
 obtain⟨d,i,hd,hi,m0,mr⟩:=kb ht;cases gq:U9 P T with
 |true=>
  refine⟨.agg cs.toArray,?_,fun _=>rfl,(fun hh=>by cases hh)⟩;have:=run_loadCells_list (P:=P) w ⟨b,off,none⟩ cs (fun j v hv=>by rw[xY];exact hc j v hv)
  simp only[Instr.loadAt,Instr.sureAddr,loadVar,Sem.run_bind,Sem.run_pure,Result.andThen_ok,PX hd,gq,if_true,KQ hi,<-hl,this]
 |false=>
  rcases mr with mr|mr
  ·rw[gq]at mr;cases mr
  ·rw[mr]at hl;obtain⟨val,rfl⟩:=List.length_eq_one_iff.1 hl;refine⟨val,?_,(fun hh=>by cases hh),fun _=>rfl⟩;have hc0:=hc 0 val zAG
   simp only[Nat.add_zero]at hc0;simp[Instr.loadAt,Instr.sureAddr,loadVar,PX hd,gq,load,Sem.run,hc0]
theorem wT{T:TypeId}(_ht:qP P T=true){ob:Nat->Nat->Ob}{xs:List At}(hx:YF (YL T' h ob w) xs cs)
  (h1:U9 P T=true->val= .agg cs.toArray) (h2:U9 P T=false->cs=[val]):JB T' h ob w (ldV P T xs) val:=by
 unfold ldV;cases gq:U9 P T with
 |true=>simp only[if_true];exact⟨_,h1 gq,by simpa using hx⟩
 |false=>
  simp only[Bool.false_eq_true,if_false];rw[h2 gq]at hx;cases hx with
  |cons r hx=>cases hx;exact r
theorem YF.cut{α β:Type}{R:α->β->Prop}{l:List α}{m:List β}(x:YF R l m)(o n:Nat):YF R (Vm.cut l o n) (Vm.cut m o n):=(x.drop o).take n
theorem XV{α:Type}(l:List α)(o n:Nat)(hl:o+n<=l.length):(cut l o n).length=n:=by simp[cut];omega
theorem zl{α:Type}(l:List α)(o n j:Nat)(v:α)(hv:(cut l o n)[j]?=some v):l[o+j]?=some v:=by
 simp only[cut,List.getElem?_take,List.getElem?_drop]at hv;split at hv
 ·exact hv
 ·cases hv
theorem jd{α:Type}:∀(rows:List (List α))(size:Nat),(∀r∈rows,r.length=size)->∀(i:Nat)(r:List α),rows[i]?=some r->∀(j:Nat)(d:α),r[j]?=some d->rows.flatten[i*size+j]?=some d
 |[],_,_,i,r,hr,_,_,_=>by simp at hr
 |r0::rows,size,hz,0,r,hr,j,d,hd=>by
  simp at hr;subst hr;have hj:j<r0.length:=(List.getElem?_eq_some_iff.1 hd).1
  simp[List.getElem?_append_left hj,hd]
 |r0::rows,size,hz,i+1,r,hr,j,d,hd=>by
  have ih:=jd rows size (fun r hr=>hz r zB8) i r (by simpa using hr) j d hd;have h0:r0.length=size:=hz r0 zAG;rw[List.flatten_cons,List.getElem?_append_right (by rw[h0,Nat.add_mul];omega),h0];have:(i+1)*size+j-size=i*size+j:=by rw[Nat.add_mul];omega
  rw[this];exact ih
theorem YU{α:Type}(rows:List (List α))(size:Nat)(hz:∀r∈rows,r.length=size):rows.flatten.length=rows.length*size:=by
 induction rows with
 |nil=>simp
 |cons r rows ih=>rw[List.flatten_cons,List.length_append,ih (fun r hr=>hz r zB8),hz r zAG,List.length_cons,Nat.add_mul];omega
theorem Rd.row(r:Rd T w v (.sl size rows))(i:Nat)(hi:i<rows.length)(m0:0<size):
  ∃a len cap,v= .slice (some a) len cap/\len=rows.length/\a.spot=none/\
   ∃g:Nat->Value,∀k d,(rows.getD i [])[k]?=some d->w.cell? ⟨a.block,a.off+i*size+k,none⟩=some (g k)/\T a.block (a.off+i*size+k)/\Rd T w (g k) d:=by
 cases r with
 |nil=>simp at hi
 |sl a len cap size rows g hl hc hm hz hs hg hr=>
  have mN:rows[i]?=some (rows.getD i []):=zAu;have nf:rows.flatten≠[]:=by
   have hlen:=YU rows size hz;have hp:0<rows.length*size:=Nat.mul_pos zAD m0;intro he;have h0:rows.flatten.length=0:=by rw[he];rfl
   omega
  refine⟨a,len,cap,rfl,hl.symm,hs nf,fun k=>g (i*size+k),fun k d hd=>?_⟩;have hf:=jd rows size hz i _ mN k d hd
  have h1:=hg _ _ hf;rw[Nat.add_assoc];exact⟨h1.1,h1.2,hr _ _ hf⟩
theorem FM(r:Rd T w v (.sl size rows)):∀x∈rows,x.length=size:=by
 cases r with
 |nil=>intro x hx;cases hx
 |sl a len cap size rows g hl hc hm hz hs hg hr=>exact hz
theorem Aa(r:Rd T w v (.sl size rows)):∃base cap,v= .slice base rows.length cap/\rows.length<=cap/\cap<=maxLen:=by
 cases r with
 |nil=>exact⟨none,0,rfl,zAG,by simp[maxLen]⟩
 |sl a len cap size rows g hl hc hm hz hs hg hr=>exact⟨some a,cap,by rw[hl],zAD,hm⟩
theorem QB{t:TypeId}(ht:Xl P t=true):∃i,P.underlying t=some (.slice (ZT P t))/\P.info? (ZT P t)=some i/\i.size=P.cellsOf (ZT P t):=by
 unfold Xl at ht;split at ht
 ·rename_i e he;obtain⟨i,hi⟩:=Option.isSome_iff_exists.1 ht;have:ZT P t=e:=by simp[ZT,he]
  rw[this];exact⟨i,he,hi,by simp[Program.cellsOf,hi]⟩
 ·cases ht
theorem H0{t:TypeId}(ht:Dx P t=some n):∃i,P.underlying t=some (.array n (ZT P t))/\P.info? (ZT P t)=some i/\i.size=P.cellsOf (ZT P t):=by
 unfold Dx at ht;split at ht
 ·rename_i m e he;split at ht
  ·rename_i hh;cases ht;obtain⟨i,hi⟩:=Option.isSome_iff_exists.1 hh;have:ZT P t=e:=by simp[ZT,he]
   rw[this];exact⟨i,he,hi,by simp[Program.cellsOf,hi]⟩
  ·cases ht
 ·cases ht
theorem OG{t:TypeId}(ht:kA P t f=true):∃fs fd i,P.underlying t=some (.struct fs)/\fs[f]?=some fd/\fd.offset=Qx P t f/\fd.type=qQ P t f/\P.info? fd.type=some i/\i.size≠0:=by
 unfold kA at ht;split at ht
 ·rename_i fs he;split at ht
  ·rename_i fd hf;simp at ht;obtain⟨i,hi⟩:=Option.isSome_iff_exists.1 ht.1;exact⟨fs,fd,i,he,hf,by simp[Qx,he,hf],by simp[qQ,he,hf],hi,by simpa[Program.cellsOf,hi]using ht.2⟩
  ·cases ht
 ·cases ht
theorem jH{t:TypeId}(ht:T9 P t=true):P.underlying t=some .string:=by unfold T9 at ht;split at ht<;>first|assumption|cases ht
theorem Gj{t:TypeId}(ht:Ah P t=some k):P.underlying t=some (.int k):=by
 unfold Ah at ht;split at ht
 ·cases ht;assumption
 ·cases ht
theorem SX{n:Int}(r:Rd T w v (.int k n)):v= .int k n:=by cases r;rfl
theorem kI{b:Bool}(r:Rd T w v (.bool b)):v= .bool b:=by cases r;rfl
theorem Rx{s:ByteArray}(r:Rd T w v (.str s)):v= .string s:=by cases r;rfl
theorem xo(r:Rel T0 B σ a w X h){n:Int}(hx:Vy P σ x k n):a.eval x= .int k n:=
 SX (r.arg 0 x hx.2 hx.1)
theorem Own.QM{d:D}(h:Own w v d S):v.oneCell'=true:=by
 cases h with
 |int=>rfl
 |bool=>rfl
 |str=>rfl
 |unk _ h=>exact h
 |sl v size rows S e xs Sk ho hz hb hl hk hs hd=>rcases ho.2 with⟨rfl,_⟩|⟨g,cap,cur,rfl,_⟩<;>rfl
theorem HA{t j i:Nat}:∀{xs:List D}{c k:Nat}{x:At},(Wc t j i c xs)[k]?=some x->∃d,xs[k]?=some d/\x=(match d with|.sl _ _=>.tref t j i (c+k) none|d=>.d d)
 |[],c,k,x,hx=>by simp[Wc]at hx
 |d::xs,c,0,x,hx=>by simp only[Wc,List.getElem?_cons_zero]at hx;cases hx;exact⟨d,zAG,by cases d<;>simp⟩
 |d::xs,c,k+1,x,hx=>by simp only[Wc,List.getElem?_cons_succ]at hx;obtain⟨d',nu,rfl⟩:=HA hx;exact⟨d',by simpa using nu,by cases d'<;>simp;omega⟩
theorem Px{t j i:Nat}:∀(c:Nat)(xs:List D),(Wc t j i c xs).length=xs.length
 |_,[]=>rfl
 |c,d::xs=>by simp[Wc,Px (c+1) xs]
theorem F0(q:Bool)(t j i c:Nat)(xs:List D):(SY q t j i c xs).length=xs.length:=by cases q<;>simp[SY,Px]
theorem Rel.box(r:Rel T0 B σ a w X h){cells:List At}(ho:σ.ob t 0= .box cells){c:Nat}(hv:YL (Tof T0 X) h σ.ob w (.bptr t c) v):
  ∃b cs e,(h t 0).v= .pointer (some ⟨b,0,none⟩)/\v= .pointer (some ⟨b,c,none⟩)/\w.heap[b]?=some (.cells cs e (0,0))/\YF (YL (Tof T0 X) h σ.ob w) cells cs.toList:=by
 obtain⟨b,hb,rfl⟩:=hv.2 cells ho;have n9:=r.obj t 0
 rw[ho]at n9;obtain⟨b',cs,e,n7,hh,ni⟩:=n9;rw[hb]at n7;cases n7;exact⟨b,cs,e,hb,rfl,hh,ni⟩
theorem zL{cs:Array Value}{e:TypeId}{f:Nat×Nat}(hh:w.heap[b]?=some (.cells cs e f))(k:Nat)(v:Value)(hv:cs.toList[k]?=some v):w.cell? ⟨b,k,none⟩=some v:=by simp only[World.cell?,hh];simpa using hv
theorem Rel.arr(r:Rel T0 B σ a w X h)(ho:σ.ob t j= .arr q size rows){c:Nat}(hv:YL (Tof T0 X) h σ.ob w (.ptr t j i c) v):
  ∃b cap cur e xs,(h t j).v= .slice (some ⟨b,0,none⟩) rows.length cap/\v= .pointer (some ⟨b,i*size+c,none⟩)/\w.heap[b]?=some (.cells cur e (0,0))/\rows.length<=cap/\cap<=maxLen/\cur.size=cap*size/\
   cur.toList.take (rows.length*size)=xs/\(∀r∈rows,r.length=size)/\xs.length=rows.flatten.length/\(q=false->YF (Rd (Tof T0 X) w) xs rows.flatten)/\
   (q=true->KJ w xs rows.flatten (fun b=>(h t j).u b/\blk (h t j).v≠some b)/\∀k x d,xs[k]?=some x->rows.flatten[k]?=some d->d.scalar=false->(h t j).n k=x):=by
 obtain⟨b,n,cap,hb,rfl⟩:=hv.2 q size rows ho;have n9:=r.obj t j
 rw[ho]at n9;cases q with
 |false=>
  obtain⟨e,xs,nk,hz,ni⟩:=n9;rcases nk.2 with⟨h0,_⟩|⟨g,eQ,cur,hg,_,hh,hle,iG,iH,iZ⟩
  ·rw[hb]at h0;cases h0
  ·rw[hb]at hg;cases hg;exact⟨b,cap,cur,e,xs,hb,rfl,hh,hle,iG,iH,iZ,hz,ni.length,fun _=>ni,fun hh=>by cases hh⟩
 |true=>
  obtain⟨e,xs,nk,hz,ni,hn⟩:=n9;rcases nk.2 with⟨h0,_⟩|⟨g,eQ,cur,hg,_,hh,hle,iG,iH,iZ⟩
  ·rw[hb]at h0;cases h0
  ·rw[hb]at hg;cases hg;exact⟨b,cap,cur,e,xs,hb,rfl,hh,hle,iG,iH,iZ,hz,ni.1,(fun hh=>by cases hh),fun _=>⟨ni,hn⟩⟩
theorem Own.hdr(h:Own w v (.sl n s) S)(hp:0<s.length):∃b cap,v= .slice (some ⟨b,0,none⟩) s.length cap:=by
 cases h with
 |sl v size rows S e xs Sk ho hz hb hl hk hs hd=>
  obtain⟨_,⟨_,h0⟩|⟨g,cap,cur,hv,_⟩⟩:=ho
  ·omega
  ·exact⟨g,cap,hv⟩
theorem Rel.nest(r:Rel T0 B σ a w X h){c:Nat}(ho:σ.ob t j= .arr true size rows)(hi:i<rows.length)(nr:(rows.getD i [])[c]?=some (.sl n s)):∃v0 S,(h t j).n (i*size+c)=v0/\Own w v0 (.sl n s) S:=by
 have h0:=r.obj t j;rw[ho]at h0;obtain⟨e,vs,iJ,hz,⟨hl,Sk,o1,o2,o3⟩,hn⟩:=h0;have mN:rows[i]?=some (rows.getD i []):=zAu;have lL:rows.flatten[i*size+c]?=some (.sl n s):=jd rows size hz i _ mN c _ nr;have nn:i*size+c<vs.length:=by rw[hl];exact(List.getElem?_eq_some_iff.1 lL).1
 have cB:vs[i*size+c]?=some vs[i*size+c]:=List.getElem?_eq_getElem nn;exact⟨_,_,hn _ _ _ cB lL rfl,o1 _ _ _ cB lL⟩
theorem As(r:Rel T0 B σ a w X h){T:TypeId}{v:V}(na:o.op= .load T x)(hs:Yh P σ o.op o.type v):
  ∃val,(execOp a.eval o).run P w= .ok (.value val) w/\JB (Tof T0 X) h σ.ob w v val:=by
 simp only[na,Yh]at hs;obtain⟨hg,iV,hs⟩:=hs;have hx:=r.arg (P:=P) 0 x rfl hg
 have key:∀(b off:Nat)(xs:List At)(cs:List Value),a.eval x= .pointer (some ⟨b,off,none⟩)->v=ldV P T xs->cs.length=P.cellsOf T->
   (∀j u,cs[j]?=some u->w.cell? ⟨b,off+j,none⟩=some u)->YF (YL (Tof T0 X) h σ.ob w) xs cs->∃val,(execOp a.eval o).run P w= .ok (.value val) w/\JB (Tof T0 X) h σ.ob w v val:=by
  intro b off xs cs he hv hl hc ni;obtain⟨val,hr,h1,h2⟩:=uT (P:=P) iV hl hc;refine⟨val,?_,?_⟩
  ·simp only[execOp,na,he,Sem.run_bind,hr,Result.andThen_ok,Sem.run_pure]
  ·rw[hv];exact wT iV ni h1 h2
 split at hs
 ·rename_i t c heq;rw[heq]at hx;obtain⟨cells,ho,hle,hv⟩:=hs;obtain⟨b,cs,e,hb,he,hh,ni⟩:=r.box ho hx;have hlen:=ni.length
  refine key b c _ (cut cs.toList c (P.cellsOf T)) he hv (XV _ _ _ zAD) (fun j u hu=>zL hh _ _ (zl _ _ _ _ _ hu)) (ni.cut _ _)
 ·rename_i t j i c heq;rw[heq]at hx;obtain⟨q,size,rows,ho,hi,hle,hv⟩:=hs;obtain⟨b,cap,cur,e,xs,hb,he,hh,lX,iG,iH,iZ,hz,eN,ni,nk⟩:=r.arr ho hx;have mN:rows[i]?=some (rows.getD i []):=zAu
  have gi:(rows.getD i []).length=size:=hz _ (List.mem_of_getElem? mN);have lM:=YU rows size hz;have hmul:i*size+size<=rows.length*size:=zBY;have fW:∀k d',(cut (rows.getD i []) c (P.cellsOf T))[k]?=some d'->rows.flatten[i*size+c+k]?=some d':=by
   intro k d' nu;have h2:=jd rows size hz i _ mN (c+k) d' (zl _ _ _ _ _ nu)
   rw[show i*size+c+k=i*size+(c+k)by omega];exact h2
  refine key b (i*size+c) _ (cut xs (i*size+c) (P.cellsOf T)) he hv (XV _ _ _ zAD) (fun j u hu=>?_) ?_
  ·have h1:=zl _ _ _ _ _ hu;refine zL hh _ _ ?_;rw[<-iZ,List.getElem?_take]at h1;split at h1
   ·exact h1
   ·cases h1
  ·refine YF.xS (by rw[XV _ _ _ zAD,F0,XV _ _ _ zAD]) (fun k x u hx hu=>?_);have h1:=zl _ _ _ _ _ hu
   cases q with
   |false=>
    obtain⟨d,hd,hr⟩:=(ni rfl).get _ _ h1;simp only[SY]at hx;rw[List.getElem?_map]at hx;cases nu:(cut (rows.getD i []) c (P.cellsOf T))[k]? with
    |none=>rw[nu]at hx;cases hx
    |some d'=>rw[nu]at hx;cases hx;rw[fW k d' nu]at hd;cases hd;exact hr
   |true=>
    obtain⟨⟨_,Sk,nk,_,_⟩,hn⟩:=nk rfl;simp only[SY]at hx;obtain⟨d',nu,rfl⟩:=HA hx;have mG:=nk _ _ _ h1 (fW k d' nu)
    cases d' with
    |sl s rs=>
     refine⟨mG.QM,fun mC nv iS=>?_⟩;rw[ho]at iS;cases iS;show _=_
     rw[<-hn _ _ _ h1 (fW k _ nu) rfl,Nat.add_assoc]
    |int k n=>cases mG;exact .int _ _
    |bool b=>cases mG;exact .bool _
    |str s=>cases mG;exact .str _
    |unk=>exact .unk _ mG.QM
 ·rename_i rr c heq;rw[heq]at hx;obtain⟨hle,hv⟩:=hs;obtain⟨b,off,g,he,hk⟩:=hx;refine key b (off+c) _ ((List.range (P.cellsOf T)).map fun j=>g (c+j)) he hv zAG (fun j u hu=>?_) ?_
  ·rw[List.getElem?_map]at hu;rcases Nat.lt_or_ge j (P.cellsOf T)with hj|hj
   ·rw[List.getElem?_range hj]at hu;cases hu;have hd:=hk (c+j) (rr[c+j]'zAD) (List.getElem?_eq_getElem _)
    rw[Nat.add_assoc];exact hd.1
   ·rw[List.getElem?_eq_none (by simpa using hj)]at hu;cases hu
  ·refine YF.xS (by rw[List.length_map,XV _ _ _ zAD];simp) (fun k x u hx hu=>?_);rw[List.getElem?_map]at hx hu;cases nu:(cut rr c (P.cellsOf T))[k]? with
   |none=>rw[nu]at hx;cases hx
   |some d'=>
    rw[nu]at hx;cases hx;have hkl:k<P.cellsOf T:=by have:=(List.getElem?_eq_some_iff.1 nu).1;rw[XV _ _ _ zAD]at this;exact this
    rw[List.getElem?_range hkl]at hu;cases hu;exact(hk (c+k) d' (zl _ _ _ _ _ nu)).2.2
 ·rename_i t j i c k heq;rw[heq]at hx;obtain⟨size,rows,s,ho,hi,nr,hT1,hks,lA,hv⟩:=hs;obtain⟨v0,S,hn,nk⟩:=r.nest ho hi nr;obtain⟨b,len,gV,dt,he⟩:=hx.2 _ _ ho;rw[hn]at dt;cases nk with
  |sl v mC nv S e xs Sk iS hz hb hl hk nt hd=>
   rcases iS.2 with⟨rfl,h0⟩|⟨g,cap,cur,rfl,_,hh,iK,iG,iH,iZ⟩
   ·omega
   ·cases dt;have mN:s[k]?=some (s.getD k []):=by simp[List.getD_eq_getElem?_getD,List.getElem?_eq_getElem hks]
    have gi:(s.getD k []).length=1:=hz _ (List.mem_of_getElem? mN);have lM:=YU s 1 hz;refine key b k _ (cut xs k (P.cellsOf T)) he hv (XV _ _ _ zAD) (fun j u hu=>?_) ?_
    ·have h1:=zl _ _ _ _ _ hu;refine zL hh _ _ ?_;rw[<-iZ,List.getElem?_take]at h1;split at h1
     ·exact h1
     ·cases h1
    ·refine YF.xS (by rw[List.length_map,XV _ _ _ zAD];omega) (fun q x u hx hu=>?_);rw[List.getElem?_map]at hx;cases nu:(s.getD k [])[q]? with
     |none=>rw[nu]at hx;cases hx
     |some d'=>
      rw[nu]at hx;cases hx;have hq:q=0:=by have:=(List.getElem?_eq_some_iff.1 nu).1;omega
      subst hq;have hf:=jd s 1 hz k _ mN 0 d' nu
      rw[Nat.mul_one]at hf;have ho3:=hk _ _ _ (zl _ _ _ _ _ hu) hf
      have hs3:d'.scalar=true:=List.all_eq_true.1 lA d' (List.mem_of_getElem? nu);cases d' with
      |sl s' rs=>cases hs3
      |int k' n'=>cases ho3;exact .int _ _
      |bool b'=>cases ho3;exact .bool _
      |str s'=>cases ho3;exact .str _
      |unk=>exact .unk _ ho3.QM
 ·exact hs.elim
theorem UW{T:TypeId}(hf:kA P T f=true)(b off:Nat):(Instr.fieldAt T (.pointer (some ⟨b,off,none⟩)) f).run P w= .ok (.pointer (some ⟨b,off+Qx P T f,none⟩)) w:=by
 obtain⟨fs,fd,i,hu,eV,dP,iV,hi,nf⟩:=OG hf;have ma:P.cellsOf fd.type≠0:=by simpa[Program.cellsOf,hi]using nf
 simp[Instr.fieldAt,run_underlying hu,eV,Instr.sureAddr,fieldPlace,KQ hi,ma,xY,dP]
theorem Lp(r:Rel T0 B σ a w X h){T:TypeId}{v:V}(na:o.op= .fieldAddr T x f)(hs:Yh P σ o.op o.type v):
  ∃val,(execOp a.eval o).run P w= .ok (.value val) w/\JB (Tof T0 X) h σ.ob w v val:=by
 simp only[na,Yh]at hs;obtain⟨hg,hf,hs⟩:=hs;have hx:=r.arg (P:=P) 0 x rfl hg
 split at hs
 ·rename_i t c heq;rw[heq]at hx;obtain⟨⟨cells,ho⟩,rfl⟩:=hs;obtain⟨b,hb,he⟩:=hx.2 cells ho;refine⟨.pointer (some ⟨b,c+Qx P T f,none⟩),by simp only[execOp,na,he,Sem.run_bind,UW hf,Result.andThen_ok,Sem.run_pure],rfl,fun nq _=>⟨b,hb,rfl⟩⟩
 ·rename_i t j i c heq;rw[heq]at hx;obtain⟨⟨q,size,rows,ho⟩,rfl⟩:=hs;obtain⟨b,n,cap,hb,he⟩:=hx.2 q size rows ho;refine⟨.pointer (some ⟨b,i*size+c+Qx P T f,none⟩),by simp only[execOp,na,he,Sem.run_bind,UW hf,Result.andThen_ok,Sem.run_pure],rfl,fun q' mC nv mG=>?_⟩;rw[ho]at mG;cases mG;exact⟨b,n,cap,hb,by rw[Nat.add_assoc]⟩
 ·rename_i rr c heq;rw[heq]at hx;subst hs;obtain⟨b,off,g,he,hk⟩:=hx;exact⟨.pointer (some ⟨b,off+c+Qx P T f,none⟩),by simp only[execOp,na,he,Sem.run_bind,UW hf,Result.andThen_ok,Sem.run_pure],b,off,g,by rw[Nat.add_assoc],hk⟩
 ·rename_i t j i c k heq;rw[heq]at hx;obtain⟨⟨size,rows,ho⟩,rfl⟩:=hs;obtain⟨b,n,cap,hb,he⟩:=hx.2 size rows ho;refine⟨.pointer (some ⟨b,k+Qx P T f,none⟩),by simp only[execOp,na,he,Sem.run_bind,UW hf,Result.andThen_ok,Sem.run_pure],rfl,fun mC nv mG=>?_⟩;rw[ho]at mG;cases mG;exact⟨b,n,cap,hb,rfl⟩
 ·exact hs.elim
theorem HZ(r:Rel T0 B σ a w X h){v:V}(na:o.op= .nilCheck x)(hs:Yh P σ o.op o.type v):
  ∃val,(execOp a.eval o).run P w= .ok (.value val) w/\JB (Tof T0 X) h σ.ob w v val:=by
 simp only[na,Yh]at hs;obtain⟨hg,hs⟩:=hs;have hx:=r.arg (P:=P) 0 x rfl hg
 split at hs
 ·rename_i t c heq;rw[heq]at hx;obtain⟨⟨cells,ho⟩,rfl⟩:=hs;obtain⟨b,hb,he⟩:=hx.2 cells ho;exact⟨.pointer (some ⟨b,c,none⟩),by simp only[execOp,na,he,Sem.run_pure],rfl,fun nq _=>⟨b,hb,rfl⟩⟩
 ·exact hs.elim
theorem R7{T:TypeId}(ht:Xl P T=true)(ad:Addr)(fK:ad.spot=none)(len cap:Nat)(k:IntKind)(i:Int)(h0:0<=i)(hl:i<(len:Int)):
  (Instr.indexAt T (.slice (some ad) len cap) (.int k i)).run P w= .ok (.pointer (some ⟨ad.block,ad.off+i.toNat*P.cellsOf (ZT P T),none⟩)) w:=by
 obtain⟨ti,hu,hi,m0⟩:=QB ht;obtain⟨b,off,sp⟩:=ad;simp at fK;subst fK;simp[Instr.indexAt,asIntOf,run_underlying hu,h0,hl,KQ hi,xY]
theorem D6{T:TypeId}(ht:Dx P T=some n)(_h1:1<n)(b off:Nat)(k:IntKind)(i:Int)(h0:0<=i)(hl:i<(n:Int)):
  (Instr.indexAt T (.pointer (some ⟨b,off,none⟩)) (.int k i)).run P w= .ok (.pointer (some ⟨b,off+i.toNat*P.cellsOf (ZT P T),none⟩)) w:=by
 obtain⟨ti,hu,hi,m0⟩:=H0 ht;simp[Instr.indexAt,Instr.sureAddr,asIntOf,run_underlying hu,h0,hl,KQ hi,xY]
theorem II(r:Rel T0 B σ a w X h){T:TypeId}{ix:Operand}{v:V}(na:o.op= .indexAddr T x ix)(hs:Yh P σ o.op o.type v):
  ∃val,(execOp a.eval o).run P w= .ok (.value val) w/\JB (Tof T0 X) h σ.ob w v val:=by
 simp only[na,Yh]at hs;obtain⟨k,i,aC,h0,hg,hs⟩:=hs;have hx:=r.arg (P:=P) 0 x rfl hg
 have dm:=xo r aC;split at hs
 ·rename_i size rows heq;rw[heq]at hx;obtain⟨ht,rfl,mn,nn,rfl⟩:=hs;have hil:i.toNat<rows.length:=zAD
  obtain⟨ad,len,cap,he,hlen,fK,g,hk⟩:=Rd.row (show Rd _ _ _ _ from hx) i.toNat hil mn;refine⟨.pointer (some ⟨ad.block,ad.off+i.toNat*P.cellsOf (ZT P T),none⟩),by simp only[execOp,na,he,dm,Sem.run_bind,R7 ht ad fK len cap k i h0 zAD,Result.andThen_ok,Sem.run_pure],ad.block,ad.off+i.toNat*P.cellsOf (ZT P T),g,zAG,hk⟩
 ·rename_i t j lo len heq;rw[heq]at hx;obtain⟨ht,mn,⟨q,rows,ho⟩,nn,rfl⟩:=hs;obtain⟨hle,_,_,base,cap,he,lX,_,_,hb⟩:=hx.2.1 _ _ rows ho;obtain⟨b,gV,hh,iQ⟩:=hb zAD;rw[iQ]at he;refine⟨.pointer (some ⟨b,lo*P.cellsOf (ZT P T)+i.toNat*P.cellsOf (ZT P T),none⟩),by simp only[execOp,na,he,dm,Sem.run_bind,R7 ht ⟨b,lo*P.cellsOf (ZT P T),none⟩ rfl len cap k i h0 nn,Result.andThen_ok,Sem.run_pure],rfl,fun q' mC nv mG=>?_⟩;rw[ho]at mG;cases mG;exact⟨b,rows.length,gV,hh,by simp[Nat.add_mul]⟩
 ·rename_i t c heq;rw[heq]at hx;obtain⟨⟨cells,ho⟩,⟨n,hn,h1,nn⟩,rfl⟩:=hs;obtain⟨b,hb,he⟩:=hx.2 cells ho;exact⟨.pointer (some ⟨b,c+i.toNat*P.cellsOf (ZT P T),none⟩),by simp only[execOp,na,he,dm,Sem.run_bind,D6 hn h1 b c k i h0 nn,Result.andThen_ok,Sem.run_pure],rfl,fun nq _=>⟨b,hb,rfl⟩⟩
 ·rename_i t j m c heq;rw[heq]at hx;obtain⟨ht,mn,⟨size,rows,s,ho,hm,nr,nn⟩,rfl⟩:=hs;obtain⟨v0,S,hn,nk⟩:=r.nest ho hm nr;have he:a.eval x=v0:=by rw[<-hn];exact hx.2 size rows ho
  obtain⟨b,cap,dt⟩:=nk.hdr zAD;rw[dt]at he hn;refine⟨.pointer (some ⟨b,0+i.toNat*P.cellsOf (ZT P T),none⟩),by simp only[execOp,na,he,dm,Sem.run_bind,R7 ht ⟨b,0,none⟩ rfl s.length cap k i h0 nn,Result.andThen_ok,Sem.run_pure],rfl,fun mC nv mG=>?_⟩;rw[ho]at mG;cases mG;exact⟨b,s.length,cap,hn,zAG⟩
 ·exact hs.elim
theorem G9{T:TypeId}(ht:qP P T=true){cs:Array Value}(hl:off+P.cellsOf T<=cs.size):
  ∃val,(part T cs off).run P w= .ok val w/\(U9 P T=true->val= .agg (cut cs.toList off (P.cellsOf T)).toArray)/\(U9 P T=false->cut cs.toList off (P.cellsOf T)=[val]):=by
 obtain⟨d,i,hd,hi,m0,mr⟩:=kb ht;cases gq:U9 P T with
 |true=>
  refine⟨.agg (cs.extract off (off+P.cellsOf T)),?_,fun _=>?_,(fun hh=>by cases hh)⟩
  ·simp only[part,Sem.run_bind,PX hd,gq,Result.andThen_ok,if_true,KQ hi,Sem.run_pure]
  ·congr 1;apply Array.toList_inj.1;simp[cut,Array.toList_extract,List.extract_eq_take_drop]
 |false=>
  rcases mr with mr|mr
  ·rw[gq]at mr;cases mr
  ·rw[mr]at hl⊢;have nn:off<cs.size:=zAD
   refine⟨cs[off],?_,(fun hh=>by cases hh),fun _=>?_⟩
   ·simp[part,PX hd,gq,Array.getElem?_eq_getElem nn]
   ·have:cut cs.toList off 1=[cs.toList[off]'(by simpa using nn)]:=by simp only[cut];rw[List.drop_eq_getElem_cons (by simpa using nn)];simp
    rw[this];simp
theorem Ck{T:TypeId}(ht:qP P T=true){xs:List At}{x:Value}(hx:JB (Tof T0 X) h σ.ob w (.agg xs) x)(hl:off+P.cellsOf T<=xs.length):
  ∃cs:Array Value,x= .agg cs/\∃val,(part T cs off).run P w= .ok val w/\JB (Tof T0 X) h σ.ob w (ldV P T (cut xs off (P.cellsOf T))) val:=by
 obtain⟨cs,rfl,ni⟩:=hx;obtain⟨val,hr,h1,h2⟩:=G9 (P:=P) (w:=w) ht (cs:=cs) (off:=off) (by have:=ni.length;simp at this;omega);exact⟨cs,rfl,val,hr,wT ht (ni.cut _ _) h1 h2⟩
theorem Be(r:Rel T0 B σ a w X h){T:TypeId}{ix:Operand}{v:V}(na:o.op= .index T x ix)(hs:Yh P σ o.op o.type v):
  ∃val,(execOp a.eval o).run P w= .ok (.value val) w/\JB (Tof T0 X) h σ.ob w v val:=by
 simp only[na,Yh]at hs;obtain⟨k,i,aC,h0,hg,hs⟩:=hs;have hx:=r.arg (P:=P) 0 x rfl hg
 have dm:=xo r aC;split at hs
 ·rename_i s heq;rw[heq]at hx;obtain⟨ht,nn,rfl⟩:=hs;have he:=Rx hx
  have hil:i.toNat<s.size:=zAD;refine⟨.int .u8 (s.data.toList.getD i.toNat 0).toNat,?_,.int _ _⟩;have lB:s[i.toNat]?=some (s.data.toList.getD i.toNat 0):=by
   rw[List.getD_eq_getElem?_getD];have h1:s.data.toList[i.toNat]?=some (s.data[i.toNat]'hil):=by rw[List.getElem?_eq_getElem (by simpa using hil)];simp
   rw[h1,getElem?_pos s i.toNat hil];rfl
  simp[execOp,na,he,dm,Instr.index,asIntOf,run_underlying (jH ht),h0,lB]
 ·rename_i xs heq;rw[heq]at hx;obtain⟨⟨n,hn,nn⟩,ht,hl,rfl⟩:=hs;obtain⟨ti,hu,hi,m0⟩:=H0 hn;obtain⟨cs,he,val,hr,hv⟩:=Ck ht hx hl;refine⟨val,?_,hv⟩;simp[execOp,na,he,dm,Instr.index,asIntOf,run_underlying hu,h0,nn,KQ hi,hr]
 ·exact hs.elim
theorem Cq(r:Rel T0 B σ a w X h){T:TypeId}{v:V}(na:o.op= .field T x f)(hs:Yh P σ o.op o.type v):
  ∃val,(execOp a.eval o).run P w= .ok (.value val) w/\JB (Tof T0 X) h σ.ob w v val:=by
 simp only[na,Yh]at hs;obtain⟨hg,hf,ht,hs⟩:=hs;have hx:=r.arg (P:=P) 0 x rfl hg
 split at hs
 ·rename_i xs heq;rw[heq]at hx;obtain⟨hl,rfl⟩:=hs;obtain⟨fs,fd,i,hu,eV,dP,iV,hi,nf⟩:=OG hf;obtain⟨cs,he,val,hr,hv⟩:=Ck ht hx hl;refine⟨val,?_,hv⟩;rw[<-dP,<-iV]at hr;simp[execOp,na,he,Instr.field,run_underlying hu,eV,asAgg,hr]
 ·exact hs.elim
theorem DU(r:Rel T0 B σ a w X h){lY y:Nat}{x:Option Operand}(hb:bnd P σ lY x n)(hy:n<=y)(nf:x≠none):
  (Instr.sliceBound ((x.map a.eval).getD undef) y code).run P w= .ok n w:=by
 cases x with
 |none=>exact absurd rfl nf
 |some x=>
  obtain⟨k,i,hg,hx,h0,rfl⟩:=hb;have he:=SX (r.arg (P:=P) 0 x hx hg)
  have:i<=(y:Int):=zAD;simp[he,Instr.sliceBound,asIntOf,h0,this]
theorem OP(r:Rel T0 B σ a w X h){sl:Bool}{l hh:Nat}(gN:bnd P σ 0 lo l)(fg:bnd P σ len hi hh)(h1:l<=hh)(h2:hh<=cap):
  (Instr.sliceBounds sl len cap (lo.map a.eval) (hi.map a.eval) none).run P w= .ok (l,hh,cap) w:=by
 unfold Instr.sliceBounds;cases hi with
 |none=>
  cases fg;cases lo with
  |none=>cases gN;simp
  |some x=>have:=DU (w:=w) r (code:=.sliceB) gN h1 zAG;simp at this;simp[this]
 |some y=>
  have hb:=DU (w:=w) r (code:=if sl then .sliceAcap else .sliceAlen) fg h2 zAG;simp at hb;cases lo with
  |none=>cases gN;simp[hb]
  |some x=>have:=DU (w:=w) r (code:=.sliceB) gN h1 zAG;simp at this;simp[this,hb]
theorem jT{α:Type}(rows:List (List α))(size l n:Nat)(hz:∀r∈rows,r.length=size)(k:Nat)(d:α)(hd:(cut rows l n).flatten[k]?=some d):rows.flatten[l*size+k]?=some d:=by
 induction rows generalizing l with
 |nil=>simp[cut]at hd
 |cons r rows ih=>
  have hr:r.length=size:=hz r zAG;cases l with
  |zero=>
   simp only[cut,List.drop_zero,Nat.zero_mul,Nat.zero_add]at hd⊢;have aD:(r::rows).flatten=((r::rows).take n).flatten++((r::rows).drop n).flatten:=zBd
   rw[aD,List.getElem?_append_left (List.getElem?_eq_some_iff.1 hd).1];exact hd
  |succ l=>have:=ih l (fun r hr=>hz r zB8) (by simpa[cut]using hd);rw[List.flatten_cons,List.getElem?_append_right (by rw[hr,Nat.add_mul];omega),hr];rw[show(l+1)*size+k-size=l*size+k by rw[Nat.add_mul];omega];exact this
theorem Rd.cut(hv:v= .slice base len cap)(r:Rd T w v (.sl size rows))(l hh:Nat)(h1:l<=hh)(h2:hh<=rows.length)(_hsz:0<size\/True):
  Rd T w (.slice (if cap=l then base else base.map (·.add (l*size))) (hh-l) (cap-l)) (.sl size (Vm.cut rows l (hh-l))):=by
 subst hv;cases r with
 |nil=>
  simp at h2;subst h2;have:l=0:=zAD
  subst this;simp[Vm.cut];exact .nil _
 |sl a len cap size rows g hl hc hm hz hs hg hr=>
  have hlen:(Vm.cut rows l (hh-l)).length=hh-l:=XV _ _ _ zAD;have ic:∀r∈Vm.cut rows l (hh-l),r.length=size:=fun r hr=>hz r (List.mem_of_mem_drop (List.mem_of_mem_take hr));by_cases mK:cap=l
  ·have h0:hh-l=0:=zAD;have gW:Vm.cut rows l (hh-l)=[]:=List.eq_nil_of_length_eq_zero zAD;rw[if_pos mK,gW,h0];exact .sl a 0 (cap-l) size [] g rfl (Nat.zero_le _) zAD (by intro r hr;cases hr) zAG zAG zAG
  ·rw[if_neg mK];refine .sl (a.add (l*size)) (hh-l) (cap-l) size _ (fun k=>g (l*size+k)) hlen zAD zAD ic (fun nf=>?_) (fun k d hd=>?_) (fun k d hd=>hr _ _ (jT rows size l _ hz k d hd))
   ·have:rows.flatten≠[]:=by
     intro he;apply nf;cases mZ:(Vm.cut rows l (hh-l)).flatten with
     |nil=>rfl
     |cons d ds=>have:=jT rows size l (hh-l) hz 0 d (by rw[mZ];rfl);rw[he]at this;simp at this
    have fK:=hs this;unfold Addr.add;split<;>simp[fK]
   ·have fK:a.spot=none:=hs (by
     intro he;have:=jT rows size l (hh-l) hz k d hd
     rw[he]at this;simp at this)
    have:=hg _ _ (jT rows size l (hh-l) hz k d hd);obtain⟨b,off,sp⟩:=a;simp at fK;subst fK;rw[xY];simp only[Nat.add_assoc]at this⊢;exact this
theorem BW(r:Rel T0 B σ a w X h){T:TypeId}{v:V}(na:o.op= .slice T x lo hi none)(hs:Yh P σ o.op o.type v):
  ∃val,(execOp a.eval o).run P w= .ok (.value val) w/\JB (Tof T0 X) h σ.ob w v val:=by
 simp only[na,Yh]at hs;obtain⟨hg,hs⟩:=hs;have hx:=r.arg (P:=P) 0 x rfl hg
 split at hs
 ·rename_i s heq;rw[heq]at hx;obtain⟨ht,l,hh,gN,fg,h1,h2,rfl⟩:=hs;have he:=Rx hx
  have hb:=OP (w:=w) r (sl:=false) gN fg h1 h2;refine⟨.string (s.extract l hh),?_,.str _⟩;simp[execOp,na,he,Instr.sliceAt,Instr.slice,run_underlying (jH ht),hb]
 ·rename_i size rows heq;rw[heq]at hx;obtain⟨ht,rfl,l,hh,gN,fg,h1,h2,rfl⟩:=hs;obtain⟨ti,hu,lN,m0⟩:=QB ht;obtain⟨base,cap,he,lX,iG⟩:=Aa (show Rd _ _ _ _ from hx);have hb:=OP (w:=w) r (sl:=true) (cap:=cap) gN fg h1 zAD
  refine⟨_,?_,Rd.cut he hx l hh h1 h2 (.inr trivial)⟩;simp[execOp,na,he,Instr.sliceAt,Instr.slice,run_underlying hu,hb,KQ lN]
 ·rename_i t j lo0 len heq;rw[heq]at hx;obtain⟨ht,⟨q,rows,ho⟩,l,hh,gN,fg,h1,h2,rfl⟩:=hs;obtain⟨ti,hu,lN,m0⟩:=QB ht;obtain⟨hle,la,l5,base,cap,he,lX,iG,gh,hbs⟩:=hx.2.1 _ _ rows ho;have hb:=OP (w:=w) r (sl:=true) (cap:=cap) gN fg h1 zAD
  refine⟨.slice (if cap=l then base else base.map (·.add (l*P.cellsOf (ZT P T)))) (hh-l) (cap-l),?_,rfl,fun q' mC nv mG=>?_,fun mC nv mG=>by rw[ho]at mG;cases mG⟩
  ·simp[execOp,na,he,Instr.sliceAt,Instr.slice,run_underlying hu,hb,KQ lN]
  ·rw[ho]at mG;cases mG;refine⟨zAD,fun cX hl1=>?_,fun hl1=>?_,_,cap-l,rfl,zAD,zAD,fun hn=>?_,fun mn=>?_⟩
   ·have hl:l=0:=zAD;subst hl;have:len=rows.length:=zAD;have hv:=la this zAD;rw[<-hv,he];simp only[Nat.sub_zero,Nat.zero_mul];have h3:hh=len:=zAD;rw[h3];congr 1;split
    ·rfl
    ·cases base<;>simp[Addr.add]
   ·have hl:l=0:=zAD;subst hl;have hv:=l5 zAD;rw[he]at hv;have hh0:(if cap=0 then base else base.map (·.add (0*P.cellsOf (ZT P T))))=base:=by
     split
     ·rfl
     ·cases base<;>simp[Addr.add]
    rw[hh0];unfold NO at hv⊢;revert hv;cases(h t j).v with
    |slice b n c=>intro hv;cases hv;simp
    |_=>intro hv;cases hv
   ·have aq:base=none:=by
     by_cases mK:cap=l
     ·rw[if_pos mK]at hn;exact hn
     ·rw[if_neg mK]at hn;simpa using hn
    have:=gh aq;omega
   ·obtain⟨b,gV,dI,iQ⟩:=hbs zAD;refine⟨b,gV,dI,?_⟩;rw[if_neg zAD,iQ];simp[xY,Nat.add_mul]
 ·exact hs.elim
theorem AW{α:Type}(l:List α)(k:Nat)(v:α)(vs:List α)(hk:k+(vs.length+1)<=l.length):place (l.set k v) (k+1) vs=place l k (v::vs):=by
 unfold place;have h1:(l.set k v).take (k+1)=l.take k++[v]:=by rw[List.take_set,List.take_succ_eq_append_getElem zAD];rw[List.set_append_right _ _ zAx];simp[Nat.min_eq_left (show k<=l.length by omega)]
 have h2:(l.set k v).drop (k+1+vs.length)=l.drop (k+(vs.length+1)):=by rw[List.drop_set_of_lt zAD];congr 1;omega
 rw[h1,h2];simp
theorem LJ(off:Nat):∀(vs:List Value)(j:Nat)(cs:Array Value),off+j+vs.length<=cs.size->
  ((vs.zipIdx j).foldl (fun cs x=>cs.setIfInBounds (off+x.2) x.1) cs).toList=place cs.toList (off+j) vs
 |[],j,cs,_=>by simp[place]
 |v::vs,j,cs,hl=>by rw[List.zipIdx_cons,List.foldl_cons,LJ off vs (j+1) _ zBu];rw[Array.toList_setIfInBounds,show off+(j+1)=off+j+1 by omega,AW _ _ _ _ zBu]
theorem Sb(off:Nat)(vs cs:Array Value)(hl:off+vs.size<=cs.size):
  (vs.zipIdx.foldl (fun cs x=>cs.setIfInBounds (off+x.2) x.1) cs).toList=place cs.toList off vs.toList:=by
 rw[<-Array.foldl_toList,Array.toList_zipIdx,LJ off vs.toList 0 cs (by simpa using hl)];rfl
theorem QA{α:Type}(r:List α)(off:Nat)(xs:List α)(hl:off+xs.length<=r.length):(place r off xs).length=r.length:=by simp[place];omega
theorem YF.place{α β:Type}{R:α->β->Prop}{l:List α}{m:List β}(x:YF R l m)(off:Nat){l':List α}{m':List β}(y:YF R l' m'):YF R (Vm.place l off l') (Vm.place m off m'):=by unfold Vm.place;rw[y.length];exact((x.take _).append y).append (x.drop _)
theorem WM{ob:Nat->Nat->Ob}{x:V}(hf:x.flat=true)(hv:JB T' h ob w x v):YF (YL T' h ob w) x.cells v.cells.toList:=by
 cases x with
 |one c=>
  have h1:=YL.QM (show YL _ _ _ _ _ _ from hv);have:v.cells=#[v]:=by cases v<;>first|rfl|(simp[Value.oneCell']at h1)
  rw[this];exact .cons hv .nil
 |agg xs=>obtain⟨cs,rfl,ni⟩:=hv;exact ni
 |any=>cases hf
 |tup xs=>cases hf
 |cnd g x=>cases hf
 |fix u x=>cases hf
theorem Ge(r:Rel T0 B σ a w X h)(T:TypeId)(pl:Nat->Option (Nat×Nat))(fJ:∀i,bOk P T i=true->pl i=some (RD P T i,P.cellsOf (bTy P T i))):
  ∀(ps:List (Nat×Operand))(row out:List At)(cells:Array Value),YF (YL (Tof T0 X) h σ.ob w) row cells.toList->TT P σ T ps row out->
   ∃nq,Instr.fill pl cells (ps.map fun x=>(x.1,a.eval x.2))=some nq/\YF (YL (Tof T0 X) h σ.ob w) out nq.toList
 |[],row,out,cells,ni,hb=>by cases hb;exact⟨cells,rfl,ni⟩
 |(i,x)::ps,row,out,cells,ni,hb=>by
  obtain⟨mH,hg,hf,hlen,hle,hb⟩:=hb;have hx:=WM hf (r.arg (P:=P) (bTy P T i) x rfl hg)
  have eu:=hx.length;have hl1:=ni.length;have e1:cells.toList.length=cells.size:=Array.length_toList;have e2:(a.eval x).cells.toList.length=(a.eval x).cells.size:=Array.length_toList;have fF:=ni.place (RD P T i) hx;have heq:=Sb (RD P T i) (a.eval x).cells cells zAD;rw[<-heq]at fF;obtain⟨nq,h1,h2⟩:=Ge r T pl fJ ps _ out _ fF hb;refine⟨nq,?_,h2⟩;have m0:(a.eval x).cells.size=P.cellsOf (bTy P T i):=zAD;simp only[List.map_cons,Instr.fill,fJ i mH];rw[if_neg (by simp[m0];omega)];exact h1
theorem run_places(fs:List Field)(ef:∀f∈fs,(P.info? f.type).isSome=true)(w:World):
  (fs.mapM (m:=Sem) fun f=>do pure (f.offset,<-sizeOf f.type)).run P w= .ok (fs.map fun f=>(f.offset,P.cellsOf f.type)) w:=by
 induction fs with
 |nil=>simp
 |cons f fs ih=>obtain⟨i,hi⟩:=Option.isSome_iff_exists.1 (ef f zAG);simp only[List.mapM_cons,Sem.run_bind,KQ hi,Result.andThen_ok,Sem.run_pure,ih (fun f hf=>ef f (by simp[hf])),List.map_cons]
theorem Cm(r:Rel T0 B σ a w X h){T:TypeId}{v:V}(na:o.op= .build T parts)(hs:Yh P σ o.op o.type v):
  ∃val,(execOp a.eval o).run P w= .ok (.value val) w/\JB (Tof T0 X) h σ.ob w v val:=by
 simp only[na,Yh]at hs;obtain⟨hz,gq,z,out,iX,hb,rfl⟩:=hs;obtain⟨i,zv,hi,hzv,m0,iP⟩:=GI hz iX;have ig:(zeroValue T).run P w= .ok zv w:=by simp[zeroValue,typeInfo,hi,hzv]
 have gB:(parts.map fun(x:Nat×Operand)=>(x.1,a.eval x.2)).toList=parts.toList.map fun x=>(x.1,a.eval x.2):=zAG;unfold U9 at gq;split at gq
 ·rename_i fs hu;by_cases mw:∀f∈fs.toList,(P.info? f.type).isSome=true
  ·have fJ:∀i,bOk P T i=true->(fs.toList.map fun f=>(f.offset,P.cellsOf f.type)).toArray[i]?=some (RD P T i,P.cellsOf (bTy P T i)):=by
    intro i mH;simp only[bOk,hu,Bool.and_eq_true,decide_eq_true_eq]at mH;have nn:=mH.2
    simp[RD,bTy,hu,Qx,qQ,nn]
   obtain⟨nq,h1,h2⟩:=Ge r T _ fJ parts.toList z out zv.cells (iP _ _ _ _) hb;refine⟨.agg nq,?_,nq,rfl,h2⟩;have hm:=run_places (P:=P) fs.toList mw w
   have:(fs.mapM (m:=Sem) fun f=>do pure (f.offset,<-sizeOf f.type)).run P w= .ok (fs.toList.map fun f=>(f.offset,P.cellsOf f.type)).toArray w:=by rw[Array.mapM_eq_mapM_toList];change((fs.toList.mapM (m:=Sem) fun f=>do pure (f.offset,<-sizeOf f.type))>>=fun l=>pure l.toArray).run P w=_;simp only[Sem.run_bind,hm,Result.andThen_ok,Sem.run_pure]
   simp only[execOp,na,Instr.build,Sem.run_bind,ig,Result.andThen_ok,run_underlying hu,this,gB,h1,Sem.run_pure]
  · -- no part can be placed:then there are none
   have gW:parts.toList=[]:=by
    cases hp:parts.toList with
    |nil=>rfl
    |cons p ps=>
     obtain⟨i,x⟩:=p;rw[hp]at hb;have mH:=hb.1
     simp only[bOk,hu,Bool.and_eq_true]at mH;exact absurd (by intro f hf;exact Array.all_eq_true'.1 mH.1 f (by simpa using hf)) mw
   exfalso;rw[show(12:Nat)=11+1 from rfl,WL,hu]at iX;simp only[Option.map_eq_some_iff]at iX;obtain⟨rs,iw,_⟩:=iX;apply mw;intro f hf;have:∀(l:List Field)(rs:List (List At)),l.mapM (fun f=>WL P 11 f.type)=some rs->∀f∈l,(P.info? f.type).isSome=true:=by
    intro l;induction l with
    |nil=>intro rs _ f hf;cases hf
    |cons g l ih=>
     intro rs iw f hf;simp only[List.mapM_cons,Option.bind_eq_bind,Option.bind_eq_some_iff]at iw;obtain⟨r0,gR,aF,bD,_⟩:=iw;rcases List.mem_cons.1 hf with rfl|hf
     ·rw[show(11:Nat)=10+1 from rfl,WL]at gR;cases hi0:P.info? f.type with
      |some i=>rfl
      |none=>simp[Program.underlying,hi0]at gR
     ·exact ih aF bD f hf
   exact this fs.toList rs iw f hf
 ·rename_i n e hu;cases dm:P.info? e with
  |none=>exfalso;rw[show(12:Nat)=11+1 from rfl,WL,hu]at iX;simp only[Option.map_eq_some_iff]at iX;obtain⟨r0,gR,_⟩:=iX;rw[show(11:Nat)=10+1 from rfl,WL]at gR;simp[Program.underlying,dm]at gR
  |some ie=>
   have fJ:∀i,bOk P T i=true->(fun i=>some (i*P.cellsOf e,P.cellsOf e)) i=some (RD P T i,P.cellsOf (bTy P T i)):=by intro i _;simp[RD,bTy,hu]
   obtain⟨nq,h1,h2⟩:=Ge r T _ fJ parts.toList z out zv.cells (iP _ _ _ _) hb;refine⟨.agg nq,?_,nq,rfl,h2⟩;simp only[execOp,na,Instr.build,Sem.run_bind,ig,Result.andThen_ok,run_underlying hu,KQ dm,gB,h1,Sem.run_pure]
 ·cases gq
theorem W6{t:TypeId}(ht:PL P t=true){cs:Array Value}(hv:cs[i]?=some v):(part t cs i).run P w= .ok v w:=by unfold PL at ht;split at ht<;>first|(rename_i hu;simp[part,isAgg,run_underlying hu,hv])|cases ht
theorem Cr{t:TypeId}{ob:Nat->Nat->Ob}{x y:At}(hp:sP P t x y=some p)(hx:YL T' h ob w x u)(hy:YL T' h ob w y v)(d:Nat)(w':World):
  (Op.equalIn (d+1) t u v).run P w'= .ok p w':=by
 unfold sP at hp;split at hp
 ·rename_i k a' k' b';split at hp
  ·rename_i hc;obtain⟨rfl,hi⟩:=hc;obtain⟨k2,ej⟩:=Option.isSome_iff_exists.1 hi;cases hp;rw[SX hx,SX hy];exact Go.run_equalIn_int w' d t _ _ _ _ (Gj ej)
  ·cases hp
 ·split at hp
  ·rename_i hc;cases hp;rw[kI hx,kI hy];have hu:P.underlying t=some .bool:=by unfold Le at hc;split at hc<;>first|assumption|cases hc
   exact Go.run_equalIn_bool' w' d t _ _ hu
  ·cases hp
 ·split at hp
  ·rename_i hc;cases hp;rw[Rx hx,Rx hy];rw[Go.run_equalIn_string w' d t _ _ (jH hc),AE]
  ·cases hp
 ·cases hp
theorem MX{T':CS}{ob:Nat->Nat->Ob}(d:Nat)(cs ds:Array Value)(w':World):∀(fs:List Field)(i:Nat)(xs ys:List At)(q:Bool),V1 P fs i=true->Qq P (fs.map (·.type)) xs ys=some q->
  YF (YL T' h ob w) xs (cs.toList.drop i)->YF (YL T' h ob w) ys (ds.toList.drop i)->(Op.eqFields (d+1) cs ds fs).run P w'= .ok q w'
 |[],i,xs,ys,q,_,hq,_,_=>by simp[Qq]at hq;subst hq;simp[Op.eqFields]
 |f::fs,i,[],ys,q,_,hq,_,_=>by simp[Qq]at hq
 |f::fs,i,x::xs,[],q,_,hq,_,_=>by simp[Qq]at hq
 |f::fs,i,x::xs,y::ys,q,mH,hq,hx,hy=>by
  simp only[V1,Bool.and_eq_true,decide_eq_true_eq,beq_iff_eq]at mH;obtain⟨⟨⟨hn,ho⟩,lA⟩,mH⟩:=mH;simp only[List.map_cons,Qq]at hq;split at hq
  ·rename_i p q' hp iL;cases hq;cases hcd:cs.toList.drop i with
   |nil=>rw[hcd]at hx;cases hx
   |cons u us=>
    cases iE:ds.toList.drop i with
    |nil=>rw[iE]at hy;cases hy
    |cons v vs=>
     rw[hcd]at hx;rw[iE]at hy;cases hx with
     |cons hxu hx=>
      cases hy with
      |cons hyv hy=>
       have hu:cs[i]?=some u:=by
        have:(cs.toList.drop i)[0]?=some u:=by rw[hcd];rfl
        simpa using this
       have hv:ds[i]?=some v:=by
        have:(ds.toList.drop i)[0]?=some v:=by rw[iE];rfl
        simpa using this
       have hus:cs.toList.drop (i+1)=us:=by rw[<-List.drop_drop,hcd];rfl
       have cB:ds.toList.drop (i+1)=vs:=by rw[<-List.drop_drop,iE];rfl
       have ih:=MX d cs ds w' fs (i+1) xs ys q' mH iL (by rw[hus];exact hx) (by rw[cB];exact hy);subst ho;simp only[Op.eqFields,if_pos hn,Sem.run_bind,W6 lA hu,W6 lA hv,Result.andThen_ok,Cr hp hxu hyv d w'];cases p
       ·simp
       ·simpa using ih
  ·cases hq
theorem OR(P:Program):∀(ts:List TypeId)(xs ys:List At)(q:Bool),Qq P ts xs ys=some q->ts.length<=xs.length/\ts.length<=ys.length
 |[],_,_,_,_=>⟨Nat.zero_le _,Nat.zero_le _⟩
 |t::ts,[],_,_,h=>by simp[Qq]at h
 |t::ts,x::xs,[],_,h=>by simp[Qq]at h
 |t::ts,x::xs,y::ys,q,h=>by
  simp only[Qq]at h;split at h
  ·rename_i p q' hp iL;have:=OR P ts xs ys q' iL
   simp only[List.length_cons];omega
  ·cases h
theorem LX(P:Program):∀(ts:List TypeId)(xs ys:List At)(m:Nat),ts.length<=m->Qq P ts (xs.take m) (ys.take m)=Qq P ts xs ys
 |[],_,_,_,_=>by simp[Qq]
 |t::ts,_,_,0,h=>by simp at h
 |t::ts,[],_,m+1,_=>by simp[Qq]
 |t::ts,x::xs,[],m+1,_=>by simp[Qq]
 |t::ts,x::xs,y::ys,m+1,h=>by simp only[List.take_succ_cons,Qq];rw[LX P ts xs ys m zBr]
theorem I5(P:Program):∀(ts us:List TypeId)(xs ys:List At)(q:Bool),Qq P (ts++us) xs ys=some q->∃p q',Qq P ts xs ys=some p/\Qq P us (xs.drop ts.length) (ys.drop ts.length)=some q'/\q=(p&&q')
 |[],us,xs,ys,q,h=>⟨true,q,by simp[Qq],by simpa using h,zAG⟩
 |t::ts,us,[],_,_,h=>by simp[Qq]at h
 |t::ts,us,x::xs,[],_,h=>by simp[Qq]at h
 |t::ts,us,x::xs,y::ys,q,h=>by
  simp only[List.cons_append,Qq]at h;split at h
  ·rename_i p q0 hp hq0;obtain⟨p2,q2,h1,h2,h3⟩:=I5 P ts us xs ys q0 hq0;cases h;exact⟨p&&p2,q2,by simp only[Qq,hp,h1],by simpa using h2,by rw[h3,Bool.and_assoc]⟩
  ·cases h
theorem Oq{T':CS}{ob:Nat->Nat->Ob}(d:Nat)(cs ds:Array Value)(w':World):∀(fs:List Field)(i:Nat)(xs ys:List At)(q:Bool),Tr P fs i=true->Qq P (fs.flatMap (ES P)) xs ys=some q->
  YF (YL T' h ob w) xs (cs.toList.drop i)->YF (YL T' h ob w) ys (ds.toList.drop i)->(Op.eqFields (d+2) cs ds fs).run P w'= .ok q w'
 |[],i,xs,ys,q,_,hq,_,_=>by simp[Qq]at hq;subst hq;simp[Op.eqFields]
 |f::fs,i,xs,ys,q,mH,hq,hx,hy=>by
  simp only[Tr,Bool.and_eq_true,decide_eq_true_eq,beq_iff_eq]at mH;obtain⟨⟨hn,ho⟩,mH⟩:=mH;subst ho;rw[List.flatMap_cons]at hq;obtain⟨p,q',hp,iL,rfl⟩:=I5 P _ _ _ _ _ hq;cases lA:PL P f.type with
  |true=>
   rw[lA,if_pos rfl]at mH;have hl:ES P f=[f.type]:=by unfold ES;rw[lA,if_pos rfl]
   rw[hl]at hp iL;have lL:=MX (P:=P) (d+1) cs ds w' [f] f.offset xs ys p (by simp only[V1,Bool.and_eq_true,decide_eq_true_eq,beq_iff_eq];exact⟨⟨⟨hn,trivial⟩,lA⟩,trivial⟩) hp hx hy
   have ih:=Oq d cs ds w' fs (f.offset+1) (xs.drop 1) (ys.drop 1) q' mH iL (by rw[<-List.drop_drop];exact hx.drop 1) (by rw[<-List.drop_drop];exact hy.drop 1);simp only[Op.eqFields,if_pos hn]at lL⊢;have hlen:=OR P _ _ _ _ hp;have eN:=hx.length;have l0:=hy.length;simp only[List.length_cons,List.length_nil,List.length_drop,Array.length_toList]at hlen eN l0;have hu:cs[f.offset]?=some (cs[f.offset]'zAD):=Array.getElem?_eq_getElem _;have hv:ds[f.offset]?=some (ds[f.offset]'zAD):=Array.getElem?_eq_getElem _;simp only[Sem.run_bind,W6 lA hu,W6 lA hv,Result.andThen_ok]at lL⊢;cases xs with
   |nil=>simp at hlen
   |cons x xs=>
    cases ys with
    |nil=>simp at hlen
    |cons y ys=>
     obtain⟨u,hu2,hxu⟩:=hx.get 0 x rfl;obtain⟨v,mv,hyv⟩:=hy.get 0 y rfl;simp only[Qq]at hp;split at hp
     ·rename_i p0 q0 hp0 hq0;cases hq0;cases hp;have e1:cs[f.offset]'zAD=u:=by
       have:cs[f.offset]?=some u:=by simpa using hu2
       rw[hu]at this;exact Option.some.inj this
      have e2:ds[f.offset]'zAD=v:=by
       have:ds[f.offset]?=some v:=by simpa using mv
       rw[hv]at this;exact Option.some.inj this
      rw[e1,e2,Cr hp0 hxu hyv (d+1) w',Result.andThen_ok];cases p0
      ·simp
      ·simpa using ih
     ·cases hp
  |false=>
   rw[lA,if_neg zAG]at mH;cases hu:P.underlying f.type with
   |none=>rw[hu]at mH;cases mH
   |some de=>
    rw[hu]at mH;cases de with
    |struct gs=>
     simp only[Bool.and_eq_true,beq_iff_eq,Bool.not_eq_true',decide_eq_true_eq]at mH;obtain⟨⟨⟨⟨⟨⟨iV,gq⟩,mK⟩,hgp⟩,mF⟩,hgs⟩,mH⟩:=mH;have hl:ES P f=gs.toList.map (·.type):=by unfold ES;rw[lA,if_neg zAG,hu]
     rw[hl]at hp iL;rw[List.length_map,Array.length_toList]at iL;have hf:P.fieldsOf f.type=gs:=by simp[Program.fieldsOf,hu]
     have hlen:=OR P _ _ _ _ hp;have eN:=hx.length;have l0:=hy.length;simp only[List.length_map,Array.length_toList,List.length_drop]at hlen eN l0;have ih:=Oq d cs ds w' fs (f.offset+gs.size) (xs.drop gs.size) (ys.drop gs.size) q' mH iL (by rw[<-List.drop_drop];exact hx.drop gs.size) (by rw[<-List.drop_drop];exact hy.drop gs.size);obtain⟨va,hra,ha1,_⟩:=G9 (P:=P) (w:=w') iV (cs:=cs) (off:=f.offset) (by rw[mK];omega);obtain⟨vb,hrb,lC,_⟩:=G9 (P:=P) (w:=w') iV (cs:=ds) (off:=f.offset) (by rw[mK];omega);rw[mK]at ha1 lC;have dh:(Op.equalIn (d+2) f.type va vb).run P w'= .ok p w':=by
      rw[ha1 gq,lC gq,show d+2=(d+1)+1 from rfl,Go.run_equalIn_struct w' (d+1) f.type _ _ (by rw[hf];exact hu) mF,hf];refine MX (P:=P) (h:=h) (w:=w) (T':=T') (ob:=ob) d _ _ w' gs.toList 0 (xs.take gs.size) (ys.take gs.size) p hgs ?_ ?_ ?_
      ·rw[LX P _ _ _ _ zAG];exact hp
      ·simpa[cut]using hx.take gs.size
      ·simpa[cut]using hy.take gs.size
     simp only[Op.eqFields,if_pos hn,Sem.run_bind,hra,hrb,Result.andThen_ok,dh];cases p
     ·simp
     ·simpa using ih
    |_=>cases mH
theorem vd{T:TypeId}{ob:Nat->Nat->Ob}{xs ys:List At}(mH:Pg P T=true)(hq:Qq P (zg P T) xs ys=some q)
  (hx:JB T' h ob w (.agg xs) u) (hy:JB T' h ob w (.agg ys) v) (op:BinOp) (x y:Operand) (w':World):
  (eqGuard op T x y u v).run P w'= .ok () w'/\(binOp .eql T u v).run P w'= .ok (.bool q) w'/\(binOp .neq T u v).run P w'= .ok (.bool (!q)) w':=by
 obtain⟨cs,rfl,iH⟩:=hx;obtain⟨ds,rfl,fk⟩:=hy;unfold Pg at mH;split at mH
 ·rename_i fs hu;simp only[Bool.and_eq_true,Bool.not_eq_true']at mH;have hf:P.fieldsOf T=fs:=by simp[Program.fieldsOf,hu]
  have iO:P.underlying T=some (.struct (P.fieldsOf T)):=by rw[hf];exact hu
  have mB:(Op.equalIn 10000 T (.agg cs) (.agg ds)).run P w'= .ok q w':=by rw[show(10000:Nat)=9999+1 from rfl,Go.run_equalIn_struct w' 9999 T cs ds iO mH.1.1,show(9999:Nat)=9997+2 from rfl];exact Oq 9997 cs ds w' _ 0 xs ys q (by rw[hf];exact mH.2) hq (by simpa using iH) (by simpa using fk)
  refine⟨Go.run_eqGuard_agg w' op T x y cs ds mH.1.2,?_,?_⟩
  ·rw[Go.run_eql_struct,mB];rfl
  ·rw[Go.run_neq_struct,mB];rfl
 ·cases mH
theorem Gd(r:Rel T0 B σ a w X h){v:V}(na:o.op= .move x\/o.op= .assign x)(hs:Yh P σ o.op o.type v):
  ∃val,(execOp a.eval o).run P w= .ok (.value val) w/\JB (Tof T0 X) h σ.ob w v val:=by
 rcases na with na|na<;>
 ·simp only[na,Yh]at hs;subst hs;exact⟨a.eval x,by simp[execOp,na],r.look _ x⟩
theorem AL(r:Rel T0 B σ a w X h){c:Operand}{v:V}(na:o.op= .pick c x y)(hs:Yh P σ o.op o.type v):
  ∃val,(execOp a.eval o).run P w= .ok (.value val) w/\JB (Tof T0 X) h σ.ob w v val:=by
 simp only[na,Yh]at hs;obtain⟨bc,p,q,hg,hc,hp,hq,hgp,hgq,rfl⟩:=hs;have he:=kI (r.arg (P:=P) o.type c hc hg)
 cases bc with
 |true=>have hx:=kI (r.arg (P:=P) o.type x (hp rfl) (hgp rfl));exact⟨.bool p,by simp[execOp,na,he,asBool,hx],.bool _⟩
 |false=>have hy:=kI (r.arg (P:=P) o.type y (hq rfl) (hgq rfl));exact⟨.bool q,by simp[execOp,na,he,asBool,hy],.bool _⟩
theorem kM(op:BinOp)(T:TypeId)(x y:Operand)(hv:∀cs,v≠ .agg cs)(hn:v≠ .nilIface):(eqGuard op T x y v u).run P w= .ok () w:=by unfold eqGuard;cases op<;>simp<;>(split<;>first|exact absurd rfl hn|exact absurd rfl (hv _)|simp)
theorem w9(r:Rel T0 B σ a w X h){T T':TypeId}{v:V}(na:o.op= .binOp op T x y T')(hs:Yh P σ o.op o.type v):
  ∃val,(execOp a.eval o).run P w= .ok (.value val) w/\JB (Tof T0 X) h σ.ob w v val:=by
 simp only[na,Yh]at hs;obtain⟨gd,gf,hs⟩:=hs;have hx:=r.arg (P:=P) T x rfl gd
 have hy:=r.arg (P:=P) T y rfl gf;unfold BJ at hs;split at hs
 ·rename_i k m k' n heq gb;rw[heq]at hx;rw[gb]at hy;have ex:=SX hx
  have ey:=SX hy;obtain⟨d,rfl,val,hr,hd⟩:=Ap (P:=P) (t:=T) hs.1 hs.2 w;refine⟨val,?_,hd _ _⟩;simp only[execOp,na,ex,ey,Sem.run_bind,kM op T x y (v:=.int k m) (u:=.int k' n) zAG zAG,Result.andThen_ok,hr,Sem.run_pure]
 ·rename_i m n heq gb;rw[heq]at hx;rw[gb]at hy;have ex:=Rx hx
  have ey:=Rx hy;obtain⟨d,rfl,val,hr,hd⟩:=AP (P:=P) (t:=T) hs w;refine⟨val,?_,hd _ _⟩;simp only[execOp,na,ex,ey,Sem.run_bind,kM op T x y (v:=.string m) (u:=.string n) zAG zAG,Result.andThen_ok,hr,Sem.run_pure]
 ·rename_i m n heq gb;rw[heq]at hx;rw[gb]at hy;have ex:=kI hx
  have ey:=kI hy;obtain⟨d,rfl,val,hr,hd⟩:=Ce (P:=P) (t:=T) hs.1 hs.2 w;refine⟨val,?_,hd _ _⟩;simp only[execOp,na,ex,ey,Sem.run_bind,kM op T x y (v:=.bool m) (u:=.bool n) zAG zAG,Result.andThen_ok,hr,Sem.run_pure]
 ·rename_i xs ys heq gb;rw[heq]at hx;rw[gb]at hy;obtain⟨mH,q,hq,hs⟩:=hs;obtain⟨h1,h2,h3⟩:=vd (P:=P) mH hq hx hy op x y w;rcases hs with⟨rfl,rfl⟩|⟨rfl,rfl⟩
  ·exact⟨.bool q,by simp only[execOp,na,Sem.run_bind,h1,Result.andThen_ok,h2,Sem.run_pure],.bool _⟩
  ·exact⟨.bool (!q),by simp only[execOp,na,Sem.run_bind,h1,Result.andThen_ok,h3,Sem.run_pure],.bool _⟩
 ·exact hs.elim
theorem uj(r:Rel T0 B σ a w X h){op:UnOp}{T:TypeId}{v:V}(na:o.op= .unOp op T x)(hs:Yh P σ o.op o.type v):
  ∃val,(execOp a.eval o).run P w= .ok (.value val) w/\JB (Tof T0 X) h σ.ob w v val:=by
 simp only[na,Yh]at hs;obtain⟨hg,hs⟩:=hs;have hx:=r.arg (P:=P) 0 x rfl hg
 split at hs
 ·rename_i b heq;rw[heq]at hx;subst hs;have he:=kI hx
  exact⟨.bool (!b),by simp[execOp,na,he,Op.unary],.bool _⟩
 ·rename_i k n heq;rw[heq]at hx;subst hs;have he:=SX hx
  exact⟨.int k (k.wrap (-n)),by simp[execOp,na,he,Op.unary,Op.intArith],.int _ _⟩
 ·exact hs.elim
theorem EJ(r:Rel T0 B σ a w X h){S T:TypeId}{v:V}(na:o.op= .convert S T x)(hS:(P.underlying S).isSome=true)(hs:Yh P σ o.op o.type v):
  ∃val,(execOp a.eval o).run P w= .ok (.value val) w/\JB (Tof T0 X) h σ.ob w v val:=by
 simp only[na,Yh]at hs;obtain⟨hg,_,hs⟩:=hs;have hx:=r.arg (P:=P) 0 x rfl hg
 split at hs
 ·rename_i k' n heq;rw[heq]at hx;obtain⟨k,hk,rfl⟩:=hs;have he:=SX hx
  obtain⟨d,hd⟩:=Option.isSome_iff_exists.1 hS;exact⟨.int k (k.wrap n),by simp[execOp,na,he,convert,run_underlying hd,run_underlying (Gj hk),Conv.intToInt],.int _ _⟩
 ·exact hs.elim
theorem EB(r:Rel T0 B σ a w X h){v:V}(na:o.op= .extract x i)(hs:Yh P σ o.op o.type v):
  ∃val,(execOp a.eval o).run P w= .ok (.value val) w/\JB (Tof T0 X) h σ.ob w v val:=by
 simp only[na,Yh]at hs;obtain⟨hg,hs⟩:=hs;have hx:=r.arg (P:=P) 0 x rfl hg
 split at hs
 ·rename_i xs heq;rw[heq]at hx;obtain⟨vs,he,ni⟩:=hx;obtain⟨val,hU,hr⟩:=ni.get i v hs.1;have:vs[i]?=some val:=by simpa using hU
  exact⟨val,by simp[execOp,na,he,Instr.extract,this],hr.up⟩
 ·exact hs.elim
theorem C0(r:Rel T0 B σ a w X h){v:V}(na:o.op= .call c)(hs:Yh P σ o.op o.type v):
  ∃val,(execOp a.eval o).run P w= .ok (.value val) w/\JB (Tof T0 X) h σ.ob w v val:=by
 simp only[na,Yh]at hs;obtain⟨callee,args,argTypes⟩:=c;simp only at hs;split at hs
 ·rename_i x t ha ht;obtain rfl:args=#[x]:=zBp;obtain rfl:argTypes=#[t]:=by apply Array.toList_inj.1;simpa using ht
  obtain⟨hg,hs⟩:=hs;have hx:=r.arg (P:=P) t x rfl hg
  split at hs
  ·rename_i s heq;rw[heq]at hx;obtain⟨mF,rfl⟩:=hs;have he:=Rx hx
   exact⟨.int .i64 s.size,by simp[execOp,na,resolve,invoke,builtin,he,Builtin.len_,run_underlying (jH mF),goInt],.int _ _⟩
  ·rename_i size rows heq;rw[heq]at hx;obtain⟨mF,rfl⟩:=hs;obtain⟨ti,hu,_,_⟩:=QB mF;obtain⟨base,cap,he,_,_⟩:=Aa (show Rd _ _ _ _ from hx);exact⟨.int .i64 rows.length,by simp[execOp,na,resolve,invoke,builtin,he,Builtin.len_,run_underlying hu,goInt],.int _ _⟩
  ·rename_i size heq;rw[heq]at hx;obtain⟨mF,rfl⟩:=hs;obtain⟨ti,hu,_,_⟩:=QB mF;have he:a.eval x= .slice none 0 0:=hx
   exact⟨.int .i64 0,by simp[execOp,na,resolve,invoke,builtin,he,Builtin.len_,run_underlying hu,goInt],.int _ _⟩
  ·rename_i u j lo len heq;rw[heq]at hx;obtain⟨mF,ho,rfl⟩:=hs;obtain⟨ti,hu,_,_⟩:=QB mF;have dI:∃base cap,a.eval x= .slice base len cap:=by
    rcases ho with⟨q,size,rows,ho⟩|⟨size,rows,ho⟩
    ·obtain⟨_,_,_,base,cap,he,_,_,_,_⟩:=hx.2.1 _ _ _ ho;exact⟨base,cap,he⟩
    ·obtain⟨_,_,_,base,cap,he,_,_,_,_⟩:=hx.2.2 _ _ ho;exact⟨base,cap,he⟩
   obtain⟨base,cap,he⟩:=dI;exact⟨.int .i64 len,by simp[execOp,na,resolve,invoke,builtin,he,Builtin.len_,run_underlying hu,goInt],.int _ _⟩
  ·rename_i u j i c heq;rw[heq]at hx;obtain⟨mF,size,rows,n,s,ho,hi,nr,rfl⟩:=hs;obtain⟨ti,hu,_,_⟩:=QB mF;obtain⟨v0,S,hn,nk⟩:=r.nest ho hi nr;have cr:a.eval x=_:=hx.2 _ _ ho
   rw[hn]at cr;have he:∃base cap,a.eval x= .slice base s.length cap:=by
    rw[cr];cases nk with
    |sl v size rows S e xs Sk iS hz hb hl hk hs hd=>
     rcases iS.2 with⟨rfl,h0⟩|⟨g,cap,cur,rfl,_⟩
     ·exact⟨none,0,by rw[h0]⟩
     ·exact⟨_,cap,rfl⟩
   obtain⟨base,cap,he⟩:=he;exact⟨.int .i64 s.length,by simp[execOp,na,resolve,invoke,builtin,he,Builtin.len_,run_underlying hu,goInt],.int _ _⟩
  ·exact hs.elim
 ·rename_i x y ha;obtain rfl:args=#[x,y]:=zBp;obtain⟨k,m,n,hx,hy,rfl⟩:=hs;have ex:=xo r hx
  have ey:=xo r hy;exact⟨.int k (if n>m then n else m),by simp[execOp,na,resolve,invoke,builtin,ex,ey,Builtin.max_,Builtin.max2],.int _ _⟩
 ·rename_i x y ha;obtain rfl:args=#[x,y]:=zBp;obtain⟨k,m,n,hx,hy,rfl⟩:=hs;have ex:=xo r hx
  have ey:=xo r hy;exact⟨.int k (if n<m then n else m),by simp[execOp,na,resolve,invoke,builtin,ex,ey,Builtin.min_,Builtin.min2],.int _ _⟩
 ·exact hs.elim
theorem WQ(r:Rel T0 B σ a w X h){v:V}(hs:Yh P σ o.op o.type v):
  ∃val,(execOp a.eval o).run P w= .ok (.value val) w/\JB (Tof T0 X) h σ.ob w v val:=by
 cases na:o.op with
 |move x=>exact Gd r (.inl na) hs
 |assign x=>exact Gd r (.inr na) hs
 |pick c x y=>exact AL r na hs
 |load T x=>exact As r na hs
 |fieldAddr T x f=>exact Lp r na hs
 |nilCheck x=>exact HZ r na hs
 |indexAddr T x i=>exact II r na hs
 |index T x i=>exact Be r na hs
 |field T x f=>exact Cq r na hs
 |slice T x lo hi m=>
  cases m with
  |none=>exact BW r na hs
  |some m=>rw[na]at hs;exact hs.elim
 |binOp op T x y T'=>exact w9 r na hs
 |unOp op T x=>exact uj r na hs
 |convert S T x=>rw[na]at hs;exact EJ r na hs.2.1 (by rw[na];exact hs)
 |extract x i=>exact EB r na hs
 |call c=>exact C0 r na hs
 |build T ps=>exact Cm r na hs
 |_=>rw[na]at hs;exact hs.elim
def At.ref(d:Nat):At->Bool
 |.sref t _ _ _=>t==d
 |.ptr t _ _ _=>t==d
 |.bptr t _=>t==d
 |.fn _ t=>t==d
 |.tref t _ _ _ _=>t==d
 |_=>false
def Yf(d:Nat):List At->Bool
 |[]=>false
 |x::xs=>x.ref d||Yf d xs
def V.Ow(d:Nat):V->Bool
 |.one x=>x.ref d
 |.agg xs=>Yf d xs
 |_=>false
def Tf(d:Nat):List V->Bool
 |[]=>false
 |x::xs=>x.Ow d||Tf d xs
def V.ref(d:Nat):V->Bool
 |.tup xs=>Tf d xs
 |.cnd _ x=>x.Ow d||(match x with|.tup xs=>Tf d xs|_=>false)
 |.one x=>x.ref d
 |.agg xs=>Yf d xs
 |.fix _ x=>x.Ow d||(match x with|.tup xs=>Tf d xs|_=>false)
 |.any=>false
def XE(d:Nat):List Ob->Bool
 |[]=>false
 |.box cells::os=>Yf d cells||XE d os
 |.lit _ rows::os=>Yf d rows.flatten||XE d os
 |_::os=>XE d os
def yG(d:Nat):Nat->St->Bool
 |_,[]=>true
 |k,e::σ=>(k==d||(!e.1.ref d&&!XE d e.2))&&yG d (k+1) σ
def St.fresh(σ:St)(d:Nat):Bool:=decide (d<σ.length)&&yG d 0 σ
theorem xO{d:Nat}:∀{σ:St}{k:Nat},yG d k σ=true->∀t e,σ[t]?=some e->k+t≠d->e.1.ref d=false/\XE d e.2=false
 |[],_,_,t,e,he,_=>by simp at he
 |e0::σ,k,hf,t,e,he,nf=>by
  simp only[yG,Bool.and_eq_true,Bool.or_eq_true,beq_iff_eq,Bool.not_eq_true']at hf;cases t with
  |zero=>
   simp at he;subst he;rcases hf.1 with h|h
   ·omega
   ·exact h
  |succ t=>exact xO hf.2 t e (by simpa using he) zAD
theorem St.wv(hf:σ.fresh d=true)(t:Nat)(nf:t≠d):(σ.get t).ref d=false:=by
 simp only[St.fresh,Bool.and_eq_true]at hf;unfold St.get;cases he:σ[t]? with
 |none=>rfl
 |some e=>exact(xO hf.2 t e he zAD).1
theorem Ed{d:Nat}:∀{os:List Ob},XE d os=false->∀j cells,Yp os j= .box cells->Yf d cells=false
 |[],_,j,cells,h=>by simp[Yp]at h
 |o::os,hr,j,cells,h=>by
  cases j with
  |zero=>simp[Yp]at h;subst h;simp[XE]at hr;exact hr.1
  |succ j=>have:Yp os j= .box cells:=zB5;refine Ed (os:=os) ?_ j cells this;cases o<;>simp_all[XE]
theorem H2{d:Nat}:∀{os:List Ob},XE d os=false->∀j size rows,Yp os j= .lit size rows->Yf d rows.flatten=false
 |[],_,j,_,_,h=>by simp[Yp]at h
 |o::os,hr,j,size,rows,h=>by
  cases j with
  |zero=>simp[Yp]at h;subst h;simp[XE]at hr;exact hr.1
  |succ j=>have:Yp os j= .lit size rows:=zB5;refine H2 (os:=os) ?_ j size rows this;cases o<;>simp_all[XE]
theorem St.vC(hf:σ.fresh d=true)(t j:Nat)(nf:t≠d)(size:Nat)(rows:List (List At))(ho:σ.ob t j= .lit size rows):Yf d rows.flatten=false:=by
 simp only[St.fresh,Bool.and_eq_true]at hf;unfold St.ob at ho;cases he:σ[t]? with
 |none=>rw[he]at ho;cases ho
 |some e=>rw[he]at ho;exact H2 (xO hf.2 t e he zAD).2 j size rows ho
theorem St.uY(hf:σ.fresh d=true)(t j:Nat)(nf:t≠d)(cells:List At)(ho:σ.ob t j= .box cells):Yf d cells=false:=by
 simp only[St.fresh,Bool.and_eq_true]at hf;unfold St.ob at ho;cases he:σ[t]? with
 |none=>rw[he]at ho;cases ho
 |some e=>rw[he]at ho;exact Ed (xO hf.2 t e he zAD).2 j cells ho
theorem St.K2(hf:σ.fresh d=true):d<σ.length:=by simp only[St.fresh,Bool.and_eq_true,decide_eq_true_eq]at hf;exact hf.1
def Cpt(h h':Nat->Nat->Hd)(ob l8:Nat->Nat->Ob)(t j:Nat):Prop:=
 (∀q size rows,l8 t j= .arr q size rows->h' t j=h t j/\∃nz,ob t j= .arr q size nz/\nz.length=rows.length)/\
 (∀size rows,l8 t j= .lit size rows->h' t j=h t j/\∃nz,ob t j= .lit size nz/\nz.length=rows.length)/\
 (∀cells,l8 t j= .box cells->h' t j=h t j/\∃lO,ob t j= .box lO)
theorem Cpt.same{ob:Nat->Nat->Ob}(hh:h' t j=h t j)(ho:l8 t j=ob t j):Cpt h h' ob l8 t j:=
 ⟨fun q size rows e=>⟨hh,rows,by rw[<-ho];exact e,rfl⟩,fun size rows e=>⟨hh,rows,by rw[<-ho];exact e,rfl⟩,fun cells e=>⟨hh,cells,by rw[<-ho];exact e⟩⟩
section
variable{ob:Nat->Nat->Ob}
theorem YL.carry(hT:∀b k v,T b k->w.cell? ⟨b,k,none⟩=some v->w'.cell? ⟨b,k,none⟩=some v/\T' b k)(hc:∀t j,t≠d->Cpt h h' ob l8 t j)
  {x:At} (hx:x.ref d=false) (r:YL T h ob w x v):YL T' h' l8 w' x v:=by
 cases x with
 |any=>exact r
 |d x=>exact Rd.mono hT r
 |nil s=>exact r
 |sref t j lo len=>
  have ht:t≠d:=zBt;refine⟨r.1,fun q size rows ho=>?_,fun size rows ho=>?_⟩
  ·obtain⟨hh,nz,m9,hl⟩:=(hc t j ht).1 q size rows ho;rw[hh,<-hl];exact r.2.1 q size nz m9
  ·obtain⟨hh,nz,m9,hl⟩:=(hc t j ht).2.1 size rows ho;rw[hh,<-hl];exact r.2.2 size nz m9
 |ptr t j i c=>have ht:t≠d:=zBt;refine⟨r.1,fun q size rows ho=>?_⟩;obtain⟨hh,nz,m9,hl⟩:=(hc t j ht).1 q size rows ho;rw[hh];exact r.2 q size nz m9
 |bptr t c=>have ht:t≠d:=zBt;refine⟨r.1,fun cells ho=>?_⟩;obtain⟨hh,lO,m9⟩:=(hc t 0 ht).2.2 cells ho;rw[hh];exact r.2 lO m9
 |fn f t=>have ht:t≠d:=zBt;refine⟨r.1,fun cells ho=>?_⟩;obtain⟨hh,lO,m9⟩:=(hc t 0 ht).2.2 cells ho;rw[hh];exact r.2 lO m9
 |tref t j i c o=>have ht:t≠d:=zBt;refine⟨r.1,fun size rows ho=>?_⟩;obtain⟨hh,nz,m9,hl⟩:=(hc t j ht).1 true size rows ho;rw[hh];exact r.2 size nz m9
 |rptr rr c=>obtain⟨b,off,g,e,hk⟩:=r;exact⟨b,off,g,e,fun k d hd=>⟨(hT _ _ _ (hk k d hd).2.1 (hk k d hd).1).1,(hT _ _ _ (hk k d hd).2.1 (hk k d hd).1).2,Rd.mono hT (hk k d hd).2.2⟩⟩
theorem VL(hT:∀b k v,T b k->w.cell? ⟨b,k,none⟩=some v->w'.cell? ⟨b,k,none⟩=some v/\T' b k)(hc:∀t j,t≠d->Cpt h h' ob l8 t j)
  {xs:List At} (hx:Yf d xs=false) (r:YF (YL T h ob w) xs vs):YF (YL T' h' l8 w') xs vs:=by
 induction r with
 |nil=>exact .nil
 |cons r _ ih=>simp only[Yf,Bool.or_eq_false_iff]at hx;exact .cons (YL.carry hT hc hx.1 r) (ih hx.2)
theorem K7.carry(hT:∀b k v,T b k->w.cell? ⟨b,k,none⟩=some v->w'.cell? ⟨b,k,none⟩=some v/\T' b k)(hc:∀t j,t≠d->Cpt h h' ob l8 t j)
  {x:V} (hx:x.Ow d=false) (r:K7 T h ob w x v):K7 T' h' l8 w' x v:=by
 cases x with
 |any=>exact r
 |one x=>exact YL.carry hT hc hx r
 |agg xs=>obtain⟨cs,e,r⟩:=r;exact⟨cs,e,VL hT hc hx r⟩
 |tup xs=>exact r.elim
 |cnd g x=>exact r.elim
 |fix u x=>exact r.elim
theorem JB.carry(hT:∀b k v,T b k->w.cell? ⟨b,k,none⟩=some v->w'.cell? ⟨b,k,none⟩=some v/\T' b k)(hc:∀t j,t≠d->Cpt h h' ob l8 t j)
  {x:V} (hx:x.ref d=false) (r:JB T h ob w x v):JB T' h' l8 w' x v:=by
 cases x with
 |any=>exact r
 |one x=>exact YL.carry hT hc hx r
 |agg xs=>obtain⟨cs,e,r⟩:=r;exact⟨cs,e,VL hT hc hx r⟩
 |tup xs=>
  obtain⟨vs,e,r⟩:=r;refine⟨vs,e,?_⟩;clear e;generalize vs.toList=vl at r;simp only[V.ref]at hx;induction r with
  |nil=>exact .nil
  |cons r _ ih=>simp only[Tf,Bool.or_eq_false_iff]at hx;exact .cons (K7.carry hT hc hx.1 r) (ih hx.2)
 |cnd g x=>simp only[V.ref,Bool.or_eq_false_iff]at hx;exact⟨fun hg=>K7.carry hT hc hx.1 (r.1 hg),r.2⟩
 |fix u x=>simp only[V.ref,Bool.or_eq_false_iff]at hx;exact⟨r.1,K7.carry hT hc hx.1 r.2⟩
end
theorem Rel.Tlt(r:Rel T0 B σ a w X h){k:Nat}(hb:Tof T0 X b k):b<w.heap.size:=by
 rcases hb with hb|hb
 ·exact r.hB b (r.hT b k hb)
 ·exact(r.hX b hb).2
theorem qZ{e:TypeId}{xs:List Value}(hb:∀b,blk v=some b->w'.heap[b]?=w.heap[b]?)(ho:w.ownsRow 0 e size v n xs):w'.ownsRow 0 e size v n xs:=by
 refine⟨ho.1,?_⟩;rcases ho.2 with hn|⟨g,cap,cur,rfl,h0,hg,rest⟩
 ·exact .inl hn
 ·exact .inr ⟨g,cap,cur,rfl,h0,by rw[hb g rfl];exact hg,rest⟩
theorem Own.O2{d:D}(hb:∀b,S b->w'.heap[b]?=w.heap[b]?)(ho:Own w v d S):Own w' v d S:=by
 induction ho with
 |int k n S=>exact .int k n S
 |bool b S=>exact .bool b S
 |str s S=>exact .str s S
 |unk v h S=>exact .unk v h S
 |sl v size rows S e xs Sk ho hz n7 hl hk hs hd ih=>exact .sl v size rows S e xs Sk (qZ (fun b h=>hb b (n7 b h)) ho) hz n7 hl (fun k x d hx nu=>ih k x d hx nu (fun b h=>hb b (hs k b h).1)) hs hd
theorem Own.mono{d:D}{S':Nat->Prop}(hS:∀b,S b->S' b)(ho:Own w v d S):Own w v d S':=by
 cases ho with
 |int k n S=>exact .int k n S'
 |bool b S=>exact .bool b S'
 |str s S=>exact .str s S'
 |unk v h S=>exact .unk v h S'
 |sl v size rows S e xs Sk ho hz n7 hl hk hs hd=>exact .sl v size rows S' e xs Sk ho hz (fun b h=>hS b (n7 b h)) hl hk (fun k b h=>⟨hS b (hs k b h).1,(hs k b h).2⟩) hd
theorem KJ.O2{xs:List Value}(hb:∀b,S b->w'.heap[b]?=w.heap[b]?)(ho:KJ w xs ds S):KJ w' xs ds S:=by obtain⟨hl,Sk,h1,h2,h3⟩:=ho;exact⟨hl,Sk,fun k x d hx hd=>(h1 k x d hx hd).O2 (fun b h=>hb b (h2 k b h)),h2,h3⟩
theorem Jx.O2{ob:Nat->Nat->Ob}{o:Ob}
  (hT:∀b k v,T b k->w.cell? ⟨b,k,none⟩=some v->w'.cell? ⟨b,k,none⟩=some v/\T' b k) (hc:∀t j,t≠d->Cpt h h' ob l8 t j)
  (lF:o≠ .none->∀b,blk hd.v=some b->hd.u b) (hb:o≠ .none->∀b,hd.u b->w'.heap[b]?=w.heap[b]?) (hr:XE d [o]=false) (r:Jx T h ob w hd o):Jx T' h' l8 w' hd o:=by
 cases o with
 |none=>trivial
 |box cells=>obtain⟨b,cs,e,hv,hh,ni⟩:=r;simp only[XE,Bool.or_false]at hr;exact⟨b,cs,e,hv,by rw[hb zAG b (lF zAG b (by rw[hv];rfl))];exact hh,VL hT hc hr ni⟩
 |arr q size rows=>
  have hk:∀{e:TypeId}{n:Nat}{xs:List Value},w.ownsRow 0 e size hd.v n xs->w'.ownsRow 0 e size hd.v n xs:=fun ho=>qZ (fun b h=>hb zAG b (lF zAG b h)) ho;cases q with
  |false=>obtain⟨e,xs,ho,hz,ni⟩:=r;exact⟨e,xs,hk ho,hz,ni.imp fun _ _=>Rd.mono hT⟩
  |true=>obtain⟨e,xs,ho,hz,ni,hn⟩:=r;exact⟨e,xs,hk ho,hz,ni.O2 (fun b h=>hb zAG b h.1),hn⟩
 |lit size rows=>obtain⟨e,xs,ho,hz,ni⟩:=r;simp only[XE,Bool.or_false]at hr;exact⟨e,xs,qZ (fun b h=>hb zAG b (lF zAG b h)) ho,hz,VL hT hc hr ni⟩
theorem St.vj(hf:σ.fresh d=true)(t j:Nat)(nf:t≠d):XE d [σ.ob t j]=false:=by
 cases ho:σ.ob t j with
 |none=>rfl
 |box cells=>simp[XE,St.uY hf t j nf cells ho]
 |arr q size rows=>rfl
 |lit size rows=>simp only[XE,St.vC hf t j nf size rows ho,Bool.or_false]
theorem Rel.B5(r:Rel T0 B σ a w X h)(hf:σ.fresh d=true)(M:Nat->Prop)(m0:w.heap.size<=w'.heap.size)(hg:∀k,k<w.heap.size->¬M k->w'.heap[k]?=w.heap[k]?)
  (hm:∀b,M b->¬B b/\¬X b/\∀t j,t≠d->σ.ob t j≠ .none->¬(h t j).u b) (hX:∀b,X b->X' b) (fR:∀b,X' b->X b\/(w.heap.size<=b/\b<w'.heap.size))
  (v:V) (val:Value) (os:List Ob) (hd:Nat->Hd)
  (hv:JB (Tof T0 X') (fun t j=>if t=d then hd j else h t j) (σ.new d v os).ob w' v val)
  (hos:∀j,Jx (Tof T0 X') (fun t j=>if t=d then hd j else h t j) (σ.new d v os).ob w' (hd j) (Yp os j))
  (lF:∀j b,Yp os j≠ .none->blk (hd j).v=some b->(hd j).u b)
  (nk:∀j b,Yp os j≠ .none->(hd j).u b->(w.heap.size<=b\/M b)/\¬X' b/\b<w'.heap.size)
  (dH:∀j j' b,Yp os j≠ .none->Yp os j'≠ .none->(hd j).u b->(hd j').u b->j=j'):
  Rel T0 B (σ.new d v os) (a.put (some d) val) w' X' (fun t j=>if t=d then hd j else h t j):=by
 have nn:=St.K2 hf;have hTm:∀b k,Tof T0 X b k->¬M b:=by
  intro b k hb hmb;rcases hb with hb|hb
  ·exact(hm b hmb).1 (r.hT b k hb)
  ·exact(hm b hmb).2.1 hb
 have hT:∀b k v,Tof T0 X b k->w.cell? ⟨b,k,none⟩=some v->w'.cell? ⟨b,k,none⟩=some v/\Tof T0 X' b k:=by intro b k v hb nr;refine⟨?_,hb.imp id (hX b)⟩;rw[World.cell?_of_block (hg b (r.Tlt hb) (hTm b k hb))];exact nr
 have hc:∀t j,t≠d->Cpt h (fun t j=>if t=d then hd j else h t j) σ.ob (σ.new d v os).ob t j:=by
  intro t j nf;have he:(σ.new d v os).ob t j=σ.ob t j:=zBv
  exact Cpt.same (by simp[nf]) he
 refine⟨by simp[Act.put,r.size,St.ki],r.defers,fun b hb=>Nat.lt_of_lt_of_le (r.hB b hb) m0,fun b hb=>?_,r.hT,fun t ht=>?_,fun t j=>?_,fun t j b ho hb=>?_,fun t j b ho hb=>?_,fun t j t' j' b ho mG hb n7=>?_⟩
 ·rcases fR b hb with hb|hb
  ·have:=r.hX b hb;exact⟨this.1,zAD⟩
  ·exact⟨fun iY=>by have:=r.hB b iY;omega,hb.2⟩
 ·rw[St.ki]at ht;rw[St.VA];by_cases nu:t=d
  ·subst nu;simp only[nn,and_self,if_true];have:(a.tmps.setIfInBounds t val).getD t undef=val:=by simp[r.size,nn]
   simp only[Act.put,this];exact hv
  ·rw[if_neg (fun hh=>nu hh.1)];have:(a.tmps.setIfInBounds d val).getD t undef=a.tmps.getD t undef:=by simp[Array.getElem?_setIfInBounds_ne (Ne.symm nu)]
   simp only[Act.put,this];exact JB.carry hT hc (St.wv hf t nu) (r.slot t ht)
 ·rw[St.Ji];by_cases nu:t=d
  ·subst nu;simp only[nn,and_self,if_true];exact hos j
  ·have nf:¬(t=d/\d<σ.length):=fun hh=>nu hh.1;rw[if_neg nf];simp only[if_neg nu];exact Jx.O2 hT hc (fun ho b=>r.ub t j b ho) (fun ho b hu=>hg b (r.own t j b ho hu).2.2 (fun hmb=>(hm b hmb).2.2 t j nu ho hu)) (St.vj hf t j nu) (r.obj t j)
 ·rw[St.Ji]at ho;by_cases nu:t=d
  ·subst nu;simp only[nn,and_self,if_true]at ho hb⊢;exact lF j b ho hb
  ·rw[if_neg (fun hh=>nu hh.1)]at ho;simp only[nu,if_false]at hb⊢;exact r.ub t j b ho hb
 ·rw[St.Ji]at ho;by_cases nu:t=d
  ·subst nu;simp only[nn,and_self,if_true]at ho hb;have h1:=nk j b ho hb
   refine⟨?_,h1.2.1,h1.2.2⟩;rcases h1.1 with h2|h2
   ·exact fun iY=>by have:=r.hB b iY;omega
   ·exact(hm b h2).1
  ·rw[if_neg (fun hh=>nu hh.1)]at ho;simp only[nu,if_false]at hb;have:=r.own t j b ho hb
   refine⟨this.1,fun hx=>?_,zAD⟩;rcases fR b hx with hx|hx
   ·exact this.2.1 hx
   ·omega
 ·rw[St.Ji]at ho mG;by_cases hd1:t=d
  ·by_cases fN:t'=d
   ·subst hd1;subst fN;simp only[nn,and_self,if_true]at ho hb mG n7;exact⟨rfl,dH j j' b ho mG hb n7⟩
   ·subst hd1;simp only[nn,and_self,if_true]at ho hb;rw[if_neg (fun hh=>fN hh.1)]at mG;simp only[fN,if_false]at n7;have h1:=nk j b ho hb
    have h2:=r.own t' j' b mG n7;rcases h1.1 with h3|h3
    ·omega
    ·exact absurd n7 ((hm b h3).2.2 t' j' fN mG)
  ·by_cases fN:t'=d
   ·subst fN;simp only[nn,and_self,if_true]at mG n7;rw[if_neg (fun hh=>hd1 hh.1)]at ho;simp only[hd1,if_false]at hb;have h1:=nk j' b mG n7
    have h2:=r.own t j b ho hb;rcases h1.1 with h3|h3
    ·omega
    ·exact absurd hb ((hm b h3).2.2 t j hd1 ho)
   ·rw[if_neg (fun hh=>hd1 hh.1)]at ho;rw[if_neg (fun hh=>fN hh.1)]at mG;simp only[hd1,fN,if_false]at hb n7;exact r.inj t j t' j' b ho mG hb n7
theorem Rel.new(r:Rel T0 B σ a w X h)(hf:σ.fresh d=true)(hg:w.grownBy w' none)(hX:∀b,X b->X' b)(fR:∀b,X' b->X b\/(w.heap.size<=b/\b<w'.heap.size))
  (v:V) (val:Value) (os:List Ob) (hd:Nat->Hd)
  (hv:JB (Tof T0 X') (fun t j=>if t=d then hd j else h t j) (σ.new d v os).ob w' v val)
  (hos:∀j,Jx (Tof T0 X') (fun t j=>if t=d then hd j else h t j) (σ.new d v os).ob w' (hd j) (Yp os j))
  (lF:∀j b,Yp os j≠ .none->blk (hd j).v=some b->(hd j).u b)
  (nk:∀j b,Yp os j≠ .none->(hd j).u b->w.heap.size<=b/\¬X' b/\b<w'.heap.size)
  (dH:∀j j' b,Yp os j≠ .none->Yp os j'≠ .none->(hd j).u b->(hd j').u b->j=j'):
  Rel T0 B (σ.new d v os) (a.put (some d) val) w' X' (fun t j=>if t=d then hd j else h t j):=
 r.B5 hf (fun _=>False) hg.size (fun k hk _=>hg.block k hk zAG) (fun _ hh=>hh.elim) hX fR v val os hd hv hos lF (fun j b h1 h2=>⟨.inl (nk j b h1 h2).1,(nk j b h1 h2).2⟩) dH
open Go.RowKit
def yT(v:Value)(cs:List Value):Prop:=(∃c,cs=[c]/\v=c/\c.oneCell'=true)\/(cs.length≠1/\v= .agg cs.toArray)
def R6:List Value->Value
 |[v]=>v
 |vs=>.tuple vs.toArray
def KD(T:CS)(w:World)(v:Value):D->Prop
 |.sl size rows=>∃e xs,w.ownsRow 0 e size v rows.length xs/\(∀r∈rows,r.length=size)/\YF (Rd T w) xs rows.flatten
 |d=>Rd T w v d
def qY(own:Bool)(T:CS)(w:World)(v:Value)(d:D):Prop:=if own then KD T w v d else Rd T w v d
def TX(P:Program)(f:FuncId):Bool:=
 match P.funcs[f]? with
 | some fn => fn.body.isSome && fn.name != "runtime.NumGoroutine"
 |none=>false
def pr(B N:Nat)(Y:Nat->Prop)(cs:List Value)(ds:List D):Prop:=
 (∀(i:Nat)(c:Value)(d:D)(b:Nat),cs[i]?=some c->ds[i]?=some d->d.scalar=false->blk c=some b->B<=b/\b<N/\¬Y b)/\
 (∀(i j:Nat)(c c':Value)(d d':D)(b:Nat),cs[i]?=some c->ds[i]?=some d->cs[j]?=some c'->ds[j]?=some d'->d.scalar=false->d'.scalar=false->blk c=some b->blk c'=some b->i=j)
def pv(own:Bool)(T:CS)(w:World)(res:List (List D))(e:Ending)(w':World):Prop:=
 ∃(vs:List Value)(mM:List (List Value))(Y:Nat->Prop),e= .returned (R6 vs)/\Below w.heap.size w w'/\(∀b,Y b->w.heap.size<=b/\b<w'.heap.size)/\
  YF yT vs mM/\YF (fun cs row=>YF (qY own (Tof T Y) w') cs row) mM res/\(own=true->pr w.heap.size w'.heap.size Y mM.flatten res.flatten)
def Q0(P:Program)(f:FuncId)(own:Bool)(args res:List (List D)):Prop:=
 TX P f=true/\∀(T:CS)(w:World)(mY:List Value),(∀b k,T b k->b<w.heap.size)->YF (fun v row=>∃cs,yT v cs/\YF (Rd T w) cs row) mY args->
  Calls P f mY.toArray w (pv own T w res)
def vOf:List At->V
 |[x]=>.one x
 |xs=>.agg xs
def Kj(t:Nat):Nat->List D->List At
 |_,[]=>[]
 |k,.sl _ rows::ds=>.sref t k 0 rows.length::Kj t (k+1) ds
 |k,d::ds=>.d d::Kj t (k+1) ds
def xR:List D->List Ob
 |[]=>[]
 |.sl size rows::ds=>.arr false size rows::xR ds
 |_::ds=>.none::xR ds
def EU(t:Nat):Nat->List (List D)->List V
 |_,[]=>[]
 |k,r::rs=>vOf (Kj t k r)::EU t (k+r.length) rs
def jf(t:Nat):List (List D)->V
 |[r]=>vOf (Kj t 0 r)
 |rs=>.tup (EU t 0 rs)
def qe:List (List D)->V
 |[r]=>vOf (r.map .d)
 |rs=>.tup (rs.map fun r=>vOf (r.map .d))
def yH(σ:St):At->Option D
 |.d x=>some x
 |.nil s=>some (.sl s [])
 |.sref t j lo len=>(match σ.ob t j with|.arr _ size rows=>some (.sl size (cut rows lo len))|_=>none)
 |_=>none
def rowOf(σ:St):List At->Option (List D)
 |[]=>some []
 |x::xs=>(match yH σ x,rowOf σ xs with|some d,some ds=>some (d::ds)|_,_=>none)
def V.zB(σ:St):V->Option (List D)
 |.one x=>rowOf σ [x]
 |.agg [_]=>none
 |.agg xs=>rowOf σ xs
 |_=>none
def Qs(P:Program)(σ:St):List Operand->List TypeId->List (List D)->Prop
 |[],_,rs=>rs=[]
 |x::xs,t::ts,rs=>gOf (look P σ t x)=true/\∃r rest,(unc (look P σ t x)).zB σ=some r/\Qs P σ xs ts rest/\rs=r::rest
 |_::_,[],_=>False
def At.D4:At->Bool
 |.sref _ _ _ _=>false
 |.tref _ _ _ _ _=>false
 |_=>true
def zP:List At->Bool
 |[]=>true
 |x::xs=>x.D4&&zP xs
def Yi(P:Program)(σ:St):List Operand->List TypeId->Bool
 |x::xs,t::ts=>zP (unc (look P σ t x)).cells&&Yi P σ xs ts
 |_,_=>true
theorem Rel.grow(r:Rel T0 B σ a w X h)(hg:w.grownBy w' none)(hX:∀b,X b->X' b)(fR:∀b,X' b->X b\/(w.heap.size<=b/\b<w'.heap.size)):Rel T0 B σ a w' X' h:=by
 have hT:∀b k v,Tof T0 X b k->w.cell? ⟨b,k,none⟩=some v->w'.cell? ⟨b,k,none⟩=some v/\Tof T0 X' b k:=by intro b k v hb nr;refine⟨?_,hb.imp id (hX b)⟩;rw[World.cell?_of_block (hg.block b (r.Tlt hb) zAG)];exact nr
 have hB:w.heap.size<=w'.heap.size:=hg.size;refine⟨r.size,r.defers,fun b hb=>Nat.lt_of_lt_of_le (r.hB b hb) hB,fun b hb=>?_,r.hT,fun t ht=>JB.mono hT (r.slot t ht),fun t j=>?_,r.ub,fun t j b ho hb=>?_,r.inj⟩
 ·rcases fR b hb with hb|hb
  ·have:=r.hX b hb;exact⟨this.1,zAD⟩
  ·exact⟨fun iY=>by have:=r.hB b iY;omega,hb.2⟩
 ·have h0:=r.obj t j;have hk:σ.ob t j≠ .none->∀b,(h t j).u b->w'.heap[b]?=w.heap[b]?:=fun ho b hu=>hg.block b (r.own t j b ho hu).2.2 zAG;have n9:=r.ub t j;cases ho:σ.ob t j with
  |none=>trivial
  |box cells=>rw[ho]at h0 hk n9;obtain⟨b,cs,e,hv,hh,ni⟩:=h0;exact⟨b,cs,e,hv,by rw[hk zAG b (n9 b zAG (by rw[hv];rfl))];exact hh,ni.imp fun _ _=>YL.mono hT⟩
  |arr q size rows=>
   rw[ho]at h0 hk n9;cases q with
   |false=>obtain⟨e,xs,iJ,hz,ni⟩:=h0;exact⟨e,xs,qZ (fun b hb=>hk zAG b (n9 b zAG hb)) iJ,hz,ni.imp fun _ _=>Rd.mono hT⟩
   |true=>obtain⟨e,xs,iJ,hz,ni,hn⟩:=h0;exact⟨e,xs,qZ (fun b hb=>hk zAG b (n9 b zAG hb)) iJ,hz,ni.O2 (fun b hb=>hk zAG b hb.1),hn⟩
  |lit size rows=>rw[ho]at h0 hk n9;obtain⟨e,xs,iJ,hz,ni⟩:=h0;exact⟨e,xs,qZ (fun b hb=>hk zAG b (n9 b zAG hb)) iJ,hz,ni.imp fun _ _=>YL.mono hT⟩
 ·have:=r.own t j b ho hb;refine⟨this.1,fun hx=>?_,zAD⟩;rcases fR b hx with hx|hx
  ·exact this.2.1 hx
  ·omega
def OL(T0:CS)(X:Nat->Prop)(h:Nat->Nat->Hd)(σ:St):CS:=fun b k=>Tof T0 X b k\/∃t j q size rows,σ.ob t j= .arr q size rows/\(h t j).u b
theorem Rel.DG(r:Rel T0 B σ a w X h){k:Nat}(hb:OL T0 X h σ b k):b<w.heap.size:=by
 rcases hb with hb|⟨t,j,q,size,rows,ho,hb⟩
 ·exact r.Tlt hb
 ·exact(r.own t j b zAw hb).2.2
theorem Ay{e:TypeId}{xs:List Value}(ho:w.ownsRow 0 e size v rows.length xs)(hz:∀r∈rows,r.length=size)(hT:∀b k,blk v=some b->T b k)
  (ni:YF (Rd T w) xs rows.flatten):Rd T w v (.sl size rows):=by
 rcases ho.2 with⟨rfl,hn⟩|⟨g,cap,cur,rfl,_,hh,iK,iG,iH,iZ⟩
 ·have:rows=[]:=List.eq_nil_of_length_eq_zero hn;subst this;exact .nil _
 ·refine .sl ⟨g,0,none⟩ _ cap size rows (fun k=>(xs[k]?).getD undef) rfl iK iG hz (fun _=>rfl) (fun k d hd=>?_) (fun k d hd=>?_)
  ·obtain⟨u,hu,_⟩:=ni.get' k d hd;have nn:k<rows.length*size:=by have:=(List.getElem?_eq_some_iff.1 hd).1;rw[YU rows size hz]at this;exact this
   rw[hu];refine⟨?_,hT g _ rfl⟩;simp only[Nat.zero_add];refine zL hh _ _ ?_;rw[<-iZ,List.getElem?_take,if_pos nn]at hu;exact hu
  ·obtain⟨u,hu,hr⟩:=ni.get' k d hd;rw[hu];exact hr
theorem Own.rd{d:D}(ho:Own w v d S)(hT:∀b k,S b->T b k):Rd T w v d:=by
 induction ho with
 |int k n S=>exact .int k n
 |bool b S=>exact .bool b
 |str s S=>exact .str s
 |unk v h S=>exact .unk v h
 |sl v size rows S e xs Sk ho hz n7 hl hk hs hd ih=>exact Ay ho hz (fun b k hb=>hT b k (n7 b hb)) (YF.xS hl (fun k x d hx nu=>ih k x d hx nu (fun b k' hb=>hT b k' (hs k b hb).1)))
theorem KJ.rd{xs:List Value}(ho:KJ w xs ds S)(hT:∀b k,S b->T b k):YF (Rd T w) xs ds:=by obtain⟨hl,Sk,h1,h2,h3⟩:=ho;exact YF.xS hl (fun k x d hx hd=>(h1 k x d hx hd).rd (fun b k' hb=>hT b k' (h2 k b hb)))
theorem Rel.cells(r:Rel T0 B σ a w X h)(ho:σ.ob t j= .arr q size rows):
  ∃e xs,w.ownsRow 0 e size (h t j).v rows.length xs/\(∀r∈rows,r.length=size)/\∀T:CS,(∀b k,Tof T0 X b k->T b k)->(∀b k,(h t j).u b->T b k)->YF (Rd T w) xs rows.flatten:=by
 have h0:=r.obj t j;rw[ho]at h0;cases q with
 |false=>obtain⟨e,xs,iJ,hz,ni⟩:=h0;exact⟨e,xs,iJ,hz,fun T h1 _=>ni.imp fun _ _=>Rd.mono (fun b k v hb hc=>⟨hc,h1 b k hb⟩)⟩
 |true=>obtain⟨e,xs,iJ,hz,ni,hn⟩:=h0;exact⟨e,xs,iJ,hz,fun T _ h2=>ni.rd (fun b k hb=>h2 b k hb.1)⟩
theorem Rel.wD(r:Rel T0 B σ a w X h){lo:Nat}(ho:σ.ob t j= .arr q size rows)(hv:YL (Tof T0 X) h σ.ob w (.sref t j lo len) v)
  (T:CS) (hT1:∀b k,Tof T0 X b k->T b k) (hT2:∀b k,(h t j).u b->T b k):Rd T w v (.sl size (cut rows lo len)):=by
 obtain⟨hle,la,_,base,cap,rfl,lX,dc,gh,hb⟩:=hv.2.1 q size rows ho;obtain⟨e,xs,⟨hl,nk⟩,hz,bX⟩:=r.cells ho;have ni:=bX T hT1 hT2
 have lF:=r.ub t j;have mK:(cut rows lo len).length=len:=XV _ _ _ hle;have ic:∀x∈cut rows lo len,x.length=size:=fun x hx=>hz x (List.mem_of_mem_drop (List.mem_of_mem_take hx));by_cases mn:0<len
 ·obtain⟨b,gV,hh,rfl⟩:=hb mn;rcases nk with⟨hn,_⟩|⟨g,eQ,cur,iz,_,bM,iK,iG,iH,iZ⟩
  ·rw[hh]at hn;cases hn
  ·rw[hh]at iz;cases iz;have key:∀k d,(cut rows lo len).flatten[k]?=some d->∃u,w.cell? ⟨b,lo*size+k,none⟩=some u/\T b (lo*size+k)/\Rd T w u d:=by
    intro k d hd;have nu:=jT rows size lo len hz k d hd
    obtain⟨u,hu,hr⟩:=ni.get' _ _ nu;have nn:lo*size+k<rows.length*size:=by have:=(List.getElem?_eq_some_iff.1 nu).1;rw[YU rows size hz]at this;exact this
    refine⟨u,zL bM _ _ ?_,hT2 b _ (lF b zAw (by rw[hh];rfl)),hr⟩;rw[<-iZ,List.getElem?_take,if_pos nn]at hu;exact hu
   refine .sl ⟨b,lo*size,none⟩ len cap size _ (fun k=>(w.cell? ⟨b,lo*size+k,none⟩).getD undef) mK lX dc ic (fun _=>rfl) (fun k d hd=>?_) (fun k d hd=>?_)
   ·obtain⟨u,hu,ht,_⟩:=key k d hd;rw[hu];exact⟨rfl,ht⟩
   ·obtain⟨u,hu,_,hr⟩:=key k d hd;rw[hu];exact hr
 ·have h0':len=0:=zAD;subst h0';have gW:cut rows lo 0=[]:=by simp[cut]
  rw[gW];cases base with
  |none=>have:=gh rfl;subst this;exact .nil _
  |some ad=>exact .sl ad 0 cap size [] (fun _=>undef) rfl lX dc (by intro r hr;cases hr) zAG zAG zAG
open Go.RowKit
def D.CB:D->Prop
 |.sl _ rows=>∀r∈rows,∀d∈r,d.scalar=true
 |_=>True
def KW(own:Bool)(res:List (List D)):Prop:=∀r∈res,∀d∈r,if own=true then d.CB else d.scalar=true
theorem Rd.scalar{d:D}(hd:d.scalar=true)(r:Rd T w v d):Rd T' w v d:=by
 cases r with
 |int k n=>exact .int k n
 |bool b=>exact .bool b
 |str s=>exact .str s
 |unk v h=>exact .unk v h
 |nil=>cases hd
 |sl=>cases hd
theorem KD.flat{d:D}(hd:d.CB)(r:KD T w v d):KD T' w v d:=by
 cases d with
 |sl size rows=>
  obtain⟨e,xs,ho,hz,ni⟩:=r;refine⟨e,xs,ho,hz,?_⟩;refine YF.xS ni.length (fun i x d hx nu=>?_);obtain⟨d2,fN,hr⟩:=ni.get i x hx;rw[nu]at fN;cases fN;have hm:d∈rows.flatten:=List.mem_of_getElem? nu
  obtain⟨r0,gR,hdr⟩:=List.mem_flatten.1 hm;exact Rd.scalar (hd r0 gR d hdr) hr
 |int k n=>exact Rd.scalar rfl r
 |bool b=>exact Rd.scalar rfl r
 |str s=>exact Rd.scalar rfl r
 |unk=>exact Rd.scalar rfl r
theorem VC{e:TypeId}{xs:List Value}(ho:w.ownsRow 0 e size v n xs):tG v size n 0 n v:=by
 refine⟨zAD,fun _ _=>rfl,?_,?_⟩
 ·intro _;rcases ho.2 with⟨rfl,rfl⟩|⟨g,cap,cur,rfl,_⟩<;>rfl
 rcases ho.2 with⟨rfl,rfl⟩|⟨g,cap,cur,rfl,_,_,iK,iG,_,_⟩
 ·exact⟨none,0,rfl,zAD,by simp[maxLen],fun _=>rfl,fun hh=>zAD⟩
 ·exact⟨_,cap,rfl,iK,iG,(fun hh=>by cases hh),fun _=>⟨g,cap,rfl,zAG⟩⟩
theorem KF{e:TypeId}{xs:List Value}(ho:w.ownsRow 0 e size v n xs):v.oneCell'=true:=by rcases ho.2 with⟨rfl,rfl⟩|⟨g,cap,cur,rfl,_⟩<;>rfl
theorem KD.QM{d:D}(r:KD T w v d):v.oneCell'=true:=by
 cases d with
 |sl size rows=>obtain⟨e,xs,ho,_⟩:=r;exact KF ho
 |int k n=>exact Rd.QM r
 |bool b=>exact Rd.QM r
 |str s=>exact Rd.QM r
 |unk=>exact Rd.QM r
theorem KD.rd{d:D}(r:KD T w v d)(h1:∀b k,T b k->T' b k)(h2:d.scalar=false->∀b k,blk v=some b->T' b k):Rd T' w v d:=by
 cases d with
 |sl size rows=>
  obtain⟨e,xs,⟨hl,nk⟩,hz,ni⟩:=r;rcases nk with⟨rfl,hn⟩|⟨g,cap,cur,rfl,_,hh,iK,iG,iH,iZ⟩
  ·have:rows=[]:=List.eq_nil_of_length_eq_zero hn;subst this;exact .nil _
  ·refine .sl ⟨g,0,none⟩ _ cap size rows (fun k=>(xs[k]?).getD undef) rfl iK iG hz (fun _=>rfl) (fun k d hd=>?_) (fun k d hd=>?_)
   ·obtain⟨u,hu,_⟩:=ni.get' k d hd;have nn:k<rows.length*size:=by have:=(List.getElem?_eq_some_iff.1 hd).1;rw[YU rows size hz]at this;exact this
    rw[hu];refine⟨?_,h2 rfl g _ rfl⟩;simp only[Nat.zero_add];refine zL hh _ _ ?_;rw[<-iZ,List.getElem?_take,if_pos nn]at hu;exact hu
   ·obtain⟨u,hu,hr⟩:=ni.get' k d hd;rw[hu];exact Rd.mono (fun b k v hb hc=>⟨hc,h1 b k hb⟩) hr
 |int k n=>exact Rd.scalar rfl r
 |bool b=>exact Rd.scalar rfl r
 |str s=>exact Rd.scalar rfl r
 |unk=>exact Rd.scalar rfl r
theorem Rel.yH(r:Rel T0 B σ a w X h){x:At}{d:D}(hd:yH σ x=some d)(hv:YL (Tof T0 X) h σ.ob w x v)(st:Bool)(mF:st=true->x.D4=true):
  Rd (if st then Tof T0 X else OL T0 X h σ) w v d:=by
 cases x with
 |d x=>simp[Vm.yH]at hd;subst hd;cases st<;>simp<;>first|exact hv|exact Rd.mono (fun b k v hb hc=>⟨hc,.inl hb⟩) hv
 |nil s=>simp[Vm.yH]at hd;subst hd;cases hv;exact .nil _
 |sref t j lo len=>
  cases st with
  |true=>have:=mF rfl;simp[At.D4]at this
  |false=>
   simp only[Vm.yH]at hd;split at hd
   ·rename_i q size rows ho;cases hd;exact r.wD ho hv _ (fun b k hb=>.inl hb) (fun b k hb=>.inr ⟨t,j,_,size,rows,ho,hb⟩)
   ·cases hd
 |any=>simp[Vm.yH]at hd
 |ptr=>simp[Vm.yH]at hd
 |bptr=>simp[Vm.yH]at hd
 |fn=>simp[Vm.yH]at hd
 |rptr=>simp[Vm.yH]at hd
 |tref=>simp[Vm.yH]at hd
theorem Rel.rowOf(r:Rel T0 B σ a w X h)(st:Bool):∀{xs:List At}{vs:List Value}{ds:List D},rowOf σ xs=some ds->YF (YL (Tof T0 X) h σ.ob w) xs vs->(st=true->zP xs=true)->
  YF (Rd (if st then Tof T0 X else OL T0 X h σ) w) vs ds
 |[],_,ds,hd,ni,_=>by cases ni;simp[Vm.rowOf]at hd;subst hd;exact .nil
 |x::xs,_,ds,hd,ni,mF=>by
  cases ni with
  |cons hx ni=>
   simp only[Vm.rowOf]at hd;split at hd
   ·rename_i d eK h1 h2;cases hd;refine .cons (r.yH h1 hx st (fun hs=>?_)) (Rel.rowOf r st h2 ni (fun hs=>?_))
    ·have:=mF hs;simp[zP]at this;exact this.1
    ·have:=mF hs;simp[zP]at this;exact this.2
   ·cases hd
theorem Rel.zB(r:Rel T0 B σ a w X h)(st:Bool){v:V}{row:List D}(hr:v.zB σ=some row)(hv:JB (Tof T0 X) h σ.ob w v val)(mF:st=true->zP v.cells=true):
  ∃cs,yT val cs/\YF (Rd (if st then Tof T0 X else OL T0 X h σ) w) cs row:=by
 cases v with
 |one x=>exact⟨[val],.inl ⟨val,rfl,rfl,YL.QM (show YL _ _ _ _ _ _ from hv)⟩,r.rowOf st (xs:=[x]) hr (.cons hv .nil) mF⟩
 |agg xs=>
  obtain⟨cs,rfl,ni⟩:=hv;have hl:=ni.length
  match xs,hr,ni,hl,mF with
  |[],hr,ni,hl,mF=>exact⟨cs.toList,.inr ⟨by rw[<-hl];simp,zAG⟩,r.rowOf st hr ni mF⟩
  |[_],hr,_,_,_=>simp[V.zB]at hr
  |x::y::xs,hr,ni,hl,mF=>exact⟨cs.toList,.inr ⟨by rw[<-hl];simp,zAG⟩,r.rowOf st hr ni mF⟩
 |any=>simp[V.zB]at hr
 |tup xs=>simp[V.zB]at hr
 |cnd g x=>simp[V.zB]at hr
 |fix u x=>simp[V.zB]at hr
theorem Rel.Qs(r:Rel T0 B σ a w X h)(st:Bool):∀{xs:List Operand}{ts:List TypeId}{rs:List (List D)},Qs P σ xs ts rs->(st=true->Yi P σ xs ts=true)->
  YF (fun v row=>∃cs,yT v cs/\YF (Rd (if st then Tof T0 X else OL T0 X h σ) w) cs row) (xs.map a.eval) rs
 |[],_,rs,hr,_=>by cases hr;exact .nil
 |x::xs,[],rs,hr,_=>hr.elim
 |x::xs,t::ts,rs,hr,mF=>by
  obtain⟨hg,row,rest,h1,h2,rfl⟩:=hr;refine .cons (r.zB st h1 (r.arg t x rfl hg) (fun hs=>?_)) (Rel.Qs r st h2 (fun hs=>?_))
  ·have:=mF hs;simp[Yi]at this;exact this.1
  ·have:=mF hs;simp[Yi]at this;exact this.2
theorem V2{f:FuncId}(na:o.op= .call c)(hc:c.callee= .value (.func f))(hf:TX P f=true):(execOp a.eval o).run P w= .ok (.enter f (c.args.toList.map a.eval).toArray) w:=by
 unfold TX at hf;split at hf
 ·rename_i fn aM;simp only[Bool.and_eq_true,bne_iff_ne,ne_eq]at hf;obtain⟨cd,hb⟩:=Option.isSome_iff_exists.1 hf.1;obtain⟨callee,args,gx⟩:=c;simp only at hc;subst hc;have hm:(args.toList.map a.eval).toArray=args.map a.eval:=by apply Array.toList_inj.1;simp
  rw[hm];simp[execOp,na,resolve,Act.eval,Deferred.ofValue,invoke,callFunc,aM,hf.2,hb]
 ·cases hf
open Go.RowKit
variable{Q:Exit->Act->World->Prop}{K:Act->World->Prop}{mM:List (List Value)}
theorem Below.grownBy(hb:Below w.heap.size w w'):w.grownBy w' none:=⟨hb.os,hb.tape,hb.output,hb.size,fun k hk _=>hb.block k hk⟩
theorem Iy{ob:Nat->Nat->Ob}{xs:List At}(hf:yT v cs)(ni:YF (YL T h ob w) xs cs):K7 T h ob w (vOf xs) v:=by
 have hl:=ni.length;rcases hf with⟨c,rfl,rfl,h1⟩|⟨nf,rfl⟩
 ·cases ni with
  |cons hx ni=>cases ni;exact hx
 ·match xs,ni,hl with
  |[],ni,_=>exact⟨_,rfl,by simpa using ni⟩
  |[x],ni,hl=>exact absurd hl.symm (by simpa using nf)
  |x::y::xs,ni,_=>exact⟨_,rfl,by simpa using ni⟩
theorem VM{ob:Nat->Nat->Ob}{row:List D}(ni:YF (Rd T w) cs row):YF (YL T h ob w) (row.map .d) cs:=by
 induction ni with
 |nil=>exact .nil
 |cons r _ ih=>exact .cons r ih
theorem AJ{ob:Nat->Nat->Ob}(hf:YF yT vs mM)(ni:YF (fun cs row=>YF (Rd T w) cs row) mM res):
  YF (K7 T h ob w) (res.map fun r=>vOf (r.map .d)) vs:=by
 induction hf generalizing res with
 |nil=>cases ni;exact .nil
 |cons f _ ih=>cases ni with
  |cons r ni=>exact .cons (Iy f (VM r)) (ih ni)
theorem En{ob:Nat->Nat->Ob}(hf:YF yT vs mM)(ni:YF (fun cs row=>YF (Rd T w) cs row) mM res):
  JB T h ob w (qe res) (R6 vs):=by
 have hl:=AJ (h:=h) (ob:=ob) hf ni;have h1:=hl.length;match res,vs,hl,h1 with
 |[r],[v],hl,_=>cases hl with|cons x _=>exact x.up
 |[],[],hl,_=>exact⟨_,rfl,by simpa using hl⟩
 |r::r'::rs,v::v'::vs,hl,_=>exact⟨_,rfl,by simpa using hl⟩
 |[],v::vs,_,h1=>simp at h1
 |[r],[],_,h1=>simp at h1
 |[r],v::v'::vs,_,h1=>simp at h1
 |r::r'::rs,[],_,h1=>simp at h1
 |r::r'::rs,[v],_,h1=>simp at h1
theorem MI{α β:Type}{R S:α->β->Prop}{l:List (List α)}{m:List (List β)}(iw:∀(a:α)(b:β)(row:List β),row∈m->b∈row->R a b->S a b)(ni:YF (fun x y=>YF R x y) l m):YF (fun x y=>YF S x y) l m:=by
 induction ni with
 |nil=>exact .nil
 |@cons x y _ _ gO _ ih=>
  refine .cons ?_ (ih (fun a b row hr=>iw a b row zB8));have lJ:∀b∈y,∀a,R a b->S a b:=fun b hb a hr=>iw a b y zAG hb hr
  clear ih iw;induction gO with
  |nil=>exact .nil
  |cons r _ du=>exact .cons (lJ _ zAG _ r) (du (fun b hb=>lJ b (by simp[hb])))
theorem Wq(r:Rel T0 B σ a w X h){f:FuncId}{own:Bool}(na:o.op= .call c)(hc:c.callee= .value (.func f))(hd:o.dst=some d)
  (np:Qs P σ c.args.toList c.argTypes.toList rows) (st:Bool) (mF:st=true->Yi P σ c.args.toList c.argTypes.toList=true) (lM:st=false->KW own res) (hs:Q0 P f own rows res)
  (hK:∀a' w',Jq T0 B (σ.put d (qe res)) a' w'->XI B w w'->K a' w'):o.wp P a w K Q:=by
 unfold Oper.wp;rw[V2 na hc hs.1,Oper.upon_enter];refine(hs.2 (if st then Tof T0 X else OL T0 X h σ) w _ (fun b k hb=>?_) (r.Qs st np mF)).mono ?_
 ·cases st
  ·exact r.DG hb
  ·exact r.Tlt hb
 ·rintro e w' ⟨vs,mM,Y,rfl,lu,hY,mV,iI,eJ⟩;have fR:∀b,(X b\/(w.heap.size<=b/\b<w'.heap.size))->X b\/(w.heap.size<=b/\b<w'.heap.size):=fun b hb=>hb
  have r2:=r.grow (X':=fun b=>X b\/(w.heap.size<=b/\b<w'.heap.size)) (Below.grownBy lu) (fun b hb=>.inl hb) fR;have hQ:YF (fun cs row=>YF (Rd (Tof T0 fun b=>X b\/(w.heap.size<=b/\b<w'.heap.size)) w') cs row) mM res:=by
   have lJ:∀(i:Nat)(c:Value)(d:D),mM.flatten[i]?=some c->res.flatten[i]?=some d->own=true->d.scalar=false->∀b,blk c=some b->w.heap.size<=b/\b<w'.heap.size:=by
    intro i c d h1 h2 ho lA b hb;have:=(eJ ho).1 i c d b h1 h2 lA hb
    exact⟨this.1,this.2.1⟩
   have conv:∀(c:Value)(d:D),(∀b,own=true->d.scalar=false->blk c=some b->w.heap.size<=b/\b<w'.heap.size)->(st=false->if own=true then d.CB else d.scalar=true)->
     qY own (Tof (if st then Tof T0 X else OL T0 X h σ) Y) w' c d->Rd (Tof T0 fun b=>X b\/(w.heap.size<=b/\b<w'.heap.size)) w' c d:=by
    intro c d mJ dR hr;cases own with
    |true=>
     have lG:KD (Tof (if st then Tof T0 X else OL T0 X h σ) Y) w' c d:=by simpa[qY]using hr
     cases st with
     |true=>
      refine KD.rd lG (fun b k hb=>?_) (fun lA b k hb=>.inr (.inr (mJ b rfl lA hb)));rcases hb with hb|hb
      ·rcases(show Tof T0 X b k from by simpa using hb)with hb|hb
       ·exact .inl hb
       ·exact .inr (.inl hb)
      ·exact .inr (.inr (hY b hb))
     |false=>exact KD.rd (KD.flat (T':=fun _ _=>False) (by simpa using dR rfl) lG) (fun b k hb=>hb.elim) (fun lA b k hb=>.inr (.inr (mJ b rfl lA hb)))
    |false=>
     have lG:Rd (Tof (if st then Tof T0 X else OL T0 X h σ) Y) w' c d:=by simpa[qY]using hr
     cases st with
     |true=>
      refine Rd.mono (fun b k v hb hc=>⟨hc,?_⟩) lG;rcases hb with hb|hb
      ·rcases(show Tof T0 X b k from by simpa using hb)with hb|hb
       ·exact .inl hb
       ·exact .inr (.inl hb)
      ·exact .inr (.inr (hY b hb))
     |false=>exact Rd.scalar (by simpa using dR rfl) lG
   have go:∀(mM:List (List Value))(res:List (List D)),YF (fun cs row=>YF (qY own (Tof (if st then Tof T0 X else OL T0 X h σ) Y) w') cs row) mM res->
     (∀(i:Nat)(c:Value)(d:D),mM.flatten[i]?=some c->res.flatten[i]?=some d->own=true->d.scalar=false->∀b,blk c=some b->w.heap.size<=b/\b<w'.heap.size)->
     (st=false->KW own res)->YF (fun cs row=>YF (Rd (Tof T0 fun b=>X b\/(w.heap.size<=b/\b<w'.heap.size)) w') cs row) mM res:=by
    intro mM res ni;induction ni with
    |nil=>intro _ _;exact .nil
    |@cons cs row css' res' mN _ ih=>
     intro hm hf;have hlen:=mN.length
     refine .cons (YF.xS hlen (fun i c d hc nu=>?_)) (ih (fun i c d h1 h2=>?_) (fun hs r hr=>hf hs r zB8))
     ·obtain⟨d2,fN,hr⟩:=mN.get i c hc;rw[nu]at fN;cases fN;refine conv c d (fun b ho lA hb=>hm i c d ?_ ?_ ho lA b hb) (fun hs=>hf hs row zAG d (List.mem_of_getElem? nu)) hr
      ·rw[List.flatten_cons,List.getElem?_append_left (List.getElem?_eq_some_iff.1 hc).1];exact hc
      ·rw[List.flatten_cons,List.getElem?_append_left (List.getElem?_eq_some_iff.1 nu).1];exact nu
     ·refine hm (cs.length+i) c d ?_ ?_
      ·rw[List.flatten_cons,List.getElem?_append_right zAD];simpa using h1
      ·rw[List.flatten_cons,List.getElem?_append_right zAD,hlen];simpa using h2
   exact go mM res iI lJ lM
  rw[hd];exact hK _ _ ⟨_,_,r2.put d _ _ (En mV hQ)⟩ (XI.NV lu r.hB)
open Go.RowKit
theorem Sj:∀(ds:List D)(k:Nat),Yp (xR ds) k=(match ds[k]? with|some (.sl size rows)=>.arr false size rows|_=>.none)
 |[],k=>by simp[xR,Yp]
 |d::ds,0=>by cases d<;>simp[xR,Yp]
 |d::ds,k+1=>by have:=Sj ds k;cases d<;>simpa[xR,Yp]using this
def kq(T:CS)(w:World)(v:Value):D->Prop
 |.sl size rows=>∃e xs,w.ownsRow 0 e size v rows.length xs
 |d=>Rd T w v d
theorem KD.top{d:D}(r:KD T w v d):kq T w v d:=by
 cases d with
 |sl size rows=>obtain⟨e,xs,ho,_⟩:=r;exact⟨e,xs,ho⟩
 |int k n=>exact r
 |bool b=>exact r
 |str s=>exact r
 |unk=>exact r
theorem kq.QM{d:D}(r:kq T w v d):v.oneCell'=true:=by
 cases d with
 |sl size rows=>obtain⟨e,xs,ho⟩:=r;exact KF ho
 |int k n=>exact Rd.QM r
 |bool b=>exact Rd.QM r
 |str s=>exact Rd.QM r
 |unk=>exact Rd.QM r
theorem SQ{T:CS}{ob:Nat->Nat->Ob}{t:Nat}:∀{ds:List D}{cs:List Value}{k:Nat},YF (kq T w) cs ds->
  (∀i size rows,ds[i]?=some (.sl size rows)->∃q,ob t (k+i)= .arr q size rows)->(∀i c,cs[i]?=some c->(h t (k+i)).v=c)->YF (YL T h ob w) (Kj t k ds) cs
 |[],_,k,ni,_,_=>by cases ni;exact .nil
 |d::ds,_,k,ni,ho,hh=>by
  cases ni with
  |@cons c _ cs _ hc ni=>
   have ih:=SQ (k:=k+1) ni (fun i size rows hi=>by have:=ho (i+1) size rows (by simpa using hi);rw[show k+1+i=k+(i+1)by omega];exact this)
    (fun i c' mZ=>by have:=hh (i+1) c' (by simpa using mZ);rw[show k+1+i=k+(i+1)by omega];exact this)
   cases d with
   |sl size rows=>
    obtain⟨q0,h0⟩:=ho 0 size rows zAG;have h1:=hh 0 c zAG
    rw[Nat.add_zero]at h0 h1;refine .cons ⟨kq.QM hc,fun q' mC nv mG=>?_,fun mC nv mG=>by rw[h0]at mG;cases mG⟩ ih;rw[h0]at mG;cases mG;obtain⟨e,xs,nk⟩:=hc;rw[h1];exact VC nk
   |int k' n=>exact .cons hc ih
   |bool b=>exact .cons hc ih
   |str s=>exact .cons hc ih
   |unk=>exact .cons hc ih
theorem vG{ob:Nat->Nat->Ob}(hf:YF yT vs mM):∀{res:List (List D)}{k:Nat},YF (fun cs row=>YF (kq T w) cs row) mM res->
  (∀i size rows,res.flatten[i]?=some (.sl size rows)->∃q,ob t (k+i)= .arr q size rows)->(∀i c,mM.flatten[i]?=some c->(h t (k+i)).v=c)->YF (K7 T h ob w) (EU t k res) vs:=by
 induction hf with
 |nil=>intro res k ni _ _;cases ni;exact .nil
 |@cons v cs vs' css' f _ ih=>
  intro res k ni ho hh;cases ni with
  |@cons _ row _ res' r ni=>
   have hlen:=r.length;refine .cons (Iy f (SQ r (fun i size rows hi=>ho i size rows ?_) (fun i c hc=>hh i c ?_))) (ih ni (fun i size rows hi=>?_) (fun i c hc=>?_))
   ·rw[List.flatten_cons,List.getElem?_append_left (List.getElem?_eq_some_iff.1 hi).1];exact hi
   ·rw[List.flatten_cons,List.getElem?_append_left (List.getElem?_eq_some_iff.1 hc).1];exact hc
   ·have:=ho (row.length+i) size rows (by rw[List.flatten_cons,List.getElem?_append_right zAD];simpa using hi);rw[Nat.add_assoc];exact this
   ·have:=hh (row.length+i) c (by rw[List.flatten_cons,List.getElem?_append_right zAD,<-hlen];simpa using hc);rw[Nat.add_assoc];exact this
theorem H4{ob:Nat->Nat->Ob}(hf:YF yT vs mM)(ni:YF (fun cs row=>YF (kq T w) cs row) mM res)
  (ho:∀i size rows,res.flatten[i]?=some (.sl size rows)->∃q,ob t i= .arr q size rows) (hh:∀i c,mM.flatten[i]?=some c->(h t i).v=c):JB T h ob w (jf t res) (R6 vs):=by
 have hl:=vG (k:=0) hf ni (by simpa using ho) (by simpa using hh);have h1:res.length=vs.length:=by rw[hf.length,ni.length]
 match res,vs,hl,h1 with
 |[r],[v],hl,_=>cases hl with|cons x _=>exact x.up
 |[],[],hl,_=>exact⟨_,rfl,by simpa using hl⟩
 |r::r'::rs,v::v'::vs,hl,_=>exact⟨_,rfl,by simpa using hl⟩
 |[],v::vs,_,h1=>simp at h1
 |[r],[],_,h1=>simp at h1
 |[r],v::v'::vs,_,h1=>simp at h1
 |r::r'::rs,[],_,h1=>simp at h1
 |r::r'::rs,[v],_,h1=>simp at h1
theorem qI{α β:Type}{R:α->β->Prop}{l:List (List α)}{m:List (List β)}(ni:YF (fun x y=>YF R x y) l m):YF R l.flatten m.flatten:=by
 induction ni with
 |nil=>exact .nil
 |cons r _ ih=>rw[List.flatten_cons,List.flatten_cons];exact r.append ih
theorem P8(r:Rel T0 B σ a w X h){f:FuncId}(na:o.op= .call c)(hc:c.callee= .value (.func f))(hd:o.dst=some d)(mf:σ.fresh d=true)
  (np:Qs P σ c.args.toList c.argTypes.toList rows) (st:Bool) (mF:st=true->Yi P σ c.args.toList c.argTypes.toList=true) (lM:st=false->KW true res) (hs:Q0 P f true rows res)
  (hK:∀a' w',Jq T0 B (σ.new d (jf d res) (xR res.flatten)) a' w'->XI B w w'->K a' w'):o.wp P a w K Q:=by
 have nn:=St.K2 mf;unfold Oper.wp;rw[V2 na hc hs.1,Oper.upon_enter];refine(hs.2 (if st then Tof T0 X else OL T0 X h σ) w _ (fun b k hb=>?_) (r.Qs st np mF)).mono ?_
 ·cases st
  ·exact r.DG hb
  ·exact r.Tlt hb
 ·rintro e w' ⟨vs,mM,Y,rfl,lu,hY,mV,iI,eJ⟩;have eJ:=eJ rfl
  have hQ:YF (fun cs row=>YF (KD (Tof T0 fun b=>X b\/Y b) w') cs row) mM res:=by
   refine MI (fun c d row mN hdr hr=>?_) iI;have lG:KD (Tof (if st then Tof T0 X else OL T0 X h σ) Y) w' c d:=by simpa[qY]using hr
   cases st with
   |true=>
    have hT:∀b k,Tof (if true=true then Tof T0 X else OL T0 X h σ) Y b k->Tof T0 (fun b=>X b\/Y b) b k:=by
     intro b k hb;rcases hb with hb|hb
     ·rcases(show Tof T0 X b k from by simpa using hb)with hb|hb
      ·exact .inl hb
      ·exact .inr (.inl hb)
     ·exact .inr (.inr hb)
    cases d with
    |sl size rows=>obtain⟨e,xs,ho,hz,ni⟩:=lG;exact⟨e,xs,ho,hz,ni.imp fun _ _=>Rd.mono (fun b k v hb hc=>⟨hc,hT b k hb⟩)⟩
    |int k n=>exact Rd.scalar rfl lG
    |bool b=>exact Rd.scalar rfl lG
    |str s=>exact Rd.scalar rfl lG
    |unk=>exact Rd.scalar rfl lG
   |false=>exact KD.flat (by simpa using lM rfl row mN d hdr) lG
  have lL:=qI hQ;rw[hd];refine hK _ _ ⟨fun b=>X b\/Y b,fun t j=>if t=d then Hd.of ((mM.flatten[j]?).getD undef)else h t j,?_⟩ (XI.NV lu r.hB);have nr:∀(j size:Nat)(rows:List (List D)),res.flatten[j]?=some (D.sl size rows)->∃c,mM.flatten[j]?=some c/\KD (Tof T0 fun b=>X b\/Y b) w' c (D.sl size rows):=fun j size rows hj=>lL.get' j _ hj;have n9:∀j,(σ.new d (jf d res) (xR res.flatten)).ob d j=Yp (xR res.flatten) j:=fun j=>by rw[St.Ji];simp[nn]
  have bO:∀j,Yp (xR res.flatten) j≠ .none->∃size rows,res.flatten[j]?=some (D.sl size rows):=by
   intro j nf;rw[Sj]at nf;split at nf
   ·rename_i size rows hj;exact⟨size,rows,hj⟩
   ·exact absurd rfl nf
  refine r.new mf (Below.grownBy lu) (fun b hb=>.inl hb) (fun b hb=>hb.imp id (fun hy=>hY b hy)) (jf d res) (R6 vs) (xR res.flatten) (fun j=>Hd.of ((mM.flatten[j]?).getD undef)) ?_ (fun j=>?_) (fun j b _ hb=>hb) (fun j b nf hb=>?_) (fun j j' b nf ma hb n7=>?_)
  ·refine H4 mV (MI (fun _ _ _ _ _ hr=>KD.top hr) hQ) (fun i size rows hi=>⟨false,?_⟩) (fun i c hi=>by simp[hi,Hd.of]);rw[n9,Sj,hi]
  ·rw[Sj];split
   ·rename_i size rows hj;obtain⟨c,mZ,nk⟩:=nr j size rows hj;obtain⟨e,xs,ho,hz,ni⟩:=nk;exact⟨e,xs,by rw[mZ];exact ho,hz,ni⟩
   ·trivial
  ·obtain⟨size,rows,hj⟩:=bO j nf;obtain⟨c,mZ,_⟩:=nr j size rows hj;have n7:blk c=some b:=by simpa[Hd.of,mZ]using hb
   have:=eJ.1 j c _ b mZ hj rfl n7;refine⟨this.1,?_,this.2.1⟩;rintro(hx|hy)
   ·have:=r.hX b hx;omega
   ·exact this.2.2 hy
  ·obtain⟨size,rows,hj⟩:=bO j nf;obtain⟨mC,nv,gA⟩:=bO j' ma;obtain⟨c,mZ,_⟩:=nr j size rows hj;obtain⟨c2,fS,_⟩:=nr j' mC nv gA;exact eJ.2 j j' c c2 _ _ b mZ hj fS gA rfl rfl (by simpa[Hd.of,mZ]using hb) (by simpa[Hd.of,fS]using n7)
open Go.RowKit
theorem XI.Te(hg:w.grownBy w' none)(hB:∀b,B b->b<w.heap.size):XI B w w':=⟨hg.os,hg.tape,hg.output,hg.size,fun k hk=>hg.block k (hB k hk) zAG⟩
theorem Rel.tN(r:Rel T0 B σ a w X h)(hf:σ.fresh d=true)(cs:Array Value)(T:TypeId)(xs:List At)(hx:Yf d xs=false)(ni:YF (YL (Tof T0 X) h σ.ob w) xs cs.toList):
  Jq T0 B (σ.new d (.one (.bptr d 0)) [.box xs]) (a.put (some d) (.pointer (some ⟨w.heap.size,0,none⟩))) (w.alloc (.cells cs T))/\XI B w (w.alloc (.cells cs T)):=by
 have hg:=World.grownBy_alloc w (.cells cs T) none;have nn:=St.K2 hf;have hT:∀b k v,Tof T0 X b k->w.cell? ⟨b,k,none⟩=some v->(w.alloc (.cells cs T)).cell? ⟨b,k,none⟩=some v/\Tof T0 X b k:=by intro b k v hb nr;refine⟨?_,hb⟩;rw[World.cell?_of_block (hg.block b (r.Tlt hb) zAG)];exact nr
 refine⟨⟨X,fun t j=>if t=d then Hd.of (.pointer (some ⟨w.heap.size,0,none⟩))else h t j,?_⟩,XI.Te hg r.hB⟩;have mq:(σ.new d (.one (.bptr d 0)) [.box xs]).ob d 0= .box xs:=zBB
 have hc:∀t j,t≠d->Cpt h (fun t j=>if t=d then Hd.of (.pointer (some ⟨w.heap.size,0,none⟩))else h t j) σ.ob (σ.new d (.one (.bptr d 0)) [.box xs]).ob t j:=by
  intro t j nf;have he:(σ.new d (.one (.bptr d 0)) [.box xs]).ob t j=σ.ob t j:=zBv
  exact Cpt.same (by simp[nf]) he
 refine r.new hf hg (fun _ hb=>hb) (fun _ hb=>.inl hb) _ _ [.box xs] (fun _=>Hd.of (.pointer (some ⟨w.heap.size,0,none⟩))) ?_ (fun j=>?_) (fun j b _ hb=>hb) (fun j b _ hb=>?_) (fun j j' b nf ma _ _=>?_)
 ·exact⟨rfl,fun cells _=>⟨w.heap.size,by simp[Hd.of],rfl⟩⟩
 ·cases j with
  |zero=>refine⟨w.heap.size,cs,T,rfl,?_,VL hT hc hx ni⟩;exact heap_alloc_new w _
  |succ j=>simp[Yp,Jx]
 ·simp[Hd.of,blk]at hb;subst hb;refine⟨Nat.le_refl _,fun gw=>?_,zAG⟩;have:=(r.hX _ gw).2;omega
 ·have:∀j,Yp [Ob.box xs] j≠ .none->j=0:=by
   intro j hj;cases j with
   |zero=>rfl
   |succ j=>simp[Yp]at hj
  rw[this j nf,this j' ma]
theorem Rel.tP(r:Rel T0 B σ a w X h)(hf:σ.fresh d=true)(hg:w.grownBy w' none)(v:Value)
  (ho:KD (Tof T0 X) w' v (.sl size rows)) (hb:∀b,blk v=some b->w.heap.size<=b/\b<w'.heap.size):
  Jq T0 B (σ.new d (.one (.sref d 0 0 rows.length)) [.arr false size rows]) (a.put (some d) v) w'/\XI B w w':=by
 have nn:=St.K2 hf;refine⟨⟨X,fun t j=>if t=d then Hd.of v else h t j,?_⟩,XI.Te hg r.hB⟩;have mq:(σ.new d (.one (.sref d 0 0 rows.length)) [.arr false size rows]).ob d 0= .arr false size rows:=zBB;obtain⟨e,xs,nk,hz,ni⟩:=ho;refine r.new hf hg (fun _ hb=>hb) (fun _ hb=>.inl hb) _ _ [.arr false size rows] (fun _=>Hd.of v) ?_ (fun j=>?_) (fun j b _ hb=>hb) (fun j b _ n7=>?_) (fun j j' b nf ma _ _=>?_)
 ·refine⟨KF nk,fun q' mC nv mG=>?_,fun mC nv mG=>by rw[mq]at mG;cases mG⟩;rw[mq]at mG;cases mG;simp only[if_true];exact VC nk
 ·cases j with
  |zero=>exact⟨e,xs,nk,hz,ni⟩
  |succ j=>simp[Yp,Jx]
 ·have:=hb b n7;refine⟨this.1,fun gw=>?_,this.2⟩;have:=(r.hX _ gw).2;omega
 ·have:∀j,Yp [Ob.arr false size rows] j≠ .none->j=0:=by
   intro j hj;cases j with
   |zero=>rfl
   |succ j=>simp[Yp]at hj
  rw[this j nf,this j' ma]
theorem Rel.sZ(r:Rel T0 B σ a w X h)(hf:σ.fresh d=true)(hg:w.grownBy w' none)(v:Value){e:TypeId}{xs:List Value}
  (nk:w'.ownsRow 0 e size v rows.length xs) (hz:∀r∈rows,r.length=size) (ni:KJ w' xs rows.flatten (fun _=>False)) (hb:∀b,blk v=some b->w.heap.size<=b/\b<w'.heap.size):
  Jq T0 B (σ.new d (.one (.sref d 0 0 rows.length)) [.arr true size rows]) (a.put (some d) v) w'/\XI B w w':=by
 have nn:=St.K2 hf;refine⟨⟨X,fun t j=>if t=d then⟨v,fun k=>(xs[k]?).getD undef,fun b=>blk v=some b⟩else h t j,?_⟩,XI.Te hg r.hB⟩;have mq:(σ.new d (.one (.sref d 0 0 rows.length)) [.arr true size rows]).ob d 0= .arr true size rows:=zBB;refine r.new hf hg (fun _ hb=>hb) (fun _ hb=>.inl hb) _ _ [.arr true size rows] (fun _=>⟨v,fun k=>(xs[k]?).getD undef,fun b=>blk v=some b⟩) ?_ (fun j=>?_) (fun j b _ hb=>hb) (fun j b _ n7=>?_) (fun j j' b nf ma _ _=>?_)
 ·refine⟨KF nk,fun q' mC nv mG=>?_,fun mC nv mG=>by rw[mq]at mG;cases mG⟩;rw[mq]at mG;cases mG;simp only[if_true];exact VC nk
 ·cases j with
  |zero=>obtain⟨hl,Sk,h1,h2,h3⟩:=ni;exact⟨e,xs,nk,hz,⟨hl,Sk,h1,fun k b hk=>(h2 k b hk).elim,h3⟩,fun k x d hx _ _=>by simp[hx]⟩
  |succ j=>simp[Yp,Jx]
 ·have:=hb b n7;refine⟨this.1,fun gw=>?_,this.2⟩;have:=(r.hX _ gw).2;omega
 ·have:∀j,Yp [Ob.arr true size rows] j≠ .none->j=0:=by
   intro j hj;cases j with
   |zero=>rfl
   |succ j=>simp[Yp]at hj
  rw[this j nf,this j' ma]
theorem BO(r:Rel T0 B σ a w X h){T:TypeId}{row:List At}(na:o.op= .alloc T)(hd:o.dst=some d)(hf:σ.fresh d=true)(hz:Qb P T=true)(iX:WL P 12 T=some row)(mN:Yf d row=false)
  (hK:∀a' w',Jq T0 B (σ.new d (.one (.bptr d 0)) [.box row]) a' w'->XI B w w'->K a' w'):o.wp P a w K Q:=by
 obtain⟨i,z,hi,hzv,m0,ni⟩:=GI hz iX;have mB:(execOp a.eval o).run P w= .ok (.value (.pointer (some ⟨w.heap.size,0,none⟩))) (w.alloc (.cells z.cells T)):=by simp[execOp,na,Instr.alloc,zeroValue,typeInfo,hi,hzv,newVar,newRow]
 unfold Oper.wp;rw[mB,Oper.upon_value,hd];have:=r.tN hf z.cells T row mN (ni _ _ _ _)
 exact hK _ _ this.1 this.2
theorem vX(r:Rel T0 B σ a w X h){T:TypeId}(na:o.op= .box T x)(hd:o.dst=some d)(hf:σ.fresh d=true)(hg:gOf (look P σ T x)=true)(lM:(unc (look P σ T x)).flat=true)(mN:Yf d (unc (look P σ T x)).cells=false)
  (hK:∀a' w',Jq T0 B (σ.new d (.one (.bptr d 0)) [.box (unc (look P σ T x)).cells]) a' w'->XI B w w'->K a' w'):o.wp P a w K Q:=by
 have ni:=WM lM (r.arg (P:=P) T x rfl hg);have mB:(execOp a.eval o).run P w= .ok (.value (.pointer (some ⟨w.heap.size,0,none⟩))) (w.alloc (.cells (a.eval x).cells T)):=by simp[execOp,na,Instr.box,newVar,newRow]
 unfold Oper.wp;rw[mB,Oper.upon_value,hd];have:=r.tN hf (a.eval x).cells T _ mN ni
 exact hK _ _ this.1 this.2
end Go.Vm
