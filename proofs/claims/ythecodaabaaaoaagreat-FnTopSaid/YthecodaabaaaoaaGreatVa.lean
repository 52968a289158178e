/- An abstract machine La the model of Go, by value, and that it is sound: part Va. No condition. -/
import Derived.WalkKit
import Derived.Below
set_option linter.unusedVariables false
set_option linter.unusedSimpArgs false
namespace Go.Vm
theorem zAA{p:Prop}(h:p:=by omega):p:=h
theorem zAB{p:Prop}(h:p:=by(first|exact sg (Y1 (n:=2281472) (by decide))|exact sg u0|exact sg u1|exact sg u2|exact u3|exact sg (ZO.Xb u0)|exact sg (ZO.QA u0)|exact sg (Zc (K:=2281472) u1 u3 (by decide))|exact sg (Yu (Zc (K:=2281472) u1 u3 (by decide)))|exact sg (Y3 (Zc (K:=2281472) u1 u3 (by decide))))):p:=h
theorem zAC{p:Prop}(h:p:=by(first|(exact⟨Nat.zero_le _,fun _ _=>trivial⟩)|(refine ZL (n:=2322432) ?_;exact⟨Nat.zero_le _,fun _ _=>trivial⟩)|(refine ZL (n:=2322432) (ZL (n:=2322432-1) ?_);exact⟨Nat.zero_le _,fun _ _=>trivial⟩)|(refine ZQ (n:=3) (by decide) (ZL (ZL (ZL (n:=0) ?_)));exact⟨Nat.zero_le _,fun _ _=>trivial⟩)|(refine ZQ (n:=2) (by decide) (ZL (ZL (n:=0) ?_));exact⟨Nat.zero_le _,fun _ _=>trivial⟩)|(refine ZQ (n:=1) (by decide) (ZL (n:=0) ?_);exact⟨Nat.zero_le _,fun _ _=>trivial⟩))):p:=h
theorem zAD{p:Prop}(h:p:=by decide):p:=h
theorem zAE{p:Prop}(h:p:=by simp):p:=h
theorem zAG{p:Prop}(h:p:=by(first|exact sg u0|exact sg (ZN.xx u1)|exact sg (n:=2097152) (show Sm 2097152 (Z9.mk [a1.ZG] [])from⟨⟨Nat.le_of_ble_eq_true rfl,fun x hx=>by rcases List.mem_cons.1 hx with rfl|hx;exact ZN.XY u1;cases hx⟩,⟨Nat.zero_le _,fun x hx=>by cases hx⟩⟩)|exact(show a1.ZG.ZI.length+0<=2097152 from YQ (ZW.QE (ZN.XY u1)))|exact sg u1)):p:=h
theorem zAH{p:Prop}(h:p:=by(have z:=Zh a0;simp_all;done)):p:=h
theorem zAI{p:Prop}(h:p:=by first|omega|(have fi:=Xc a0 a1 (by first|omega|(simp at*;omega));omega)|(simp only[Bool.or_eq_false_iff,decide_eq_false_iff_not]at*;omega)|(have z:=Zf G;(try simp only[]at z);omega)|(have z:=Zf G.1;(try simp only[]at z);omega)|(have z:=Zf G.2;(try simp only[]at z);omega)|(have z:=Zf G.2.1;(try simp only[]at z);omega)|(have z:=Zf G.2.2;(try simp only[]at z);omega)|(have z:=Zf G.1.2;(try simp only[]at z);omega)|(have z:=Zf G.2.2.2;(try simp only[]at z);omega)):p:=h
theorem zAJ{p:Prop}(h:p:=by have:=KO a0.Frame.Zt (nth a0.Zd (YA a0.Zd (Zg (nth (nth (nth a0.ZA (ZH a0 a1).1.toNat).ZB (ZH a0 a1).2.toNat).ZG.ZI 1)).1.Za).toNat).Z4;first|omega|(have fi:=Xc a0 a1 (by first|omega|(simp at*;omega));omega)|(simp only[Bool.or_eq_false_iff,decide_eq_false_iff_not]at*;omega)|(have z:=Zf G;(try simp only[]at z);omega)|(have z:=Zf G.1;(try simp only[]at z);omega)|(have z:=Zf G.2;(try simp only[]at z);omega)|(have z:=Zf G.2.1;(try simp only[]at z);omega)|(have z:=Zf G.2.2;(try simp only[]at z);omega)|(have z:=Zf G.1.2;(try simp only[]at z);omega)|(have z:=Zf G.2.2.2;(try simp only[]at z);omega)):p:=h
theorem zAK{p:Prop}(h:p:=by first|(simp(maxDischargeDepth:=12) [XM];omega)|(simp(maxDischargeDepth:=12) [ZQ (m:=68719476736) (by decide) u0];done)):p:=h
theorem zAL{p:Prop}(h:p:=by(first|exact sg u0|exact sg u1|exact sg u2|exact sg (ZO.Xb u0)|exact sg j2.2.2.2.2|exact sg (Zr j2.2.2.2.2)|exact sg (Zr (ZW.QE (Zr (Z9.Qt u1)))))):p:=h
theorem zAM{p:Prop}(h:p:=by first|(simp;done)|(simp[G];done)|(simp[G];omega)|(simp_all;done)):p:=h
theorem zAN{p:Prop}(h:p:=by have:=TQ a0.Zd (Zg (nth (nth (nth a0.ZA (ZH a0 a1).1.toNat).ZB (ZH a0 a1).2.toNat).ZG.ZI 1)).1.Za;first|omega|(have fi:=Xc a0 a1 (by first|omega|(simp at*;omega));omega)|(simp only[Bool.or_eq_false_iff,decide_eq_false_iff_not]at*;omega)|(have z:=Zf G;(try simp only[]at z);omega)|(have z:=Zf G.1;(try simp only[]at z);omega)|(have z:=Zf G.2;(try simp only[]at z);omega)|(have z:=Zf G.2.1;(try simp only[]at z);omega)|(have z:=Zf G.2.2;(try simp only[]at z);omega)|(have z:=Zf G.1.2;(try simp only[]at z);omega)|(have z:=Zf G.2.2.2;(try simp only[]at z);omega)):p:=h
theorem zAO{p:Prop}(h:p:=by(first|(exact zJ (s:=(nth a0.ZB U).ZG) (by decide) (show Sm 2314240 _ by simp(maxDischargeDepth:=12) [u0]) (by simp))|(refine jV ?_;exact zJ (s:=(nth a0.ZB U).ZG) (by decide) (show Sm 2314240 _ by simp(maxDischargeDepth:=12) [u0]) (by simp))|(exact ZQ (n:=2314240) (by decide) (xs u0)))):p:=h
theorem zAP{p:Prop}(h:p:=by first|(simp(maxDischargeDepth:=12) [XM];omega)|(simp(maxDischargeDepth:=12) [ZQ (m:=2322432) (by decide) u0];done)):p:=h
theorem zAQ{p:Prop}(h:p:=by(have cc:a0.ZM.length<=2318336:=YQ (xs u0);have z0:=fD;simp at z0;have z:=jU (by omega) z0.1;have z2:=z0.2;(try have w3:IntKind.i64.wrap (a2-1)=a2-1:=YX (by omega) (by omega));(try have w4:W (a2-1)=a2-1:=w3);omega)):p:=h
theorem zAR{p:Prop}(h:p:=by(have cc:a0.ZM.length<=2318336:=YQ (xs u0);have z0:=fD;simp at z0;have z:=Uc (by omega) z0.1;have z2:=z0.2;(try have w3:IntKind.i64.wrap (a2-1)=a2-1:=YX (by omega) (by omega));(try have w4:W (a2-1)=a2-1:=w3);omega)):p:=h
theorem zAS{p:Prop}(h:p:=by(have hl:=YQ (Z2 (n:=40) (a0:=a0) (by decide)).2;first|with_reducible exact ZQ (n:=101) (by decide) (JY (n:=100) (by decide) (ZQ (n:=40+J) (m:=100) (by omega) j1.2.2.2) (ZQ (n:=40) (by decide) (Zr (Z2 (n:=40) (a0:=a0) (by decide)).2)) (by decide))|with_reducible exact Nat.le_trans (Cm (n:=101) (JY (n:=100) (by decide) (ZQ (n:=40+J) (m:=100) (by omega) j1.2.2.2) (ZQ (n:=40) (by decide) (Zr (Z2 (n:=40) (a0:=a0) (by decide)).2)) (by decide))) (by decide))):p:=h
theorem zAT{p:Prop}(h:p:=by first|omega|(have f0:0<=(ZH a0 a1).1:=(by first|omega|(simp at*;omega));have fi:=Xc a0 a1 f0;omega)|(have f0:0<=(ZH a0 a1).1:=(by first|omega|(simp at*;omega));have fi:=Xc a0 a1 f0;have ll:=jb (nth a0.ZA (ZH a0 a1).1.toNat) (Zo a0.Frame.Methods a0.Frame.Now);omega)):p:=h
theorem zAU{p:Prop}(h:p:=by first|exact ZQ (n:=40) (by decide) (Zr (Z2 (n:=40) (a0:=a0) (by decide)).2)|(have hl:=YQ (Z2 (n:=40) (a0:=a0) (by decide)).2;exact ZQ (n:=100) (by decide) (ZQ (n:=40+J) (m:=100) (by omega) j1.2.2.2))):p:=h
theorem zAW{p:Prop}(h:p:=by(have hl:=YQ (Z2 (n:=40) (a0:=a0) (by decide)).2;with_reducible exact ZQ (n:=101) (by decide) (JY (n:=100) (by decide) (ZQ (n:=40+J) (m:=100) (by omega) j1.2.2.2) (ZQ (n:=40) (by decide) (Zr (Z2 (n:=40) (a0:=a0) (by decide)).2)) (by decide)))):p:=h
theorem zAX{p:Prop}(h:p:=by first|omega|(simp;done)|(simp;omega)):p:=h
theorem zAY{p:Prop}(h:p:=by first|omega|(simp at*;omega)):p:=h
theorem zAZ{p:Prop}(h:p:=by first|rfl|trivial):p:=h
theorem zAa{p:Prop}(h:p:=by simp[Op.operands]):p:=h
theorem zAb{p:Prop}(h:p:=by(first|exact sg u0|exact sg u1|exact sg u2|exact u3|exact sg (Jb (n:=2277376) u1))):p:=h
theorem zAc{p:Prop}(h:p:=by first|omega|(have vf:=qC (w:=(ZF.mk (ZO.mk U iD iG iP iV) iX iY iU ia iK iL iM)) (k:=iF) (by first|assumption|omega|(simp at*;omega));have fi:=XT (ZF.mk (ZO.mk U iD iG iP iV) iX iY iU ia iK iL iM) (nth (Zn (ZF.mk (ZO.mk U iD iG iP iV) iX iY iU ia iK iL iM)) iF) vf;(try dsimp only at fi vf);omega)):p:=h
theorem zAd{p:Prop}(h:p:=by simp[w1]):p:=h
theorem zAe{p:Prop}(h:p:=by(have hl:=YQ (Z2 (n:=40) (a0:=a0) (by decide)).2;first|with_reducible exact ZQ (n:=100) (by decide) (ZQ (n:=40+J) (m:=100) (by omega) j1.2.2.2)|with_reducible exact Nat.le_trans (Cm (n:=100) (ZQ (n:=40+J) (m:=100) (by omega) j1.2.2.2)) (by decide))):p:=h
theorem zAf{p:Prop}(h:p:=by first|(exact ZQ (n:=2314240) (by decide) (xs (an u0 u1)))|(exact ZQ (n:=2314240) (by decide) (VX (xs (an u0 u1)) (by decide)))):p:=h
theorem zAg{p:Prop}(h:p:=by have:=JZ a0.Frame.ZC (nth a2 iF);first|omega|(have z:=J6 (a0:=a0) (a1:=a2) (j:=U) (by have z1:=h1;simp at z1;simp[z1]) (by omega);omega)|(have z:=J6 (a0:=a0) (a1:=a2) (j:=iF) (by have z1:=h1;simp at z1;simp[z1]) (by omega);omega)):p:=h
theorem zAh{p:Prop}(h:p:=by have:=JZ a0.Frame.ZC (nth a2 U);first|omega|(have z:=J6 (a0:=a0) (a1:=a2) (j:=U) (by have z1:=h1;simp at z1;simp[z1]) (by omega);omega)|(have z:=J6 (a0:=a0) (a1:=a2) (j:=iF) (by have z1:=h1;simp at z1;simp[z1]) (by omega);omega)):p:=h
theorem zAi{p:Prop}(h:p:=by first|(exact ZQ (n:=2310144) (by decide) (xs (an u0 u1)))|(exact ZQ (n:=2310144+1) (by decide) (zA (n:=2310144) (xs (an u0 u1)) (xs (an u0 u1)) (by decide)))):p:=h
theorem zAj{p:Prop}(h:p:=by simp(maxDischargeDepth:=12) [XM];try omega):p:=h
theorem zAk{p:Prop}(h:p:=by first|omega|(have fi:=XT a0 a1 (by first|omega|(simp at*;omega));omega)|(simp only[Bool.or_eq_false_iff,decide_eq_false_iff_not]at*;omega)):p:=h
theorem zAl{p:Prop}(h:p:=by(have mm:a1.ZM.length<=2306048:=YQ (xs u1);(try simp[ZX]at q1);have ww:=Mt a1.ZM.length (by omega);first|omega|((try rw[ww]at q1);(try rw[ww]at q2);have w3:W (a2+1)=a2+1:=YX (by omega) (by omega);omega))):p:=h
theorem zAm{p:Prop}(h:p:=by first|omega|(have fi:=Xc a0 a1 (by first|omega|(simp at*;omega));omega)|(simp only[Bool.or_eq_false_iff,decide_eq_false_iff_not]at*;omega)):p:=h
theorem zAn{p:Prop}(h:p:=by have z1:=h1;simp at z1;simp[z1]):p:=h
theorem zAo{p:Prop}(h:p:=by simp;omega):p:=h
theorem zAp{p:Prop}(h:p:=by(have z:=Xp a0;simp_all;done)):p:=h
theorem zAq{p:Prop}(h:p:=by injection hZ with hZ;injection hZ with hZ;injection hZ with hZ;exact hZ.symm):p:=h
theorem zAr{p:Prop}(h:p:=by first|omega|(have tm:=Int.tmod_eq_emod_of_nonneg (b:=2) (show 0<=U by omega);(try simp only[Y0,show ∀x,IntKind.i64.wrap x=W x from fun _=>rfl]at*);(try simp at*);omega)):p:=h
theorem zAs{p:Prop}(h:p:=by first|omega|(have tm:=Int.tmod_eq_emod_of_nonneg (b:=2) (show 0<=J by omega);(try simp only[Y0,show ∀x,IntKind.i64.wrap x=W x from fun _=>rfl]at*);(try simp at*);omega)):p:=h
theorem zAu{p:Prop}(h:p:=by(have hl:=YQ (Z2 (n:=40) (a0:=a0) (by decide)).2;with_reducible exact ZQ (n:=100) (by decide) (ZN.XY (Zr (ZE.YO (Zr (ZF.YR (ZQ (n:=40+J) (m:=100) (by omega) j1.2.2.2)))))))):p:=h
theorem zAv{p:Prop}(h:p:=by simp[List.getD_eq_getElem?_getD,List.getElem?_eq_getElem hi]):p:=h
theorem zAw{p:Prop}(h:p:=by first|omega|(simp;omega)):p:=h
theorem zAx{p:Prop}(h:p:=by rw[ho];simp):p:=h
theorem zAy{p:Prop}(h:p:=by simp[At.ref]):p:=h
theorem zAz{p:Prop}(h:p:=by first|(have fl:=Js a0;have fm:=YQ (ZO.XW (ZF.Xr u0));simp[XM];omega)|(refine ZQ (n:=2314240) (by decide) ?_;simp(maxDischargeDepth:=12) [u0];done)):p:=h
theorem zA0{p:Prop}(h:p:=by first|(have fl:=xS a0;have fm:=YQ (ZO.XW (ZF.Xr u0));simp[XM];omega)|(refine ZQ (n:=2310144) (by decide) ?_;simp(maxDischargeDepth:=12) [u0];done)):p:=h
theorem zA1{p:Prop}(h:p:=by first|(exact ZQ (n:=2310144) (by decide) (xs (an u0 u1)))|(exact ZQ (by decide) (zA (n:=2310144) (xs (an u0 u1)) (xs (an u0 u1)) (by decide)))):p:=h
theorem zA2{p:Prop}(h:p:=by first|(have hc:=h1;simp at hc;have hl:=j1.2.2.2.1 hc.2;exact ZQ (n:=2306048+U) (by omega) j1.2.2.2.2)|exact sg (Zr (Yl.YO u1))):p:=h
theorem zA3{p:Prop}(h:p:=by first|(have hl:=Uz a1 a2 (by simp at h1;exact h1.1);exact ZQ (n:=2306048+J) (by omega) j1.2.2.2)|exact sg (Zr (Yl.YO u1))):p:=h
theorem zA4{p:Prop}(h:p:=by first|(simp(maxDischargeDepth:=12) [XM];omega)|(simp(maxDischargeDepth:=12) [ZQ (m:=2318336) (by decide) u0];done)):p:=h
theorem zA5{p:Prop}(h:p:=by simp only[Y0];omega):p:=h
theorem zA6{p:Prop}(h:p:=by rw[List.length_take];omega):p:=h
theorem zA7{p:Prop}(h:p:=by intro i h;(have z:i=0\/i=1\/i=2\/i=3\/i=4:=by omega);rcases z with rfl|rfl|rfl|rfl|rfl<;>rfl):p:=h
theorem zA8{p:Prop}(h:p:=by rw[St.Jv];simp[iQ,Yt]):p:=h
theorem zA9{p:Prop}(h:p:=by simp(maxDischargeDepth:=12) [WN,ZQ (m:=2322432) (by decide) u0];try omega):p:=h
theorem zBA{p:Prop}(h:p:=by intro q hq;cases hq):p:=h
theorem zBB{p:Prop}(h:p:=by first|omega|(have f0:0<=(ZK a0 a1).1:=(by first|omega|(simp at*;omega));have fi:=XT a0 a1 f0;omega)):p:=h
theorem zBC{p:Prop}(h:p:=by cases h):p:=h
theorem zBD{p:Prop}(h:p:=by simp(maxDischargeDepth:=12) [kO,ZQ (m:=2318336) (by decide) u0,ZQ (m:=2318336) (by decide) u1];try omega):p:=h
theorem zBE{p:Prop}(h:p:=by first|omega|(have z:=Ql a0 a1 (by simp_all);(try simp at*);omega)):p:=h
theorem zBF{p:Prop}(h:p:=by(have q:=YQ (show Sm 2310144 a2 from u1);exact ZQ (n:=2310144) (by decide) ⟨by omega,j1.2.2.2.2⟩)):p:=h
theorem zBG{p:Prop}(h:p:=by have:=QR a0.Frame.ZC (nth a2 U);exact il):p:=h
theorem zBH{p:Prop}(h:p:=by simpa using hc):p:=h
theorem zBI{p:Prop}(h:p:=by have:=(List.getElem?_eq_some_iff.1 hq).1;omega):p:=h
theorem zBJ{p:Prop}(h:p:=by first|assumption|omega|(simp at*;omega)):p:=h
theorem zBK{p:Prop}(h:p:=by have:=iH _ _ _ ht e;simpa[At.ref]using this):p:=h
theorem zBL{p:Prop}(h:p:=by cases h;exact⟨Nat.zero_le _,fun x hx=>(by cases hx)⟩):p:=h
theorem zBM{p:Prop}(h:p:=by simp at hy⊢;exact .inr hy):p:=h
theorem zBN{p:Prop}(h:p:=by rw[h];rfl):p:=h
theorem zBO{p:Prop}(h:p:=by(have z:=Ql a0 a1 (by simp_all);(try simp at*);omega)):p:=h
theorem zBP{p:Prop}(h:p:=by have:=KO a0.Frame.Zt (nth a0.Frame.ZC (Zj a0.Frame.ZC (nth a1 J)).toNat).Key;exact il):p:=h
theorem zBQ{p:Prop}(h:p:=by cases hb;exact⟨cells,[],rfl,by simp[place],.nil,(by intro q hq;cases hq),rfl⟩):p:=h
theorem zBR{p:Prop}(h:p:=by first|omega|(have fi:=XT a0 a1 (by first|omega|(simp at q1;omega));omega)):p:=h
theorem zBS{p:Prop}(h:p:=by simp[Region.wanted,hg]):p:=h
theorem zBT{p:Prop}(h:p:=by rw[<-Nat.succ_mul];exact Nat.mul_le_mul_right _ hi):p:=h
theorem zBU{p:Prop}(h:p:=by rw[<-Nat.add_mul];exact Nat.mul_le_mul_right _ hle):p:=h
theorem zBV{p:Prop}(h:p:=by injection gQ with gQ;injection gQ with gQ;injection gQ with gQ;exact gQ.symm):p:=h
theorem zBW{p:Prop}(h:p:=by simp[Program.bytesOf,hi]):p:=h
theorem zBX{p:Prop}(h:p:=by cases‹List (DataW H)›<;>exact h.elim):p:=h
theorem zBY{p:Prop}(h:p:=by rw[<-List.flatten_append,List.take_append_drop]):p:=h
theorem zBZ{p:Prop}(h:p:=by rw[qM (by first|omega|(simp;omega))];first|omega|(simp;omega)):p:=h
theorem zBa{p:Prop}(h:p:=by rw[ha];simp):p:=h
theorem zBb{p:Prop}(h:p:=by cases qs<;>simp[Ya,XG,y8 u _ ds]):p:=h
theorem zBc{p:Prop}(h:p:=by rw[Nat.add_mul,Nat.add_mul];omega):p:=h
theorem zBd{p:Prop}(h:p:=by simp(maxDischargeDepth:=12) [TG];try omega):p:=h
theorem zBe{p:Prop}(h:p:=by first|exact sg u0|exact sg u2):p:=h
theorem zBf{p:Prop}(h:p:=by first|exact sg u1|exact ZQ (n:=2301952) (by decide) (VC u0 u2)):p:=h
theorem zBg{p:Prop}(h:p:=by first|exact sg u1|exact ZQ (n:=2301952) (by decide) (RM u0 u2)):p:=h
theorem zBh{p:Prop}(h:p:=by simpa using h):p:=h
theorem zBi{p:Prop}(h:p:=by apply Array.toList_inj.1;simpa using ha):p:=h
theorem zBj{p:Prop}(h:p:=by simp[Region.wanted,ei]):p:=h
theorem zBk{p:Prop}(h:p:=by rw[gU];simp):p:=h
theorem zBl{p:Prop}(h:p:=by simpa[At.ref]using hx):p:=h
theorem zBm{p:Prop}(h:p:=by simp at hl⊢;omega):p:=h
theorem zBn{p:Prop}(h:p:=by rw[St.Jv,if_neg (fun hh=>iH hh.1)]):p:=h
theorem zBo{p:Prop}(h:p:=by cases h;rfl):p:=h
theorem zBp{p:Prop}(h:p:=by rw[XQ iQ];exact List.getElem_mem iQ):p:=h
theorem zBq{p:Prop}(h:p:=by first|omega|(simp at q1;omega)):p:=h
theorem zBr{p:Prop}(h:p:=by have:=QR a0 a1.Authority;exact il):p:=h
theorem zBs{p:Prop}(h:p:=by rw[hd,e]):p:=h
theorem zBt{p:Prop}(h:p:=by cases h;exact⟨by omega,hs⟩):p:=h
theorem zBu{p:Prop}(h:p:=by simp_all):p:=h
theorem zBv{p:Prop}(h:p:=by cases hx):p:=h
theorem zBw{p:Prop}(h:p:=by(simp at h1;omega)):p:=h
theorem zBx{p:Prop}(h:p:=by rw[bT];exact hz):p:=h
theorem zBy{p:Prop}(h:p:=by rw[bU];exact hz):p:=h
theorem zBz{p:Prop}(h:p:=by cases qs<;>exact hf):p:=h
theorem zB0{p:Prop}(h:p:=by simpa[Yt]using h):p:=h
theorem zB1{p:Prop}(h:p:=by simp[w1,w2]):p:=h
theorem zB2{p:Prop}(h:p:=by rw[Jh];exact h):p:=h
theorem zB3{p:Prop}(h:p:=by simp[hr]):p:=h
theorem zB4{p:Prop}(h:p:=by simp[w1,G]):p:=h
theorem zB5{p:Prop}(h:p:=by simp[World.setRow]):p:=h
theorem zB6{p:Prop}(h:p:=by rw[gX];rfl):p:=h
theorem zB7{p:Prop}(h:p:=by simp[Xs]):p:=h
theorem zB8{p:Prop}(h:p:=by(intro z;simp;(repeat(with_reducible refine Go.Mo.sd ?_));exact z.h)):p:=h
theorem zB9{p:Prop}(h:p:=by((try dsimp only);first|omega|(simp at*;omega))):p:=h
theorem zCA{p:Prop}(h:p:=by(intro h;(try simp only[beq_true,beq_false,Bool.not_eq_true',Bool.not_eq_false',Bool.true_and,Bool.and_true]at h);exact h)):p:=h
theorem zCB{p:Prop}(h:p:=by(intro z;simp[G,Go.Vm.ZD];(repeat(with_reducible refine Go.Mo.sdg ?_));exact z.h)):p:=h
theorem zCC{p:Prop}(h:p:=by(intro F;exact Kl (by simp[F]))):p:=h
variable{v val u:Value}{w w':World}{B X S X':Nat->Prop}{P:Program}{o:Oper}{d size t n f i j b off len cap:Nat}{x y:Operand}{a:Act}{vs cs:List Value}{k kk:IntKind}{op:BinOp}{q p:Bool}{c:Call}{parts:Array (Nat×Operand)}{lo hi:Option Operand}{base:Option Addr}{code:BoundsCode}
inductive D where
 |int (k:IntKind) (n:Int)
 |bool (b:Bool)
 |str (s:ByteArray)
 |sl (size:Nat) (rows:List (List D))
 |unk
 deriving Inhabited
variable{rows res s:List (List D)}{ds:List D}
def D.scalar:D->Bool
 |.sl _ _=>false
 |_=>true
abbrev CS:=Nat->Nat->Prop
variable{T T0 T':CS}
inductive Rd(T:CS)(w:World):Value->D->Prop
 |int (k:IntKind) (n:Int):Rd T w (.int k n) (.int k n)
 |bool (b:Bool):Rd T w (.bool b) (.bool b)
 |str (s:ByteArray):Rd T w (.string s) (.str s)
 |unk (v:Value) (h:v.oneCell'=true):Rd T w v .unk
 |nil (size:Nat):Rd T w (.slice none 0 0) (.sl size [])
 |sl (a:Addr) (len cap size:Nat) (rows:List (List D)) (g:Nat->Value)
   (hl:rows.length=len) (hc:len<=cap) (hm:cap<=maxLen) (hz:∀r∈rows,r.length=size) (hs:rows.flatten≠[]->a.spot=none)
   (hg:∀k d,rows.flatten[k]?=some d->w.cell? ⟨a.block,a.off+k,none⟩=some (g k)/\T a.block (a.off+k))
   (hr:∀k d,rows.flatten[k]?=some d->Rd T w (g k) d):Rd T w (.slice (some a) len cap) (.sl size rows)
theorem Rd.mono(hT:∀b k v,T b k->w.cell? ⟨b,k,none⟩=some v->w'.cell? ⟨b,k,none⟩=some v/\T' b k)
  {d:D} (h:Rd T w v d):Rd T' w' v d:=by
 induction h with
 |int k n=>exact .int k n
 |bool b=>exact .bool b
 |str s=>exact .str s
 |unk v h=>exact .unk v h
 |nil s=>exact .nil s
 |sl a len cap size rows g hl hc hm hz hs hg hr ih=>
  exact .sl a len cap size rows g hl hc hm hz hs (fun k d hk=>hT _ _ _ (hg k d hk).2 (hg k d hk).1) (fun k d hk=>ih k d hk)
theorem Rd.QQ{d:D}(h:Rd T w v d):v.oneCell'=true:=by
 cases h<;>first|rfl|assumption
inductive At where
 |any
 |d (x:D)
 |nil (size:Nat)
 |sref (t j lo len:Nat)
 |ptr (t j i c:Nat)
 |bptr (t c:Nat)
 |fn (f t:Nat)
 |rptr (r:List D) (c:Nat)
 |tref (t j i c:Nat) (o:Option Nat)
 deriving Inhabited
inductive V where
 |any
 |one (x:At)
 |agg (xs:List At)
 |tup (xs:List V)
 |cnd (g:Bool) (x:V)
 |fix (v:Value) (x:V)
 deriving Inhabited
inductive Ob where
 |none
 |box (cells:List At)
 |arr (q:Bool) (size:Nat) (rows:List (List D))
 |lit (size:Nat) (rows:List (List At))
 deriving Inhabited
variable{fO:Nat->Nat->Ob}
structure Hd where
 v:Value
 n:Nat->Value
 u:Nat->Prop
variable{h h':Nat->Nat->Hd}{hd:Hd}
abbrev Ent:=V×List Ob
abbrev St:=List Ent
variable{σ:St}
def St.get(σ:St)(t:Nat):V:=match σ[t]? with|some e=>e.1|none=>.any
def Yt(os:List Ob)(j:Nat):Ob:=match os[j]? with|some o=>o|none=>.none
def St.ob(σ:St)(t j:Nat):Ob:=match σ[t]? with|some e=>Yt e.2 j|none=>.none
def St.put:St->Nat->V->St
 |[],_,_=>[]
 |e::σ,0,v=>(v,e.2)::σ
 |e::σ,t+1,v=>e::St.put σ t v
def St.Zy:St->Nat->Nat->Ob->St
 |[],_,_,_=>[]
 |e::σ,0,j,o=>(e.1,e.2.set j o)::σ
 |e::σ,t+1,j,o=>e::St.Zy σ t j o
def St.new:St->Nat->V->List Ob->St
 |[],_,_,_=>[]
 |_::σ,0,v,os=>(v,os)::σ
 |e::σ,t+1,v,os=>e::St.new σ t v os
theorem St.Jd(σ:St)(t:Nat)(v:V):(σ.put t v).length=σ.length:=by
 induction σ generalizing t with
 |nil=>rfl
 |cons e σ ih=>cases t<;>simp[St.put,ih]
theorem St.Xf(σ:St)(t j:Nat)(o:Ob):(σ.Zy t j o).length=σ.length:=by
 induction σ generalizing t with
 |nil=>rfl
 |cons e σ ih=>cases t<;>simp[St.Zy,ih]
theorem St.WO(σ:St)(t:Nat)(v:V)(os:List Ob):(σ.new t v os).length=σ.length:=by
 induction σ generalizing t with
 |nil=>rfl
 |cons e σ ih=>cases t<;>simp[St.new,ih]
theorem St.zu(σ:St)(t:Nat)(v:V)(u:Nat):(σ.put t v).get u=if u=t/\t<σ.length then v else σ.get u:=by
 induction σ generalizing t u with
 |nil=>simp[St.put,St.get]
 |cons e σ ih=>
  cases t with
  |zero=>cases u<;>simp[St.put,St.get]
  |succ t=>cases u with
   |zero=>simp[St.put,St.get]
   |succ u=>have:=ih t u;simp only[St.get,St.put]at this⊢;simpa using this
theorem St.Jc(σ:St)(t:Nat)(v:V):(σ.put t v).ob=σ.ob:=by
 funext u j;induction σ generalizing t u with
 |nil=>simp[St.put,St.ob]
 |cons e σ ih=>
  cases t with
  |zero=>cases u<;>simp[St.put,St.ob]
  |succ t=>cases u with
   |zero=>simp[St.put,St.ob]
   |succ u=>have:=ih t u;simp only[St.ob,St.put]at this⊢;simpa using this
theorem St.QP(σ:St)(t j:Nat)(o:Ob)(u:Nat):(σ.Zy t j o).get u=σ.get u:=by
 induction σ generalizing t u with
 |nil=>simp[St.Zy,St.get]
 |cons e σ ih=>
  cases t with
  |zero=>cases u<;>simp[St.Zy,St.get]
  |succ t=>cases u with
   |zero=>simp[St.Zy,St.get]
   |succ u=>have:=ih t u;simp only[St.get,St.Zy]at this⊢;simpa using this
theorem BV(os:List Ob)(j:Nat)(o:Ob)(i:Nat):Yt (os.set j o) i=if i=j/\j<os.length then o else Yt os i:=by
 unfold Yt;rw[List.getElem?_set];by_cases h:j=i
 ·subst h;by_cases h2:j<os.length
  ·simp[h2]
  ·simp[h2]
 ·simp[h,Ne.symm h]
theorem St.Xx(σ:St)(t j:Nat)(o:Ob)(u i:Nat)(hl:σ.ob t j≠ .none):(σ.Zy t j o).ob u i=if u=t/\i=j then o else σ.ob u i:=by
 induction σ generalizing t u with
 |nil=>simp[St.ob]at hl
 |cons e σ ih=>
  cases t with
  |zero=>
   have hj:j<e.2.length:=by
    simp only[St.ob,List.getElem?_cons_zero,Yt]at hl;rcases Nat.lt_or_ge j e.2.length with h|h
    ·exact h
    ·simp[List.getElem?_eq_none h]at hl
   cases u with
   |zero=>simp[St.Zy,St.ob,BV,hj]
   |succ u=>simp[St.Zy,St.ob]
  |succ t=>cases u with
   |zero=>simp[St.Zy,St.ob]
   |succ u=>
    have:=ih t u (by simpa[St.ob]using hl);simp only[St.ob,St.Zy]at this⊢;simpa using this
theorem St.VZ(σ:St)(t:Nat)(v:V)(os:List Ob)(u:Nat):(σ.new t v os).get u=if u=t/\t<σ.length then v else σ.get u:=by
 induction σ generalizing t u with
 |nil=>simp[St.new,St.get]
 |cons e σ ih=>
  cases t with
  |zero=>cases u<;>simp[St.new,St.get]
  |succ t=>cases u with
   |zero=>simp[St.new,St.get]
   |succ u=>have:=ih t u;simp only[St.get,St.new]at this⊢;simpa using this
theorem St.Jv(σ:St)(t:Nat)(v:V)(os:List Ob)(u j:Nat):(σ.new t v os).ob u j=if u=t/\t<σ.length then Yt os j else σ.ob u j:=by
 induction σ generalizing t u with
 |nil=>simp[St.new,St.ob]
 |cons e σ ih=>
  cases t with
  |zero=>cases u<;>simp[St.new,St.ob]
  |succ t=>cases u with
   |zero=>simp[St.new,St.ob]
   |succ u=>have:=ih t u;simp only[St.ob,St.new]at this⊢;simpa using this
def NX(h:Value)(len:Nat):Value:=match h with|.slice b _ c=>.slice b len c|v=>v
def sW(h:Value)(size n lo len:Nat)(v:Value):Prop:=
 lo+len<=n/\(len=n->lo=0->v=h)/\(lo=0->v=NX h len)/\∃base cap,v= .slice base len cap/\len<=cap/\cap<=maxLen/\(base=none->cap=0)/\(0<len->∃b e7,h= .slice (some ⟨b,0,none⟩) n e7/\base=some ⟨b,lo*size,none⟩)
def mr:Option Nat->Value->Value->Prop
 |none,x,v=>v=x
 |some k,x,v=>∃b n cap,x= .slice (some ⟨b,0,none⟩) n cap/\v= .pointer (some ⟨b,k,none⟩)
def YK(T:CS)(h:Nat->Nat->Hd)(ob:Nat->Nat->Ob)(w:World):At->Value->Prop
 |.any,v=>v.oneCell'=true
 |.d x,v=>Rd T w v x
 |.nil _,v=>v= .slice none 0 0
 |.sref t j lo len,v=>v.oneCell'=true/\(∀q size rows,ob t j= .arr q size rows->sW (h t j).v size rows.length lo len v)/\(∀size rows,ob t j= .lit size rows->sW (h t j).v size rows.length lo len v)
 |.ptr t j i c,v=>v.oneCell'=true/\(∀q size rows,ob t j= .arr q size rows->∃b n cap,(h t j).v= .slice (some ⟨b,0,none⟩) n cap/\v= .pointer (some ⟨b,i*size+c,none⟩))
 |.bptr t c,v=>v.oneCell'=true/\∀cells,ob t 0= .box cells->∃b,(h t 0).v= .pointer (some ⟨b,0,none⟩)/\v= .pointer (some ⟨b,c,none⟩)
 |.fn f t,v=>v.oneCell'=true/\∀cells,ob t 0= .box cells->∃b,(h t 0).v= .pointer (some ⟨b,0,none⟩)/\v= .func (.func f) #[] #[.pointer (some ⟨b,0,none⟩)]
 |.rptr r c,v=>∃b off,∃g:Nat->Value,v= .pointer (some ⟨b,off+c,none⟩)/\∀k d,r[k]?=some d->w.cell? ⟨b,off+k,none⟩=some (g k)/\T b (off+k)/\Rd T w (g k) d
 |.tref t j i c o,v=>v.oneCell'=true/\∀size rows,ob t j= .arr true size rows->mr o ((h t j).n (i*size+c)) v
theorem YK.QQ{ob:Nat->Nat->Ob}{x:At}(r:YK T h ob w x v):v.oneCell'=true:=by
 cases x with
 |any=>exact r
 |d x=>exact Rd.QQ r
 |nil s=>cases r;rfl
 |sref=>exact r.1
 |ptr=>exact r.1
 |bptr=>exact r.1
 |fn=>exact r.1
 |tref=>exact r.1
 |rptr r' c=>obtain⟨b,off,g,rfl,_⟩:=r;rfl
inductive YC{α β:Type}(R:α->β->Prop):List α->List β->Prop
 |nil:YC R [] []
 |cons {a b l m}:R a b->YC R l m->YC R (a::l) (b::m)
theorem YC.imp{α β:Type}{R S:α->β->Prop}(h:∀a b,R a b->S a b){l:List α}{m:List β}(x:YC R l m):YC S l m:=by
 induction x with
 |nil=>exact .nil
 |cons r _ ih=>exact .cons (h _ _ r) ih
theorem YC.length{α β:Type}{R:α->β->Prop}{l:List α}{m:List β}(x:YC R l m):l.length=m.length:=by
 induction x with
 |nil=>rfl
 |cons r _ ih=>simp[ih]
theorem YC.get{α β:Type}{R:α->β->Prop}{l:List α}{m:List β}(x:YC R l m):∀(i:Nat)(a:α),l[i]?=some a->∃b,m[i]?=some b/\R a b:=by
 induction x with
 |nil=>intro i a h;simp at h
 |cons r _ ih=>
  intro i a h;cases i with
  |zero=>simp at h;subst h;exact⟨_,zAE,r⟩
  |succ i=>simpa using ih i a zBh
theorem YC.get'{α β:Type}{R:α->β->Prop}{l:List α}{m:List β}(x:YC R l m):∀(i:Nat)(b:β),m[i]?=some b->∃a,l[i]?=some a/\R a b:=by
 induction x with
 |nil=>intro i a h;simp at h
 |cons r _ ih=>
  intro i a h;cases i with
  |zero=>simp at h;subst h;exact⟨_,zAE,r⟩
  |succ i=>simpa using ih i a zBh
theorem YC.qA{α β:Type}{R:α->β->Prop}{l:List α}{m:List β}(hl:l.length=m.length)(h:∀(i:Nat)(a:α)(b:β),l[i]?=some a->m[i]?=some b->R a b):YC R l m:=by
 induction l generalizing m with
 |nil=>cases m with
  |nil=>exact .nil
  |cons b m=>simp at hl
 |cons a l ih=>cases m with
  |nil=>simp at hl
  |cons b m=>exact .cons (h 0 a b zAE zAE) (ih (by simpa using hl) (fun i a b ha hb=>h (i+1) a b (by simpa using ha) (by simpa using hb)))
theorem YC.append{α β:Type}{R:α->β->Prop}{l l':List α}{m m':List β}(x:YC R l m)(y:YC R l' m'):YC R (l++l') (m++m'):=by
 induction x with
 |nil=>exact y
 |cons r _ ih=>exact .cons r ih
theorem YC.take{α β:Type}{R:α->β->Prop}{l:List α}{m:List β}(x:YC R l m)(n:Nat):YC R (l.take n) (m.take n):=by
 induction x generalizing n with
 |nil=>simpa using YC.nil
 |cons r _ ih=>cases n with
  |zero=>simpa using YC.nil
  |succ n=>simpa using YC.cons r (ih n)
theorem YC.drop{α β:Type}{R:α->β->Prop}{l:List α}{m:List β}(x:YC R l m)(n:Nat):YC R (l.drop n) (m.drop n):=by
 induction x generalizing n with
 |nil=>simpa using YC.nil
 |cons r x ih=>cases n with
  |zero=>simpa using YC.cons r x
  |succ n=>simpa using ih n
theorem YC.set{α β:Type}{R:α->β->Prop}{l:List α}{m:List β}(x:YC R l m)(i:Nat){a:α}{b:β}(r:R a b):YC R (l.set i a) (m.set i b):=by
 induction x generalizing i with
 |nil=>simpa using YC.nil
 |cons r' x ih=>cases i with
  |zero=>simpa using YC.cons r x
  |succ i=>simpa using YC.cons r' (ih i)
theorem YC.mem{α β:Type}{R:α->β->Prop}{l:List α}{m:List β}(x:YC R l m){b:β}(h:b∈m):∃a,a∈l/\R a b:=by
 obtain⟨i,hi⟩:=List.mem_iff_getElem?.1 h;obtain⟨a,ha,r⟩:=x.get' i b hi;exact⟨a,List.mem_of_getElem? ha,r⟩
def zX(T:CS)(h:Nat->Nat->Hd)(ob:Nat->Nat->Ob)(w:World):V->Value->Prop
 |.any,_=>True
 |.one x,v=>YK T h ob w x v
 |.agg xs,v=>∃cs:Array Value,v= .agg cs/\YC (YK T h ob w) xs cs.toList
 |.tup _,_=>False
 |.cnd _ _,_=>False
 |.fix _ _,_=>False
def JU(T:CS)(h:Nat->Nat->Hd)(ob:Nat->Nat->Ob)(w:World):V->Value->Prop
 |.tup xs,v=>∃vs:Array Value,v= .tuple vs/\YC (zX T h ob w) xs vs.toList
 |.cnd g x,v=>(g=true->zX T h ob w x v)/\(g=false->v=undef)
 |.any,_=>True
 |.one x,v=>YK T h ob w x v
 |.agg xs,v=>zX T h ob w (.agg xs) v
 |.fix u x,v=>v=u/\zX T h ob w x v
theorem zX.up{ob:Nat->Nat->Ob}{x:V}(r:zX T h ob w x v):JU T h ob w x v:=by
 cases x<;>first|exact r|exact r.elim
def blk:Value->Option Nat
 |.slice (some a) _ _=>some a.block
 |.pointer (some a)=>some a.block
 |_=>none
def Hd.of(v:Value):Hd:=⟨v,fun _=>undef,fun b=>blk v=some b⟩
inductive Own(w:World):Value->D->(Nat->Prop)->Prop
 |int (k:IntKind) (n:Int) (S:Nat->Prop):Own w (.int k n) (.int k n) S
 |bool (b:Bool) (S:Nat->Prop):Own w (.bool b) (.bool b) S
 |str (s:ByteArray) (S:Nat->Prop):Own w (.string s) (.str s) S
 |unk (v:Value) (h:v.oneCell'=true) (S:Nat->Prop):Own w v .unk S
 |sl (v:Value) (size:Nat) (rows:List (List D)) (S:Nat->Prop) (e:TypeId) (xs:List Value) (Sk:Nat->Nat->Prop) (ho:w.ownsRow 0 e size v rows.length xs) (hz:∀r∈rows,r.length=size)
   (hb:∀b,blk v=some b->S b) (hl:xs.length=rows.flatten.length) (hk:∀k x d,xs[k]?=some x->rows.flatten[k]?=some d->Own w x d (Sk k))
   (hs:∀k b,Sk k b->S b/\blk v≠some b) (hd:∀i j b,Sk i b->Sk j b->i=j):Own w v (.sl size rows) S
def Ke(w:World)(xs:List Value)(ds:List D)(S:Nat->Prop):Prop:=
 xs.length=ds.length/\∃Sk:Nat->Nat->Prop,(∀k x d,xs[k]?=some x->ds[k]?=some d->Own w x d (Sk k))/\(∀k b,Sk k b->S b)/\(∀i j b,Sk i b->Sk j b->i=j)
def J9(T:CS)(h:Nat->Nat->Hd)(ob:Nat->Nat->Ob)(w:World)(hd:Hd):Ob->Prop
 |.none=>True
 |.box cells=>∃b cs e,hd.v= .pointer (some ⟨b,0,none⟩)/\w.heap[b]?=some (.cells cs e (0,0))/\YC (YK T h ob w) cells cs.toList
 |.arr false size rows=>∃e xs,w.ownsRow 0 e size hd.v rows.length xs/\(∀r∈rows,r.length=size)/\YC (Rd T w) xs rows.flatten
 |.arr true size rows=>∃e xs,w.ownsRow 0 e size hd.v rows.length xs/\(∀r∈rows,r.length=size)/\Ke w xs rows.flatten (fun b=>hd.u b/\blk hd.v≠some b)/\(∀k x d,xs[k]?=some x->rows.flatten[k]?=some d->d.scalar=false->hd.n k=x)
 |.lit size rows=>∃e xs,w.ownsRow 0 e size hd.v rows.length xs/\(∀r∈rows,r.length=size)/\YC (YK T h ob w) rows.flatten xs
def Tof(T0:CS)(X:Nat->Prop):CS:=fun b k=>T0 b k\/X b
structure XF(B:Nat->Prop)(w w':World):Prop where
 os:w'.os=w.os
 tape:w'.tape=w.tape
 output:w'.output=w.output
 size:w.heap.size<=w'.heap.size
 block:∀k,B k->w'.heap[k]?=w.heap[k]?
theorem XF.refl(B:Nat->Prop)(w:World):XF B w w:=⟨rfl,rfl,rfl,Nat.le_refl _,fun _ _=>rfl⟩
theorem XF.trans{a b c:World}(h:XF B a b)(k:XF B b c):XF B a c:=
 ⟨k.os.trans h.os,k.tape.trans h.tape,k.output.trans h.output,Nat.le_trans h.size k.size,fun i hi=>(k.block i hi).trans (h.block i hi)⟩
theorem XF.MW(h:RowKit.Below w.heap.size w w')(hB:∀b,B b->b<w.heap.size):XF B w w':=⟨h.os,h.tape,h.output,h.size,fun k hk=>h.block k (hB k hk)⟩
structure Rel(T0:CS)(B:Nat->Prop)(σ:St)(a:Act)(w:World)(X:Nat->Prop)(h:Nat->Nat->Hd):Prop where
 size:a.tmps.size=σ.length
 defers:a.defers=[]
 hB:∀b,B b->b<w.heap.size
 hX:∀b,X b->¬B b/\b<w.heap.size
 hT:∀b k,T0 b k->B b
 slot:∀t,t<σ.length->JU (Tof T0 X) h σ.ob w (σ.get t) (a.tmps.getD t undef)
 obj:∀t j,J9 (Tof T0 X) h σ.ob w (h t j) (σ.ob t j)
 ub:∀t j b,σ.ob t j≠ .none->blk (h t j).v=some b->(h t j).u b
 own:∀t j b,σ.ob t j≠ .none->(h t j).u b->¬B b/\¬X b/\b<w.heap.size
 inj:∀t j t' j' b,σ.ob t j≠ .none->σ.ob t' j'≠ .none->(h t j).u b->(h t' j').u b->t=t'/\j=j'
def J5(T0:CS)(B:Nat->Prop)(σ:St)(a:Act)(w:World):Prop:=∃X h,Rel T0 B σ a w X h
theorem Rel.nJ(r:Rel T0 B σ a w X h)(ho:σ.ob t j≠ .none)(hb:blk (h t j).v=some b):¬B b/\¬X b/\b<w.heap.size:=
 r.own t j b ho (r.ub t j b ho hb)
section
variable{ob:Nat->Nat->Ob}
theorem YK.mono(hT:∀b k v,T b k->w.cell? ⟨b,k,none⟩=some v->w'.cell? ⟨b,k,none⟩=some v/\T' b k){x:At}
  (r:YK T h ob w x v):YK T' h ob w' x v:=by
 cases x with
 |any=>exact r
 |d x=>exact Rd.mono hT r
 |nil s=>exact r
 |sref t j lo len=>exact r
 |ptr t j i c=>exact r
 |bptr t c=>exact r
 |fn f t=>exact r
 |tref t j i c o=>exact r
 |rptr rr c=>
  obtain⟨b,off,g,e,hk⟩:=r
  exact⟨b,off,g,e,fun k d hd=>⟨(hT _ _ _ (hk k d hd).2.1 (hk k d hd).1).1,(hT _ _ _ (hk k d hd).2.1 (hk k d hd).1).2,Rd.mono hT (hk k d hd).2.2⟩⟩
theorem zX.mono(hT:∀b k v,T b k->w.cell? ⟨b,k,none⟩=some v->w'.cell? ⟨b,k,none⟩=some v/\T' b k){x:V}
  (r:zX T h ob w x v):zX T' h ob w' x v:=by
 cases x with
 |any=>exact r
 |one x=>exact YK.mono hT r
 |agg xs=>obtain⟨cs,e,r⟩:=r;exact⟨cs,e,r.imp fun _ _=>YK.mono hT⟩
 |tup xs=>exact r.elim
 |cnd g x=>exact r.elim
 |fix u x=>exact r.elim
theorem JU.mono(hT:∀b k v,T b k->w.cell? ⟨b,k,none⟩=some v->w'.cell? ⟨b,k,none⟩=some v/\T' b k){x:V}
  (r:JU T h ob w x v):JU T' h ob w' x v:=by
 cases x with
 |any=>exact r
 |one x=>exact YK.mono hT r
 |agg xs=>exact zX.mono (x:=.agg xs) hT r
 |tup xs=>obtain⟨vs,e,r⟩:=r;exact⟨vs,e,r.imp fun _ _=>zX.mono hT⟩
 |cnd g x=>exact⟨fun hg=>zX.mono hT (r.1 hg),r.2⟩
 |fix u x=>exact⟨r.1,zX.mono hT r.2⟩
end
def unc:V->V
 |.cnd _ x=>x
 |.fix _ x=>x
 |x=>x
def gOf:V->Bool
 |.cnd g _=>g
 |_=>true
def ZV(P:Program)(t:TypeId):TypeId:=
 match P.underlying t with
 |some (.slice e)=>e
 |some (.array _ e)=>e
 |_=>0
def Xj(P:Program)(t:TypeId):Bool:=
 match P.underlying t with
 |some (.slice e)=>(P.info? e).isSome
 |_=>false
def D0(P:Program)(t:TypeId):Option Nat:=
 match P.underlying t with
 |some (.array n e)=>if(P.info? e).isSome then some n else none
 |_=>none
def TR(P:Program)(t:TypeId):Bool:=
 match P.underlying t with
 |some (.struct _)|some (.array _ _)=>true
 |_=>false
def qm(P:Program)(t:TypeId):Bool:=
 (P.underlying t).isSome&&(P.info? t).isSome&&(TR P t||P.cellsOf t==1)
def JF(P:Program)(t:TypeId)(f:Nat):Nat:=
 match P.underlying t with
 |some (.struct fs)=>(match fs[f]? with|some fd=>fd.offset|none=>0)
 |_=>0
def qf(P:Program)(t:TypeId)(f:Nat):TypeId:=
 match P.underlying t with
 |some (.struct fs)=>(match fs[f]? with|some fd=>fd.type|none=>0)
 |_=>0
def kp(P:Program)(t:TypeId)(f:Nat):Bool:=
 match P.underlying t with
 |some (.struct fs)=>(match fs[f]? with|some fd=>(P.info? fd.type).isSome&&decide (P.cellsOf fd.type≠0)|none=>false)
 |_=>false
def wq(P:Program)(t:TypeId):Option IntKind:=
 match P.underlying t with
 |some (.int k)=>some k
 |_=>none
def Su(P:Program)(t:TypeId):Bool:=
 match P.underlying t with
 |some .string=>true
 |_=>false
def Lu(P:Program)(t:TypeId):Bool:=
 match P.underlying t with
 |some .bool=>true
 |_=>false
def cst(P:Program)(ty:TypeId):Value->V
 |.int k n=>.one (.d (.int k n))
 |.bool b=>.one (.d (.bool b))
 |.string s=>.one (.d (.str s))
 |.slice none 0 0=>.one (.nil (P.cellsOf (ZV P ty)))
 |_=>.any
def look(P:Program)(σ:St)(ty:TypeId):Operand->V
 |.tmp t=>σ.get t
 |.const v=>cst P ty v
 |_=>.any
theorem Rel.get(r:Rel T0 B σ a w X h)(t:Nat):JU (Tof T0 X) h σ.ob w (σ.get t) (a.tmps.getD t undef):=by
 rcases Nat.lt_or_ge t σ.length with hl|hl
 ·exact r.slot t hl
 ·simp[St.get,List.getElem?_eq_none hl,JU]
theorem r8(T:CS)(h:Nat->Nat->Hd)(ob:Nat->Nat->Ob)(w:World)(ty:TypeId)(v:Value):JU T h ob w (cst P ty v) v:=by
 unfold cst;split
 ·exact .int _ _
 ·exact .bool _
 ·exact .str _
 ·rfl
 ·trivial
theorem Rel.look(r:Rel T0 B σ a w X h)(ty:TypeId)(x:Operand):JU (Tof T0 X) h σ.ob w (look P σ ty x) (a.eval x):=by
 cases x with
 |tmp t=>exact r.get t
 |const v=>exact r8 _ _ _ _ _ _
 |global g=>trivial
 |func f=>trivial
theorem JU.unc{ob:Nat->Nat->Ob}{x:V}(r:JU T h ob w x v)(hg:gOf x=true):JU T h ob w (unc x) v:=by
 cases x with
 |cnd g x=>exact zX.up (r.1 hg)
 |fix u x=>exact zX.up r.2
 |_=>exact r
theorem Rel.arg(r:Rel T0 B σ a w X h)(ty:TypeId)(x:Operand){v:V}(he:Vm.unc (Vm.look P σ ty x)=v)(hg:gOf (Vm.look P σ ty x)=true):JU (Tof T0 X) h σ.ob w v (a.eval x):=by
 subst he;exact(r.look ty x).unc hg
theorem Rel.put(r:Rel T0 B σ a w X h)(d:Nat)(v:V)(val:Value)(hv:JU (Tof T0 X) h σ.ob w v val):Rel T0 B (σ.put d v) (a.put (some d) val) w X h:=by
 refine⟨by simp[Act.put,r.size,St.Jd],r.defers,r.hB,r.hX,r.hT,fun t ht=>?_,fun t j=>?_,fun t j b=>?_,fun t j b=>?_,fun t j t' j' b=>?_⟩
 ·rw[St.Jc,St.zu];rw[St.Jd]at ht;by_cases hd:t=d/\d<σ.length
  ·obtain⟨rfl,hl⟩:=hd;simp only[hl,and_self,if_true];have:(a.tmps.setIfInBounds t val).getD t undef=val:=by simp[r.size,hl]
   simp only[Act.put,this];exact hv
  ·rw[if_neg hd];have iH:d≠t:=fun e=>hd ⟨e.symm,e▸ht⟩
   have:(a.tmps.setIfInBounds d val).getD t undef=a.tmps.getD t undef:=by simp[Array.getElem?_setIfInBounds_ne iH]
   simp only[Act.put,this];exact r.slot t ht
 ·rw[St.Jc];exact r.obj t j
 ·rw[St.Jc];exact r.ub t j b
 ·rw[St.Jc];exact r.own t j b
 ·rw[St.Jc];exact r.inj t j t' j' b
def ldV(P:Program)(T:TypeId)(xs:List At):V:=if TR P T then .agg xs else(match xs with|[x]=>.one x|_=>.any)
def EY(k:IntKind)(x y:Int):Int:=k.wrap (BitVec.ofInt k.bits x&&&BitVec.ofInt k.bits y).toNat
def iOr(k:IntKind)(x y:Int):Int:=k.wrap (BitVec.ofInt k.bits x|||BitVec.ofInt k.bits y).toNat
def te(k:IntKind)(x y:Int):Int:=k.wrap (BitVec.ofInt k.bits x^^^BitVec.ofInt k.bits y).toNat
def Hw(op:BinOp)(k:IntKind)(x y:Int)(v:V):Prop:=
 match op with
 |.eql=>v= .one (.d (.bool (x==y)))
 |.neq=>v= .one (.d (.bool (x !=y)))
 |.lss=>v= .one (.d (.bool (decide (x<y))))
 |.leq=>v= .one (.d (.bool (decide (x<=y))))
 |.gtr=>v= .one (.d (.bool (decide (x>y))))
 |.geq=>v= .one (.d (.bool (decide (x>=y))))
 |.add=>v= .one (.d (.int k (k.wrap (x+y))))
 |.sub=>v= .one (.d (.int k (k.wrap (x-y))))
 |.mul=>v= .one (.d (.int k (k.wrap (x*y))))
 |.quo=>y≠0/\v= .one (.d (.int k (k.wrap (x.tdiv y))))
 |.rem=>y≠0/\v= .one (.d (.int k (x.tmod y)))
 |.and=>v= .one (.d (.int k (EY k x y)))
 |.or=>v= .one (.d (.int k (iOr k x y)))
 |.xor=>v= .one (.d (.int k (te k x y)))
 |.shl=>0<=y/\v= .one (.d (.int k (k.wrap (x*2^min y.toNat k.bits))))
 |.shr=>0<=y/\v= .one (.d (.int k (x.fdiv (2^min y.toNat k.bits))))
 |_=>False
def GN(op:BinOp)(x y:ByteArray)(v:V):Prop:=
 match op with
 |.add=>((x.size+y.size:Nat):Int)<=9223372036854775807/\v= .one (.d (.str (x++y)))
 |.eql=>v= .one (.d (.bool (decide (x=y))))
 |.neq=>v= .one (.d (.bool (!decide (x=y))))
 |_=>False
def MA(op:BinOp)(x y:Bool)(v:V):Prop:=
 match op with
 |.eql=>v= .one (.d (.bool (x==y)))
 |.neq=>v= .one (.d (.bool (!(x==y))))
 |_=>False
theorem wj{x y:Int}{v:V}{t:TypeId}(hk:(op= .shl\/op= .shr)\/kk=k)(hb:Hw op k x y v)(w:World):
  ∃d,v= .one (.d d)/\∃val,(binOp op t (.int k x) (.int kk y)).run P w= .ok val w/\∀T w',Rd T w' val d:=by
 cases op<;>simp only[Hw]at hb
 case shl=>obtain⟨h0,rfl⟩:=hb;exact⟨_,rfl,_,by simp[binOp,Op.shift,Int.not_lt.2 h0],fun _ _=>.int _ _⟩
 case shr=>obtain⟨h0,rfl⟩:=hb;exact⟨_,rfl,_,by simp[binOp,Op.shift,Int.not_lt.2 h0],fun _ _=>.int _ _⟩
 all_goals(have hkk:kk=k:=by rcases hk with(hk|hk)|hk<;>first|exact hk|cases hk)
 all_goals subst hkk
 case quo=>obtain⟨h0,rfl⟩:=hb;exact⟨_,rfl,_,by simp[binOp,Op.intDiv,h0],fun _ _=>.int _ _⟩
 case rem=>obtain⟨h0,rfl⟩:=hb;exact⟨_,rfl,_,by simp[binOp,Op.intDiv,h0],fun _ _=>.int _ _⟩
 case add=>subst hb;exact⟨_,rfl,_,by simp[binOp,Op.intArith],fun _ _=>.int _ _⟩
 case sub=>subst hb;exact⟨_,rfl,_,by simp[binOp,Op.intArith],fun _ _=>.int _ _⟩
 case mul=>subst hb;exact⟨_,rfl,_,by simp[binOp,Op.intArith],fun _ _=>.int _ _⟩
 case and=>subst hb;exact⟨_,rfl,_,by simp[binOp,Op.intBits,EY],fun _ _=>.int _ _⟩
 case or=>subst hb;exact⟨_,rfl,_,by simp[binOp,Op.intBits,iOr],fun _ _=>.int _ _⟩
 case xor=>subst hb;exact⟨_,rfl,_,by simp[binOp,Op.intBits,te],fun _ _=>.int _ _⟩
 all_goals(subst hb;exact⟨_,rfl,.bool _,by simp only[binOp,Op.intCmp,ne_eq,not_true_eq_false,if_false];rfl,fun _ _=>.bool _⟩)
theorem wv(x y:ByteArray):(x.toList==y.toList)=decide (x=y):=by
 rw[ByteArray.toList_eq,ByteArray.toList_eq,Bool.eq_iff_iff];simp only[beq_iff_eq,decide_eq_true_eq];constructor
 ·intro hh;cases x;cases y;simp_all
 ·rintro rfl;rfl
theorem wN{x y:ByteArray}{v:V}{t:TypeId}(hb:GN op x y v)(w:World):
  ∃d,v= .one (.d d)/\∃val,(binOp op t (.string x) (.string y)).run P w= .ok val w/\∀T w',Rd T w' val d:=by
 cases op<;>simp only[GN]at hb
 case add=>obtain⟨h0,rfl⟩:=hb;exact⟨_,rfl,_,by simp only[binOp,Op.stringOp];rw[if_neg (by simp[IntKind.max,IntKind.signed,IntKind.bits];omega)];rfl,fun _ _=>.str _⟩
 case eql=>subst hb;exact⟨_,rfl,.bool _,by simp only[binOp,Op.stringOp,wv];rfl,fun _ _=>.bool _⟩
 case neq=>subst hb;exact⟨_,rfl,.bool _,by simp only[binOp,Op.stringOp,wv];rfl,fun _ _=>.bool _⟩
theorem run_equalIn_bool{t:TypeId}(hu:P.underlying t=some .bool)(d:Nat)(x y:Bool)(w:World):(Op.equalIn (d+1) t (.bool x) (.bool y)).run P w= .ok (x==y) w:=by
 simp[Op.equalIn,run_underlying hu]
theorem Bt{x y:Bool}{v:V}{t:TypeId}(ht:Lu P t=true)(hb:MA op x y v)(w:World):
  ∃d,v= .one (.d d)/\∃val,(binOp op t (.bool x) (.bool y)).run P w= .ok val w/\∀T w',Rd T w' val d:=by
 have hu:P.underlying t=some .bool:=by
  unfold Lu at ht;split at ht<;>first|assumption|cases ht
 cases op<;>simp only[MA]at hb
 case eql=>subst hb;exact⟨_,rfl,_,by simp only[binOp,Op.equal,Op.maxDepth,Sem.run_bind,run_equalIn_bool hu 9999,Result.andThen_ok,Sem.run_pure],fun _ _=>.bool _⟩
 case neq=>subst hb;exact⟨_,rfl,_,by simp only[binOp,Op.equal,Op.maxDepth,Sem.run_bind,run_equalIn_bool hu 9999,Result.andThen_ok,Sem.run_pure],fun _ _=>.bool _⟩
def Um(P:Program)(σ:St)(x:Operand)(k:IntKind)(n:Int):Prop:=gOf (look P σ 0 x)=true/\unc (look P σ 0 x)= .one (.d (.int k n))
def bnd(P:Program)(σ:St)(gy:Nat):Option Operand->Nat->Prop
 |none,n=>n=gy
 |some x,n=>∃k i,gOf (look P σ 0 x)=true/\unc (look P σ 0 x)= .one (.d (.int k i))/\0<=i/\n=i.toNat
def cut{α:Type}(xs:List α)(off n:Nat):List α:=(xs.drop off).take n
def Wl(P:Program):Nat->TypeId->Option (List At)
 |0,_=>none
 |n+1,t=>
  match P.underlying t with
  |some .bool=>some [.d (.bool false)]
  |some (.int k)=>some [.d (.int k 0)]
  |some .string=>some [.d (.str ⟨#[]⟩)]
  |some (.slice e)=>some [.nil (P.cellsOf e)]
  |some (.struct fs)=>(fs.toList.mapM (fun f=>Wl P n f.type)).map List.flatten
  |some (.array m e)=>(Wl P n e).map (fun r=>(List.replicate m r).flatten)
  |_=>none
def zAt:At->Value->Bool
 |.d (.bool b),.bool b'=>b==b'
 |.d (.int k n),.int k' n'=>k==k'&&n==n'
 |.d (.str s),.string s'=>s.data.toList==s'.data.toList
 |.nil _,.slice none 0 0=>true
 |_,_=>false
def uS:List At->List Value->Bool
 |[],[]=>true
 |x::xs,v::vs=>zAt x v&&uS xs vs
 |_,_=>false
def Qg(P:Program)(t:TypeId):Bool:=
 match Wl P 12 t,P.info? t with
 |some row,some i=>(match i.zero with|some z=>uS row z.cells.toList&&i.size==row.length|none=>false)
 |_,_=>false
theorem pG{x:At}(hz:zAt x v=true)(T:CS)(h:Nat->Nat->Hd)(ob:Nat->Nat->Ob)(w:World):YK T h ob w x v:=by
 unfold zAt at hz;split at hz
 ·simp at hz;subst hz;exact .bool _
 ·simp at hz;obtain⟨rfl,rfl⟩:=hz;exact .int _ _
 ·rename_i s s';simp at hz;have:s=s':=by cases s;cases s';simp_all
  subst this;exact .str _
 ·rfl
 ·cases hz
theorem sX{xs:List At}(hz:uS xs vs=true)(T:CS)(h:Nat->Nat->Hd)(ob:Nat->Nat->Ob)(w:World):YC (YK T h ob w) xs vs:=by
 induction xs generalizing vs with
 |nil=>cases vs with
  |nil=>exact .nil
  |cons v vs=>simp[uS]at hz
 |cons x xs ih=>cases vs with
  |nil=>simp[uS]at hz
  |cons v vs=>simp[uS]at hz;exact .cons (pG hz.1 _ _ _ _) (ih hz.2)
theorem Gs{t:TypeId}{row:List At}(hz:Qg P t=true)(hr:Wl P 12 t=some row):
  ∃i z,P.info? t=some i/\i.zero=some z/\i.size=row.length/\(∀T h ob w,YC (YK T h ob w) row z.cells.toList):=by
 unfold Qg at hz
 rw[hr]at hz
 split at hz
 ·rename_i iO i gb hi
  cases gb
  split at hz
  ·rename_i z eW
   simp at hz
   exact⟨i,z,hi,eW,hz.2,fun T h ob w=>sX hz.1 T h ob w⟩
  ·cases hz
 ·cases hz
def V.cells:V->List At
 |.one c=>[c]
 |.agg xs=>xs
 |_=>[]
def V.flat:V->Bool
 |.one _=>true
 |.agg _=>true
 |_=>false
def place{α:Type}(r:List α)(off:Nat)(xs:List α):List α:=r.take off++xs++r.drop (off+xs.length)
def RP(P:Program)(T:TypeId)(i:Nat):Nat:=match P.underlying T with|some (.array _ e)=>i*P.cellsOf e|_=>JF P T i
def bTy(P:Program)(T:TypeId)(i:Nat):TypeId:=match P.underlying T with|some (.array _ e)=>e|_=>qf P T i
def bOk(P:Program)(T:TypeId)(i:Nat):Bool:=match P.underlying T with
 |some (.array _ e)=>(P.info? e).isSome
 |some (.struct fs)=>fs.all (fun f=>(P.info? f.type).isSome)&&decide (i<fs.size)
 |_=>false
def Tr(P:Program)(σ:St)(T:TypeId):List (Nat×Operand)->List At->List At->Prop
 |[],r,out=>out=r
 |(i,x)::ps,r,out=>bOk P T i=true/\gOf (look P σ (bTy P T i) x)=true/\(unc (look P σ (bTy P T i) x)).flat=true/\
   (unc (look P σ (bTy P T i) x)).cells.length=P.cellsOf (bTy P T i)/\RP P T i+P.cellsOf (bTy P T i)<=r.length/\
   Tr P σ T ps (place r (RP P T i) (unc (look P σ (bTy P T i) x)).cells) out
def Pn(P:Program)(t:TypeId):Bool:=match P.underlying t with|some .bool=>true|some (.int _)=>true|some .string=>true|_=>false
def UX(P:Program):List Field->Nat->Bool
 |[],_=>true
 | f :: fs, i => decide (f.name ≠ "_") && f.offset == i && Pn P f.type && UX P fs (i + 1)
def SB(P:Program):List Field->Nat->Bool
 |[],_=>true
 | f :: fs, i => decide (f.name ≠ "_") && f.offset == i && (if Pn P f.type then SB P fs (i + 1) else (match P.underlying f.type with | some (.struct gs) => qm P f.type && TR P f.type && P.cellsOf f.type == gs.size && decide (0 < gs.size) && !P.stoodInHeld f.type && UX P gs.toList 0 && SB P fs (i + gs.size) | _ => false))
def E9(P:Program)(f:Field):List TypeId:=if Pn P f.type then[f.type]else(match P.underlying f.type with|some (.struct gs)=>gs.toList.map (·.type)|_=>[])
def zx(P:Program)(T:TypeId):List TypeId:=(P.fieldsOf T).toList.flatMap (E9 P)
def P5(P:Program)(t:TypeId):Bool:=match P.underlying t with
 |some (.struct fs)=>!P.stoodInHeld t&&!P.eqGuardType P.depth t&&SB P fs.toList 0
 |_=>false
def po(P:Program)(t:TypeId):At->At->Option Bool
 |.d (.int k a),.d (.int k' b)=>if k=k'/\(wq P t).isSome then some (a==b)else none
 |.d (.bool a),.d (.bool b)=>if Lu P t then some (a==b)else none
 |.d (.str a),.d (.str b)=>if Su P t then some (decide (a=b))else none
 |_,_=>none
def JB(P:Program):List TypeId->List At->List At->Option Bool
 |[],_,_=>some true
 |f::fs,x::xs,y::ys=>(match po P f x y,JB P fs xs ys with|some p,some q=>some (p&&q)|_,_=>none)
 |_,_,_=>none
def AA(P:Program)(op:BinOp)(T:TypeId)(x y v:V):Prop:=
 match x,y with
 |.one (.d (.int k m)),.one (.d (.int k' n))=>((op= .shl\/op= .shr)\/k'=k)/\Hw op k m n v
 |.one (.d (.str m)),.one (.d (.str n))=>GN op m n v
 |.one (.d (.bool m)),.one (.d (.bool n))=>Lu P T=true/\MA op m n v
 |.agg xs,.agg ys=>P5 P T=true/\∃q,JB P (zx P T) xs ys=some q/\((op= .eql/\v= .one (.d (.bool q)))\/(op= .neq/\v= .one (.d (.bool (!q)))))
 |_,_=>False
def VG(t j i:Nat):Nat->List D->List At
 |_,[]=>[]
 |c,x::xs=>(match x with|.sl _ _=>.tref t j i c none|x=>.d x)::VG t j i (c+1) xs
def Si(q:Bool)(t j i c:Nat)(xs:List D):List At:=match q with|true=>VG t j i c xs|false=>xs.map .d
def Yj(P:Program)(σ:St)(op:Op)(ty:TypeId)(v:V):Prop:=
 match op with
 |.move x=>v=look P σ ty x
 |.assign x=>v=look P σ ty x
 |.pick c a b=>∃bc p q,gOf (look P σ ty c)=true/\unc (look P σ ty c)= .one (.d (.bool bc))/\(bc=true->unc (look P σ ty a)= .one (.d (.bool p)))/\(bc=false->unc (look P σ ty b)= .one (.d (.bool q)))/\
   (bc=true->gOf (look P σ ty a)=true)/\(bc=false->gOf (look P σ ty b)=true)/\v= .one (.d (.bool (cond bc p q)))
 |.load T x=>gOf (look P σ 0 x)=true/\qm P T=true/\
   (match unc (look P σ 0 x)with
   |.one (.bptr t c)=>∃cells,σ.ob t 0= .box cells/\c+P.cellsOf T<=cells.length/\v=ldV P T (cut cells c (P.cellsOf T))
   |.one (.ptr t j i c)=>∃q size rows,σ.ob t j= .arr q size rows/\i<rows.length/\c+P.cellsOf T<=size/\v=ldV P T (Si q t j i c (cut (rows.getD i []) c (P.cellsOf T)))
   |.one (.rptr r c)=>c+P.cellsOf T<=r.length/\v=ldV P T ((cut r c (P.cellsOf T)).map .d)
   |.one (.tref t j i c (some k))=>∃size rows s,σ.ob t j= .arr true size rows/\i<rows.length/\(rows.getD i [])[c]?=some (.sl 1 s)/\P.cellsOf T=1/\k<s.length/\(s.getD k []).all D.scalar=true/\v=ldV P T ((s.getD k []).map .d)
   |_=>False)
 |.fieldAddr T x f=>gOf (look P σ 0 x)=true/\kp P T f=true/\
   (match unc (look P σ 0 x)with
   |.one (.bptr t c)=>(∃cells,σ.ob t 0= .box cells)/\v= .one (.bptr t (c+JF P T f))
   |.one (.ptr t j i c)=>(∃q size rows,σ.ob t j= .arr q size rows)/\v= .one (.ptr t j i (c+JF P T f))
   |.one (.rptr r c)=>v= .one (.rptr r (c+JF P T f))
   |.one (.tref t j i c (some k))=>(∃size rows,σ.ob t j= .arr true size rows)/\v= .one (.tref t j i c (some (k+JF P T f)))
   |_=>False)
 |.nilCheck x=>gOf (look P σ 0 x)=true/\
   (match unc (look P σ 0 x)with
   |.one (.bptr t c)=>(∃cells,σ.ob t 0= .box cells)/\v= .one (.bptr t c)
   |_=>False)
 |.indexAddr T x ix=>∃k i,Um P σ ix k i/\0<=i/\gOf (look P σ 0 x)=true/\
   (match unc (look P σ 0 x)with
   |.one (.d (.sl size rows))=>Xj P T=true/\size=P.cellsOf (ZV P T)/\0<size/\i<(rows.length:Int)/\v= .one (.rptr (rows.getD i.toNat []) 0)
   |.one (.sref t j lo len)=>Xj P T=true/\0<P.cellsOf (ZV P T)/\(∃q rows,σ.ob t j= .arr q (P.cellsOf (ZV P T)) rows)/\i<(len:Int)/\v= .one (.ptr t j (lo+i.toNat) 0)
   |.one (.bptr t c)=>(∃cells,σ.ob t 0= .box cells)/\(∃n,D0 P T=some n/\1<n/\i<(n:Int))/\v= .one (.bptr t (c+i.toNat*P.cellsOf (ZV P T)))
   |.one (.tref t j m c none)=>Xj P T=true/\0<P.cellsOf (ZV P T)/\(∃size rows s,σ.ob t j= .arr true size rows/\m<rows.length/\(rows.getD m [])[c]?=some (.sl (P.cellsOf (ZV P T)) s)/\i<(s.length:Int))/\v= .one (.tref t j m c (some (i.toNat*P.cellsOf (ZV P T))))
   |_=>False)
 |.index T x ix=>∃k i,Um P σ ix k i/\0<=i/\gOf (look P σ 0 x)=true/\
   (match unc (look P σ 0 x)with
   |.one (.d (.str s))=>Su P T=true/\i<(s.size:Int)/\v= .one (.d (.int .u8 (s.data.toList.getD i.toNat 0).toNat))
   |.agg xs=>(∃n,D0 P T=some n/\i<(n:Int))/\qm P (ZV P T)=true/\i.toNat*P.cellsOf (ZV P T)+P.cellsOf (ZV P T)<=xs.length/\v=ldV P (ZV P T) (cut xs (i.toNat*P.cellsOf (ZV P T)) (P.cellsOf (ZV P T)))
   |_=>False)
 |.slice T x lo hi none=>gOf (look P σ 0 x)=true/\
   (match unc (look P σ 0 x)with
   |.one (.d (.str s))=>Su P T=true/\∃l h,bnd P σ 0 lo l/\bnd P σ s.size hi h/\l<=h/\h<=s.size/\v= .one (.d (.str (s.extract l h)))
   |.one (.d (.sl size rows))=>Xj P T=true/\size=P.cellsOf (ZV P T)/\∃l h,bnd P σ 0 lo l/\bnd P σ rows.length hi h/\l<=h/\h<=rows.length/\v= .one (.d (.sl size (cut rows l (h-l))))
   |.one (.sref t j o len)=>Xj P T=true/\(∃q rows,σ.ob t j= .arr q (P.cellsOf (ZV P T)) rows)/\∃l h,bnd P σ 0 lo l/\bnd P σ len hi h/\l<=h/\h<=len/\v= .one (.sref t j (o+l) (h-l))
   |_=>False)
 |.binOp op T x y _=>gOf (look P σ T x)=true/\gOf (look P σ T y)=true/\
   AA P op T (unc (look P σ T x)) (unc (look P σ T y)) v
 |.unOp op _ x=>gOf (look P σ 0 x)=true/\
   (match op,unc (look P σ 0 x)with
   |.not,.one (.d (.bool b))=>v= .one (.d (.bool (!b)))
   |.neg,.one (.d (.int k n))=>v= .one (.d (.int k (k.wrap (-n))))
   |_,_=>False)
 |.convert S T x=>gOf (look P σ 0 x)=true/\(P.underlying S).isSome=true/\
   (match unc (look P σ 0 x)with
   |.one (.d (.int _ n))=>∃k,wq P T=some k/\v= .one (.d (.int k (k.wrap n)))
   |_=>False)
 |.extract x i=>gOf (look P σ 0 x)=true/\
   (match unc (look P σ 0 x)with
   |.tup xs=>xs[i]?=some v/\v.flat=true
   |_=>False)
 |.field T x f=>gOf (look P σ 0 x)=true/\kp P T f=true/\qm P (qf P T f)=true/\
   (match unc (look P σ 0 x)with
   |.agg xs=>JF P T f+P.cellsOf (qf P T f)<=xs.length/\v=ldV P (qf P T f) (cut xs (JF P T f) (P.cellsOf (qf P T f)))
   |_=>False)
 |.build T parts=>Qg P T=true/\TR P T=true/\∃z out,Wl P 12 T=some z/\Tr P σ T parts.toList z out/\v= .agg out
 |.call c=>
   (match c.callee,c.args.toList,c.argTypes.toList with
   |.builtin .len,[x],[t]=>gOf (look P σ t x)=true/\
     (match unc (look P σ t x)with
     |.one (.d (.str s))=>Su P t=true/\v= .one (.d (.int .i64 s.size))
     |.one (.d (.sl _ rows))=>Xj P t=true/\v= .one (.d (.int .i64 rows.length))
     |.one (.nil _)=>Xj P t=true/\v= .one (.d (.int .i64 0))
     |.one (.sref u j _ len)=>Xj P t=true/\((∃q size rows,σ.ob u j= .arr q size rows)\/∃size rows,σ.ob u j= .lit size rows)/\v= .one (.d (.int .i64 len))
     |.one (.tref u j i c none)=>Xj P t=true/\∃size rows n s,σ.ob u j= .arr true size rows/\i<rows.length/\(rows.getD i [])[c]?=some (.sl n s)/\v= .one (.d (.int .i64 s.length))
     |_=>False)
   |.builtin .max,[x,y],_=>∃k m n,Um P σ x k m/\Um P σ y k n/\v= .one (.d (.int k (if n>m then n else m)))
   |.builtin .min,[x,y],_=>∃k m n,Um P σ x k m/\Um P σ y k n/\v= .one (.d (.int k (if n<m then n else m)))
   |_,_,_=>False)
 |_=>False
theorem qN(b off n:Nat):(⟨b,off,none⟩:Addr).add n=⟨b,off+n,none⟩:=by
 unfold Addr.add;split<;>simp_all
theorem WG{T:TypeId}(ht:qm P T=true):∃d i,P.underlying T=some d/\P.info? T=some i/\i.size=P.cellsOf T/\(TR P T=true\/P.cellsOf T=1):=by
 simp only[qm,Bool.and_eq_true,Bool.or_eq_true,beq_iff_eq]at ht;obtain⟨⟨h1,h2⟩,h3⟩:=ht;obtain⟨d,hd⟩:=Option.isSome_iff_exists.1 h1;obtain⟨i,hi⟩:=Option.isSome_iff_exists.1 h2;exact⟨d,i,hd,hi,by simp[Program.cellsOf,hi],h3⟩
theorem Pw{T:TypeId}{d:TypeDesc}(hd:P.underlying T=some d)(w:World):(isAgg T).run P w= .ok (TR P T) w:=by
 unfold isAgg TR;rw[hd];simp only[Sem.run_bind,run_underlying hd,Result.andThen_ok];cases d<;>simp
theorem KX{T:TypeId}{i:TypeInfo}(hi:P.info? T=some i)(w:World):(sizeOf T).run P w= .ok (P.cellsOf T) w:=by
 simp[sizeOf,typeInfo,hi,Program.cellsOf]
theorem rU{T:TypeId}(ht:qm P T=true)(hl:cs.length=P.cellsOf T)(hc:∀j v,cs[j]?=some v->w.cell? ⟨b,off+j,none⟩=some v):
  ∃val,(Instr.loadAt T (.pointer (some ⟨b,off,none⟩))).run P w= .ok val w/\(TR P T=true->val= .agg cs.toArray)/\(TR P T=false->cs=[val]):=by
 obtain⟨d,i,hd,hi,gT,gO⟩:=WG ht
 cases dQ:TR P T with
 |true=>
  refine⟨.agg cs.toArray,?_,fun _=>rfl,(fun hh=>by cases hh)⟩
  have:=run_loadCells_list (P:=P) w ⟨b,off,none⟩ cs (fun j v hv=>by rw[qN];exact hc j v hv)
  simp only[Instr.loadAt,Instr.sureAddr,loadVar,Sem.run_bind,Sem.run_pure,Result.andThen_ok,Pw hd,dQ,if_true,KX hi,<-hl,this]
 |false=>
  rcases gO with gO|gO
  ·rw[dQ]at gO;cases gO
  ·rw[gO]at hl
   obtain⟨val,rfl⟩:=List.length_eq_one_iff.1 hl
   refine⟨val,?_,(fun hh=>by cases hh),fun _=>rfl⟩
   have hc0:=hc 0 val zAE
   simp only[Nat.add_zero]at hc0
   simp[Instr.loadAt,Instr.sureAddr,loadVar,Pw hd,dQ,load,Sem.run,hc0]
theorem vV{T:TypeId}(_ht:qm P T=true){ob:Nat->Nat->Ob}{xs:List At}(hx:YC (YK T' h ob w) xs cs)
  (h1:TR P T=true->val= .agg cs.toArray) (h2:TR P T=false->cs=[val]):JU T' h ob w (ldV P T xs) val:=by
 unfold ldV
 cases dQ:TR P T with
 |true=>simp only[if_true];exact⟨_,h1 dQ,by simpa using hx⟩
 |false=>
  simp only[Bool.false_eq_true,if_false]
  rw[h2 dQ]at hx
  cases hx with
  |cons r hx=>cases hx;exact r
theorem YC.cut{α β:Type}{R:α->β->Prop}{l:List α}{m:List β}(x:YC R l m)(o n:Nat):YC R (Vm.cut l o n) (Vm.cut m o n):=(x.drop o).take n
theorem XZ{α:Type}(l:List α)(o n:Nat)(hl:o+n<=l.length):(cut l o n).length=n:=by simp[cut];omega
theorem zy{α:Type}(l:List α)(o n j:Nat)(v:α)(hv:(cut l o n)[j]?=some v):l[o+j]?=some v:=by
 simp only[cut,List.getElem?_take,List.getElem?_drop]at hv;split at hv
 ·exact hv
 ·cases hv
theorem j0{α:Type}:∀(rows:List (List α))(size:Nat),(∀r∈rows,r.length=size)->∀(i:Nat)(r:List α),rows[i]?=some r->∀(j:Nat)(d:α),r[j]?=some d->rows.flatten[i*size+j]?=some d
 |[],_,_,i,r,hr,_,_,_=>by simp at hr
 |r0::rows,size,hz,0,r,hr,j,d,hd=>by
  simp at hr;subst hr
  have hj:j<r0.length:=(List.getElem?_eq_some_iff.1 hd).1
  simp[List.getElem?_append_left hj,hd]
 |r0::rows,size,hz,i+1,r,hr,j,d,hd=>by
  have ih:=j0 rows size (fun r hr=>hz r zB3) i r (by simpa using hr) j d hd
  have h0:r0.length=size:=hz r0 zAE
  rw[List.flatten_cons,List.getElem?_append_right (by rw[h0,Nat.add_mul];omega),h0]
  have:(i+1)*size+j-size=i*size+j:=by rw[Nat.add_mul];omega
  rw[this];exact ih
theorem YV{α:Type}(rows:List (List α))(size:Nat)(hz:∀r∈rows,r.length=size):rows.flatten.length=rows.length*size:=by
 induction rows with
 |nil=>simp
 |cons r rows ih=>rw[List.flatten_cons,List.length_append,ih (fun r hr=>hz r zB3),hz r zAE,List.length_cons,Nat.add_mul];omega
theorem Rd.row(r:Rd T w v (.sl size rows))(i:Nat)(hi:i<rows.length)(gT:0<size):
  ∃a len cap,v= .slice (some a) len cap/\len=rows.length/\a.spot=none/\
   ∃g:Nat->Value,∀k d,(rows.getD i [])[k]?=some d->w.cell? ⟨a.block,a.off+i*size+k,none⟩=some (g k)/\T a.block (a.off+i*size+k)/\Rd T w (g k) d:=by
 cases r with
 |nil=>simp at hi
 |sl a len cap size rows g hl hc hm hz hs hg hr=>
  have hR:rows[i]?=some (rows.getD i []):=zAv
  have iH:rows.flatten≠[]:=by
   have hlen:=YV rows size hz
   have hp:0<rows.length*size:=Nat.mul_pos zAA gT
   intro he
   have h0:rows.flatten.length=0:=by rw[he];rfl
   omega
  refine⟨a,len,cap,rfl,hl.symm,hs iH,fun k=>g (i*size+k),fun k d hd=>?_⟩
  have hf:=j0 rows size hz i _ hR k d hd
  have h1:=hg _ _ hf
  rw[Nat.add_assoc]
  exact⟨h1.1,h1.2,hr _ _ hf⟩
theorem Fg(r:Rd T w v (.sl size rows)):∀x∈rows,x.length=size:=by
 cases r with
 |nil=>intro x hx;cases hx
 |sl a len cap size rows g hl hc hm hz hs hg hr=>exact hz
theorem wO(r:Rd T w v (.sl size rows)):∃base cap,v= .slice base rows.length cap/\rows.length<=cap/\cap<=maxLen:=by
 cases r with
 |nil=>exact⟨none,0,rfl,zAE,by simp[maxLen]⟩
 |sl a len cap size rows g hl hc hm hz hs hg hr=>exact⟨some a,cap,by rw[hl],zAA,hm⟩
theorem QD{t:TypeId}(ht:Xj P t=true):∃i,P.underlying t=some (.slice (ZV P t))/\P.info? (ZV P t)=some i/\i.size=P.cellsOf (ZV P t):=by
 unfold Xj at ht;split at ht
 ·rename_i e he;obtain⟨i,hi⟩:=Option.isSome_iff_exists.1 ht;have:ZV P t=e:=by simp[ZV,he]
  rw[this];exact⟨i,he,hi,by simp[Program.cellsOf,hi]⟩
 ·cases ht
theorem Ht{t:TypeId}(ht:D0 P t=some n):∃i,P.underlying t=some (.array n (ZV P t))/\P.info? (ZV P t)=some i/\i.size=P.cellsOf (ZV P t):=by
 unfold D0 at ht;split at ht
 ·rename_i m e he;split at ht
  ·rename_i hh;cases ht;obtain⟨i,hi⟩:=Option.isSome_iff_exists.1 hh;have:ZV P t=e:=by simp[ZV,he]
   rw[this];exact⟨i,he,hi,by simp[Program.cellsOf,hi]⟩
  ·cases ht
 ·cases ht
theorem Oe{t:TypeId}(ht:kp P t f=true):∃fs fd i,P.underlying t=some (.struct fs)/\fs[f]?=some fd/\fd.offset=JF P t f/\fd.type=qf P t f/\P.info? fd.type=some i/\i.size≠0:=by
 unfold kp at ht;split at ht
 ·rename_i fs he;split at ht
  ·rename_i fd hf;simp at ht;obtain⟨i,hi⟩:=Option.isSome_iff_exists.1 ht.1;exact⟨fs,fd,i,he,hf,by simp[JF,he,hf],by simp[qf,he,hf],hi,by simpa[Program.cellsOf,hi]using ht.2⟩
  ·cases ht
 ·cases ht
theorem jl{t:TypeId}(ht:Su P t=true):P.underlying t=some .string:=by
 unfold Su at ht;split at ht<;>first|assumption|cases ht
theorem GD{t:TypeId}(ht:wq P t=some k):P.underlying t=some (.int k):=by
 unfold wq at ht;split at ht
 ·cases ht;assumption
 ·cases ht
theorem SY{n:Int}(r:Rd T w v (.int k n)):v= .int k n:=by cases r;rfl
theorem kX{b:Bool}(r:Rd T w v (.bool b)):v= .bool b:=by cases r;rfl
theorem PY{s:ByteArray}(r:Rd T w v (.str s)):v= .string s:=by cases r;rfl
theorem qW(r:Rel T0 B σ a w X h){n:Int}(hx:Um P σ x k n):a.eval x= .int k n:=
 SY (r.arg 0 x hx.2 hx.1)
theorem Own.QQ{d:D}(h:Own w v d S):v.oneCell'=true:=by
 cases h with
 |int=>rfl
 |bool=>rfl
 |str=>rfl
 |unk _ h=>exact h
 |sl v size rows S e xs Sk ho hz hb hl hk hs hd=>rcases ho.2 with⟨rfl,_⟩|⟨g,cap,cur,rfl,_⟩<;>rfl
theorem H3{t j i:Nat}:∀{xs:List D}{c k:Nat}{x:At},(VG t j i c xs)[k]?=some x->∃d,xs[k]?=some d/\x=(match d with|.sl _ _=>.tref t j i (c+k) none|d=>.d d)
 |[],c,k,x,hx=>by simp[VG]at hx
 |d::xs,c,0,x,hx=>by
  simp only[VG,List.getElem?_cons_zero]at hx
  cases hx
  exact⟨d,zAE,by cases d<;>simp⟩
 |d::xs,c,k+1,x,hx=>by
  simp only[VG,List.getElem?_cons_succ]at hx
  obtain⟨d',ic,rfl⟩:=H3 hx
  exact⟨d',by simpa using ic,by cases d'<;>simp;omega⟩
theorem OI{t j i:Nat}:∀(c:Nat)(xs:List D),(VG t j i c xs).length=xs.length
 |_,[]=>rfl
 |c,d::xs=>by simp[VG,OI (c+1) xs]
theorem ES(q:Bool)(t j i c:Nat)(xs:List D):(Si q t j i c xs).length=xs.length:=by
 cases q<;>simp[Si,OI]
theorem Rel.box(r:Rel T0 B σ a w X h){cells:List At}(ho:σ.ob t 0= .box cells){c:Nat}(hv:YK (Tof T0 X) h σ.ob w (.bptr t c) v):
  ∃b cs e,(h t 0).v= .pointer (some ⟨b,0,none⟩)/\v= .pointer (some ⟨b,c,none⟩)/\w.heap[b]?=some (.cells cs e (0,0))/\YC (YK (Tof T0 X) h σ.ob w) cells cs.toList:=by
 obtain⟨b,hb,rfl⟩:=hv.2 cells ho
 have iu:=r.obj t 0
 rw[ho]at iu
 obtain⟨b',cs,e,iq,hh,iN⟩:=iu
 rw[hb]at iq
 cases iq
 exact⟨b,cs,e,hb,rfl,hh,iN⟩
theorem zl{cs:Array Value}{e:TypeId}{f:Nat×Nat}(hh:w.heap[b]?=some (.cells cs e f))(k:Nat)(v:Value)(hv:cs.toList[k]?=some v):w.cell? ⟨b,k,none⟩=some v:=by
 simp only[World.cell?,hh];simpa using hv
theorem Rel.arr(r:Rel T0 B σ a w X h)(ho:σ.ob t j= .arr q size rows){c:Nat}(hv:YK (Tof T0 X) h σ.ob w (.ptr t j i c) v):
  ∃b cap cur e xs,(h t j).v= .slice (some ⟨b,0,none⟩) rows.length cap/\v= .pointer (some ⟨b,i*size+c,none⟩)/\w.heap[b]?=some (.cells cur e (0,0))/\rows.length<=cap/\cap<=maxLen/\cur.size=cap*size/\
   cur.toList.take (rows.length*size)=xs/\(∀r∈rows,r.length=size)/\xs.length=rows.flatten.length/\(q=false->YC (Rd (Tof T0 X) w) xs rows.flatten)/\
   (q=true->Ke w xs rows.flatten (fun b=>(h t j).u b/\blk (h t j).v≠some b)/\∀k x d,xs[k]?=some x->rows.flatten[k]?=some d->d.scalar=false->(h t j).n k=x):=by
 obtain⟨b,n,cap,hb,rfl⟩:=hv.2 q size rows ho
 have iu:=r.obj t j
 rw[ho]at iu
 cases q with
 |false=>
  obtain⟨e,xs,iS,hz,iN⟩:=iu
  rcases iS.2 with⟨h0,_⟩|⟨g,bI,cur,hg,_,hh,hle,fW,fX,fz⟩
  ·rw[hb]at h0;cases h0
  ·rw[hb]at hg
   cases hg
   exact⟨b,cap,cur,e,xs,hb,rfl,hh,hle,fW,fX,fz,hz,iN.length,fun _=>iN,fun hh=>by cases hh⟩
 |true=>
  obtain⟨e,xs,iS,hz,iN,hn⟩:=iu
  rcases iS.2 with⟨h0,_⟩|⟨g,bI,cur,hg,_,hh,hle,fW,fX,fz⟩
  ·rw[hb]at h0;cases h0
  ·rw[hb]at hg
   cases hg
   exact⟨b,cap,cur,e,xs,hb,rfl,hh,hle,fW,fX,fz,hz,iN.1,(fun hh=>by cases hh),fun _=>⟨iN,hn⟩⟩
theorem Own.hdr(h:Own w v (.sl n s) S)(hp:0<s.length):∃b cap,v= .slice (some ⟨b,0,none⟩) s.length cap:=by
 cases h with
 |sl v size rows S e xs Sk ho hz hb hl hk hs hd=>
  obtain⟨_,⟨_,h0⟩|⟨g,cap,cur,hv,_⟩⟩:=ho
  ·omega
  ·exact⟨g,cap,hv⟩
theorem Rel.nest(r:Rel T0 B σ a w X h){c:Nat}(ho:σ.ob t j= .arr true size rows)(hi:i<rows.length)(iZ:(rows.getD i [])[c]?=some (.sl n s)):∃v0 S,(h t j).n (i*size+c)=v0/\Own w v0 (.sl n s) S:=by
 have h0:=r.obj t j;rw[ho]at h0;obtain⟨e,vs,fZ,hz,⟨hl,Sk,o1,o2,o3⟩,hn⟩:=h0;have hR:rows[i]?=some (rows.getD i []):=zAv;have gj:rows.flatten[i*size+c]?=some (.sl n s):=j0 rows size hz i _ hR c _ iZ;have iQ:i*size+c<vs.length:=by rw[hl];exact(List.getElem?_eq_some_iff.1 gj).1
 have hvs:vs[i*size+c]?=some vs[i*size+c]:=List.getElem?_eq_getElem iQ;exact⟨_,_,hn _ _ _ hvs gj rfl,o1 _ _ _ hvs gj⟩
theorem wR(r:Rel T0 B σ a w X h){T:TypeId}{v:V}(iE:o.op= .load T x)(hs:Yj P σ o.op o.type v):
  ∃val,(execOp a.eval o).run P w= .ok (.value val) w/\JU (Tof T0 X) h σ.ob w v val:=by
 simp only[iE,Yj]at hs
 obtain⟨hg,fu,hs⟩:=hs
 have hx:=r.arg (P:=P) 0 x rfl hg
 have key:∀(b off:Nat)(xs:List At)(cs:List Value),a.eval x= .pointer (some ⟨b,off,none⟩)->v=ldV P T xs->cs.length=P.cellsOf T->
   (∀j u,cs[j]?=some u->w.cell? ⟨b,off+j,none⟩=some u)->YC (YK (Tof T0 X) h σ.ob w) xs cs->∃val,(execOp a.eval o).run P w= .ok (.value val) w/\JU (Tof T0 X) h σ.ob w v val:=by
  intro b off xs cs he hv hl hc iN
  obtain⟨val,hr,h1,h2⟩:=rU (P:=P) fu hl hc
  refine⟨val,?_,?_⟩
  ·simp only[execOp,iE,he,Sem.run_bind,hr,Result.andThen_ok,Sem.run_pure]
  ·rw[hv];exact vV fu iN h1 h2
 split at hs
 ·rename_i t c heq
  rw[heq]at hx
  obtain⟨cells,ho,hle,hv⟩:=hs
  obtain⟨b,cs,e,hb,he,hh,iN⟩:=r.box ho hx
  have hlen:=iN.length
  refine key b c _ (cut cs.toList c (P.cellsOf T)) he hv (XZ _ _ _ zAA) (fun j u hu=>zl hh _ _ (zy _ _ _ _ _ hu)) (iN.cut _ _)
 ·rename_i t j i c heq
  rw[heq]at hx
  obtain⟨q,size,rows,ho,hi,hle,hv⟩:=hs
  obtain⟨b,cap,cur,e,xs,hb,he,hh,gx,fW,fX,fz,hz,bF,iN,iS⟩:=r.arr ho hx
  have hR:rows[i]?=some (rows.getD i []):=zAv
  have dK:(rows.getD i []).length=size:=hz _ (List.mem_of_getElem? hR)
  have gk:=YV rows size hz
  have hmul:i*size+size<=rows.length*size:=zBT
  have cU:∀k d',(cut (rows.getD i []) c (P.cellsOf T))[k]?=some d'->rows.flatten[i*size+c+k]?=some d':=by
   intro k d' ic
   have h2:=j0 rows size hz i _ hR (c+k) d' (zy _ _ _ _ _ ic)
   rw[show i*size+c+k=i*size+(c+k)by omega];exact h2
  refine key b (i*size+c) _ (cut xs (i*size+c) (P.cellsOf T)) he hv (XZ _ _ _ zAA) (fun j u hu=>?_) ?_
  ·have h1:=zy _ _ _ _ _ hu
   refine zl hh _ _ ?_
   rw[<-fz,List.getElem?_take]at h1
   split at h1
   ·exact h1
   ·cases h1
  ·refine YC.qA (by rw[XZ _ _ _ zAA,ES,XZ _ _ _ zAA]) (fun k x u hx hu=>?_)
   have h1:=zy _ _ _ _ _ hu
   cases q with
   |false=>
    obtain⟨d,hd,hr⟩:=(iN rfl).get _ _ h1
    simp only[Si]at hx
    rw[List.getElem?_map]at hx
    cases ic:(cut (rows.getD i []) c (P.cellsOf T))[k]? with
    |none=>rw[ic]at hx;cases hx
    |some d'=>
     rw[ic]at hx
     cases hx
     rw[cU k d' ic]at hd
     cases hd
     exact hr
   |true=>
    obtain⟨⟨_,Sk,iS,_,_⟩,hn⟩:=iS rfl
    simp only[Si]at hx
    obtain⟨d',ic,rfl⟩:=H3 hx
    have hD:=iS _ _ _ h1 (cU k d' ic)
    cases d' with
    |sl s rs=>
     refine⟨hD.QQ,fun iw ig fp=>?_⟩
     rw[ho]at fp;cases fp
     show _=_
     rw[<-hn _ _ _ h1 (cU k _ ic) rfl,Nat.add_assoc]
    |int k n=>cases hD;exact .int _ _
    |bool b=>cases hD;exact .bool _
    |str s=>cases hD;exact .str _
    |unk=>exact .unk _ hD.QQ
 ·rename_i rr c heq
  rw[heq]at hx
  obtain⟨hle,hv⟩:=hs
  obtain⟨b,off,g,he,hk⟩:=hx
  refine key b (off+c) _ ((List.range (P.cellsOf T)).map fun j=>g (c+j)) he hv zAE (fun j u hu=>?_) ?_
  ·rw[List.getElem?_map]at hu
   rcases Nat.lt_or_ge j (P.cellsOf T)with hj|hj
   ·rw[List.getElem?_range hj]at hu
    cases hu
    have hd:=hk (c+j) (rr[c+j]'zAA) (List.getElem?_eq_getElem _)
    rw[Nat.add_assoc];exact hd.1
   ·rw[List.getElem?_eq_none (by simpa using hj)]at hu;cases hu
  ·refine YC.qA (by rw[List.length_map,XZ _ _ _ zAA];simp) (fun k x u hx hu=>?_)
   rw[List.getElem?_map]at hx hu
   cases ic:(cut rr c (P.cellsOf T))[k]? with
   |none=>rw[ic]at hx;cases hx
   |some d'=>
    rw[ic]at hx
    cases hx
    have hkl:k<P.cellsOf T:=by have:=(List.getElem?_eq_some_iff.1 ic).1;rw[XZ _ _ _ zAA]at this;exact this
    rw[List.getElem?_range hkl]at hu
    cases hu
    exact(hk (c+k) d' (zy _ _ _ _ _ ic)).2.2
 ·rename_i t j i c k heq
  rw[heq]at hx
  obtain⟨size,rows,s,ho,hi,iZ,hT1,hks,gV,hv⟩:=hs
  obtain⟨v0,S,hn,iS⟩:=r.nest ho hi iZ
  obtain⟨b,len,e7,aa,he⟩:=hx.2 _ _ ho
  rw[hn]at aa
  cases iS with
  |sl v iw ig S e xs Sk fp hz hb hl hk ib hd=>
   rcases fp.2 with⟨rfl,h0⟩|⟨g,cap,cur,rfl,_,hh,fc,fW,fX,fz⟩
   ·omega
   ·cases aa
    have hR:s[k]?=some (s.getD k []):=by simp[List.getD_eq_getElem?_getD,List.getElem?_eq_getElem hks]
    have dK:(s.getD k []).length=1:=hz _ (List.mem_of_getElem? hR)
    have gk:=YV s 1 hz
    refine key b k _ (cut xs k (P.cellsOf T)) he hv (XZ _ _ _ zAA) (fun j u hu=>?_) ?_
    ·have h1:=zy _ _ _ _ _ hu
     refine zl hh _ _ ?_
     rw[<-fz,List.getElem?_take]at h1
     split at h1
     ·exact h1
     ·cases h1
    ·refine YC.qA (by rw[List.length_map,XZ _ _ _ zAA];omega) (fun q x u hx hu=>?_)
     rw[List.getElem?_map]at hx
     cases ic:(s.getD k [])[q]? with
     |none=>rw[ic]at hx;cases hx
     |some d'=>
      rw[ic]at hx
      cases hx
      have hq:q=0:=by have:=(List.getElem?_eq_some_iff.1 ic).1;omega
      subst hq
      have hf:=j0 s 1 hz k _ hR 0 d' ic
      rw[Nat.mul_one]at hf
      have ho3:=hk _ _ _ (zy _ _ _ _ _ hu) hf
      have hs3:d'.scalar=true:=List.all_eq_true.1 gV d' (List.mem_of_getElem? ic)
      cases d' with
      |sl s' rs=>cases hs3
      |int k' n'=>cases ho3;exact .int _ _
      |bool b'=>cases ho3;exact .bool _
      |str s'=>cases ho3;exact .str _
      |unk=>exact .unk _ ho3.QQ
 ·exact hs.elim
theorem U7{T:TypeId}(hf:kp P T f=true)(b off:Nat):(Instr.fieldAt T (.pointer (some ⟨b,off,none⟩)) f).run P w= .ok (.pointer (some ⟨b,off+JF P T f,none⟩)) w:=by
 obtain⟨fs,fd,i,hu,bP,aN,fu,hi,iH⟩:=Oe hf;have gE:P.cellsOf fd.type≠0:=by simpa[Program.cellsOf,hi]using iH
 simp[Instr.fieldAt,run_underlying hu,bP,Instr.sureAddr,fieldPlace,KX hi,gE,qN,aN]
theorem Ia(r:Rel T0 B σ a w X h){T:TypeId}{v:V}(iE:o.op= .fieldAddr T x f)(hs:Yj P σ o.op o.type v):
  ∃val,(execOp a.eval o).run P w= .ok (.value val) w/\JU (Tof T0 X) h σ.ob w v val:=by
 simp only[iE,Yj]at hs
 obtain⟨hg,hf,hs⟩:=hs
 have hx:=r.arg (P:=P) 0 x rfl hg
 split at hs
 ·rename_i t c heq
  rw[heq]at hx
  obtain⟨⟨cells,ho⟩,rfl⟩:=hs
  obtain⟨b,hb,he⟩:=hx.2 cells ho
  refine⟨.pointer (some ⟨b,c+JF P T f,none⟩),by simp only[execOp,iE,he,Sem.run_bind,U7 hf,Result.andThen_ok,Sem.run_pure],rfl,fun iW _=>⟨b,hb,rfl⟩⟩
 ·rename_i t j i c heq
  rw[heq]at hx
  obtain⟨⟨q,size,rows,ho⟩,rfl⟩:=hs
  obtain⟨b,n,cap,hb,he⟩:=hx.2 q size rows ho
  refine⟨.pointer (some ⟨b,i*size+c+JF P T f,none⟩),by simp only[execOp,iE,he,Sem.run_bind,U7 hf,Result.andThen_ok,Sem.run_pure],rfl,fun q' iw ig hD=>?_⟩
  rw[ho]at hD
  cases hD
  exact⟨b,n,cap,hb,by rw[Nat.add_assoc]⟩
 ·rename_i rr c heq
  rw[heq]at hx
  subst hs
  obtain⟨b,off,g,he,hk⟩:=hx
  exact⟨.pointer (some ⟨b,off+c+JF P T f,none⟩),by simp only[execOp,iE,he,Sem.run_bind,U7 hf,Result.andThen_ok,Sem.run_pure],b,off,g,by rw[Nat.add_assoc],hk⟩
 ·rename_i t j i c k heq
  rw[heq]at hx
  obtain⟨⟨size,rows,ho⟩,rfl⟩:=hs
  obtain⟨b,n,cap,hb,he⟩:=hx.2 size rows ho
  refine⟨.pointer (some ⟨b,k+JF P T f,none⟩),by simp only[execOp,iE,he,Sem.run_bind,U7 hf,Result.andThen_ok,Sem.run_pure],rfl,fun iw ig hD=>?_⟩
  rw[ho]at hD
  cases hD
  exact⟨b,n,cap,hb,rfl⟩
 ·exact hs.elim
theorem Gy(r:Rel T0 B σ a w X h){v:V}(iE:o.op= .nilCheck x)(hs:Yj P σ o.op o.type v):
  ∃val,(execOp a.eval o).run P w= .ok (.value val) w/\JU (Tof T0 X) h σ.ob w v val:=by
 simp only[iE,Yj]at hs
 obtain⟨hg,hs⟩:=hs
 have hx:=r.arg (P:=P) 0 x rfl hg
 split at hs
 ·rename_i t c heq
  rw[heq]at hx
  obtain⟨⟨cells,ho⟩,rfl⟩:=hs
  obtain⟨b,hb,he⟩:=hx.2 cells ho
  exact⟨.pointer (some ⟨b,c,none⟩),by simp only[execOp,iE,he,Sem.run_pure],rfl,fun iW _=>⟨b,hb,rfl⟩⟩
 ·exact hs.elim
theorem PN{T:TypeId}(ht:Xj P T=true)(ad:Addr)(cH:ad.spot=none)(len cap:Nat)(k:IntKind)(i:Int)(h0:0<=i)(hl:i<(len:Int)):
  (Instr.indexAt T (.slice (some ad) len cap) (.int k i)).run P w= .ok (.pointer (some ⟨ad.block,ad.off+i.toNat*P.cellsOf (ZV P T),none⟩)) w:=by
 obtain⟨ti,hu,hi,gT⟩:=QD ht
 obtain⟨b,off,sp⟩:=ad
 simp at cH;subst cH
 simp[Instr.indexAt,asIntOf,run_underlying hu,h0,hl,KX hi,qN]
theorem Cv{T:TypeId}(ht:D0 P T=some n)(_h1:1<n)(b off:Nat)(k:IntKind)(i:Int)(h0:0<=i)(hl:i<(n:Int)):
  (Instr.indexAt T (.pointer (some ⟨b,off,none⟩)) (.int k i)).run P w= .ok (.pointer (some ⟨b,off+i.toNat*P.cellsOf (ZV P T),none⟩)) w:=by
 obtain⟨ti,hu,hi,gT⟩:=Ht ht
 simp[Instr.indexAt,Instr.sureAddr,asIntOf,run_underlying hu,h0,hl,KX hi,qN]
theorem IU(r:Rel T0 B σ a w X h){T:TypeId}{ix:Operand}{v:V}(iE:o.op= .indexAddr T x ix)(hs:Yj P σ o.op o.type v):
  ∃val,(execOp a.eval o).run P w= .ok (.value val) w/\JU (Tof T0 X) h σ.ob w v val:=by
 simp only[iE,Yj]at hs
 obtain⟨k,i,hix,h0,hg,hs⟩:=hs
 have hx:=r.arg (P:=P) 0 x rfl hg
 have aq:=qW r hix
 split at hs
 ·rename_i size rows heq
  rw[heq]at hx
  obtain⟨ht,rfl,gM,iQ,rfl⟩:=hs
  have hil:i.toNat<rows.length:=zAA
  obtain⟨ad,len,cap,he,hlen,cH,g,hk⟩:=Rd.row (show Rd _ _ _ _ from hx) i.toNat hil gM
  refine⟨.pointer (some ⟨ad.block,ad.off+i.toNat*P.cellsOf (ZV P T),none⟩),by simp only[execOp,iE,he,aq,Sem.run_bind,PN ht ad cH len cap k i h0 zAA,Result.andThen_ok,Sem.run_pure],ad.block,ad.off+i.toNat*P.cellsOf (ZV P T),g,zAE,hk⟩
 ·rename_i t j lo len heq
  rw[heq]at hx
  obtain⟨ht,gM,⟨q,rows,ho⟩,iQ,rfl⟩:=hs
  obtain⟨hle,_,_,base,cap,he,gx,_,_,hb⟩:=hx.2.1 _ _ rows ho
  obtain⟨b,e7,hh,fk⟩:=hb zAA
  rw[fk]at he
  refine⟨.pointer (some ⟨b,lo*P.cellsOf (ZV P T)+i.toNat*P.cellsOf (ZV P T),none⟩),by simp only[execOp,iE,he,aq,Sem.run_bind,PN ht ⟨b,lo*P.cellsOf (ZV P T),none⟩ rfl len cap k i h0 iQ,Result.andThen_ok,Sem.run_pure],rfl,fun q' iw ig hD=>?_⟩
  rw[ho]at hD
  cases hD
  exact⟨b,rows.length,e7,hh,by simp[Nat.add_mul]⟩
 ·rename_i t c heq
  rw[heq]at hx
  obtain⟨⟨cells,ho⟩,⟨n,hn,h1,iQ⟩,rfl⟩:=hs
  obtain⟨b,hb,he⟩:=hx.2 cells ho
  exact⟨.pointer (some ⟨b,c+i.toNat*P.cellsOf (ZV P T),none⟩),by simp only[execOp,iE,he,aq,Sem.run_bind,Cv hn h1 b c k i h0 iQ,Result.andThen_ok,Sem.run_pure],rfl,fun iW _=>⟨b,hb,rfl⟩⟩
 ·rename_i t j m c heq
  rw[heq]at hx
  obtain⟨ht,gM,⟨size,rows,s,ho,hm,iZ,iQ⟩,rfl⟩:=hs
  obtain⟨v0,S,hn,iS⟩:=r.nest ho hm iZ
  have he:a.eval x=v0:=by rw[<-hn];exact hx.2 size rows ho
  obtain⟨b,cap,aa⟩:=iS.hdr zAA
  rw[aa]at he hn
  refine⟨.pointer (some ⟨b,0+i.toNat*P.cellsOf (ZV P T),none⟩),by simp only[execOp,iE,he,aq,Sem.run_bind,PN ht ⟨b,0,none⟩ rfl s.length cap k i h0 iQ,Result.andThen_ok,Sem.run_pure],rfl,fun iw ig hD=>?_⟩
  rw[ho]at hD
  cases hD
  exact⟨b,s.length,cap,hn,zAE⟩
 ·exact hs.elim
theorem Hz{T:TypeId}(ht:qm P T=true){cs:Array Value}(hl:off+P.cellsOf T<=cs.size):
  ∃val,(part T cs off).run P w= .ok val w/\(TR P T=true->val= .agg (cut cs.toList off (P.cellsOf T)).toArray)/\(TR P T=false->cut cs.toList off (P.cellsOf T)=[val]):=by
 obtain⟨d,i,hd,hi,gT,gO⟩:=WG ht
 cases dQ:TR P T with
 |true=>
  refine⟨.agg (cs.extract off (off+P.cellsOf T)),?_,fun _=>?_,(fun hh=>by cases hh)⟩
  ·simp only[part,Sem.run_bind,Pw hd,dQ,Result.andThen_ok,if_true,KX hi,Sem.run_pure]
  ·congr 1
   apply Array.toList_inj.1
   simp[cut,Array.toList_extract,List.extract_eq_take_drop]
 |false=>
  rcases gO with gO|gO
  ·rw[dQ]at gO;cases gO
  ·rw[gO]at hl⊢
   have iQ:off<cs.size:=zAA
   refine⟨cs[off],?_,(fun hh=>by cases hh),fun _=>?_⟩
   ·simp[part,Pw hd,dQ,Array.getElem?_eq_getElem iQ]
   ·have:cut cs.toList off 1=[cs.toList[off]'(by simpa using iQ)]:=by
     simp only[cut]
     rw[List.drop_eq_getElem_cons (by simpa using iQ)]
     simp
    rw[this]
    simp
theorem AV{T:TypeId}(ht:qm P T=true){xs:List At}{x:Value}(hx:JU (Tof T0 X) h σ.ob w (.agg xs) x)(hl:off+P.cellsOf T<=xs.length):
  ∃cs:Array Value,x= .agg cs/\∃val,(part T cs off).run P w= .ok val w/\JU (Tof T0 X) h σ.ob w (ldV P T (cut xs off (P.cellsOf T))) val:=by
 obtain⟨cs,rfl,iN⟩:=hx
 obtain⟨val,hr,h1,h2⟩:=Hz (P:=P) (w:=w) ht (cs:=cs) (off:=off) (by have:=iN.length;simp at this;omega)
 exact⟨cs,rfl,val,hr,vV ht (iN.cut _ _) h1 h2⟩
theorem BC(r:Rel T0 B σ a w X h){T:TypeId}{ix:Operand}{v:V}(iE:o.op= .index T x ix)(hs:Yj P σ o.op o.type v):
  ∃val,(execOp a.eval o).run P w= .ok (.value val) w/\JU (Tof T0 X) h σ.ob w v val:=by
 simp only[iE,Yj]at hs
 obtain⟨k,i,hix,h0,hg,hs⟩:=hs
 have hx:=r.arg (P:=P) 0 x rfl hg
 have aq:=qW r hix
 split at hs
 ·rename_i s heq
  rw[heq]at hx
  obtain⟨ht,iQ,rfl⟩:=hs
  have he:=PY hx
  have hil:i.toNat<s.size:=zAA
  refine⟨.int .u8 (s.data.toList.getD i.toNat 0).toNat,?_,.int _ _⟩
  have gW:s[i.toNat]?=some (s.data.toList.getD i.toNat 0):=by
   rw[List.getD_eq_getElem?_getD]
   have h1:s.data.toList[i.toNat]?=some (s.data[i.toNat]'hil):=by
    rw[List.getElem?_eq_getElem (by simpa using hil)];simp
   rw[h1,getElem?_pos s i.toNat hil]
   rfl
  simp[execOp,iE,he,aq,Instr.index,asIntOf,run_underlying (jl ht),h0,gW]
 ·rename_i xs heq
  rw[heq]at hx
  obtain⟨⟨n,hn,iQ⟩,ht,hl,rfl⟩:=hs
  obtain⟨ti,hu,hi,gT⟩:=Ht hn
  obtain⟨cs,he,val,hr,hv⟩:=AV ht hx hl
  refine⟨val,?_,hv⟩
  simp[execOp,iE,he,aq,Instr.index,asIntOf,run_underlying hu,h0,iQ,KX hi,hr]
 ·exact hs.elim
theorem BI(r:Rel T0 B σ a w X h){T:TypeId}{v:V}(iE:o.op= .field T x f)(hs:Yj P σ o.op o.type v):
  ∃val,(execOp a.eval o).run P w= .ok (.value val) w/\JU (Tof T0 X) h σ.ob w v val:=by
 simp only[iE,Yj]at hs
 obtain⟨hg,hf,ht,hs⟩:=hs
 have hx:=r.arg (P:=P) 0 x rfl hg
 split at hs
 ·rename_i xs heq
  rw[heq]at hx
  obtain⟨hl,rfl⟩:=hs
  obtain⟨fs,fd,i,hu,bP,aN,fu,hi,iH⟩:=Oe hf
  obtain⟨cs,he,val,hr,hv⟩:=AV ht hx hl
  refine⟨val,?_,hv⟩
  rw[<-aN,<-fu]at hr
  simp[execOp,iE,he,Instr.field,run_underlying hu,bP,asAgg,hr]
 ·exact hs.elim
theorem Dq(r:Rel T0 B σ a w X h){gy y:Nat}{x:Option Operand}(hb:bnd P σ gy x n)(hy:n<=y)(iH:x≠none):
  (Instr.sliceBound ((x.map a.eval).getD undef) y code).run P w= .ok n w:=by
 cases x with
 |none=>exact absurd rfl iH
 |some x=>
  obtain⟨k,i,hg,hx,h0,rfl⟩:=hb
  have he:=SY (r.arg (P:=P) 0 x hx hg)
  have:i<=(y:Int):=zAA
  simp[he,Instr.sliceBound,asIntOf,h0,this]
theorem Oz(r:Rel T0 B σ a w X h){sl:Bool}{l hh:Nat}(ek:bnd P σ 0 lo l)(cg:bnd P σ len hi hh)(h1:l<=hh)(h2:hh<=cap):
  (Instr.sliceBounds sl len cap (lo.map a.eval) (hi.map a.eval) none).run P w= .ok (l,hh,cap) w:=by
 unfold Instr.sliceBounds
 cases hi with
 |none=>
  cases cg
  cases lo with
  |none=>cases ek;simp
  |some x=>
   have:=Dq (w:=w) r (code:=.sliceB) ek h1 zAE
   simp at this
   simp[this]
 |some y=>
  have hb:=Dq (w:=w) r (code:=if sl then .sliceAcap else .sliceAlen) cg h2 zAE
  simp at hb
  cases lo with
  |none=>cases ek;simp[hb]
  |some x=>
   have:=Dq (w:=w) r (code:=.sliceB) ek h1 zAE
   simp at this
   simp[this,hb]
theorem kD{α:Type}(rows:List (List α))(size l n:Nat)(hz:∀r∈rows,r.length=size)(k:Nat)(d:α)(hd:(cut rows l n).flatten[k]?=some d):rows.flatten[l*size+k]?=some d:=by
 induction rows generalizing l with
 |nil=>simp[cut]at hd
 |cons r rows ih=>
  have hr:r.length=size:=hz r zAE;cases l with
  |zero=>
   simp only[cut,List.drop_zero,Nat.zero_mul,Nat.zero_add]at hd⊢;have hsplit:(r::rows).flatten=((r::rows).take n).flatten++((r::rows).drop n).flatten:=zBY
   rw[hsplit,List.getElem?_append_left (List.getElem?_eq_some_iff.1 hd).1];exact hd
  |succ l=>
   have:=ih l (fun r hr=>hz r zB3) (by simpa[cut]using hd);rw[List.flatten_cons,List.getElem?_append_right (by rw[hr,Nat.add_mul];omega),hr];rw[show(l+1)*size+k-size=l*size+k by rw[Nat.add_mul];omega];exact this
theorem Rd.cut(hv:v= .slice base len cap)(r:Rd T w v (.sl size rows))(l hh:Nat)(h1:l<=hh)(h2:hh<=rows.length)(_hsz:0<size\/True):
  Rd T w (.slice (if cap=l then base else base.map (·.add (l*size))) (hh-l) (cap-l)) (.sl size (Vm.cut rows l (hh-l))):=by
 subst hv
 cases r with
 |nil=>
  simp at h2;subst h2
  have:l=0:=zAA
  subst this
  simp[Vm.cut];exact .nil _
 |sl a len cap size rows g hl hc hm hz hs hg hr=>
  have hlen:(Vm.cut rows l (hh-l)).length=hh-l:=XZ _ _ _ zAA
  have eD:∀r∈Vm.cut rows l (hh-l),r.length=size:=fun r hr=>hz r (List.mem_of_mem_drop (List.mem_of_mem_take hr))
  by_cases hO:cap=l
  ·have h0:hh-l=0:=zAA
   have e8:Vm.cut rows l (hh-l)=[]:=List.eq_nil_of_length_eq_zero zAA
   rw[if_pos hO,e8,h0]
   exact .sl a 0 (cap-l) size [] g rfl (Nat.zero_le _) zAA (by intro r hr;cases hr) zAE zAE zAE
  ·rw[if_neg hO]
   refine .sl (a.add (l*size)) (hh-l) (cap-l) size _ (fun k=>g (l*size+k)) hlen zAA zAA eD (fun iH=>?_) (fun k d hd=>?_) (fun k d hd=>hr _ _ (kD rows size l _ hz k d hd))
   ·have:rows.flatten≠[]:=by
     intro he
     apply iH
     cases gD:(Vm.cut rows l (hh-l)).flatten with
     |nil=>rfl
     |cons d ds=>
      have:=kD rows size l (hh-l) hz 0 d (by rw[gD];rfl)
      rw[he]at this;simp at this
    have cH:=hs this
    unfold Addr.add;split<;>simp[cH]
   ·have cH:a.spot=none:=hs (by
     intro he
     have:=kD rows size l (hh-l) hz k d hd
     rw[he]at this;simp at this)
    have:=hg _ _ (kD rows size l (hh-l) hz k d hd)
    obtain⟨b,off,sp⟩:=a
    simp at cH;subst cH
    rw[qN]
    simp only[Nat.add_assoc]at this⊢
    exact this
theorem BH(r:Rel T0 B σ a w X h){T:TypeId}{v:V}(iE:o.op= .slice T x lo hi none)(hs:Yj P σ o.op o.type v):
  ∃val,(execOp a.eval o).run P w= .ok (.value val) w/\JU (Tof T0 X) h σ.ob w v val:=by
 simp only[iE,Yj]at hs
 obtain⟨hg,hs⟩:=hs
 have hx:=r.arg (P:=P) 0 x rfl hg
 split at hs
 ·rename_i s heq
  rw[heq]at hx
  obtain⟨ht,l,hh,ek,cg,h1,h2,rfl⟩:=hs
  have he:=PY hx
  have hb:=Oz (w:=w) r (sl:=false) ek cg h1 h2
  refine⟨.string (s.extract l hh),?_,.str _⟩
  simp[execOp,iE,he,Instr.sliceAt,Instr.slice,run_underlying (jl ht),hb]
 ·rename_i size rows heq
  rw[heq]at hx
  obtain⟨ht,rfl,l,hh,ek,cg,h1,h2,rfl⟩:=hs
  obtain⟨ti,hu,gm,gT⟩:=QD ht
  obtain⟨base,cap,he,gx,fW⟩:=wO (show Rd _ _ _ _ from hx)
  have hb:=Oz (w:=w) r (sl:=true) (cap:=cap) ek cg h1 zAA
  refine⟨_,?_,Rd.cut he hx l hh h1 h2 (.inr trivial)⟩
  simp[execOp,iE,he,Instr.sliceAt,Instr.slice,run_underlying hu,hb,KX gm]
 ·rename_i t j lo0 len heq
  rw[heq]at hx
  obtain⟨ht,⟨q,rows,ho⟩,l,hh,ek,cg,h1,h2,rfl⟩:=hs
  obtain⟨ti,hu,gm,gT⟩:=QD ht
  obtain⟨hle,g5,fL,base,cap,he,gx,fW,dJ,hbs⟩:=hx.2.1 _ _ rows ho
  have hb:=Oz (w:=w) r (sl:=true) (cap:=cap) ek cg h1 zAA
  refine⟨.slice (if cap=l then base else base.map (·.add (l*P.cellsOf (ZV P T)))) (hh-l) (cap-l),?_,rfl,fun q' iw ig hD=>?_,fun iw ig hD=>by rw[ho]at hD;cases hD⟩
  ·simp[execOp,iE,he,Instr.sliceAt,Instr.slice,run_underlying hu,hb,KX gm]
  ·rw[ho]at hD
   cases hD
   refine⟨zAA,fun hl0 hl1=>?_,fun hl1=>?_,_,cap-l,rfl,zAA,zAA,fun hn=>?_,fun gM=>?_⟩
   ·have hl:l=0:=zAA
    subst hl
    have:len=rows.length:=zAA
    have hv:=g5 this zAA
    rw[<-hv,he]
    simp only[Nat.sub_zero,Nat.zero_mul]
    have h3:hh=len:=zAA
    rw[h3]
    congr 1
    split
    ·rfl
    ·cases base<;>simp[Addr.add]
   ·have hl:l=0:=zAA
    subst hl
    have hv:=fL zAA
    rw[he]at hv
    have hh0:(if cap=0 then base else base.map (·.add (0*P.cellsOf (ZV P T))))=base:=by
     split
     ·rfl
     ·cases base<;>simp[Addr.add]
    rw[hh0]
    unfold NX at hv⊢
    revert hv
    cases(h t j).v with
    |slice b n c=>intro hv;cases hv;simp
    |_=>intro hv;cases hv
   ·have hb0:base=none:=by
     by_cases hO:cap=l
     ·rw[if_pos hO]at hn;exact hn
     ·rw[if_neg hO]at hn;simpa using hn
    have:=dJ hb0;omega
   ·obtain⟨b,e7,aG,fk⟩:=hbs zAA
    refine⟨b,e7,aG,?_⟩
    rw[if_neg zAA,fk]
    simp[qN,Nat.add_mul]
 ·exact hs.elim
theorem wD{α:Type}(l:List α)(k:Nat)(v:α)(vs:List α)(hk:k+(vs.length+1)<=l.length):place (l.set k v) (k+1) vs=place l k (v::vs):=by
 unfold place;have h1:(l.set k v).take (k+1)=l.take k++[v]:=by
  rw[List.take_set,List.take_succ_eq_append_getElem zAA];rw[List.set_append_right _ _ zAo];simp[Nat.min_eq_left (show k<=l.length by omega)]
 have h2:(l.set k v).drop (k+1+vs.length)=l.drop (k+(vs.length+1)):=by
  rw[List.drop_set_of_lt zAA];congr 1;omega
 rw[h1,h2];simp
theorem Lr(off:Nat):∀(vs:List Value)(j:Nat)(cs:Array Value),off+j+vs.length<=cs.size->
  ((vs.zipIdx j).foldl (fun cs x=>cs.setIfInBounds (off+x.2) x.1) cs).toList=place cs.toList (off+j) vs
 |[],j,cs,_=>by simp[place]
 |v::vs,j,cs,hl=>by
  rw[List.zipIdx_cons,List.foldl_cons,Lr off vs (j+1) _ zBm]
  rw[Array.toList_setIfInBounds,show off+(j+1)=off+j+1 by omega,wD _ _ _ _ zBm]
theorem Sq(off:Nat)(vs cs:Array Value)(hl:off+vs.size<=cs.size):
  (vs.zipIdx.foldl (fun cs x=>cs.setIfInBounds (off+x.2) x.1) cs).toList=place cs.toList off vs.toList:=by
 rw[<-Array.foldl_toList,Array.toList_zipIdx,Lr off vs.toList 0 cs (by simpa using hl)]
 rfl
theorem QC{α:Type}(r:List α)(off:Nat)(xs:List α)(hl:off+xs.length<=r.length):(place r off xs).length=r.length:=by
 simp[place];omega
theorem YC.place{α β:Type}{R:α->β->Prop}{l:List α}{m:List β}(x:YC R l m)(off:Nat){l':List α}{m':List β}(y:YC R l' m'):YC R (Vm.place l off l') (Vm.place m off m'):=by
 unfold Vm.place;rw[y.length];exact((x.take _).append y).append (x.drop _)
theorem W5{ob:Nat->Nat->Ob}{x:V}(hf:x.flat=true)(hv:JU T' h ob w x v):YC (YK T' h ob w) x.cells v.cells.toList:=by
 cases x with
 |one c=>
  have h1:=YK.QQ (show YK _ _ _ _ _ _ from hv);have:v.cells=#[v]:=by cases v<;>first|rfl|(simp[Value.oneCell']at h1)
  rw[this];exact .cons hv .nil
 |agg xs=>obtain⟨cs,rfl,iN⟩:=hv;exact iN
 |any=>cases hf
 |tup xs=>cases hf
 |cnd g x=>cases hf
 |fix u x=>cases hf
theorem FO(r:Rel T0 B σ a w X h)(T:TypeId)(pl:Nat->Option (Nat×Nat))(cG:∀i,bOk P T i=true->pl i=some (RP P T i,P.cellsOf (bTy P T i))):
  ∀(ps:List (Nat×Operand))(row out:List At)(cells:Array Value),YC (YK (Tof T0 X) h σ.ob w) row cells.toList->Tr P σ T ps row out->
   ∃iW,Instr.fill pl cells (ps.map fun x=>(x.1,a.eval x.2))=some iW/\YC (YK (Tof T0 X) h σ.ob w) out iW.toList
 |[],row,out,cells,iN,hb=>by cases hb;exact⟨cells,rfl,iN⟩
 |(i,x)::ps,row,out,cells,iN,hb=>by
  obtain⟨iz,hg,hf,hlen,hle,hb⟩:=hb
  have hx:=W5 hf (r.arg (P:=P) (bTy P T i) x rfl hg)
  have bH:=hx.length
  have hl1:=iN.length
  have e1:cells.toList.length=cells.size:=Array.length_toList
  have e2:(a.eval x).cells.toList.length=(a.eval x).cells.size:=Array.length_toList
  have du:=iN.place (RP P T i) hx
  have heq:=Sq (RP P T i) (a.eval x).cells cells zAA
  rw[<-heq]at du
  obtain⟨iW,h1,h2⟩:=FO r T pl cG ps _ out _ du hb
  refine⟨iW,?_,h2⟩
  have gT:(a.eval x).cells.size=P.cellsOf (bTy P T i):=zAA
  simp only[List.map_cons,Instr.fill,cG i iz]
  rw[if_neg (by simp[gT];omega)]
  exact h1
theorem run_places(fs:List Field)(bX:∀f∈fs,(P.info? f.type).isSome=true)(w:World):
  (fs.mapM (m:=Sem) fun f=>do pure (f.offset,<-sizeOf f.type)).run P w= .ok (fs.map fun f=>(f.offset,P.cellsOf f.type)) w:=by
 induction fs with
 |nil=>simp
 |cons f fs ih=>
  obtain⟨i,hi⟩:=Option.isSome_iff_exists.1 (bX f zAE)
  simp only[List.mapM_cons,Sem.run_bind,KX hi,Result.andThen_ok,Sem.run_pure,ih (fun f hf=>bX f (by simp[hf])),List.map_cons]
theorem Bl(r:Rel T0 B σ a w X h){T:TypeId}{v:V}(iE:o.op= .build T parts)(hs:Yj P σ o.op o.type v):
  ∃val,(execOp a.eval o).run P w= .ok (.value val) w/\JU (Tof T0 X) h σ.ob w v val:=by
 simp only[iE,Yj]at hs
 obtain⟨hz,dQ,z,out,fx,hb,rfl⟩:=hs
 obtain⟨i,zv,hi,hzv,gT,fj⟩:=Gs hz fx
 have eE:(zeroValue T).run P w= .ok zv w:=by simp[zeroValue,typeInfo,hi,hzv]
 have eZ:(parts.map fun(x:Nat×Operand)=>(x.1,a.eval x.2)).toList=parts.toList.map fun x=>(x.1,a.eval x.2):=zAE
 unfold TR at dQ
 split at dQ
 ·rename_i fs hu
  by_cases gR:∀f∈fs.toList,(P.info? f.type).isSome=true
  ·have cG:∀i,bOk P T i=true->(fs.toList.map fun f=>(f.offset,P.cellsOf f.type)).toArray[i]?=some (RP P T i,P.cellsOf (bTy P T i)):=by
    intro i iz
    simp only[bOk,hu,Bool.and_eq_true,decide_eq_true_eq]at iz
    have iQ:=iz.2
    simp[RP,bTy,hu,JF,qf,iQ]
   obtain⟨iW,h1,h2⟩:=FO r T _ cG parts.toList z out zv.cells (fj _ _ _ _) hb
   refine⟨.agg iW,?_,iW,rfl,h2⟩
   have hm:=run_places (P:=P) fs.toList gR w
   have:(fs.mapM (m:=Sem) fun f=>do pure (f.offset,<-sizeOf f.type)).run P w= .ok (fs.toList.map fun f=>(f.offset,P.cellsOf f.type)).toArray w:=by
    rw[Array.mapM_eq_mapM_toList]
    change((fs.toList.mapM (m:=Sem) fun f=>do pure (f.offset,<-sizeOf f.type))>>=fun l=>pure l.toArray).run P w=_
    simp only[Sem.run_bind,hm,Result.andThen_ok,Sem.run_pure]
   simp only[execOp,iE,Instr.build,Sem.run_bind,eE,Result.andThen_ok,run_underlying hu,this,eZ,h1,Sem.run_pure]
  · -- no part can be placed:then there are none
   have e8:parts.toList=[]:=by
    cases hp:parts.toList with
    |nil=>rfl
    |cons p ps=>
     obtain⟨i,x⟩:=p
     rw[hp]at hb
     have iz:=hb.1
     simp only[bOk,hu,Bool.and_eq_true]at iz
     exact absurd (by intro f hf;exact Array.all_eq_true'.1 iz.1 f (by simpa using hf)) gR
   exfalso
   rw[show(12:Nat)=11+1 from rfl,Wl,hu]at fx
   simp only[Option.map_eq_some_iff]at fx
   obtain⟨rs,eJ,_⟩:=fx
   apply gR
   intro f hf
   have:∀(l:List Field)(rs:List (List At)),l.mapM (fun f=>Wl P 11 f.type)=some rs->∀f∈l,(P.info? f.type).isSome=true:=by
    intro l
    induction l with
    |nil=>intro rs _ f hf;cases hf
    |cons g l ih=>
     intro rs eJ f hf
     simp only[List.mapM_cons,Option.bind_eq_bind,Option.bind_eq_some_iff]at eJ
     obtain⟨r0,ep,rs',hrs',_⟩:=eJ
     rcases List.mem_cons.1 hf with rfl|hf
     ·rw[show(11:Nat)=10+1 from rfl,Wl]at ep
      cases hi0:P.info? f.type with
      |some i=>rfl
      |none=>simp[Program.underlying,hi0]at ep
     ·exact ih rs' hrs' f hf
   exact this fs.toList rs eJ f hf
 ·rename_i n e hu
  cases aq:P.info? e with
  |none=>
   exfalso
   rw[show(12:Nat)=11+1 from rfl,Wl,hu]at fx
   simp only[Option.map_eq_some_iff]at fx
   obtain⟨r0,ep,_⟩:=fx
   rw[show(11:Nat)=10+1 from rfl,Wl]at ep
   simp[Program.underlying,aq]at ep
  |some ie=>
   have cG:∀i,bOk P T i=true->(fun i=>some (i*P.cellsOf e,P.cellsOf e)) i=some (RP P T i,P.cellsOf (bTy P T i)):=by
    intro i _
    simp[RP,bTy,hu]
   obtain⟨iW,h1,h2⟩:=FO r T _ cG parts.toList z out zv.cells (fj _ _ _ _) hb
   refine⟨.agg iW,?_,iW,rfl,h2⟩
   simp only[execOp,iE,Instr.build,Sem.run_bind,eE,Result.andThen_ok,run_underlying hu,KX aq,eZ,h1,Sem.run_pure]
 ·cases dQ
theorem VY{t:TypeId}(ht:Pn P t=true){cs:Array Value}(hv:cs[i]?=some v):(part t cs i).run P w= .ok v w:=by
 unfold Pn at ht;split at ht<;>first|(rename_i hu;simp[part,isAgg,run_underlying hu,hv])|cases ht
theorem Bq{t:TypeId}{ob:Nat->Nat->Ob}{x y:At}(hp:po P t x y=some p)(hx:YK T' h ob w x u)(hy:YK T' h ob w y v)(d:Nat)(w':World):
  (Op.equalIn (d+1) t u v).run P w'= .ok p w':=by
 unfold po at hp
 split at hp
 ·rename_i k a' k' b'
  split at hp
  ·rename_i hc
   obtain⟨rfl,hi⟩:=hc
   obtain⟨k2,bg⟩:=Option.isSome_iff_exists.1 hi
   cases hp
   rw[SY hx,SY hy]
   exact Go.run_equalIn_int w' d t _ _ _ _ (GD bg)
  ·cases hp
 ·split at hp
  ·rename_i hc
   cases hp
   rw[kX hx,kX hy]
   have hu:P.underlying t=some .bool:=by
    unfold Lu at hc;split at hc<;>first|assumption|cases hc
   exact Go.run_equalIn_bool' w' d t _ _ hu
  ·cases hp
 ·split at hp
  ·rename_i hc
   cases hp
   rw[PY hx,PY hy]
   rw[Go.run_equalIn_string w' d t _ _ (jl hc),wv]
  ·cases hp
 ·cases hp
theorem LD{T':CS}{ob:Nat->Nat->Ob}(d:Nat)(cs ds:Array Value)(w':World):∀(fs:List Field)(i:Nat)(xs ys:List At)(q:Bool),UX P fs i=true->JB P (fs.map (·.type)) xs ys=some q->
  YC (YK T' h ob w) xs (cs.toList.drop i)->YC (YK T' h ob w) ys (ds.toList.drop i)->(Op.eqFields (d+1) cs ds fs).run P w'= .ok q w'
 |[],i,xs,ys,q,_,hq,_,_=>by simp[JB]at hq;subst hq;simp[Op.eqFields]
 |f::fs,i,[],ys,q,_,hq,_,_=>by simp[JB]at hq
 |f::fs,i,x::xs,[],q,_,hq,_,_=>by simp[JB]at hq
 |f::fs,i,x::xs,y::ys,q,iz,hq,hx,hy=>by
  simp only[UX,Bool.and_eq_true,decide_eq_true_eq,beq_iff_eq]at iz
  obtain⟨⟨⟨hn,ho⟩,gV⟩,iz⟩:=iz
  simp only[List.map_cons,JB]at hq
  split at hq
  ·rename_i p q' hp fe
   cases hq
   cases hcd:cs.toList.drop i with
   |nil=>rw[hcd]at hx;cases hx
   |cons u us=>
    cases fU:ds.toList.drop i with
    |nil=>rw[fU]at hy;cases hy
    |cons v vs=>
     rw[hcd]at hx;rw[fU]at hy
     cases hx with
     |cons hxu hx=>
      cases hy with
      |cons hyv hy=>
       have hu:cs[i]?=some u:=by
        have:(cs.toList.drop i)[0]?=some u:=by rw[hcd];rfl
        simpa using this
       have hv:ds[i]?=some v:=by
        have:(ds.toList.drop i)[0]?=some v:=by rw[fU];rfl
        simpa using this
       have hus:cs.toList.drop (i+1)=us:=by rw[<-List.drop_drop,hcd];rfl
       have hvs:ds.toList.drop (i+1)=vs:=by rw[<-List.drop_drop,fU];rfl
       have ih:=LD d cs ds w' fs (i+1) xs ys q' iz fe (by rw[hus];exact hx) (by rw[hvs];exact hy)
       subst ho
       simp only[Op.eqFields,if_pos hn,Sem.run_bind,VY gV hu,VY gV hv,Result.andThen_ok,Bq hp hxu hyv d w']
       cases p
       ·simp
       ·simpa using ih
  ·cases hq
theorem NJ(P:Program):∀(ts:List TypeId)(xs ys:List At)(q:Bool),JB P ts xs ys=some q->ts.length<=xs.length/\ts.length<=ys.length
 |[],_,_,_,_=>⟨Nat.zero_le _,Nat.zero_le _⟩
 |t::ts,[],_,_,h=>by simp[JB]at h
 |t::ts,x::xs,[],_,h=>by simp[JB]at h
 |t::ts,x::xs,y::ys,q,h=>by
  simp only[JB]at h
  split at h
  ·rename_i p q' hp fe
   have:=NJ P ts xs ys q' fe
   simp only[List.length_cons];omega
  ·cases h
theorem L4(P:Program):∀(ts:List TypeId)(xs ys:List At)(m:Nat),ts.length<=m->JB P ts (xs.take m) (ys.take m)=JB P ts xs ys
 |[],_,_,_,_=>by simp[JB]
 |t::ts,_,_,0,h=>by simp at h
 |t::ts,[],_,m+1,_=>by simp[JB]
 |t::ts,x::xs,[],m+1,_=>by simp[JB]
 |t::ts,x::xs,y::ys,m+1,h=>by
  simp only[List.take_succ_cons,JB]
  rw[L4 P ts xs ys m zBh]
theorem H2(P:Program):∀(ts us:List TypeId)(xs ys:List At)(q:Bool),JB P (ts++us) xs ys=some q->∃p q',JB P ts xs ys=some p/\JB P us (xs.drop ts.length) (ys.drop ts.length)=some q'/\q=(p&&q')
 |[],us,xs,ys,q,h=>⟨true,q,by simp[JB],by simpa using h,zAE⟩
 |t::ts,us,[],_,_,h=>by simp[JB]at h
 |t::ts,us,x::xs,[],_,h=>by simp[JB]at h
 |t::ts,us,x::xs,y::ys,q,h=>by
  simp only[List.cons_append,JB]at h
  split at h
  ·rename_i p q0 hp hq0
   obtain⟨p2,q2,h1,h2,h3⟩:=H2 P ts us xs ys q0 hq0
   cases h
   exact⟨p&&p2,q2,by simp only[JB,hp,h1],by simpa using h2,by rw[h3,Bool.and_assoc]⟩
  ·cases h
theorem NC{T':CS}{ob:Nat->Nat->Ob}(d:Nat)(cs ds:Array Value)(w':World):∀(fs:List Field)(i:Nat)(xs ys:List At)(q:Bool),SB P fs i=true->JB P (fs.flatMap (E9 P)) xs ys=some q->
  YC (YK T' h ob w) xs (cs.toList.drop i)->YC (YK T' h ob w) ys (ds.toList.drop i)->(Op.eqFields (d+2) cs ds fs).run P w'= .ok q w'
 |[],i,xs,ys,q,_,hq,_,_=>by simp[JB]at hq;subst hq;simp[Op.eqFields]
 |f::fs,i,xs,ys,q,iz,hq,hx,hy=>by
  simp only[SB,Bool.and_eq_true,decide_eq_true_eq,beq_iff_eq]at iz
  obtain⟨⟨hn,ho⟩,iz⟩:=iz
  subst ho
  rw[List.flatMap_cons]at hq
  obtain⟨p,q',hp,fe,rfl⟩:=H2 P _ _ _ _ _ hq
  cases gV:Pn P f.type with
  |true=>
   rw[gV,if_pos rfl]at iz
   have hl:E9 P f=[f.type]:=by unfold E9;rw[gV,if_pos rfl]
   rw[hl]at hp fe
   have gj:=LD (P:=P) (d+1) cs ds w' [f] f.offset xs ys p (by simp only[UX,Bool.and_eq_true,decide_eq_true_eq,beq_iff_eq];exact⟨⟨⟨hn,trivial⟩,gV⟩,trivial⟩) hp hx hy
   have ih:=NC d cs ds w' fs (f.offset+1) (xs.drop 1) (ys.drop 1) q' iz fe (by rw[<-List.drop_drop];exact hx.drop 1) (by rw[<-List.drop_drop];exact hy.drop 1)
   simp only[Op.eqFields,if_pos hn]at gj⊢
   have hlen:=NJ P _ _ _ _ hp
   have bF:=hx.length
   have fI:=hy.length
   simp only[List.length_cons,List.length_nil,List.length_drop,Array.length_toList]at hlen bF fI
   have hu:cs[f.offset]?=some (cs[f.offset]'zAA):=Array.getElem?_eq_getElem _
   have hv:ds[f.offset]?=some (ds[f.offset]'zAA):=Array.getElem?_eq_getElem _
   simp only[Sem.run_bind,VY gV hu,VY gV hv,Result.andThen_ok]at gj⊢
   cases xs with
   |nil=>simp at hlen
   |cons x xs=>
    cases ys with
    |nil=>simp at hlen
    |cons y ys=>
     obtain⟨u,hu2,hxu⟩:=hx.get 0 x rfl
     obtain⟨v,gQ,hyv⟩:=hy.get 0 y rfl
     simp only[JB]at hp
     split at hp
     ·rename_i p0 q0 hp0 hq0
      cases hq0
      cases hp
      have e1:cs[f.offset]'zAA=u:=by
       have:cs[f.offset]?=some u:=by simpa using hu2
       rw[hu]at this;exact Option.some.inj this
      have e2:ds[f.offset]'zAA=v:=by
       have:ds[f.offset]?=some v:=by simpa using gQ
       rw[hv]at this;exact Option.some.inj this
      rw[e1,e2,Bq hp0 hxu hyv (d+1) w',Result.andThen_ok]
      cases p0
      ·simp
      ·simpa using ih
     ·cases hp
  |false=>
   rw[gV,if_neg zAE]at iz
   cases hu:P.underlying f.type with
   |none=>rw[hu]at iz;cases iz
   |some de=>
    rw[hu]at iz
    cases de with
    |struct gs=>
     simp only[Bool.and_eq_true,beq_iff_eq,Bool.not_eq_true',decide_eq_true_eq]at iz
     obtain⟨⟨⟨⟨⟨⟨fu,dQ⟩,hO⟩,hgp⟩,hC⟩,hgs⟩,iz⟩:=iz
     have hl:E9 P f=gs.toList.map (·.type):=by unfold E9;rw[gV,if_neg zAE,hu]
     rw[hl]at hp fe
     rw[List.length_map,Array.length_toList]at fe
     have hf:P.fieldsOf f.type=gs:=by simp[Program.fieldsOf,hu]
     have hlen:=NJ P _ _ _ _ hp
     have bF:=hx.length
     have fI:=hy.length
     simp only[List.length_map,Array.length_toList,List.length_drop]at hlen bF fI
     have ih:=NC d cs ds w' fs (f.offset+gs.size) (xs.drop gs.size) (ys.drop gs.size) q' iz fe (by rw[<-List.drop_drop];exact hx.drop gs.size) (by rw[<-List.drop_drop];exact hy.drop gs.size)
     obtain⟨va,hra,ha1,_⟩:=Hz (P:=P) (w:=w') fu (cs:=cs) (off:=f.offset) (by rw[hO];omega)
     obtain⟨vb,hrb,gX,_⟩:=Hz (P:=P) (w:=w') fu (cs:=ds) (off:=f.offset) (by rw[hO];omega)
     rw[hO]at ha1 gX
     have ah:(Op.equalIn (d+2) f.type va vb).run P w'= .ok p w':=by
      rw[ha1 dQ,gX dQ,show d+2=(d+1)+1 from rfl,Go.run_equalIn_struct w' (d+1) f.type _ _ (by rw[hf];exact hu) hC,hf]
      refine LD (P:=P) (h:=h) (w:=w) (T':=T') (ob:=ob) d _ _ w' gs.toList 0 (xs.take gs.size) (ys.take gs.size) p hgs ?_ ?_ ?_
      ·rw[L4 P _ _ _ _ zAE];exact hp
      ·simpa[cut]using hx.take gs.size
      ·simpa[cut]using hy.take gs.size
     simp only[Op.eqFields,if_pos hn,Sem.run_bind,hra,hrb,Result.andThen_ok,ah]
     cases p
     ·simp
     ·simpa using ih
    |_=>cases iz
theorem uM{T:TypeId}{ob:Nat->Nat->Ob}{xs ys:List At}(iz:P5 P T=true)(hq:JB P (zx P T) xs ys=some q)
  (hx:JU T' h ob w (.agg xs) u) (hy:JU T' h ob w (.agg ys) v) (op:BinOp) (x y:Operand) (w':World):
  (eqGuard op T x y u v).run P w'= .ok () w'/\(binOp .eql T u v).run P w'= .ok (.bool q) w'/\(binOp .neq T u v).run P w'= .ok (.bool (!q)) w':=by
 obtain⟨cs,rfl,fX⟩:=hx
 obtain⟨ds,rfl,ck⟩:=hy
 unfold P5 at iz
 split at iz
 ·rename_i fs hu
  simp only[Bool.and_eq_true,Bool.not_eq_true']at iz
  have hf:P.fieldsOf T=fs:=by simp[Program.fieldsOf,hu]
  have fh:P.underlying T=some (.struct (P.fieldsOf T)):=by rw[hf];exact hu
  have iv:(Op.equalIn 10000 T (.agg cs) (.agg ds)).run P w'= .ok q w':=by
   rw[show(10000:Nat)=9999+1 from rfl,Go.run_equalIn_struct w' 9999 T cs ds fh iz.1.1,show(9999:Nat)=9997+2 from rfl]
   exact NC 9997 cs ds w' _ 0 xs ys q (by rw[hf];exact iz.2) hq (by simpa using fX) (by simpa using ck)
  refine⟨Go.run_eqGuard_agg w' op T x y cs ds iz.1.2,?_,?_⟩
  ·rw[Go.run_eql_struct,iv];rfl
  ·rw[Go.run_neq_struct,iv];rfl
 ·cases iz
theorem H7(r:Rel T0 B σ a w X h){v:V}(iE:o.op= .move x\/o.op= .assign x)(hs:Yj P σ o.op o.type v):
  ∃val,(execOp a.eval o).run P w= .ok (.value val) w/\JU (Tof T0 X) h σ.ob w v val:=by
 rcases iE with iE|iE<;>
 ·simp only[iE,Yj]at hs
  subst hs
  exact⟨a.eval x,by simp[execOp,iE],r.look _ x⟩
theorem Ao(r:Rel T0 B σ a w X h){c:Operand}{v:V}(iE:o.op= .pick c x y)(hs:Yj P σ o.op o.type v):
  ∃val,(execOp a.eval o).run P w= .ok (.value val) w/\JU (Tof T0 X) h σ.ob w v val:=by
 simp only[iE,Yj]at hs
 obtain⟨bc,p,q,hg,hc,hp,hq,hgp,hgq,rfl⟩:=hs
 have he:=kX (r.arg (P:=P) o.type c hc hg)
 cases bc with
 |true=>
  have hx:=kX (r.arg (P:=P) o.type x (hp rfl) (hgp rfl))
  exact⟨.bool p,by simp[execOp,iE,he,asBool,hx],.bool _⟩
 |false=>
  have hy:=kX (r.arg (P:=P) o.type y (hq rfl) (hgq rfl))
  exact⟨.bool q,by simp[execOp,iE,he,asBool,hy],.bool _⟩
theorem ke(op:BinOp)(T:TypeId)(x y:Operand)(hv:∀cs,v≠ .agg cs)(hn:v≠ .nilIface):(eqGuard op T x y v u).run P w= .ok () w:=by
 unfold eqGuard;cases op<;>simp<;>(split<;>first|exact absurd rfl hn|exact absurd rfl (hv _)|simp)
theorem u4(r:Rel T0 B σ a w X h){T T':TypeId}{v:V}(iE:o.op= .binOp op T x y T')(hs:Yj P σ o.op o.type v):
  ∃val,(execOp a.eval o).run P w= .ok (.value val) w/\JU (Tof T0 X) h σ.ob w v val:=by
 simp only[iE,Yj]at hs
 obtain⟨dH,dI,hs⟩:=hs
 have hx:=r.arg (P:=P) T x rfl dH
 have hy:=r.arg (P:=P) T y rfl dI
 unfold AA at hs
 split at hs
 ·rename_i k m k' n heq dG
  rw[heq]at hx;rw[dG]at hy
  have ex:=SY hx
  have ey:=SY hy
  obtain⟨d,rfl,val,hr,hd⟩:=wj (P:=P) (t:=T) hs.1 hs.2 w
  refine⟨val,?_,hd _ _⟩
  simp only[execOp,iE,ex,ey,Sem.run_bind,ke op T x y (v:=.int k m) (u:=.int k' n) zAE zAE,Result.andThen_ok,hr,Sem.run_pure]
 ·rename_i m n heq dG
  rw[heq]at hx;rw[dG]at hy
  have ex:=PY hx
  have ey:=PY hy
  obtain⟨d,rfl,val,hr,hd⟩:=wN (P:=P) (t:=T) hs w
  refine⟨val,?_,hd _ _⟩
  simp only[execOp,iE,ex,ey,Sem.run_bind,ke op T x y (v:=.string m) (u:=.string n) zAE zAE,Result.andThen_ok,hr,Sem.run_pure]
 ·rename_i m n heq dG
  rw[heq]at hx;rw[dG]at hy
  have ex:=kX hx
  have ey:=kX hy
  obtain⟨d,rfl,val,hr,hd⟩:=Bt (P:=P) (t:=T) hs.1 hs.2 w
  refine⟨val,?_,hd _ _⟩
  simp only[execOp,iE,ex,ey,Sem.run_bind,ke op T x y (v:=.bool m) (u:=.bool n) zAE zAE,Result.andThen_ok,hr,Sem.run_pure]
 ·rename_i xs ys heq dG
  rw[heq]at hx;rw[dG]at hy
  obtain⟨iz,q,hq,hs⟩:=hs
  obtain⟨h1,h2,h3⟩:=uM (P:=P) iz hq hx hy op x y w
  rcases hs with⟨rfl,rfl⟩|⟨rfl,rfl⟩
  ·exact⟨.bool q,by simp only[execOp,iE,Sem.run_bind,h1,Result.andThen_ok,h2,Sem.run_pure],.bool _⟩
  ·exact⟨.bool (!q),by simp only[execOp,iE,Sem.run_bind,h1,Result.andThen_ok,h3,Sem.run_pure],.bool _⟩
 ·exact hs.elim
theorem rV(r:Rel T0 B σ a w X h){op:UnOp}{T:TypeId}{v:V}(iE:o.op= .unOp op T x)(hs:Yj P σ o.op o.type v):
  ∃val,(execOp a.eval o).run P w= .ok (.value val) w/\JU (Tof T0 X) h σ.ob w v val:=by
 simp only[iE,Yj]at hs
 obtain⟨hg,hs⟩:=hs
 have hx:=r.arg (P:=P) 0 x rfl hg
 split at hs
 ·rename_i b heq
  rw[heq]at hx
  subst hs
  have he:=kX hx
  exact⟨.bool (!b),by simp[execOp,iE,he,Op.unary],.bool _⟩
 ·rename_i k n heq
  rw[heq]at hx
  subst hs
  have he:=SY hx
  exact⟨.int k (k.wrap (-n)),by simp[execOp,iE,he,Op.unary,Op.intArith],.int _ _⟩
 ·exact hs.elim
theorem Fl(r:Rel T0 B σ a w X h){S T:TypeId}{v:V}(iE:o.op= .convert S T x)(hS:(P.underlying S).isSome=true)(hs:Yj P σ o.op o.type v):
  ∃val,(execOp a.eval o).run P w= .ok (.value val) w/\JU (Tof T0 X) h σ.ob w v val:=by
 simp only[iE,Yj]at hs
 obtain⟨hg,_,hs⟩:=hs
 have hx:=r.arg (P:=P) 0 x rfl hg
 split at hs
 ·rename_i k' n heq
  rw[heq]at hx
  obtain⟨k,hk,rfl⟩:=hs
  have he:=SY hx
  obtain⟨d,hd⟩:=Option.isSome_iff_exists.1 hS
  exact⟨.int k (k.wrap n),by simp[execOp,iE,he,convert,run_underlying hd,run_underlying (GD hk),Conv.intToInt],.int _ _⟩
 ·exact hs.elim
theorem ER(r:Rel T0 B σ a w X h){v:V}(iE:o.op= .extract x i)(hs:Yj P σ o.op o.type v):
  ∃val,(execOp a.eval o).run P w= .ok (.value val) w/\JU (Tof T0 X) h σ.ob w v val:=by
 simp only[iE,Yj]at hs
 obtain⟨hg,hs⟩:=hs
 have hx:=r.arg (P:=P) 0 x rfl hg
 split at hs
 ·rename_i xs heq
  rw[heq]at hx
  obtain⟨vs,he,iN⟩:=hx
  obtain⟨val,eV,hr⟩:=iN.get i v hs.1
  have:vs[i]?=some val:=by simpa using eV
  exact⟨val,by simp[execOp,iE,he,Instr.extract,this],hr.up⟩
 ·exact hs.elim
theorem AG(r:Rel T0 B σ a w X h){v:V}(iE:o.op= .call c)(hs:Yj P σ o.op o.type v):
  ∃val,(execOp a.eval o).run P w= .ok (.value val) w/\JU (Tof T0 X) h σ.ob w v val:=by
 simp only[iE,Yj]at hs
 obtain⟨callee,args,argTypes⟩:=c
 simp only at hs
 split at hs
 ·rename_i x t ha ht
  obtain rfl:args=#[x]:=zBi
  obtain rfl:argTypes=#[t]:=by apply Array.toList_inj.1;simpa using ht
  obtain⟨hg,hs⟩:=hs
  have hx:=r.arg (P:=P) t x rfl hg
  split at hs
  ·rename_i s heq
   rw[heq]at hx
   obtain⟨hC,rfl⟩:=hs
   have he:=PY hx
   exact⟨.int .i64 s.size,by simp[execOp,iE,resolve,invoke,builtin,he,Builtin.len_,run_underlying (jl hC),goInt],.int _ _⟩
  ·rename_i size rows heq
   rw[heq]at hx
   obtain⟨hC,rfl⟩:=hs
   obtain⟨ti,hu,_,_⟩:=QD hC
   obtain⟨base,cap,he,_,_⟩:=wO (show Rd _ _ _ _ from hx)
   exact⟨.int .i64 rows.length,by simp[execOp,iE,resolve,invoke,builtin,he,Builtin.len_,run_underlying hu,goInt],.int _ _⟩
  ·rename_i size heq
   rw[heq]at hx
   obtain⟨hC,rfl⟩:=hs
   obtain⟨ti,hu,_,_⟩:=QD hC
   have he:a.eval x= .slice none 0 0:=hx
   exact⟨.int .i64 0,by simp[execOp,iE,resolve,invoke,builtin,he,Builtin.len_,run_underlying hu,goInt],.int _ _⟩
  ·rename_i u j lo len heq
   rw[heq]at hx
   obtain⟨hC,ho,rfl⟩:=hs
   obtain⟨ti,hu,_,_⟩:=QD hC
   have aG:∃base cap,a.eval x= .slice base len cap:=by
    rcases ho with⟨q,size,rows,ho⟩|⟨size,rows,ho⟩
    ·obtain⟨_,_,_,base,cap,he,_,_,_,_⟩:=hx.2.1 _ _ _ ho
     exact⟨base,cap,he⟩
    ·obtain⟨_,_,_,base,cap,he,_,_,_,_⟩:=hx.2.2 _ _ ho
     exact⟨base,cap,he⟩
   obtain⟨base,cap,he⟩:=aG
   exact⟨.int .i64 len,by simp[execOp,iE,resolve,invoke,builtin,he,Builtin.len_,run_underlying hu,goInt],.int _ _⟩
  ·rename_i u j i c heq
   rw[heq]at hx
   obtain⟨hC,size,rows,n,s,ho,hi,iZ,rfl⟩:=hs
   obtain⟨ti,hu,_,_⟩:=QD hC
   obtain⟨v0,S,hn,iS⟩:=r.nest ho hi iZ
   have hnr:a.eval x=_:=hx.2 _ _ ho
   rw[hn]at hnr
   have he:∃base cap,a.eval x= .slice base s.length cap:=by
    rw[hnr]
    cases iS with
    |sl v size rows S e xs Sk fp hz hb hl hk hs hd=>
     rcases fp.2 with⟨rfl,h0⟩|⟨g,cap,cur,rfl,_⟩
     ·exact⟨none,0,by rw[h0]⟩
     ·exact⟨_,cap,rfl⟩
   obtain⟨base,cap,he⟩:=he
   exact⟨.int .i64 s.length,by simp[execOp,iE,resolve,invoke,builtin,he,Builtin.len_,run_underlying hu,goInt],.int _ _⟩
  ·exact hs.elim
 ·rename_i x y ha
  obtain rfl:args=#[x,y]:=zBi
  obtain⟨k,m,n,hx,hy,rfl⟩:=hs
  have ex:=qW r hx
  have ey:=qW r hy
  exact⟨.int k (if n>m then n else m),by simp[execOp,iE,resolve,invoke,builtin,ex,ey,Builtin.max_,Builtin.max2],.int _ _⟩
 ·rename_i x y ha
  obtain rfl:args=#[x,y]:=zBi
  obtain⟨k,m,n,hx,hy,rfl⟩:=hs
  have ex:=qW r hx
  have ey:=qW r hy
  exact⟨.int k (if n<m then n else m),by simp[execOp,iE,resolve,invoke,builtin,ex,ey,Builtin.min_,Builtin.min2],.int _ _⟩
 ·exact hs.elim
theorem Wt(r:Rel T0 B σ a w X h){v:V}(hs:Yj P σ o.op o.type v):
  ∃val,(execOp a.eval o).run P w= .ok (.value val) w/\JU (Tof T0 X) h σ.ob w v val:=by
 cases iE:o.op with
 |move x=>exact H7 r (.inl iE) hs
 |assign x=>exact H7 r (.inr iE) hs
 |pick c x y=>exact Ao r iE hs
 |load T x=>exact wR r iE hs
 |fieldAddr T x f=>exact Ia r iE hs
 |nilCheck x=>exact Gy r iE hs
 |indexAddr T x i=>exact IU r iE hs
 |index T x i=>exact BC r iE hs
 |field T x f=>exact BI r iE hs
 |slice T x lo hi m=>
  cases m with
  |none=>exact BH r iE hs
  |some m=>rw[iE]at hs;exact hs.elim
 |binOp op T x y T'=>exact u4 r iE hs
 |unOp op T x=>exact rV r iE hs
 |convert S T x=>rw[iE]at hs;exact Fl r iE hs.2.1 (by rw[iE];exact hs)
 |extract x i=>exact ER r iE hs
 |call c=>exact AG r iE hs
 |build T ps=>exact Bl r iE hs
 |_=>rw[iE]at hs;exact hs.elim
def At.ref(d:Nat):At->Bool
 |.sref t _ _ _=>t==d
 |.ptr t _ _ _=>t==d
 |.bptr t _=>t==d
 |.fn _ t=>t==d
 |.tref t _ _ _ _=>t==d
 |_=>false
def Yi(d:Nat):List At->Bool
 |[]=>false
 |x::xs=>x.ref d||Yi d xs
def V.Nv(d:Nat):V->Bool
 |.one x=>x.ref d
 |.agg xs=>Yi d xs
 |_=>false
def SM(d:Nat):List V->Bool
 |[]=>false
 |x::xs=>x.Nv d||SM d xs
def V.ref(d:Nat):V->Bool
 |.tup xs=>SM d xs
 |.cnd _ x=>x.Nv d||(match x with|.tup xs=>SM d xs|_=>false)
 |.one x=>x.ref d
 |.agg xs=>Yi d xs
 |.fix _ x=>x.Nv d||(match x with|.tup xs=>SM d xs|_=>false)
 |.any=>false
def XG(d:Nat):List Ob->Bool
 |[]=>false
 |.box cells::os=>Yi d cells||XG d os
 |.lit _ rows::os=>Yi d rows.flatten||XG d os
 |_::os=>XG d os
def yk(d:Nat):Nat->St->Bool
 |_,[]=>true
 |k,e::σ=>(k==d||(!e.1.ref d&&!XG d e.2))&&yk d (k+1) σ
def St.fresh(σ:St)(d:Nat):Bool:=decide (d<σ.length)&&yk d 0 σ
theorem xq{d:Nat}:∀{σ:St}{k:Nat},yk d k σ=true->∀t e,σ[t]?=some e->k+t≠d->e.1.ref d=false/\XG d e.2=false
 |[],_,_,t,e,he,_=>by simp at he
 |e0::σ,k,hf,t,e,he,iH=>by
  simp only[yk,Bool.and_eq_true,Bool.or_eq_true,beq_iff_eq,Bool.not_eq_true']at hf
  cases t with
  |zero=>
   simp at he;subst he
   rcases hf.1 with h|h
   ·omega
   ·exact h
  |succ t=>exact xq hf.2 t e (by simpa using he) zAA
theorem St.ur(hf:σ.fresh d=true)(t:Nat)(iH:t≠d):(σ.get t).ref d=false:=by
 simp only[St.fresh,Bool.and_eq_true]at hf;unfold St.get;cases he:σ[t]? with
 |none=>rfl
 |some e=>exact(xq hf.2 t e he zAA).1
theorem DU{d:Nat}:∀{os:List Ob},XG d os=false->∀j cells,Yt os j= .box cells->Yi d cells=false
 |[],_,j,cells,h=>by simp[Yt]at h
 |o::os,hr,j,cells,h=>by
  cases j with
  |zero=>
   simp[Yt]at h;subst h
   simp[XG]at hr;exact hr.1
  |succ j=>
   have:Yt os j= .box cells:=zB0
   refine DU (os:=os) ?_ j cells this
   cases o<;>simp_all[XG]
theorem GI{d:Nat}:∀{os:List Ob},XG d os=false->∀j size rows,Yt os j= .lit size rows->Yi d rows.flatten=false
 |[],_,j,_,_,h=>by simp[Yt]at h
 |o::os,hr,j,size,rows,h=>by
  cases j with
  |zero=>
   simp[Yt]at h;subst h
   simp[XG]at hr;exact hr.1
  |succ j=>
   have:Yt os j= .lit size rows:=zB0
   refine GI (os:=os) ?_ j size rows this
   cases o<;>simp_all[XG]
theorem St.uc(hf:σ.fresh d=true)(t j:Nat)(iH:t≠d)(size:Nat)(rows:List (List At))(ho:σ.ob t j= .lit size rows):Yi d rows.flatten=false:=by
 simp only[St.fresh,Bool.and_eq_true]at hf;unfold St.ob at ho;cases he:σ[t]? with
 |none=>rw[he]at ho;cases ho
 |some e=>rw[he]at ho;exact GI (xq hf.2 t e he zAA).2 j size rows ho
theorem St.rK(hf:σ.fresh d=true)(t j:Nat)(iH:t≠d)(cells:List At)(ho:σ.ob t j= .box cells):Yi d cells=false:=by
 simp only[St.fresh,Bool.and_eq_true]at hf;unfold St.ob at ho;cases he:σ[t]? with
 |none=>rw[he]at ho;cases ho
 |some e=>rw[he]at ho;exact DU (xq hf.2 t e he zAA).2 j cells ho
theorem St.zV(hf:σ.fresh d=true):d<σ.length:=by
 simp only[St.fresh,Bool.and_eq_true,decide_eq_true_eq]at hf;exact hf.1
def Cpt(h h':Nat->Nat->Hd)(ob fO:Nat->Nat->Ob)(t j:Nat):Prop:=
 (∀q size rows,fO t j= .arr q size rows->h' t j=h t j/\∃im,ob t j= .arr q size im/\im.length=rows.length)/\
 (∀size rows,fO t j= .lit size rows->h' t j=h t j/\∃im,ob t j= .lit size im/\im.length=rows.length)/\
 (∀cells,fO t j= .box cells->h' t j=h t j/\∃gl,ob t j= .box gl)
theorem Cpt.same{ob:Nat->Nat->Ob}(hh:h' t j=h t j)(ho:fO t j=ob t j):Cpt h h' ob fO t j:=
 ⟨fun q size rows e=>⟨hh,rows,by rw[<-ho];exact e,rfl⟩,fun size rows e=>⟨hh,rows,by rw[<-ho];exact e,rfl⟩,fun cells e=>⟨hh,cells,by rw[<-ho];exact e⟩⟩
section
variable{ob:Nat->Nat->Ob}
theorem YK.carry(hT:∀b k v,T b k->w.cell? ⟨b,k,none⟩=some v->w'.cell? ⟨b,k,none⟩=some v/\T' b k)(hc:∀t j,t≠d->Cpt h h' ob fO t j)
  {x:At} (hx:x.ref d=false) (r:YK T h ob w x v):YK T' h' fO w' x v:=by
 cases x with
 |any=>exact r
 |d x=>exact Rd.mono hT r
 |nil s=>exact r
 |sref t j lo len=>
  have ht:t≠d:=zBl
  refine⟨r.1,fun q size rows ho=>?_,fun size rows ho=>?_⟩
  ·obtain⟨hh,im,gU,hl⟩:=(hc t j ht).1 q size rows ho
   rw[hh,<-hl];exact r.2.1 q size im gU
  ·obtain⟨hh,im,gU,hl⟩:=(hc t j ht).2.1 size rows ho
   rw[hh,<-hl];exact r.2.2 size im gU
 |ptr t j i c=>
  have ht:t≠d:=zBl
  refine⟨r.1,fun q size rows ho=>?_⟩
  obtain⟨hh,im,gU,hl⟩:=(hc t j ht).1 q size rows ho
  rw[hh];exact r.2 q size im gU
 |bptr t c=>
  have ht:t≠d:=zBl
  refine⟨r.1,fun cells ho=>?_⟩
  obtain⟨hh,gl,gU⟩:=(hc t 0 ht).2.2 cells ho
  rw[hh];exact r.2 gl gU
 |fn f t=>
  have ht:t≠d:=zBl
  refine⟨r.1,fun cells ho=>?_⟩
  obtain⟨hh,gl,gU⟩:=(hc t 0 ht).2.2 cells ho
  rw[hh];exact r.2 gl gU
 |tref t j i c o=>
  have ht:t≠d:=zBl
  refine⟨r.1,fun size rows ho=>?_⟩
  obtain⟨hh,im,gU,hl⟩:=(hc t j ht).1 true size rows ho
  rw[hh];exact r.2 size im gU
 |rptr rr c=>
  obtain⟨b,off,g,e,hk⟩:=r
  exact⟨b,off,g,e,fun k d hd=>⟨(hT _ _ _ (hk k d hd).2.1 (hk k d hd).1).1,(hT _ _ _ (hk k d hd).2.1 (hk k d hd).1).2,Rd.mono hT (hk k d hd).2.2⟩⟩
theorem Vo(hT:∀b k v,T b k->w.cell? ⟨b,k,none⟩=some v->w'.cell? ⟨b,k,none⟩=some v/\T' b k)(hc:∀t j,t≠d->Cpt h h' ob fO t j)
  {xs:List At} (hx:Yi d xs=false) (r:YC (YK T h ob w) xs vs):YC (YK T' h' fO w') xs vs:=by
 induction r with
 |nil=>exact .nil
 |cons r _ ih=>
  simp only[Yi,Bool.or_eq_false_iff]at hx
  exact .cons (YK.carry hT hc hx.1 r) (ih hx.2)
theorem zX.carry(hT:∀b k v,T b k->w.cell? ⟨b,k,none⟩=some v->w'.cell? ⟨b,k,none⟩=some v/\T' b k)(hc:∀t j,t≠d->Cpt h h' ob fO t j)
  {x:V} (hx:x.Nv d=false) (r:zX T h ob w x v):zX T' h' fO w' x v:=by
 cases x with
 |any=>exact r
 |one x=>exact YK.carry hT hc hx r
 |agg xs=>obtain⟨cs,e,r⟩:=r;exact⟨cs,e,Vo hT hc hx r⟩
 |tup xs=>exact r.elim
 |cnd g x=>exact r.elim
 |fix u x=>exact r.elim
theorem JU.carry(hT:∀b k v,T b k->w.cell? ⟨b,k,none⟩=some v->w'.cell? ⟨b,k,none⟩=some v/\T' b k)(hc:∀t j,t≠d->Cpt h h' ob fO t j)
  {x:V} (hx:x.ref d=false) (r:JU T h ob w x v):JU T' h' fO w' x v:=by
 cases x with
 |any=>exact r
 |one x=>exact YK.carry hT hc hx r
 |agg xs=>obtain⟨cs,e,r⟩:=r;exact⟨cs,e,Vo hT hc hx r⟩
 |tup xs=>
  obtain⟨vs,e,r⟩:=r
  refine⟨vs,e,?_⟩
  clear e
  generalize vs.toList=vl at r
  simp only[V.ref]at hx
  induction r with
  |nil=>exact .nil
  |cons r _ ih=>
   simp only[SM,Bool.or_eq_false_iff]at hx
   exact .cons (zX.carry hT hc hx.1 r) (ih hx.2)
 |cnd g x=>
  simp only[V.ref,Bool.or_eq_false_iff]at hx
  exact⟨fun hg=>zX.carry hT hc hx.1 (r.1 hg),r.2⟩
 |fix u x=>
  simp only[V.ref,Bool.or_eq_false_iff]at hx
  exact⟨r.1,zX.carry hT hc hx.1 r.2⟩
end
theorem Rel.Tlt(r:Rel T0 B σ a w X h){k:Nat}(hb:Tof T0 X b k):b<w.heap.size:=by
 rcases hb with hb|hb
 ·exact r.hB b (r.hT b k hb)
 ·exact(r.hX b hb).2
theorem qy{e:TypeId}{xs:List Value}(hb:∀b,blk v=some b->w'.heap[b]?=w.heap[b]?)(ho:w.ownsRow 0 e size v n xs):w'.ownsRow 0 e size v n xs:=by
 refine⟨ho.1,?_⟩;rcases ho.2 with hn|⟨g,cap,cur,rfl,h0,hg,rest⟩
 ·exact .inl hn
 ·exact .inr ⟨g,cap,cur,rfl,h0,by rw[hb g rfl];exact hg,rest⟩
theorem Own.N8{d:D}(hb:∀b,S b->w'.heap[b]?=w.heap[b]?)(ho:Own w v d S):Own w' v d S:=by
 induction ho with
 |int k n S=>exact .int k n S
 |bool b S=>exact .bool b S
 |str s S=>exact .str s S
 |unk v h S=>exact .unk v h S
 |sl v size rows S e xs Sk ho hz iq hl hk hs hd ih=>
  exact .sl v size rows S e xs Sk (qy (fun b h=>hb b (iq b h)) ho) hz iq hl (fun k x d hx ic=>ih k x d hx ic (fun b h=>hb b (hs k b h).1)) hs hd
theorem Own.mono{d:D}{S':Nat->Prop}(hS:∀b,S b->S' b)(ho:Own w v d S):Own w v d S':=by
 cases ho with
 |int k n S=>exact .int k n S'
 |bool b S=>exact .bool b S'
 |str s S=>exact .str s S'
 |unk v h S=>exact .unk v h S'
 |sl v size rows S e xs Sk ho hz iq hl hk hs hd=>exact .sl v size rows S' e xs Sk ho hz (fun b h=>hS b (iq b h)) hl hk (fun k b h=>⟨hS b (hs k b h).1,(hs k b h).2⟩) hd
theorem Ke.N8{xs:List Value}(hb:∀b,S b->w'.heap[b]?=w.heap[b]?)(ho:Ke w xs ds S):Ke w' xs ds S:=by
 obtain⟨hl,Sk,h1,h2,h3⟩:=ho;exact⟨hl,Sk,fun k x d hx hd=>(h1 k x d hx hd).N8 (fun b h=>hb b (h2 k b h)),h2,h3⟩
theorem J9.N8{ob:Nat->Nat->Ob}{o:Ob}
  (hT:∀b k v,T b k->w.cell? ⟨b,k,none⟩=some v->w'.cell? ⟨b,k,none⟩=some v/\T' b k) (hc:∀t j,t≠d->Cpt h h' ob fO t j)
  (ga:o≠ .none->∀b,blk hd.v=some b->hd.u b) (hb:o≠ .none->∀b,hd.u b->w'.heap[b]?=w.heap[b]?) (hr:XG d [o]=false) (r:J9 T h ob w hd o):J9 T' h' fO w' hd o:=by
 cases o with
 |none=>trivial
 |box cells=>
  obtain⟨b,cs,e,hv,hh,iN⟩:=r
  simp only[XG,Bool.or_false]at hr
  exact⟨b,cs,e,hv,by rw[hb zAE b (ga zAE b (by rw[hv];rfl))];exact hh,Vo hT hc hr iN⟩
 |arr q size rows=>
  have hk:∀{e:TypeId}{n:Nat}{xs:List Value},w.ownsRow 0 e size hd.v n xs->w'.ownsRow 0 e size hd.v n xs:=fun ho=>qy (fun b h=>hb zAE b (ga zAE b h)) ho
  cases q with
  |false=>
   obtain⟨e,xs,ho,hz,iN⟩:=r
   exact⟨e,xs,hk ho,hz,iN.imp fun _ _=>Rd.mono hT⟩
  |true=>
   obtain⟨e,xs,ho,hz,iN,hn⟩:=r
   exact⟨e,xs,hk ho,hz,iN.N8 (fun b h=>hb zAE b h.1),hn⟩
 |lit size rows=>
  obtain⟨e,xs,ho,hz,iN⟩:=r
  simp only[XG,Bool.or_false]at hr
  exact⟨e,xs,qy (fun b h=>hb zAE b (ga zAE b h)) ho,hz,Vo hT hc hr iN⟩
theorem St.uV(hf:σ.fresh d=true)(t j:Nat)(iH:t≠d):XG d [σ.ob t j]=false:=by
 cases ho:σ.ob t j with
 |none=>rfl
 |box cells=>simp[XG,St.rK hf t j iH cells ho]
 |arr q size rows=>rfl
 |lit size rows=>simp only[XG,St.uc hf t j iH size rows ho,Bool.or_false]
theorem Rel.wC(r:Rel T0 B σ a w X h)(hf:σ.fresh d=true)(M:Nat->Prop)(gT:w.heap.size<=w'.heap.size)(hg:∀k,k<w.heap.size->¬M k->w'.heap[k]?=w.heap[k]?)
  (hm:∀b,M b->¬B b/\¬X b/\∀t j,t≠d->σ.ob t j≠ .none->¬(h t j).u b) (hX:∀b,X b->X' b) (cO:∀b,X' b->X b\/(w.heap.size<=b/\b<w'.heap.size))
  (v:V) (val:Value) (os:List Ob) (hd:Nat->Hd)
  (hv:JU (Tof T0 X') (fun t j=>if t=d then hd j else h t j) (σ.new d v os).ob w' v val)
  (hos:∀j,J9 (Tof T0 X') (fun t j=>if t=d then hd j else h t j) (σ.new d v os).ob w' (hd j) (Yt os j))
  (ga:∀j b,Yt os j≠ .none->blk (hd j).v=some b->(hd j).u b)
  (iS:∀j b,Yt os j≠ .none->(hd j).u b->(w.heap.size<=b\/M b)/\¬X' b/\b<w'.heap.size)
  (aF:∀j j' b,Yt os j≠ .none->Yt os j'≠ .none->(hd j).u b->(hd j').u b->j=j'):
  Rel T0 B (σ.new d v os) (a.put (some d) val) w' X' (fun t j=>if t=d then hd j else h t j):=by
 have iQ:=St.zV hf
 have hTm:∀b k,Tof T0 X b k->¬M b:=by
  intro b k hb hmb
  rcases hb with hb|hb
  ·exact(hm b hmb).1 (r.hT b k hb)
  ·exact(hm b hmb).2.1 hb
 have hT:∀b k v,Tof T0 X b k->w.cell? ⟨b,k,none⟩=some v->w'.cell? ⟨b,k,none⟩=some v/\Tof T0 X' b k:=by
  intro b k v hb iZ
  refine⟨?_,hb.imp id (hX b)⟩
  rw[World.cell?_of_block (hg b (r.Tlt hb) (hTm b k hb))];exact iZ
 have hc:∀t j,t≠d->Cpt h (fun t j=>if t=d then hd j else h t j) σ.ob (σ.new d v os).ob t j:=by
  intro t j iH
  have he:(σ.new d v os).ob t j=σ.ob t j:=zBn
  exact Cpt.same (by simp[iH]) he
 refine⟨by simp[Act.put,r.size,St.WO],r.defers,fun b hb=>Nat.lt_of_lt_of_le (r.hB b hb) gT,fun b hb=>?_,r.hT,fun t ht=>?_,fun t j=>?_,fun t j b ho hb=>?_,fun t j b ho hb=>?_,fun t j t' j' b ho hD hb iq=>?_⟩
 ·rcases cO b hb with hb|hb
  ·have:=r.hX b hb;exact⟨this.1,zAA⟩
  ·exact⟨fun fy=>by have:=r.hB b fy;omega,hb.2⟩
 ·rw[St.WO]at ht
  rw[St.VZ]
  by_cases ic:t=d
  ·subst ic
   simp only[iQ,and_self,if_true]
   have:(a.tmps.setIfInBounds t val).getD t undef=val:=by simp[r.size,iQ]
   simp only[Act.put,this];exact hv
  ·rw[if_neg (fun hh=>ic hh.1)]
   have:(a.tmps.setIfInBounds d val).getD t undef=a.tmps.getD t undef:=by simp[Array.getElem?_setIfInBounds_ne (Ne.symm ic)]
   simp only[Act.put,this]
   exact JU.carry hT hc (St.ur hf t ic) (r.slot t ht)
 ·rw[St.Jv]
  by_cases ic:t=d
  ·subst ic
   simp only[iQ,and_self,if_true];exact hos j
  ·have iH:¬(t=d/\d<σ.length):=fun hh=>ic hh.1
   rw[if_neg iH]
   simp only[if_neg ic]
   exact J9.N8 hT hc (fun ho b=>r.ub t j b ho) (fun ho b hu=>hg b (r.own t j b ho hu).2.2 (fun hmb=>(hm b hmb).2.2 t j ic ho hu)) (St.uV hf t j ic) (r.obj t j)
 ·rw[St.Jv]at ho
  by_cases ic:t=d
  ·subst ic
   simp only[iQ,and_self,if_true]at ho hb⊢
   exact ga j b ho hb
  ·rw[if_neg (fun hh=>ic hh.1)]at ho
   simp only[ic,if_false]at hb⊢
   exact r.ub t j b ho hb
 ·rw[St.Jv]at ho
  by_cases ic:t=d
  ·subst ic
   simp only[iQ,and_self,if_true]at ho hb
   have h1:=iS j b ho hb
   refine⟨?_,h1.2.1,h1.2.2⟩
   rcases h1.1 with h2|h2
   ·exact fun fy=>by have:=r.hB b fy;omega
   ·exact(hm b h2).1
  ·rw[if_neg (fun hh=>ic hh.1)]at ho
   simp only[ic,if_false]at hb
   have:=r.own t j b ho hb
   refine⟨this.1,fun hx=>?_,zAA⟩
   rcases cO b hx with hx|hx
   ·exact this.2.1 hx
   ·omega
 ·rw[St.Jv]at ho hD
  by_cases hd1:t=d
  ·by_cases cJ:t'=d
   ·subst hd1;subst cJ
    simp only[iQ,and_self,if_true]at ho hb hD iq
    exact⟨rfl,aF j j' b ho hD hb iq⟩
   ·subst hd1
    simp only[iQ,and_self,if_true]at ho hb
    rw[if_neg (fun hh=>cJ hh.1)]at hD
    simp only[cJ,if_false]at iq
    have h1:=iS j b ho hb
    have h2:=r.own t' j' b hD iq
    rcases h1.1 with h3|h3
    ·omega
    ·exact absurd iq ((hm b h3).2.2 t' j' cJ hD)
  ·by_cases cJ:t'=d
   ·subst cJ
    simp only[iQ,and_self,if_true]at hD iq
    rw[if_neg (fun hh=>hd1 hh.1)]at ho
    simp only[hd1,if_false]at hb
    have h1:=iS j' b hD iq
    have h2:=r.own t j b ho hb
    rcases h1.1 with h3|h3
    ·omega
    ·exact absurd hb ((hm b h3).2.2 t j hd1 ho)
   ·rw[if_neg (fun hh=>hd1 hh.1)]at ho
    rw[if_neg (fun hh=>cJ hh.1)]at hD
    simp only[hd1,cJ,if_false]at hb iq
    exact r.inj t j t' j' b ho hD hb iq
theorem Rel.new(r:Rel T0 B σ a w X h)(hf:σ.fresh d=true)(hg:w.grownBy w' none)(hX:∀b,X b->X' b)(cO:∀b,X' b->X b\/(w.heap.size<=b/\b<w'.heap.size))
  (v:V) (val:Value) (os:List Ob) (hd:Nat->Hd)
  (hv:JU (Tof T0 X') (fun t j=>if t=d then hd j else h t j) (σ.new d v os).ob w' v val)
  (hos:∀j,J9 (Tof T0 X') (fun t j=>if t=d then hd j else h t j) (σ.new d v os).ob w' (hd j) (Yt os j))
  (ga:∀j b,Yt os j≠ .none->blk (hd j).v=some b->(hd j).u b)
  (iS:∀j b,Yt os j≠ .none->(hd j).u b->w.heap.size<=b/\¬X' b/\b<w'.heap.size)
  (aF:∀j j' b,Yt os j≠ .none->Yt os j'≠ .none->(hd j).u b->(hd j').u b->j=j'):
  Rel T0 B (σ.new d v os) (a.put (some d) val) w' X' (fun t j=>if t=d then hd j else h t j):=
 r.wC hf (fun _=>False) hg.size (fun k hk _=>hg.block k hk zAE) (fun _ hh=>hh.elim) hX cO v val os hd hv hos ga (fun j b h1 h2=>⟨.inl (iS j b h1 h2).1,(iS j b h1 h2).2⟩) aF
open Go.RowKit
def yw(v:Value)(cs:List Value):Prop:=(∃c,cs=[c]/\v=c/\c.oneCell'=true)\/(cs.length≠1/\v= .agg cs.toArray)
def PX:List Value->Value
 |[v]=>v
 |vs=>.tuple vs.toArray
def KN(T:CS)(w:World)(v:Value):D->Prop
 |.sl size rows=>∃e xs,w.ownsRow 0 e size v rows.length xs/\(∀r∈rows,r.length=size)/\YC (Rd T w) xs rows.flatten
 |d=>Rd T w v d
def jD(own:Bool)(T:CS)(w:World)(v:Value)(d:D):Prop:=if own then KN T w v d else Rd T w v d
def Tf(P:Program)(f:FuncId):Bool:=
 match P.funcs[f]? with
 | some fn => fn.body.isSome && fn.name != "runtime.NumGoroutine"
 |none=>false
def n9(B N:Nat)(Y:Nat->Prop)(cs:List Value)(ds:List D):Prop:=
 (∀(i:Nat)(c:Value)(d:D)(b:Nat),cs[i]?=some c->ds[i]?=some d->d.scalar=false->blk c=some b->B<=b/\b<N/\¬Y b)/\
 (∀(i j:Nat)(c c':Value)(d d':D)(b:Nat),cs[i]?=some c->ds[i]?=some d->cs[j]?=some c'->ds[j]?=some d'->d.scalar=false->d'.scalar=false->blk c=some b->blk c'=some b->i=j)
def nu(own:Bool)(T:CS)(w:World)(res:List (List D))(e:Ending)(w':World):Prop:=
 ∃(vs:List Value)(hQ:List (List Value))(Y:Nat->Prop),e= .returned (PX vs)/\Below w.heap.size w w'/\(∀b,Y b->w.heap.size<=b/\b<w'.heap.size)/\
  YC yw vs hQ/\YC (fun cs row=>YC (jD own (Tof T Y) w') cs row) hQ res/\(own=true->n9 w.heap.size w'.heap.size Y hQ.flatten res.flatten)
def JK(P:Program)(f:FuncId)(own:Bool)(args res:List (List D)):Prop:=
 Tf P f=true/\∀(T:CS)(w:World)(gC:List Value),(∀b k,T b k->b<w.heap.size)->YC (fun v row=>∃cs,yw v cs/\YC (Rd T w) cs row) gC args->
  Calls P f gC.toArray w (nu own T w res)
def vOf:List At->V
 |[x]=>.one x
 |xs=>.agg xs
def K0(t:Nat):Nat->List D->List At
 |_,[]=>[]
 |k,.sl _ rows::ds=>.sref t k 0 rows.length::K0 t (k+1) ds
 |k,d::ds=>.d d::K0 t (k+1) ds
def xy:List D->List Ob
 |[]=>[]
 |.sl size rows::ds=>.arr false size rows::xy ds
 |_::ds=>.none::xy ds
def DE(t:Nat):Nat->List (List D)->List V
 |_,[]=>[]
 |k,r::rs=>vOf (K0 t k r)::DE t (k+r.length) rs
def kJ(t:Nat):List (List D)->V
 |[r]=>vOf (K0 t 0 r)
 |rs=>.tup (DE t 0 rs)
def jF:List (List D)->V
 |[r]=>vOf (r.map .d)
 |rs=>.tup (rs.map fun r=>vOf (r.map .d))
def ye(σ:St):At->Option D
 |.d x=>some x
 |.nil s=>some (.sl s [])
 |.sref t j lo len=>(match σ.ob t j with|.arr _ size rows=>some (.sl size (cut rows lo len))|_=>none)
 |_=>none
def rowOf(σ:St):List At->Option (List D)
 |[]=>some []
 |x::xs=>(match ye σ x,rowOf σ xs with|some d,some ds=>some (d::ds)|_,_=>none)
def V.zb(σ:St):V->Option (List D)
 |.one x=>rowOf σ [x]
 |.agg [_]=>none
 |.agg xs=>rowOf σ xs
 |_=>none
def JE(P:Program)(σ:St):List Operand->List TypeId->List (List D)->Prop
 |[],_,rs=>rs=[]
 |x::xs,t::ts,rs=>gOf (look P σ t x)=true/\∃r rest,(unc (look P σ t x)).zb σ=some r/\JE P σ xs ts rest/\rs=r::rest
 |_::_,[],_=>False
def At.CP:At->Bool
 |.sref _ _ _ _=>false
 |.tref _ _ _ _ _=>false
 |_=>true
def zg:List At->Bool
 |[]=>true
 |x::xs=>x.CP&&zg xs
def Ym(P:Program)(σ:St):List Operand->List TypeId->Bool
 |x::xs,t::ts=>zg (unc (look P σ t x)).cells&&Ym P σ xs ts
 |_,_=>true
theorem Rel.grow(r:Rel T0 B σ a w X h)(hg:w.grownBy w' none)(hX:∀b,X b->X' b)(cO:∀b,X' b->X b\/(w.heap.size<=b/\b<w'.heap.size)):Rel T0 B σ a w' X' h:=by
 have hT:∀b k v,Tof T0 X b k->w.cell? ⟨b,k,none⟩=some v->w'.cell? ⟨b,k,none⟩=some v/\Tof T0 X' b k:=by
  intro b k v hb iZ;refine⟨?_,hb.imp id (hX b)⟩;rw[World.cell?_of_block (hg.block b (r.Tlt hb) zAE)];exact iZ
 have hB:w.heap.size<=w'.heap.size:=hg.size;refine⟨r.size,r.defers,fun b hb=>Nat.lt_of_lt_of_le (r.hB b hb) hB,fun b hb=>?_,r.hT,fun t ht=>JU.mono hT (r.slot t ht),fun t j=>?_,r.ub,fun t j b ho hb=>?_,r.inj⟩
 ·rcases cO b hb with hb|hb
  ·have:=r.hX b hb;exact⟨this.1,zAA⟩
  ·exact⟨fun fy=>by have:=r.hB b fy;omega,hb.2⟩
 ·have h0:=r.obj t j;have hk:σ.ob t j≠ .none->∀b,(h t j).u b->w'.heap[b]?=w.heap[b]?:=fun ho b hu=>hg.block b (r.own t j b ho hu).2.2 zAE;have iu:=r.ub t j;cases ho:σ.ob t j with
  |none=>trivial
  |box cells=>
   rw[ho]at h0 hk iu;obtain⟨b,cs,e,hv,hh,iN⟩:=h0;exact⟨b,cs,e,hv,by rw[hk zAE b (iu b zAE (by rw[hv];rfl))];exact hh,iN.imp fun _ _=>YK.mono hT⟩
  |arr q size rows=>
   rw[ho]at h0 hk iu;cases q with
   |false=>
    obtain⟨e,xs,fZ,hz,iN⟩:=h0;exact⟨e,xs,qy (fun b hb=>hk zAE b (iu b zAE hb)) fZ,hz,iN.imp fun _ _=>Rd.mono hT⟩
   |true=>
    obtain⟨e,xs,fZ,hz,iN,hn⟩:=h0;exact⟨e,xs,qy (fun b hb=>hk zAE b (iu b zAE hb)) fZ,hz,iN.N8 (fun b hb=>hk zAE b hb.1),hn⟩
  |lit size rows=>
   rw[ho]at h0 hk iu;obtain⟨e,xs,fZ,hz,iN⟩:=h0;exact⟨e,xs,qy (fun b hb=>hk zAE b (iu b zAE hb)) fZ,hz,iN.imp fun _ _=>YK.mono hT⟩
 ·have:=r.own t j b ho hb;refine⟨this.1,fun hx=>?_,zAA⟩;rcases cO b hx with hx|hx
  ·exact this.2.1 hx
  ·omega
def O4(T0:CS)(X:Nat->Prop)(h:Nat->Nat->Hd)(σ:St):CS:=fun b k=>Tof T0 X b k\/∃t j q size rows,σ.ob t j= .arr q size rows/\(h t j).u b
theorem Rel.CM(r:Rel T0 B σ a w X h){k:Nat}(hb:O4 T0 X h σ b k):b<w.heap.size:=by
 rcases hb with hb|⟨t,j,q,size,rows,ho,hb⟩
 ·exact r.Tlt hb
 ·exact(r.own t j b zAx hb).2.2
theorem vo{e:TypeId}{xs:List Value}(ho:w.ownsRow 0 e size v rows.length xs)(hz:∀r∈rows,r.length=size)(hT:∀b k,blk v=some b->T b k)
  (iN:YC (Rd T w) xs rows.flatten):Rd T w v (.sl size rows):=by
 rcases ho.2 with⟨rfl,hn⟩|⟨g,cap,cur,rfl,_,hh,fc,fW,fX,fz⟩
 ·have:rows=[]:=List.eq_nil_of_length_eq_zero hn
  subst this;exact .nil _
 ·refine .sl ⟨g,0,none⟩ _ cap size rows (fun k=>(xs[k]?).getD undef) rfl fc fW hz (fun _=>rfl) (fun k d hd=>?_) (fun k d hd=>?_)
  ·obtain⟨u,hu,_⟩:=iN.get' k d hd
   have iQ:k<rows.length*size:=by
    have:=(List.getElem?_eq_some_iff.1 hd).1
    rw[YV rows size hz]at this;exact this
   rw[hu]
   refine⟨?_,hT g _ rfl⟩
   simp only[Nat.zero_add]
   refine zl hh _ _ ?_
   rw[<-fz,List.getElem?_take,if_pos iQ]at hu
   exact hu
  ·obtain⟨u,hu,hr⟩:=iN.get' k d hd
   rw[hu];exact hr
theorem Own.rd{d:D}(ho:Own w v d S)(hT:∀b k,S b->T b k):Rd T w v d:=by
 induction ho with
 |int k n S=>exact .int k n
 |bool b S=>exact .bool b
 |str s S=>exact .str s
 |unk v h S=>exact .unk v h
 |sl v size rows S e xs Sk ho hz iq hl hk hs hd ih=>
  exact vo ho hz (fun b k hb=>hT b k (iq b hb)) (YC.qA hl (fun k x d hx ic=>ih k x d hx ic (fun b k' hb=>hT b k' (hs k b hb).1)))
theorem Ke.rd{xs:List Value}(ho:Ke w xs ds S)(hT:∀b k,S b->T b k):YC (Rd T w) xs ds:=by
 obtain⟨hl,Sk,h1,h2,h3⟩:=ho;exact YC.qA hl (fun k x d hx hd=>(h1 k x d hx hd).rd (fun b k' hb=>hT b k' (h2 k b hb)))
theorem Rel.cells(r:Rel T0 B σ a w X h)(ho:σ.ob t j= .arr q size rows):
  ∃e xs,w.ownsRow 0 e size (h t j).v rows.length xs/\(∀r∈rows,r.length=size)/\∀T:CS,(∀b k,Tof T0 X b k->T b k)->(∀b k,(h t j).u b->T b k)->YC (Rd T w) xs rows.flatten:=by
 have h0:=r.obj t j
 rw[ho]at h0
 cases q with
 |false=>
  obtain⟨e,xs,fZ,hz,iN⟩:=h0
  exact⟨e,xs,fZ,hz,fun T h1 _=>iN.imp fun _ _=>Rd.mono (fun b k v hb hc=>⟨hc,h1 b k hb⟩)⟩
 |true=>
  obtain⟨e,xs,fZ,hz,iN,hn⟩:=h0
  exact⟨e,xs,fZ,hz,fun T _ h2=>iN.rd (fun b k hb=>h2 b k hb.1)⟩
theorem Rel.vA(r:Rel T0 B σ a w X h){lo:Nat}(ho:σ.ob t j= .arr q size rows)(hv:YK (Tof T0 X) h σ.ob w (.sref t j lo len) v)
  (T:CS) (hT1:∀b k,Tof T0 X b k->T b k) (hT2:∀b k,(h t j).u b->T b k):Rd T w v (.sl size (cut rows lo len)):=by
 obtain⟨hle,g5,_,base,cap,rfl,gx,ae,dJ,hb⟩:=hv.2.1 q size rows ho
 obtain⟨e,xs,⟨hl,iS⟩,hz,hal0⟩:=r.cells ho
 have iN:=hal0 T hT1 hT2
 have ga:=r.ub t j
 have hO:(cut rows lo len).length=len:=XZ _ _ _ hle
 have eD:∀x∈cut rows lo len,x.length=size:=fun x hx=>hz x (List.mem_of_mem_drop (List.mem_of_mem_take hx))
 by_cases gM:0<len
 ·obtain⟨b,e7,hh,rfl⟩:=hb gM
  rcases iS with⟨hn,_⟩|⟨g,bI,cur,eK,_,hgg,fc,fW,fX,fz⟩
  ·rw[hh]at hn;cases hn
  ·rw[hh]at eK
   cases eK
   have key:∀k d,(cut rows lo len).flatten[k]?=some d->∃u,w.cell? ⟨b,lo*size+k,none⟩=some u/\T b (lo*size+k)/\Rd T w u d:=by
    intro k d hd
    have ic:=kD rows size lo len hz k d hd
    obtain⟨u,hu,hr⟩:=iN.get' _ _ ic
    have iQ:lo*size+k<rows.length*size:=by
     have:=(List.getElem?_eq_some_iff.1 ic).1
     rw[YV rows size hz]at this;exact this
    refine⟨u,zl hgg _ _ ?_,hT2 b _ (ga b zAx (by rw[hh];rfl)),hr⟩
    rw[<-fz,List.getElem?_take,if_pos iQ]at hu
    exact hu
   refine .sl ⟨b,lo*size,none⟩ len cap size _ (fun k=>(w.cell? ⟨b,lo*size+k,none⟩).getD undef) hO gx ae eD (fun _=>rfl) (fun k d hd=>?_) (fun k d hd=>?_)
   ·obtain⟨u,hu,ht,_⟩:=key k d hd
    rw[hu];exact⟨rfl,ht⟩
   ·obtain⟨u,hu,_,hr⟩:=key k d hd
    rw[hu];exact hr
 ·have h0':len=0:=zAA
  subst h0'
  have e8:cut rows lo 0=[]:=by simp[cut]
  rw[e8]
  cases base with
  |none=>have:=dJ rfl;subst this;exact .nil _
  |some ad=>exact .sl ad 0 cap size [] (fun _=>undef) rfl gx ae (by intro r hr;cases hr) zAE zAE zAE
open Go.RowKit
def D.C1:D->Prop
 |.sl _ rows=>∀r∈rows,∀d∈r,d.scalar=true
 |_=>True
def Kn(own:Bool)(res:List (List D)):Prop:=∀r∈res,∀d∈r,if own=true then d.C1 else d.scalar=true
theorem Rd.scalar{d:D}(hd:d.scalar=true)(r:Rd T w v d):Rd T' w v d:=by
 cases r with
 |int k n=>exact .int k n
 |bool b=>exact .bool b
 |str s=>exact .str s
 |unk v h=>exact .unk v h
 |nil=>cases hd
 |sl=>cases hd
theorem KN.flat{d:D}(hd:d.C1)(r:KN T w v d):KN T' w v d:=by
 cases d with
 |sl size rows=>
  obtain⟨e,xs,ho,hz,iN⟩:=r;refine⟨e,xs,ho,hz,?_⟩;refine YC.qA iN.length (fun i x d hx ic=>?_);obtain⟨d2,cJ,hr⟩:=iN.get i x hx;rw[ic]at cJ;cases cJ;have hm:d∈rows.flatten:=List.mem_of_getElem? ic
  obtain⟨r0,ep,hdr⟩:=List.mem_flatten.1 hm;exact Rd.scalar (hd r0 ep d hdr) hr
 |int k n=>exact Rd.scalar rfl r
 |bool b=>exact Rd.scalar rfl r
 |str s=>exact Rd.scalar rfl r
 |unk=>exact Rd.scalar rfl r
theorem VR{e:TypeId}{xs:List Value}(ho:w.ownsRow 0 e size v n xs):sW v size n 0 n v:=by
 refine⟨zAA,fun _ _=>rfl,?_,?_⟩
 ·intro _;rcases ho.2 with⟨rfl,rfl⟩|⟨g,cap,cur,rfl,_⟩<;>rfl
 rcases ho.2 with⟨rfl,rfl⟩|⟨g,cap,cur,rfl,_,_,fc,fW,_,_⟩
 ·exact⟨none,0,rfl,zAA,by simp[maxLen],fun _=>rfl,fun hh=>zAA⟩
 ·exact⟨_,cap,rfl,fc,fW,(fun hh=>by cases hh),fun _=>⟨g,cap,rfl,zAE⟩⟩
theorem KS{e:TypeId}{xs:List Value}(ho:w.ownsRow 0 e size v n xs):v.oneCell'=true:=by
 rcases ho.2 with⟨rfl,rfl⟩|⟨g,cap,cur,rfl,_⟩<;>rfl
theorem KN.QQ{d:D}(r:KN T w v d):v.oneCell'=true:=by
 cases d with
 |sl size rows=>obtain⟨e,xs,ho,_⟩:=r;exact KS ho
 |int k n=>exact Rd.QQ r
 |bool b=>exact Rd.QQ r
 |str s=>exact Rd.QQ r
 |unk=>exact Rd.QQ r
theorem KN.rd{d:D}(r:KN T w v d)(h1:∀b k,T b k->T' b k)(h2:d.scalar=false->∀b k,blk v=some b->T' b k):Rd T' w v d:=by
 cases d with
 |sl size rows=>
  obtain⟨e,xs,⟨hl,iS⟩,hz,iN⟩:=r;rcases iS with⟨rfl,hn⟩|⟨g,cap,cur,rfl,_,hh,fc,fW,fX,fz⟩
  ·have:rows=[]:=List.eq_nil_of_length_eq_zero hn;subst this;exact .nil _
  ·refine .sl ⟨g,0,none⟩ _ cap size rows (fun k=>(xs[k]?).getD undef) rfl fc fW hz (fun _=>rfl) (fun k d hd=>?_) (fun k d hd=>?_)
   ·obtain⟨u,hu,_⟩:=iN.get' k d hd;have iQ:k<rows.length*size:=by
     have:=(List.getElem?_eq_some_iff.1 hd).1;rw[YV rows size hz]at this;exact this
    rw[hu];refine⟨?_,h2 rfl g _ rfl⟩;simp only[Nat.zero_add];refine zl hh _ _ ?_;rw[<-fz,List.getElem?_take,if_pos iQ]at hu;exact hu
   ·obtain⟨u,hu,hr⟩:=iN.get' k d hd;rw[hu];exact Rd.mono (fun b k v hb hc=>⟨hc,h1 b k hb⟩) hr
 |int k n=>exact Rd.scalar rfl r
 |bool b=>exact Rd.scalar rfl r
 |str s=>exact Rd.scalar rfl r
 |unk=>exact Rd.scalar rfl r
theorem Rel.ye(r:Rel T0 B σ a w X h){x:At}{d:D}(hd:ye σ x=some d)(hv:YK (Tof T0 X) h σ.ob w x v)(st:Bool)(hC:st=true->x.CP=true):
  Rd (if st then Tof T0 X else O4 T0 X h σ) w v d:=by
 cases x with
 |d x=>simp[Vm.ye]at hd;subst hd;cases st<;>simp<;>first|exact hv|exact Rd.mono (fun b k v hb hc=>⟨hc,.inl hb⟩) hv
 |nil s=>simp[Vm.ye]at hd;subst hd;cases hv;exact .nil _
 |sref t j lo len=>
  cases st with
  |true=>have:=hC rfl;simp[At.CP]at this
  |false=>
   simp only[Vm.ye]at hd
   split at hd
   ·rename_i q size rows ho
    cases hd
    exact r.vA ho hv _ (fun b k hb=>.inl hb) (fun b k hb=>.inr ⟨t,j,_,size,rows,ho,hb⟩)
   ·cases hd
 |any=>simp[Vm.ye]at hd
 |ptr=>simp[Vm.ye]at hd
 |bptr=>simp[Vm.ye]at hd
 |fn=>simp[Vm.ye]at hd
 |rptr=>simp[Vm.ye]at hd
 |tref=>simp[Vm.ye]at hd
theorem Rel.rowOf(r:Rel T0 B σ a w X h)(st:Bool):∀{xs:List At}{vs:List Value}{ds:List D},rowOf σ xs=some ds->YC (YK (Tof T0 X) h σ.ob w) xs vs->(st=true->zg xs=true)->
  YC (Rd (if st then Tof T0 X else O4 T0 X h σ) w) vs ds
 |[],_,ds,hd,iN,_=>by cases iN;simp[Vm.rowOf]at hd;subst hd;exact .nil
 |x::xs,_,ds,hd,iN,hC=>by
  cases iN with
  |cons hx iN=>
   simp only[Vm.rowOf]at hd
   split at hd
   ·rename_i d bD h1 h2
    cases hd
    refine .cons (r.ye h1 hx st (fun hs=>?_)) (Rel.rowOf r st h2 iN (fun hs=>?_))
    ·have:=hC hs;simp[zg]at this;exact this.1
    ·have:=hC hs;simp[zg]at this;exact this.2
   ·cases hd
theorem Rel.zb(r:Rel T0 B σ a w X h)(st:Bool){v:V}{row:List D}(hr:v.zb σ=some row)(hv:JU (Tof T0 X) h σ.ob w v val)(hC:st=true->zg v.cells=true):
  ∃cs,yw val cs/\YC (Rd (if st then Tof T0 X else O4 T0 X h σ) w) cs row:=by
 cases v with
 |one x=>exact⟨[val],.inl ⟨val,rfl,rfl,YK.QQ (show YK _ _ _ _ _ _ from hv)⟩,r.rowOf st (xs:=[x]) hr (.cons hv .nil) hC⟩
 |agg xs=>
  obtain⟨cs,rfl,iN⟩:=hv
  have hl:=iN.length
  match xs,hr,iN,hl,hC with
  |[],hr,iN,hl,hC=>exact⟨cs.toList,.inr ⟨by rw[<-hl];simp,zAE⟩,r.rowOf st hr iN hC⟩
  |[_],hr,_,_,_=>simp[V.zb]at hr
  |x::y::xs,hr,iN,hl,hC=>exact⟨cs.toList,.inr ⟨by rw[<-hl];simp,zAE⟩,r.rowOf st hr iN hC⟩
 |any=>simp[V.zb]at hr
 |tup xs=>simp[V.zb]at hr
 |cnd g x=>simp[V.zb]at hr
 |fix u x=>simp[V.zb]at hr
theorem Rel.JE(r:Rel T0 B σ a w X h)(st:Bool):∀{xs:List Operand}{ts:List TypeId}{rs:List (List D)},JE P σ xs ts rs->(st=true->Ym P σ xs ts=true)->
  YC (fun v row=>∃cs,yw v cs/\YC (Rd (if st then Tof T0 X else O4 T0 X h σ) w) cs row) (xs.map a.eval) rs
 |[],_,rs,hr,_=>by cases hr;exact .nil
 |x::xs,[],rs,hr,_=>hr.elim
 |x::xs,t::ts,rs,hr,hC=>by
  obtain⟨hg,row,rest,h1,h2,rfl⟩:=hr
  refine .cons (r.zb st h1 (r.arg t x rfl hg) (fun hs=>?_)) (Rel.JE r st h2 (fun hs=>?_))
  ·have:=hC hs;simp[Ym]at this;exact this.1
  ·have:=hC hs;simp[Ym]at this;exact this.2
theorem UF{f:FuncId}(iE:o.op= .call c)(hc:c.callee= .value (.func f))(hf:Tf P f=true):(execOp a.eval o).run P w= .ok (.enter f (c.args.toList.map a.eval).toArray) w:=by
 unfold Tf at hf;split at hf
 ·rename_i fn hfn;simp only[Bool.and_eq_true,bne_iff_ne,ne_eq]at hf;obtain⟨cd,hb⟩:=Option.isSome_iff_exists.1 hf.1;obtain⟨callee,args,dW⟩:=c;simp only at hc;subst hc;have hm:(args.toList.map a.eval).toArray=args.map a.eval:=by apply Array.toList_inj.1;simp
  rw[hm];simp[execOp,iE,resolve,Act.eval,Deferred.ofValue,invoke,callFunc,hfn,hf.2,hb]
 ·cases hf
open Go.RowKit
variable{Q:Exit->Act->World->Prop}{K:Act->World->Prop}{hQ:List (List Value)}
theorem Below.grownBy(hb:Below w.heap.size w w'):w.grownBy w' none:=⟨hb.os,hb.tape,hb.output,hb.size,fun k hk _=>hb.block k hk⟩
theorem He{ob:Nat->Nat->Ob}{xs:List At}(hf:yw v cs)(iN:YC (YK T h ob w) xs cs):zX T h ob w (vOf xs) v:=by
 have hl:=iN.length;rcases hf with⟨c,rfl,rfl,h1⟩|⟨iH,rfl⟩
 ·cases iN with
  |cons hx iN=>cases iN;exact hx
 ·match xs,iN,hl with
  |[],iN,_=>exact⟨_,rfl,by simpa using iN⟩
  |[x],iN,hl=>exact absurd hl.symm (by simpa using iH)
  |x::y::xs,iN,_=>exact⟨_,rfl,by simpa using iN⟩
theorem Vq{ob:Nat->Nat->Ob}{row:List D}(iN:YC (Rd T w) cs row):YC (YK T h ob w) (row.map .d) cs:=by
 induction iN with
 |nil=>exact .nil
 |cons r _ ih=>exact .cons r ih
theorem Az{ob:Nat->Nat->Ob}(hf:YC yw vs hQ)(iN:YC (fun cs row=>YC (Rd T w) cs row) hQ res):
  YC (zX T h ob w) (res.map fun r=>vOf (r.map .d)) vs:=by
 induction hf generalizing res with
 |nil=>cases iN;exact .nil
 |cons f _ ih=>cases iN with
  |cons r iN=>exact .cons (He f (Vq r)) (ih iN)
theorem DG{ob:Nat->Nat->Ob}(hf:YC yw vs hQ)(iN:YC (fun cs row=>YC (Rd T w) cs row) hQ res):
  JU T h ob w (jF res) (PX vs):=by
 have hl:=Az (h:=h) (ob:=ob) hf iN
 have h1:=hl.length
 match res,vs,hl,h1 with
 |[r],[v],hl,_=>cases hl with|cons x _=>exact x.up
 |[],[],hl,_=>exact⟨_,rfl,by simpa using hl⟩
 |r::r'::rs,v::v'::vs,hl,_=>exact⟨_,rfl,by simpa using hl⟩
 |[],v::vs,_,h1=>simp at h1
 |[r],[],_,h1=>simp at h1
 |[r],v::v'::vs,_,h1=>simp at h1
 |r::r'::rs,[],_,h1=>simp at h1
 |r::r'::rs,[v],_,h1=>simp at h1
theorem LK{α β:Type}{R S:α->β->Prop}{l:List (List α)}{m:List (List β)}(eJ:∀(a:α)(b:β)(row:List β),row∈m->b∈row->R a b->S a b)(iN:YC (fun x y=>YC R x y) l m):YC (fun x y=>YC S x y) l m:=by
 induction iN with
 |nil=>exact .nil
 |@cons x y _ _ dA _ ih=>
  refine .cons ?_ (ih (fun a b row hr=>eJ a b row zB3));have gh:∀b∈y,∀a,R a b->S a b:=fun b hb a hr=>eJ a b y zAE hb hr
  clear ih eJ;induction dA with
  |nil=>exact .nil
  |cons r _ ax=>exact .cons (gh _ zAE _ r) (ax (fun b hb=>gh b (by simp[hb])))
theorem Vi(r:Rel T0 B σ a w X h){f:FuncId}{own:Bool}(iE:o.op= .call c)(hc:c.callee= .value (.func f))(hd:o.dst=some d)
  (iT:JE P σ c.args.toList c.argTypes.toList rows) (st:Bool) (hC:st=true->Ym P σ c.args.toList c.argTypes.toList=true) (gk:st=false->Kn own res) (hs:JK P f own rows res)
  (hK:∀a' w',J5 T0 B (σ.put d (jF res)) a' w'->XF B w w'->K a' w'):o.wp P a w K Q:=by
 unfold Oper.wp
 rw[UF iE hc hs.1,Oper.upon_enter]
 refine(hs.2 (if st then Tof T0 X else O4 T0 X h σ) w _ (fun b k hb=>?_) (r.JE st iT hC)).mono ?_
 ·cases st
  ·exact r.CM hb
  ·exact r.Tlt hb
 ·rintro e w' ⟨vs,hQ,Y,rfl,fF,hY,gA,fY,bN⟩
  have cO:∀b,(X b\/(w.heap.size<=b/\b<w'.heap.size))->X b\/(w.heap.size<=b/\b<w'.heap.size):=fun b hb=>hb
  have r2:=r.grow (X':=fun b=>X b\/(w.heap.size<=b/\b<w'.heap.size)) (Below.grownBy fF) (fun b hb=>.inl hb) cO
  have eU:YC (fun cs row=>YC (Rd (Tof T0 fun b=>X b\/(w.heap.size<=b/\b<w'.heap.size)) w') cs row) hQ res:=by
   have gh:∀(i:Nat)(c:Value)(d:D),hQ.flatten[i]?=some c->res.flatten[i]?=some d->own=true->d.scalar=false->∀b,blk c=some b->w.heap.size<=b/\b<w'.heap.size:=by
    intro i c d h1 h2 ho gV b hb
    have:=(bN ho).1 i c d b h1 h2 gV hb
    exact⟨this.1,this.2.1⟩
   have conv:∀(c:Value)(d:D),(∀b,own=true->d.scalar=false->blk c=some b->w.heap.size<=b/\b<w'.heap.size)->(st=false->if own=true then d.C1 else d.scalar=true)->
     jD own (Tof (if st then Tof T0 X else O4 T0 X h σ) Y) w' c d->Rd (Tof T0 fun b=>X b\/(w.heap.size<=b/\b<w'.heap.size)) w' c d:=by
    intro c d hJ aP hr
    cases own with
    |true=>
     have gb:KN (Tof (if st then Tof T0 X else O4 T0 X h σ) Y) w' c d:=by simpa[jD]using hr
     cases st with
     |true=>
      refine KN.rd gb (fun b k hb=>?_) (fun gV b k hb=>.inr (.inr (hJ b rfl gV hb)))
      rcases hb with hb|hb
      ·rcases(show Tof T0 X b k from by simpa using hb)with hb|hb
       ·exact .inl hb
       ·exact .inr (.inl hb)
      ·exact .inr (.inr (hY b hb))
     |false=>
      exact KN.rd (KN.flat (T':=fun _ _=>False) (by simpa using aP rfl) gb) (fun b k hb=>hb.elim) (fun gV b k hb=>.inr (.inr (hJ b rfl gV hb)))
    |false=>
     have gb:Rd (Tof (if st then Tof T0 X else O4 T0 X h σ) Y) w' c d:=by simpa[jD]using hr
     cases st with
     |true=>
      refine Rd.mono (fun b k v hb hc=>⟨hc,?_⟩) gb
      rcases hb with hb|hb
      ·rcases(show Tof T0 X b k from by simpa using hb)with hb|hb
       ·exact .inl hb
       ·exact .inr (.inl hb)
      ·exact .inr (.inr (hY b hb))
     |false=>exact Rd.scalar (by simpa using aP rfl) gb
   have go:∀(hQ:List (List Value))(res:List (List D)),YC (fun cs row=>YC (jD own (Tof (if st then Tof T0 X else O4 T0 X h σ) Y) w') cs row) hQ res->
     (∀(i:Nat)(c:Value)(d:D),hQ.flatten[i]?=some c->res.flatten[i]?=some d->own=true->d.scalar=false->∀b,blk c=some b->w.heap.size<=b/\b<w'.heap.size)->
     (st=false->Kn own res)->YC (fun cs row=>YC (Rd (Tof T0 fun b=>X b\/(w.heap.size<=b/\b<w'.heap.size)) w') cs row) hQ res:=by
    intro hQ res iN
    induction iN with
    |nil=>intro _ _;exact .nil
    |@cons cs row css' res' hR _ ih=>
     intro hm hf
     have hlen:=hR.length
     refine .cons (YC.qA hlen (fun i c d hc ic=>?_)) (ih (fun i c d h1 h2=>?_) (fun hs r hr=>hf hs r zB3))
     ·obtain⟨d2,cJ,hr⟩:=hR.get i c hc
      rw[ic]at cJ;cases cJ
      refine conv c d (fun b ho gV hb=>hm i c d ?_ ?_ ho gV b hb) (fun hs=>hf hs row zAE d (List.mem_of_getElem? ic)) hr
      ·rw[List.flatten_cons,List.getElem?_append_left (List.getElem?_eq_some_iff.1 hc).1];exact hc
      ·rw[List.flatten_cons,List.getElem?_append_left (List.getElem?_eq_some_iff.1 ic).1];exact ic
     ·refine hm (cs.length+i) c d ?_ ?_
      ·rw[List.flatten_cons,List.getElem?_append_right zAA];simpa using h1
      ·rw[List.flatten_cons,List.getElem?_append_right zAA,hlen];simpa using h2
   exact go hQ res fY gh gk
  rw[hd]
  exact hK _ _ ⟨_,_,r2.put d _ _ (DG gA eU)⟩ (XF.MW fF r.hB)
open Go.RowKit
theorem SU:∀(ds:List D)(k:Nat),Yt (xy ds) k=(match ds[k]? with|some (.sl size rows)=>.arr false size rows|_=>.none)
 |[],k=>by simp[xy,Yt]
 |d::ds,0=>by cases d<;>simp[xy,Yt]
 |d::ds,k+1=>by
  have:=SU ds k
  cases d<;>simpa[xy,Yt]using this
def Wg(T:CS)(w:World)(v:Value):D->Prop
 |.sl size rows=>∃e xs,w.ownsRow 0 e size v rows.length xs
 |d=>Rd T w v d
theorem KN.top{d:D}(r:KN T w v d):Wg T w v d:=by
 cases d with
 |sl size rows=>obtain⟨e,xs,ho,_⟩:=r;exact⟨e,xs,ho⟩
 |int k n=>exact r
 |bool b=>exact r
 |str s=>exact r
 |unk=>exact r
theorem Wg.QQ{d:D}(r:Wg T w v d):v.oneCell'=true:=by
 cases d with
 |sl size rows=>obtain⟨e,xs,ho⟩:=r;exact KS ho
 |int k n=>exact Rd.QQ r
 |bool b=>exact Rd.QQ r
 |str s=>exact Rd.QQ r
 |unk=>exact Rd.QQ r
theorem Sv{T:CS}{ob:Nat->Nat->Ob}{t:Nat}:∀{ds:List D}{cs:List Value}{k:Nat},YC (Wg T w) cs ds->
  (∀i size rows,ds[i]?=some (.sl size rows)->∃q,ob t (k+i)= .arr q size rows)->(∀i c,cs[i]?=some c->(h t (k+i)).v=c)->YC (YK T h ob w) (K0 t k ds) cs
 |[],_,k,iN,_,_=>by cases iN;exact .nil
 |d::ds,_,k,iN,ho,hh=>by
  cases iN with
  |@cons c _ cs _ hc iN=>
   have ih:=Sv (k:=k+1) iN (fun i size rows hi=>by have:=ho (i+1) size rows (by simpa using hi);rw[show k+1+i=k+(i+1)by omega];exact this)
    (fun i c' gD=>by have:=hh (i+1) c' (by simpa using gD);rw[show k+1+i=k+(i+1)by omega];exact this)
   cases d with
   |sl size rows=>
    obtain⟨q0,h0⟩:=ho 0 size rows zAE
    have h1:=hh 0 c zAE
    rw[Nat.add_zero]at h0 h1
    refine .cons ⟨Wg.QQ hc,fun q' iw ig hD=>?_,fun iw ig hD=>by rw[h0]at hD;cases hD⟩ ih
    rw[h0]at hD;cases hD
    obtain⟨e,xs,iS⟩:=hc
    rw[h1];exact VR iS
   |int k' n=>exact .cons hc ih
   |bool b=>exact .cons hc ih
   |str s=>exact .cons hc ih
   |unk=>exact .cons hc ih
theorem v8{ob:Nat->Nat->Ob}(hf:YC yw vs hQ):∀{res:List (List D)}{k:Nat},YC (fun cs row=>YC (Wg T w) cs row) hQ res->
  (∀i size rows,res.flatten[i]?=some (.sl size rows)->∃q,ob t (k+i)= .arr q size rows)->(∀i c,hQ.flatten[i]?=some c->(h t (k+i)).v=c)->YC (zX T h ob w) (DE t k res) vs:=by
 induction hf with
 |nil=>intro res k iN _ _;cases iN;exact .nil
 |@cons v cs vs' css' f _ ih=>
  intro res k iN ho hh
  cases iN with
  |@cons _ row _ res' r iN=>
   have hlen:=r.length
   refine .cons (He f (Sv r (fun i size rows hi=>ho i size rows ?_) (fun i c hc=>hh i c ?_))) (ih iN (fun i size rows hi=>?_) (fun i c hc=>?_))
   ·rw[List.flatten_cons,List.getElem?_append_left (List.getElem?_eq_some_iff.1 hi).1];exact hi
   ·rw[List.flatten_cons,List.getElem?_append_left (List.getElem?_eq_some_iff.1 hc).1];exact hc
   ·have:=ho (row.length+i) size rows (by rw[List.flatten_cons,List.getElem?_append_right zAA];simpa using hi)
    rw[Nat.add_assoc];exact this
   ·have:=hh (row.length+i) c (by rw[List.flatten_cons,List.getElem?_append_right zAA,<-hlen];simpa using hc)
    rw[Nat.add_assoc];exact this
theorem G4{ob:Nat->Nat->Ob}(hf:YC yw vs hQ)(iN:YC (fun cs row=>YC (Wg T w) cs row) hQ res)
  (ho:∀i size rows,res.flatten[i]?=some (.sl size rows)->∃q,ob t i= .arr q size rows) (hh:∀i c,hQ.flatten[i]?=some c->(h t i).v=c):JU T h ob w (kJ t res) (PX vs):=by
 have hl:=v8 (k:=0) hf iN (by simpa using ho) (by simpa using hh)
 have h1:res.length=vs.length:=by rw[hf.length,iN.length]
 match res,vs,hl,h1 with
 |[r],[v],hl,_=>cases hl with|cons x _=>exact x.up
 |[],[],hl,_=>exact⟨_,rfl,by simpa using hl⟩
 |r::r'::rs,v::v'::vs,hl,_=>exact⟨_,rfl,by simpa using hl⟩
 |[],v::vs,_,h1=>simp at h1
 |[r],[],_,h1=>simp at h1
 |[r],v::v'::vs,_,h1=>simp at h1
 |r::r'::rs,[],_,h1=>simp at h1
 |r::r'::rs,[v],_,h1=>simp at h1
theorem qu{α β:Type}{R:α->β->Prop}{l:List (List α)}{m:List (List β)}(iN:YC (fun x y=>YC R x y) l m):YC R l.flatten m.flatten:=by
 induction iN with
 |nil=>exact .nil
 |cons r _ ih=>rw[List.flatten_cons,List.flatten_cons];exact r.append ih
theorem OV(r:Rel T0 B σ a w X h){f:FuncId}(iE:o.op= .call c)(hc:c.callee= .value (.func f))(hd:o.dst=some d)(gG:σ.fresh d=true)
  (iT:JE P σ c.args.toList c.argTypes.toList rows) (st:Bool) (hC:st=true->Ym P σ c.args.toList c.argTypes.toList=true) (gk:st=false->Kn true res) (hs:JK P f true rows res)
  (hK:∀a' w',J5 T0 B (σ.new d (kJ d res) (xy res.flatten)) a' w'->XF B w w'->K a' w'):o.wp P a w K Q:=by
 have iQ:=St.zV gG
 unfold Oper.wp
 rw[UF iE hc hs.1,Oper.upon_enter]
 refine(hs.2 (if st then Tof T0 X else O4 T0 X h σ) w _ (fun b k hb=>?_) (r.JE st iT hC)).mono ?_
 ·cases st
  ·exact r.CM hb
  ·exact r.Tlt hb
 ·rintro e w' ⟨vs,hQ,Y,rfl,fF,hY,gA,fY,bN⟩
  have bN:=bN rfl
  have eU:YC (fun cs row=>YC (KN (Tof T0 fun b=>X b\/Y b) w') cs row) hQ res:=by
   refine LK (fun c d row hR hdr hr=>?_) fY
   have gb:KN (Tof (if st then Tof T0 X else O4 T0 X h σ) Y) w' c d:=by simpa[jD]using hr
   cases st with
   |true=>
    have hT:∀b k,Tof (if true=true then Tof T0 X else O4 T0 X h σ) Y b k->Tof T0 (fun b=>X b\/Y b) b k:=by
     intro b k hb
     rcases hb with hb|hb
     ·rcases(show Tof T0 X b k from by simpa using hb)with hb|hb
      ·exact .inl hb
      ·exact .inr (.inl hb)
     ·exact .inr (.inr hb)
    cases d with
    |sl size rows=>
     obtain⟨e,xs,ho,hz,iN⟩:=gb
     exact⟨e,xs,ho,hz,iN.imp fun _ _=>Rd.mono (fun b k v hb hc=>⟨hc,hT b k hb⟩)⟩
    |int k n=>exact Rd.scalar rfl gb
    |bool b=>exact Rd.scalar rfl gb
    |str s=>exact Rd.scalar rfl gb
    |unk=>exact Rd.scalar rfl gb
   |false=>exact KN.flat (by simpa using gk rfl row hR d hdr) gb
  have gj:=qu eU
  rw[hd]
  refine hK _ _ ⟨fun b=>X b\/Y b,fun t j=>if t=d then Hd.of ((hQ.flatten[j]?).getD undef)else h t j,?_⟩ (XF.MW fF r.hB)
  have iZ:∀(j size:Nat)(rows:List (List D)),res.flatten[j]?=some (D.sl size rows)->∃c,hQ.flatten[j]?=some c/\KN (Tof T0 fun b=>X b\/Y b) w' c (D.sl size rows):=fun j size rows hj=>gj.get' j _ hj
  have iu:∀j,(σ.new d (kJ d res) (xy res.flatten)).ob d j=Yt (xy res.flatten) j:=fun j=>by rw[St.Jv];simp[iQ]
  have hsl:∀j,Yt (xy res.flatten) j≠ .none->∃size rows,res.flatten[j]?=some (D.sl size rows):=by
   intro j iH
   rw[SU]at iH
   split at iH
   ·rename_i size rows hj;exact⟨size,rows,hj⟩
   ·exact absurd rfl iH
  refine r.new gG (Below.grownBy fF) (fun b hb=>.inl hb) (fun b hb=>hb.imp id (fun hy=>hY b hy)) (kJ d res) (PX vs) (xy res.flatten) (fun j=>Hd.of ((hQ.flatten[j]?).getD undef)) ?_ (fun j=>?_) (fun j b _ hb=>hb) (fun j b iH hb=>?_) (fun j j' b iH gE hb iq=>?_)
  ·refine G4 gA (LK (fun _ _ _ _ _ hr=>KN.top hr) eU) (fun i size rows hi=>⟨false,?_⟩) (fun i c hi=>by simp[hi,Hd.of])
   rw[iu,SU,hi]
  ·rw[SU]
   split
   ·rename_i size rows hj
    obtain⟨c,gD,iS⟩:=iZ j size rows hj
    obtain⟨e,xs,ho,hz,iN⟩:=iS
    exact⟨e,xs,by rw[gD];exact ho,hz,iN⟩
   ·trivial
  ·obtain⟨size,rows,hj⟩:=hsl j iH
   obtain⟨c,gD,_⟩:=iZ j size rows hj
   have iq:blk c=some b:=by simpa[Hd.of,gD]using hb
   have:=bN.1 j c _ b gD hj rfl iq
   refine⟨this.1,?_,this.2.1⟩
   rintro(hx|hy)
   ·have:=r.hX b hx;omega
   ·exact this.2.2 hy
  ·obtain⟨size,rows,hj⟩:=hsl j iH
   obtain⟨iw,ig,eY⟩:=hsl j' gE
   obtain⟨c,gD,_⟩:=iZ j size rows hj
   obtain⟨c2,cP,_⟩:=iZ j' iw ig eY
   exact bN.2 j j' c c2 _ _ b gD hj cP eY rfl rfl (by simpa[Hd.of,gD]using hb) (by simpa[Hd.of,cP]using iq)
open Go.RowKit
theorem XF.T5(hg:w.grownBy w' none)(hB:∀b,B b->b<w.heap.size):XF B w w':=⟨hg.os,hg.tape,hg.output,hg.size,fun k hk=>hg.block k (hB k hk) zAE⟩
theorem Rel.si(r:Rel T0 B σ a w X h)(hf:σ.fresh d=true)(cs:Array Value)(T:TypeId)(xs:List At)(hx:Yi d xs=false)(iN:YC (YK (Tof T0 X) h σ.ob w) xs cs.toList):
  J5 T0 B (σ.new d (.one (.bptr d 0)) [.box xs]) (a.put (some d) (.pointer (some ⟨w.heap.size,0,none⟩))) (w.alloc (.cells cs T))/\XF B w (w.alloc (.cells cs T)):=by
 have hg:=World.grownBy_alloc w (.cells cs T) none
 have iQ:=St.zV hf
 have hT:∀b k v,Tof T0 X b k->w.cell? ⟨b,k,none⟩=some v->(w.alloc (.cells cs T)).cell? ⟨b,k,none⟩=some v/\Tof T0 X b k:=by
  intro b k v hb iZ
  refine⟨?_,hb⟩
  rw[World.cell?_of_block (hg.block b (r.Tlt hb) zAE)];exact iZ
 refine⟨⟨X,fun t j=>if t=d then Hd.of (.pointer (some ⟨w.heap.size,0,none⟩))else h t j,?_⟩,XF.T5 hg r.hB⟩
 have gN:(σ.new d (.one (.bptr d 0)) [.box xs]).ob d 0= .box xs:=zA8
 have hc:∀t j,t≠d->Cpt h (fun t j=>if t=d then Hd.of (.pointer (some ⟨w.heap.size,0,none⟩))else h t j) σ.ob (σ.new d (.one (.bptr d 0)) [.box xs]).ob t j:=by
  intro t j iH
  have he:(σ.new d (.one (.bptr d 0)) [.box xs]).ob t j=σ.ob t j:=zBn
  exact Cpt.same (by simp[iH]) he
 refine r.new hf hg (fun _ hb=>hb) (fun _ hb=>.inl hb) _ _ [.box xs] (fun _=>Hd.of (.pointer (some ⟨w.heap.size,0,none⟩))) ?_ (fun j=>?_) (fun j b _ hb=>hb) (fun j b _ hb=>?_) (fun j j' b iH gE _ _=>?_)
 ·exact⟨rfl,fun cells _=>⟨w.heap.size,by simp[Hd.of],rfl⟩⟩
 ·cases j with
  |zero=>
   refine⟨w.heap.size,cs,T,rfl,?_,Vo hT hc hx iN⟩
   exact heap_alloc_new w _
  |succ j=>simp[Yt,J9]
 ·simp[Hd.of,blk]at hb;subst hb
  refine⟨Nat.le_refl _,fun dU=>?_,zAE⟩
  have:=(r.hX _ dU).2;omega
 ·have:∀j,Yt [Ob.box xs] j≠ .none->j=0:=by
   intro j hj
   cases j with
   |zero=>rfl
   |succ j=>simp[Yt]at hj
  rw[this j iH,this j' gE]
theorem Rel.s6(r:Rel T0 B σ a w X h)(hf:σ.fresh d=true)(hg:w.grownBy w' none)(v:Value)
  (ho:KN (Tof T0 X) w' v (.sl size rows)) (hb:∀b,blk v=some b->w.heap.size<=b/\b<w'.heap.size):
  J5 T0 B (σ.new d (.one (.sref d 0 0 rows.length)) [.arr false size rows]) (a.put (some d) v) w'/\XF B w w':=by
 have iQ:=St.zV hf
 refine⟨⟨X,fun t j=>if t=d then Hd.of v else h t j,?_⟩,XF.T5 hg r.hB⟩
 have gN:(σ.new d (.one (.sref d 0 0 rows.length)) [.arr false size rows]).ob d 0= .arr false size rows:=zA8
 obtain⟨e,xs,iS,hz,iN⟩:=ho
 refine r.new hf hg (fun _ hb=>hb) (fun _ hb=>.inl hb) _ _ [.arr false size rows] (fun _=>Hd.of v) ?_ (fun j=>?_) (fun j b _ hb=>hb) (fun j b _ iq=>?_) (fun j j' b iH gE _ _=>?_)
 ·refine⟨KS iS,fun q' iw ig hD=>?_,fun iw ig hD=>by rw[gN]at hD;cases hD⟩
  rw[gN]at hD;cases hD
  simp only[if_true]
  exact VR iS
 ·cases j with
  |zero=>exact⟨e,xs,iS,hz,iN⟩
  |succ j=>simp[Yt,J9]
 ·have:=hb b iq
  refine⟨this.1,fun dU=>?_,this.2⟩
  have:=(r.hX _ dU).2;omega
 ·have:∀j,Yt [Ob.arr false size rows] j≠ .none->j=0:=by
   intro j hj
   cases j with
   |zero=>rfl
   |succ j=>simp[Yt]at hj
  rw[this j iH,this j' gE]
theorem Rel.pN(r:Rel T0 B σ a w X h)(hf:σ.fresh d=true)(hg:w.grownBy w' none)(v:Value){e:TypeId}{xs:List Value}
  (iS:w'.ownsRow 0 e size v rows.length xs) (hz:∀r∈rows,r.length=size) (iN:Ke w' xs rows.flatten (fun _=>False)) (hb:∀b,blk v=some b->w.heap.size<=b/\b<w'.heap.size):
  J5 T0 B (σ.new d (.one (.sref d 0 0 rows.length)) [.arr true size rows]) (a.put (some d) v) w'/\XF B w w':=by
 have iQ:=St.zV hf
 refine⟨⟨X,fun t j=>if t=d then⟨v,fun k=>(xs[k]?).getD undef,fun b=>blk v=some b⟩else h t j,?_⟩,XF.T5 hg r.hB⟩
 have gN:(σ.new d (.one (.sref d 0 0 rows.length)) [.arr true size rows]).ob d 0= .arr true size rows:=zA8
 refine r.new hf hg (fun _ hb=>hb) (fun _ hb=>.inl hb) _ _ [.arr true size rows] (fun _=>⟨v,fun k=>(xs[k]?).getD undef,fun b=>blk v=some b⟩) ?_ (fun j=>?_) (fun j b _ hb=>hb) (fun j b _ iq=>?_) (fun j j' b iH gE _ _=>?_)
 ·refine⟨KS iS,fun q' iw ig hD=>?_,fun iw ig hD=>by rw[gN]at hD;cases hD⟩
  rw[gN]at hD;cases hD
  simp only[if_true]
  exact VR iS
 ·cases j with
  |zero=>
   obtain⟨hl,Sk,h1,h2,h3⟩:=iN
   exact⟨e,xs,iS,hz,⟨hl,Sk,h1,fun k b hk=>(h2 k b hk).elim,h3⟩,fun k x d hx _ _=>by simp[hx]⟩
  |succ j=>simp[Yt,J9]
 ·have:=hb b iq
  refine⟨this.1,fun dU=>?_,this.2⟩
  have:=(r.hX _ dU).2;omega
 ·have:∀j,Yt [Ob.arr true size rows] j≠ .none->j=0:=by
   intro j hj
   cases j with
   |zero=>rfl
   |succ j=>simp[Yt]at hj
  rw[this j iH,this j' gE]
theorem AK(r:Rel T0 B σ a w X h){T:TypeId}{row:List At}(iE:o.op= .alloc T)(hd:o.dst=some d)(hf:σ.fresh d=true)(hz:Qg P T=true)(fx:Wl P 12 T=some row)(hR:Yi d row=false)
  (hK:∀a' w',J5 T0 B (σ.new d (.one (.bptr d 0)) [.box row]) a' w'->XF B w w'->K a' w'):o.wp P a w K Q:=by
 obtain⟨i,z,hi,hzv,gT,iN⟩:=Gs hz fx
 have iv:(execOp a.eval o).run P w= .ok (.value (.pointer (some ⟨w.heap.size,0,none⟩))) (w.alloc (.cells z.cells T)):=by
  simp[execOp,iE,Instr.alloc,zeroValue,typeInfo,hi,hzv,newVar,newRow]
 unfold Oper.wp
 rw[iv,Oper.upon_value,hd]
 have:=r.si hf z.cells T row hR (iN _ _ _ _)
 exact hK _ _ this.1 this.2
theorem ui(r:Rel T0 B σ a w X h){T:TypeId}(iE:o.op= .box T x)(hd:o.dst=some d)(hf:σ.fresh d=true)(hg:gOf (look P σ T x)=true)(gk:(unc (look P σ T x)).flat=true)(hR:Yi d (unc (look P σ T x)).cells=false)
  (hK:∀a' w',J5 T0 B (σ.new d (.one (.bptr d 0)) [.box (unc (look P σ T x)).cells]) a' w'->XF B w w'->K a' w'):o.wp P a w K Q:=by
 have iN:=W5 gk (r.arg (P:=P) T x rfl hg)
 have iv:(execOp a.eval o).run P w= .ok (.value (.pointer (some ⟨w.heap.size,0,none⟩))) (w.alloc (.cells (a.eval x).cells T)):=by
  simp[execOp,iE,Instr.box,newVar,newRow]
 unfold Oper.wp
 rw[iv,Oper.upon_value,hd]
 have:=r.si hf (a.eval x).cells T _ hR iN
 exact hK _ _ this.1 this.2
end Go.Vm
