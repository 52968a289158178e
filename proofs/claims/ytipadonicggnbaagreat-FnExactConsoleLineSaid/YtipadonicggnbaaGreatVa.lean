/- An abstract machine Hb the model of Go, by value, and that it is sound: part Va. No condition. -/
import Derived.WalkKit
import Derived.Below
set_option linter.unusedVariables false
set_option linter.unusedSimpArgs false
namespace Go.Vm
theorem Y{p:Prop}(h:p:=by omega):p:=h
theorem bq{p:Prop}(h:p:=by(first|exact sg (YH (n:=2281472) (by decide))|exact sg g|exact sg w|exact sg L|exact a|exact sg (ZP.Yb g)|exact sg (ZP.Yt g)|exact sg (Zo (K:=2281472) w a (by decide))|exact sg (YC (Zo (K:=2281472) w a (by decide)))|exact sg (YG (Zo (K:=2281472) w a (by decide))))):p:=h
theorem bn{p:Prop}(h:p:=by(first|exact sg (YH (n:=2281472) (by decide))|exact sg g|exact sg w|exact sg L|exact a|exact sg (ZP.Yb g)|exact sg (ZP.Yt g)|exact sg (Zm (K:=2281472) w a (by decide))|exact sg (YC (Zm (K:=2281472) w a (by decide)))|exact sg (YG (Zm (K:=2281472) w a (by decide))))):p:=h
theorem b9{p:Prop}(h:p:=by(first|(exact⟨Nat.zero_le _,fun _ _=>trivial⟩)|(refine ZQ (n:=2322432) ?_;exact⟨Nat.zero_le _,fun _ _=>trivial⟩)|(refine ZQ (n:=2322432) (ZQ (n:=2322432-1) ?_);exact⟨Nat.zero_le _,fun _ _=>trivial⟩)|(refine ZT (n:=3) (by decide) (ZQ (ZQ (ZQ (n:=0) ?_)));exact⟨Nat.zero_le _,fun _ _=>trivial⟩)|(refine ZT (n:=2) (by decide) (ZQ (ZQ (n:=0) ?_));exact⟨Nat.zero_le _,fun _ _=>trivial⟩)|(refine ZT (n:=1) (by decide) (ZQ (n:=0) ?_);exact⟨Nat.zero_le _,fun _ _=>trivial⟩))):p:=h
theorem b8{p:Prop}(h:p:=by(first|(exact⟨Nat.zero_le _,fun _ _=>trivial⟩)|(refine Zq (n:=2326528) ?_;exact⟨Nat.zero_le _,fun _ _=>trivial⟩)|(refine Zq (n:=2326528) (Zq (n:=2326528-1) ?_);exact⟨Nat.zero_le _,fun _ _=>trivial⟩)|(refine ZT (n:=3) (by decide) (Zq (Zq (Zq (n:=0) ?_)));exact⟨Nat.zero_le _,fun _ _=>trivial⟩)|(refine ZT (n:=2) (by decide) (Zq (Zq (n:=0) ?_));exact⟨Nat.zero_le _,fun _ _=>trivial⟩)|(refine ZT (n:=1) (by decide) (Zq (n:=0) ?_);exact⟨Nat.zero_le _,fun _ _=>trivial⟩))):p:=h
theorem aq{p:Prop}(h:p:=by decide):p:=h
theorem ab{p:Prop}(h:p:=by simp):p:=h
theorem cg{p:Prop}(h:p:=by(first|exact sg g|exact sg L|exact sg (ZU.Q6 w)|exact sg (n:=2097152) (show R 2097152 (M.mk [E.a] [])from⟨⟨Nat.le_of_ble_eq_true rfl,fun x O=>by rcases List.mem_cons.1 O with rfl|O;exact ZU.YU w;cases O⟩,⟨Nat.zero_le _,fun x O=>by cases O⟩⟩)|exact(show E.a.a.length+0<=2097152 from Z7 (ZY.Yw (ZU.YU w)))|exact sg w)):p:=h
theorem cp{p:Prop}(h:p:=by(first|exact sg g|exact sg (ZU.Q6 w)|exact sg (n:=2097152) (show R 2097152 (M.mk [E.a] [])from⟨⟨Nat.le_of_ble_eq_true rfl,fun x O=>by rcases List.mem_cons.1 O with rfl|O;exact ZU.YU w;cases O⟩,⟨Nat.zero_le _,fun x O=>by cases O⟩⟩)|exact(show E.a.a.length+0<=2097152 from Z7 (ZY.Yw (ZU.YU w)))|exact sg w)):p:=h
theorem cx{p:Prop}(h:p:=by first|omega|(simp at I;simp;omega;done)|(rw[List.length_append];show _<_+2;omega)|(have z:∀v:Nat,v<7->1<=C ([1,1,1,1,3,2,2]:List Int) v:=(by decide);have z:=z J (of_decide_eq_true I|>Int.ofNat_lt.1);have y:=(Bool.or_eq_false_iff.1 h3).2;simp only[bne_eq_false_iff_eq]at y;rw[List.length_append];show _<_+2;omega)):p:=h
theorem c{p:Prop}(h:p:=by(have z:=ZO A;simp_all;done)):p:=h
theorem dp{p:Prop}(h:p:=by first|omega|(have l:=YA A E (by first|omega|(simp at*;omega));omega)|(simp only[Bool.or_eq_false_iff,decide_eq_false_iff_not]at*;omega)|(have z:=ZM B;(try simp only[]at z);omega)|(have z:=ZM B.1;(try simp only[]at z);omega)|(have z:=ZM B.2;(try simp only[]at z);omega)|(have z:=ZM B.2.1;(try simp only[]at z);omega)|(have z:=ZM B.2.2;(try simp only[]at z);omega)|(have z:=ZM B.1.2;(try simp only[]at z);omega)|(have z:=ZM B.2.2.2;(try simp only[]at z);omega)):p:=h
theorem eN{p:Prop}(h:p:=by have:=Yy A.b.a (C A.c (Zj A.c (v (C (C (C A.a (u A E).1.toNat).a (u A E).2.toNat).a.a 1)).1.a).toNat).e;first|omega|(have l:=YA A E (by first|omega|(simp at*;omega));omega)|(simp only[Bool.or_eq_false_iff,decide_eq_false_iff_not]at*;omega)|(have z:=ZM B;(try simp only[]at z);omega)|(have z:=ZM B.1;(try simp only[]at z);omega)|(have z:=ZM B.2;(try simp only[]at z);omega)|(have z:=ZM B.2.1;(try simp only[]at z);omega)|(have z:=ZM B.2.2;(try simp only[]at z);omega)|(have z:=ZM B.1.2;(try simp only[]at z);omega)|(have z:=ZM B.2.2.2;(try simp only[]at z);omega)):p:=h
theorem ex{p:Prop}(h:p:=by have:=zx A.c (v (C (C (C A.a (u A E).1.toNat).a (u A E).2.toNat).a.a 1)).1.a;first|omega|(have l:=YA A E (by first|omega|(simp at*;omega));omega)|(simp only[Bool.or_eq_false_iff,decide_eq_false_iff_not]at*;omega)|(have z:=ZM B;(try simp only[]at z);omega)|(have z:=ZM B.1;(try simp only[]at z);omega)|(have z:=ZM B.2;(try simp only[]at z);omega)|(have z:=ZM B.2.1;(try simp only[]at z);omega)|(have z:=ZM B.2.2;(try simp only[]at z);omega)|(have z:=ZM B.1.2;(try simp only[]at z);omega)|(have z:=ZM B.2.2.2;(try simp only[]at z);omega)):p:=h
theorem cu{p:Prop}(h:p:=by first|omega|(simp[B]at*;omega)|(have z:=O1 (a:=E) (by simpa using I);have y:=z.1;first|omega|((try simp at h5);(try simp at h9);first|(rw[z.2 n i3 (by simpa using h4)];omega)|(rw[z.2 O af (by simpa using h8)];omega)))):p:=h
theorem cE{p:Prop}(h:p:=by first|exact g|exact MJ (Jv E.tail) _|exact .inr (by simp at*;omega)|exact .inl ⟨.inl (of_decide_eq_true (by assumption)),by(simp at*;omega)⟩|exact .inl ⟨.inr (of_decide_eq_true (by assumption)),by(simp at*;omega)⟩):p:=h
theorem cM{p:Prop}(h:p:=by(have cc:A.b.length<=2318336:=Z7 (xs g);have d:=o;simp at d;have z:=Ks (by omega) d.1;have t:=d.2;(try have w3:IntKind.i64.wrap (G-1)=G-1:=YF (by omega) (by omega));(try have Q:W (G-1)=G-1:=w3);omega)):p:=h
theorem br{p:Prop}(h:p:=by first|omega|(simp at*;omega)):p:=h
theorem bL{p:Prop}(h:p:=by first|(simp(maxDischargeDepth:=12) [XN];omega)|(simp(maxDischargeDepth:=12) [ZT (m:=68719476736) (by decide) g];done)):p:=h
theorem b5{p:Prop}(h:p:=by first|omega|(exact List.length_pos_iff.2 (fun e=>by rw[e]at I;simp at I))|exact xL (by assumption) (by decide+kernel)):p:=h
theorem cI{p:Prop}(h:p:=by first|omega|(have l:=YA A E (by first|omega|(simp at*;omega));omega)|(simp only[Bool.or_eq_false_iff,decide_eq_false_iff_not]at*;omega)):p:=h
theorem bI{p:Prop}(h:p:=by(first|exact sg g|exact sg w|exact sg L|exact a|exact sg (Xb (n:=2277376) w))):p:=h
theorem bK{p:Prop}(h:p:=by(first|exact sg g|exact sg w|exact sg L|exact a|exact sg (Y5 (n:=2277376) w))):p:=h
theorem bu{p:Prop}(h:p:=by first|exact sg g|exact⟨⟨Sz.zero _,Sz.zero _⟩,Sz.zero _⟩):p:=h
theorem c6{p:Prop}(h:p:=by(first|exact sg g|exact sg w|exact sg L|exact sg (ZP.Yb g)|exact sg j2.2.2.2.2|exact sg (Zh j2.2.2.2.2)|exact sg (Zh (ZY.Yw (Zh (M.Y8 w)))))):p:=h
theorem eD{p:Prop}(h:p:=by(first|(exact yu (s:=(C A.a U).a) (by decide) (show R 2314240 _ by simp(maxDischargeDepth:=12) [g]) (by simp))|(refine jq ?_;exact yu (s:=(C A.a U).a) (by decide) (show R 2314240 _ by simp(maxDischargeDepth:=12) [g]) (by simp))|(exact ZT (n:=2314240) (by decide) (xs g)))):p:=h
theorem cY{p:Prop}(h:p:=by first|exact sg g|exact⟨Qm (ZT (n:=2289664) (by decide) (xb w)) (by have:=Z7 w;rw[List.length_drop];omega),Sz.zero _⟩):p:=h
theorem c2{p:Prop}(h:p:=by first|(simp(maxDischargeDepth:=12) [XN];omega)|(simp(maxDischargeDepth:=12) [ZT (m:=2322432) (by decide) g];done)):p:=h
theorem di{p:Prop}(h:p:=by first|exact g|exact⟨fun _=>by(simp at*;omega),fun h=>by cases h⟩|exact⟨fun h=>by(cases h),fun _=>by(simp at*;omega)⟩|(simp at*;omega)):p:=h
theorem eJ{p:Prop}(h:p:=by have:=zx A.c (v (C (C (C A.a (u A E).1.toNat).a (u A E).2.toNat).a.a 1)).1.a;first|omega|(have l:=YA A E (by first|omega|(simp at*;omega));omega)|(simp only[Bool.or_eq_false_iff,decide_eq_false_iff_not]at*;omega)):p:=h
theorem dm{p:Prop}(h:p:=by first|(exact ZT (n:=2310144) (by decide) (xs (an g w)))|(exact ZT (n:=2310144+1) (by decide) (zy (n:=2310144) (xs (an g w)) (xs (an g w)) (by decide)))):p:=h
theorem ad{p:Prop}(h:p:=by simp[K]):p:=h
theorem b0{p:Prop}(h:p:=by simp(maxDischargeDepth:=12) [Xr,ZT (m:=2322432) (by decide) g];try omega):p:=h
theorem b2{p:Prop}(h:p:=by first|(simp;done)|(simp[B];done)|(simp[B];omega)|(simp_all;done)):p:=h
theorem ch{p:Prop}(h:p:=by first|omega|exact xL (by assumption) (by decide+kernel)|(simp[Zw,ZJ,X8]at*;omega)):p:=h
theorem cJ{p:Prop}(h:p:=by first|exact sg g|exact⟨⟨Sz.zero _,Sz.zero _⟩,zg (by have:=Z7 w;rw[List.length_drop];omega)⟩):p:=h
theorem fR{p:Prop}(h:p:=by first|omega|(have f0:0<=(u A E).1:=(by first|omega|(simp at*;omega));have l:=YA A E f0;omega)|(have f0:0<=(u A E).1:=(by first|omega|(simp at*;omega));have l:=YA A E f0;have r:=Vh (C A.a (u A E).1.toNat) (ZL A.b.c A.b.d);omega)):p:=h
theorem YD{p:Prop}(h:p:=by have:=Z7 w;rw[List.length_drop];omega):p:=h
theorem dh{p:Prop}(h:p:=by first|exact sg g|exact ZT (n:=1048577) (by decide) (Qd (n:=1048577) (A:=E) (by have:=Xw w;omega))|exact .inr rfl|exact .inl rfl):p:=h
theorem dq{p:Prop}(h:p:=by first|exact sg g|exact ZT (n:=1048577) (by decide) (X1 (n:=1048577) (A:=E) (by have:=Xw w;omega))|exact .inr rfl|exact .inl rfl):p:=h
theorem ec{p:Prop}(h:p:=by first|exact g|exact X1 (n:=1048577) (A:=E) (by have:=Xw w;omega)|exact List.length_pos_iff.2 (fun e=>by rw[e]at I;cases I)|exact L|exact a):p:=h
theorem dd{p:Prop}(h:p:=by first|(exact ZT (n:=2314240) (by decide) (xs (an g w)))|(exact ZT (n:=2314240) (by decide) (Wb (xs (an g w)) (by decide)))):p:=h
theorem e1{p:Prop}(h:p:=by(first|exact⟨by omega,fun x O=>Nat.le_trans (T.2.2.2.2 x O) (by decide)⟩|exact⟨by omega,fun x O=>Nat.le_trans (j2.2.2.2.2.2 x O) (by decide)⟩|exact Nat.le_of_ble_eq_true rfl)):p:=h
theorem df{p:Prop}(h:p:=by first|exact sg (ZP.Yb (ZF.YW g))|exact sg (ZP.Yi (ZF.YW g))|exact⟨Nat.le_trans (xQ A) (by omega),fun _ _=>trivial⟩):p:=h
theorem a8{p:Prop}(h:p:=by decide+kernel):p:=h
theorem a5{p:Prop}(h:p:=by first|rfl|trivial):p:=h
theorem a4{p:Prop}(h:p:=by simp[Op.operands]):p:=h
theorem dL{p:Prop}(h:p:=by first|omega|(have z:=qI (E.tail.take ((W (G+1)).toNat-1)) (by simpa using X);simp at I z;simp only[X8]at*;omega)):p:=h
theorem dZ{p:Prop}(h:p:=by first|omega|(have z:=kH (E.tail.take ((W (G+1)).toNat-1)) (by simpa using X);simp at I z;simp only[X8]at*;omega)):p:=h
theorem et{p:Prop}(h:p:=by have:=Xw w;omega):p:=h
theorem eH{p:Prop}(h:p:=by first|omega|(have h0:0<=(u A (C E 0)).1:=(by simp at I;omega);have l:=YA A (C E 0) h0;omega)|(have z:=w.2 (by simpa using X);omega)):p:=h
theorem aD{p:Prop}(h:p:=by grind):p:=h
theorem bX{p:Prop}(h:p:=by first|exact sg (Zh w)|exact S0 (sg (Zh w))):p:=h
theorem b7{p:Prop}(h:p:=by first|omega|(simp;done)|(simp;omega)):p:=h
theorem fA{p:Prop}(h:p:=by first|exact sg g|exact ZT (n:=1048577) (by decide) (X1 (n:=1048577) (A:=E) (by have:=Xw w;omega))|exact List.length_pos_iff.2 (fun e=>by rw[e]at I;cases I)):p:=h
theorem h8{p:Prop}(h:p:=by have:=Ym A.b.b (C G q);first|omega|(have z:=zP (A:=A) (E:=G) (j:=U) (by have z1:=I;simp at z1;simp[z1]) (by omega);omega)|(have z:=zP (A:=A) (E:=G) (j:=q) (by have z1:=I;simp at z1;simp[z1]) (by omega);omega)):p:=h
theorem ig{p:Prop}(h:p:=by have:=Ym A.b.b (C G U);first|omega|(have z:=zP (A:=A) (E:=G) (j:=U) (by have z1:=I;simp at z1;simp[z1]) (by omega);omega)|(have z:=zP (A:=A) (E:=G) (j:=q) (by have z1:=I;simp at z1;simp[z1]) (by omega);omega)):p:=h
theorem ce{p:Prop}(h:p:=by simp(maxDischargeDepth:=12) [XN];try omega):p:=h
theorem i5{p:Prop}(h:p:=by first|exact sg (ZF.YW g)|exact sg (Zh (ZE.YO (Zh (ZF.Zz g))))|exact ZT (n:=1048578) (by decide) (ju (n:=1048576) (A:=C (C A.a (u A (C E 0)).1.toNat).a (u A (C E 0)).2.toNat) (E:=[C E 1]) (Zh (ZE.YO (Zh (ZF.Zz g)))))):p:=h
theorem iq{p:Prop}(h:p:=by assumption):p:=h
theorem eu{p:Prop}(h:p:=by(first|exact⟨by omega,fun x O=>Nat.le_trans (T.2.2.2.2 x O) (by decide)⟩|exact Nat.le_of_ble_eq_true rfl)):p:=h
theorem hs{p:Prop}(h:p:=by(have d:E.b.length<=2306048:=Z7 (xs w);(try simp[ZJ]at q1);have c:=IZ E.b.length (by omega);first|omega|((try rw[c]at q1);(try rw[c]at q2);have w3:W (G+1)=G+1:=YF (by omega) (by omega);omega))):p:=h
theorem gH{p:Prop}(h:p:=by(have d:E.b.length<=2314240:=Z7 (xs w);(try simp[ZJ]at q1);have c:=IZ E.b.length (by omega);first|omega|((try rw[c]at q1);(try rw[c]at q2);have w3:W (G+1)=G+1:=YF (by omega) (by omega);omega))):p:=h
theorem ep{p:Prop}(h:p:=by first|exact sg g|exact⟨⟨Sz.zero _,Sz.zero _⟩,xi (by have:=Z7 w;rw[List.length_drop];omega)⟩):p:=h
theorem fm{p:Prop}(h:p:=by first|exact ZT (n:=101) (by decide) (TD _ _ _)|exact ZT (n:=1048577) (by decide) (Ty (Zh (ZF.Zz g)))|exact sg (yE (ZF.YW g))|exact sg L):p:=h
theorem eQ{p:Prop}(h:p:=by have z1:=I;simp at z1;simp[z1]):p:=h
theorem a0{p:Prop}(h:p:=by simp;omega):p:=h
theorem ct{p:Prop}(h:p:=by first|exact sg g|exact a|exact e):p:=h
theorem bx{p:Prop}(h:p:=by show cn A<=_;omega):p:=h
theorem iA{p:Prop}(h:p:=by(first|(have d:=Pl (l:=(C A.a J).b) (i:=q) (by first|omega|(simp at*;omega));omega)|(have d:=Nd (l:=A.b) (i:=j) (by first|omega|(simp at*;omega));omega))):p:=h
theorem iP{p:Prop}(h:p:=by(first|(have d:=Pl (l:=(C A.a U).b) (i:=n) (by first|omega|(simp at*;omega));omega)|(have d:=Nd (l:=A.b) (i:=O) (by first|omega|(simp at*;omega));omega))):p:=h
theorem fN{p:Prop}(h:p:=by first|exact sg g|exact ZT (n:=1048577) (by decide) (Qd (n:=1048577) (A:=E) (by have:=Xw w;omega))|exact O5 E):p:=h
theorem fI{p:Prop}(h:p:=by first|exact sg g|exact ZT (n:=1048577) (by decide) (X1 (n:=1048577) (A:=E) (by have:=Xw w;omega))|exact Pm E):p:=h
theorem cB{p:Prop}(h:p:=by have:=Ym A.b.b (C G U);exact il):p:=h
theorem hn{p:Prop}(h:p:=by first|omega|(have c:=Int.tmod_eq_emod_of_nonneg (b:=2) (show 0<=U by omega);(try simp only[X8,show ∀x,IntKind.i64.wrap x=W x from fun _=>rfl]at*);(try simp at*);omega)):p:=h
theorem g0{p:Prop}(h:p:=by first|omega|(have c:=Int.tmod_eq_emod_of_nonneg (b:=2) (show 0<=J by omega);(try simp only[X8,show ∀x,IntKind.i64.wrap x=W x from fun _=>rfl]at*);(try simp at*);omega)):p:=h
theorem ck{p:Prop}(h:p:=by first|omega|(simp;omega)):p:=h
theorem dR{p:Prop}(h:p:=by first|omega|(have z:=Qr A E (by simp_all);(try simp at*);omega)):p:=h
theorem fB{p:Prop}(h:p:=by first|omega|exact he w I|(rcases L with⟨e|e,_⟩|_;(rw[e]at X;cases X);(rw[e]at h3;cases h3);omega)):p:=h
theorem dr{p:Prop}(h:p:=by(have z:=Qr A E (by simp_all);(try simp at*);omega)):p:=h
theorem eC{p:Prop}(h:p:=by first|exact sg g|exact sg w|exact sg L|exact sg (Zh (ZY.Yw (Zh (M.Y8 w))))):p:=h
theorem eb{p:Prop}(h:p:=by have:=jJ ds k Q M (by simpa using h);simpa[Yg,XG]using this):p:=h
theorem e0{p:Prop}(h:p:=by first|omega|(have l:=YA A E (by first|omega|(simp at q1;omega));omega)):p:=h
theorem gs{p:Prop}(h:p:=by first|(have o:=QN A;have d:=Z7 (ZP.Yi (ZF.YW g));simp[XN];omega)|(refine ZT (n:=2314240) (by decide) ?_;simp(maxDischargeDepth:=12) [g];done)):p:=h
theorem it{p:Prop}(h:p:=by first|(have o:=QN A;have d:=Z7 (ZP.Yi (ZF.YW g));simp[XN];omega)|(refine ZT (n:=2310144) (by decide) ?_;simp(maxDischargeDepth:=12) [g];done)):p:=h
theorem hJ{p:Prop}(h:p:=by first|(simp(maxDischargeDepth:=12) [XN];omega)|(simp(maxDischargeDepth:=12) [ZT (m:=2330624) (by decide) g,ZT (m:=2330624) (by decide) w];done)):p:=h
theorem aX{p:Prop}(h:p:=by cases h):p:=h
theorem e6{p:Prop}(h:p:=by first|omega|((try simp only[X8,show ∀x,IntKind.i64.wrap x=W x from fun _=>rfl]at*);omega)):p:=h
theorem h1{p:Prop}(h:p:=by first|exact sg (ZF.YW g)|exact sg (Zh (ZE.YO (Zh (ZF.Zz g))))|exact ZT (n:=1048577) (by decide) (xP (n:=1048576) (Zh (ZE.YO (Zh (ZF.Zz g)))))):p:=h
theorem cU{p:Prop}(h:p:=by simp at*;omega):p:=h
theorem dD{p:Prop}(h:p:=by have:=Wo ds k (by simpa[Yg,XG]using h);simpa using this):p:=h
theorem eF{p:Prop}(h:p:=by first|(simp;done)|(simp;done)|(simp;omega)|(simp_all;done)):p:=h
theorem iG{p:Prop}(h:p:=by first|(have Z:=I;simp at Z;have hl:=T.2.2.2.1 Z.2;exact ZT (n:=2306048+U) (by omega) T.2.2.2.2)|exact sg (Zh (XY.YO w))):p:=h
theorem bs{p:Prop}(h:p:=by simp[At.ref]):p:=h
theorem es{p:Prop}(h:p:=by first|exact sg w|exact ZT (n:=2301952) (by decide) (jw g L)):p:=h
theorem cL{p:Prop}(h:p:=by first|exact sg g|exact sg w):p:=h
theorem fF{p:Prop}(h:p:=by(have z:=Ef I (v:=U) N;first|omega|(have y:=z.2.2.2 (by simpa using h3);omega))):p:=h
theorem fJ{p:Prop}(h:p:=by first|exact ZT (n:=2318336+1) (by decide) (kZ g)|exact sg (ZU.Q6 g)|exact sg w):p:=h
theorem cO{p:Prop}(h:p:=by(first|exact sg g|exact w)):p:=h
theorem iv{p:Prop}(h:p:=by first|(have hl:=Uy E G (by simp at I;exact I.1);exact ZT (n:=2306048+J) (by omega) T.2.2.2)|exact sg (Zh (XY.YO w))):p:=h
theorem bP{p:Prop}(h:p:=by(simp at I;omega)):p:=h
theorem g1{p:Prop}(h:p:=by first|(simp(maxDischargeDepth:=12) [XN];omega)|(simp(maxDischargeDepth:=12) [ZT (m:=2318336) (by decide) g];done)):p:=h
theorem bp{p:Prop}(h:p:=by rw[h];rfl):p:=h
theorem eU{p:Prop}(h:p:=by simpa using X):p:=h
theorem iN{p:Prop}(h:p:=by intro i h;(have z:i=0\/i=1\/i=2\/i=3\/i=4:=by omega);rcases z with rfl|rfl|rfl|rfl|rfl<;>rfl):p:=h
theorem fY{p:Prop}(h:p:=by first|omega|(simp only[Bool.and_eq_true,decide_eq_true_eq,ZJ]at*;omega)):p:=h
theorem bv{p:Prop}(h:p:=by rw[ho];simp):p:=h
theorem hF{p:Prop}(h:p:=by first|omega|(have f0:0<=(u A E).1:=(by first|omega|(simp at*;omega));have l:=YA A E f0;omega)):p:=h
theorem gN{p:Prop}(h:p:=by simp(maxDischargeDepth:=12) [Ur,ZT (m:=2318336) (by decide) g,ZT (m:=2318336) (by decide) w];try omega):p:=h
theorem er{p:Prop}(h:p:=by first|exact sg (ZF.YW g)|exact sg (Zh (ZF.Zz g))):p:=h
theorem gm{p:Prop}(h:p:=by first|omega|(simp at q1;omega)):p:=h
theorem h4{p:Prop}(h:p:=by(have q:=Z7 (show R 2310144 G from w);exact ZT (n:=2310144) (by decide) ⟨by omega,T.2.2.2.2⟩)):p:=h
theorem dc{p:Prop}(h:p:=by have:=Ym A E.a;exact il):p:=h
theorem gV{p:Prop}(h:p:=by rw[List.drop_zero];simp only[List.length_nil];exact Nat.le_trans (by rw[Nat.zero_add];exact hp) hk):p:=h
theorem bG{p:Prop}(h:p:=by simp[K,B]):p:=h
theorem bJ{p:Prop}(h:p:=by simp[K,w2]):p:=h
theorem e8{p:Prop}(h:p:=by simpa using I):p:=h
theorem ee{p:Prop}(h:p:=by first|exact g|exact w|exact L|exact a):p:=h
theorem eS{p:Prop}(h:p:=by have:=(List.getElem?_eq_some_iff.1 hq).1;omega):p:=h
theorem ek{p:Prop}(h:p:=by have:=W _ _ _ ht e;simpa[At.ref]using this):p:=h
theorem h6{p:Prop}(h:p:=by(first|(rw[<-H.h,zL];exact sg (Rf g w (by decide)))|(rw[<-H.h,zL];exact L))):p:=h
theorem iZ{p:Prop}(h:p:=by(first|(rw[<-H.h,yW];exact sg (Rf g w (by decide)))|(rw[<-H.h,yW];exact L))):p:=h
theorem eY{p:Prop}(h:p:=by simp only[true_and,and_true];exact Iff.rfl):p:=h
theorem eA{p:Prop}(h:p:=by simp(disch:=omega) [F,Go.Mo.wz,Go.Mo.ng]):p:=h
theorem bU{p:Prop}(h:p:=by simpa using Z):p:=h
theorem fX{p:Prop}(h:p:=by simp[List.getD_eq_getElem?_getD,List.getElem?_eq_getElem hi]):p:=h
theorem dk{p:Prop}(h:p:=by simp at hy⊢;exact .inr hy):p:=h
theorem c7{p:Prop}(h:p:=by have:=zM A E;exact il):p:=h
theorem c3{p:Prop}(h:p:=by simpa using h):p:=h
theorem eM{p:Prop}(h:p:=by have:=Yy A.a (C A.b U).c;exact il):p:=h
theorem hw{p:Prop}(h:p:=by have:=Yy A.b.a (C A.b.b (ZN A.b.b (C E J)).toNat).c;exact il):p:=h
theorem cc{p:Prop}(h:p:=by simpa using hk):p:=h
theorem cN{p:Prop}(h:p:=by intro q hq;cases hq):p:=h
theorem gX{p:Prop}(h:p:=by(have h0:0<=(u A E).1:=(by simp at I;omega);have l:=YA A E h0;omega)):p:=h
theorem gp{p:Prop}(h:p:=by injection aD with aD;injection aD with aD;injection aD with aD;exact aD.symm):p:=h
theorem hc{p:Prop}(h:p:=by simp(maxDischargeDepth:=12) [Tj,XN,ZT (m:=2330624) (by decide) g];try omega):p:=h
theorem hv{p:Prop}(h:p:=by simp(maxDischargeDepth:=12) [Tj,XN,ZT (m:=2301952) (by decide) g];try omega):p:=h
theorem dw{p:Prop}(h:p:=by simp_all):p:=h
theorem c8{p:Prop}(h:p:=by simp[Region.wanted,hg]):p:=h
theorem fs{p:Prop}(h:p:=by rw[<-Nat.succ_mul];exact Nat.mul_le_mul_right _ hi):p:=h
theorem fo{p:Prop}(h:p:=by rw[<-Nat.add_mul];exact Nat.mul_le_mul_right _ aF):p:=h
theorem gb{p:Prop}(h:p:=by(have z:=Vq (A:=E) (by simpa using I);omega)):p:=h
theorem du{p:Prop}(h:p:=by rw[U.xG];simp[ag,XG]):p:=h
theorem dC{p:Prop}(h:p:=by simp[Program.bytesOf,hi]):p:=h
theorem eG{p:Prop}(h:p:=by cases‹List (DataW A)›<;>exact h.elim):p:=h
theorem ga{p:Prop}(h:p:=by rw[<-List.flatten_append,List.take_append_drop]):p:=h
theorem hx{p:Prop}(h:p:=by rw[ku (by first|omega|(simp;omega))];first|omega|(simp;omega)):p:=h
theorem cl{p:Prop}(h:p:=by rw[ha];simp):p:=h
theorem eR{p:Prop}(h:p:=by cases qs<;>simp[Yg,Xi,kY u _ ds]):p:=h
theorem eT{p:Prop}(h:p:=by rw[Nat.add_mul,Nat.add_mul];omega):p:=h
theorem c5{p:Prop}(h:p:=by simp[K,w2,B]):p:=h
theorem WF{p:Prop}(h:p:=by simpa using h4):p:=h
theorem zCf{p:Prop}(h:p:=by simpa using h8):p:=h
theorem dH{p:Prop}(h:p:=by rw[List.length_take];omega):p:=h
theorem ej{p:Prop}(h:p:=by first|exact sg g|exact sg L):p:=h
theorem iR{p:Prop}(h:p:=by first|exact sg j2.2.2.2.2|exact sg (Zh (ZY.Yw (Zh (M.Y8 w))))):p:=h
theorem eg{p:Prop}(h:p:=by simp[List.getElem?_eq_getElem hi]):p:=h
theorem cA{p:Prop}(h:p:=by cases h;rfl):p:=h
theorem hO{p:Prop}(h:p:=by cases h;exact⟨Nat.zero_le _,fun x O=>(by cases O)⟩):p:=h
theorem da{p:Prop}(h:p:=by rw[QX];exact h):p:=h
theorem dN{p:Prop}(h:p:=by simp[Region.wanted,q]):p:=h
theorem cd{p:Prop}(h:p:=by simp[yZ]):p:=h
theorem fn{p:Prop}(h:p:=by apply Array.toList_inj.1;simpa using ha):p:=h
theorem dQ{p:Prop}(h:p:=by cases h;exact Nat.zero_le _):p:=h
theorem XQ{p:Prop}(h:p:=by simpa[Yg,XG]using h):p:=h
theorem fQ{p:Prop}(h:p:=by rw[U.xG,if_neg (fun hh=>W hh.1)]):p:=h
theorem ez{p:Prop}(h:p:=by first|exact g|exact a):p:=h
theorem dM{p:Prop}(h:p:=by simpa[At.ref]using O):p:=h
theorem eh{p:Prop}(h:p:=by unfold maxLen at hm;omega):p:=h
theorem fG{p:Prop}(h:p:=by rw[<-Array.length_toList,R,aO]):p:=h
theorem ft{p:Prop}(h:p:=by cases h;exact Nat.le_add_right _ _):p:=h
theorem dy{p:Prop}(h:p:=by exact sg (xb w)):p:=h
theorem cy{p:Prop}(h:p:=by rw[hd,e]):p:=h
theorem e4{p:Prop}(h:p:=by have:=Yy A E;exact il):p:=h
theorem cv{p:Prop}(h:p:=by simp[Qg]):p:=h
theorem e3{p:Prop}(h:p:=by cases qs<;>exact hf):p:=h
theorem dU{p:Prop}(h:p:=by simpa[XG]using h):p:=h
theorem dY{p:Prop}(h:p:=by simp[Yg,XG]at h):p:=h
theorem cz{p:Prop}(h:p:=by simp at h):p:=h
theorem gE{p:Prop}(h:p:=by simpa using h3):p:=h
theorem cW{p:Prop}(h:p:=by cases O):p:=h
theorem dI{p:Prop}(h:p:=by simp[xh,A]):p:=h
theorem bQ{p:Prop}(h:p:=by(intro z;simp;(repeat(with_reducible refine Go.Mo.sd ?_));exact z.h)):p:=h
theorem cq{p:Prop}(h:p:=by(intro z;simp[B,Go.Vm.ZG];(repeat(with_reducible refine Go.Mo.dt ?_));exact z.h)):p:=h
theorem cm{p:Prop}(h:p:=by((try dsimp only);first|omega|(simp at*;omega))):p:=h
theorem cw{p:Prop}(h:p:=by(intro h;(try simp only[beq_true,beq_false,Bool.not_eq_true',Bool.not_eq_false',Bool.true_and,Bool.and_true]at h);exact h)):p:=h
theorem dV{p:Prop}(h:p:=by(intro F;exact Qu (by simp[F]))):p:=h
theorem fq{p:Prop}(h:p:=by(intro F z;simp[F,Go.Vm.ZG];(repeat(with_reducible refine Go.Mo.sd ?_));exact z.h)):p:=h
variable{v an u:Value}{w w':World}{B ad S X':Nat->Prop}{P:Program}{o:Oper}{d Q t n f i j b aw ae ah:Nat}{x y:Operand}{a:Act}{vs C:List Value}{k X:IntKind}{op:BinOp}{c:Call}{parts:Array (Nat×Operand)}{lo hi:Option Operand}{aA:Option Addr}{A:BoundsCode}{p:Bool}
inductive D where
 |int (k:IntKind) (n:Int)
 |bool (b:Bool)
 |str (s:ByteArray)
 |sl (Q:Nat) (M:List (List D))
 |unk
 deriving Inhabited
variable{M H s:List (List D)}{ds:List D}
def D.scalar:D->Bool
 |.sl _ _=>false
 |_=>true
abbrev CS:=Nat->Nat->Prop
variable{T T0 T':CS}
inductive Rd(T:CS)(w:World):Value->D->Prop
 |int (k:IntKind) (n:Int):Rd T w (.int k n) (.int k n)
 |bool (b:Bool):Rd T w (.bool b) (.bool b)
 |str (s:ByteArray):Rd T w (.string s) (.str s)
 |unk (v:Value) (h:v.oneCell'=true):Rd T w v .unk
 |nil (Q:Nat):Rd T w (.slice none 0 0) (.sl Q [])
 |sl (a:Addr) (ae ah Q:Nat) (M:List (List D)) (g:Nat->Value)
   (hl:M.length=ae) (Z:ae<=ah) (hm:ah<=maxLen) (hz:∀r∈M,r.length=Q) (hs:M.flatten≠[]->a.spot=none)
   (hg:∀k d,M.flatten[k]?=some d->w.cell? ⟨a.block,a.off+k,none⟩=some (g k)/\T a.block (a.off+k))
   (hr:∀k d,M.flatten[k]?=some d->Rd T w (g k) d):Rd T w (.slice (some a) ae ah) (.sl Q M)
theorem Rd.mono(hT:∀b k v,T b k->w.cell? ⟨b,k,none⟩=some v->w'.cell? ⟨b,k,none⟩=some v/\T' b k)
  {d:D} (h:Rd T w v d):Rd T' w' v d:=by
 induction h with
 |int k n=>exact .int k n
 |bool b=>exact .bool b
 |str s=>exact .str s
 |unk v h=>exact .unk v h
 |nil s=>exact .nil s
 |sl a ae ah Q M g hl Z hm hz hs hg hr ih=>exact .sl a ae ah Q M g hl Z hm hz hs (fun k d hk=>hT _ _ _ (hg k d hk).2 (hg k d hk).1) (fun k d hk=>ih k d hk)
theorem Rd.Qe{d:D}(h:Rd T w v d):v.oneCell'=true:=by cases h<;>first|rfl|assumption
inductive At where
 |any
 |d (x:D)
 |nil (Q:Nat)
 |O (t j lo ae:Nat)
 |ptr (t j i c:Nat)
 |Z (t c:Nat)
 |fn (f t:Nat)
 |am (r:List D) (c:Nat)
 |ac (t j i c:Nat) (o:Option Nat)
 deriving Inhabited
inductive V where
 |any
 |one (x:At)
 |agg (xs:List At)
 |Z (xs:List V)
 |O (g:Bool) (x:V)
 |fix (v:Value) (x:V)
 deriving Inhabited
inductive Ob where
 |none
 |box (G:List At)
 |arr (q:Bool) (Q:Nat) (M:List (List D))
 |lit (Q:Nat) (M:List (List At))
 deriving Inhabited
variable{F:Nat->Nat->Ob}
structure Hd where
 v:Value
 n:Nat->Value
 u:Nat->Prop
variable{h h':Nat->Nat->Hd}{hd:Hd}
abbrev bD:=V×List Ob
abbrev U:=List bD
variable{σ:U}
def U.get(σ:U)(t:Nat):V:=match σ[t]? with|some e=>e.1|none=>.any
def XG(aa:List Ob)(j:Nat):Ob:=match aa[j]? with|some o=>o|none=>.none
def U.ob(σ:U)(t j:Nat):Ob:=match σ[t]? with|some e=>XG e.2 j|none=>.none
def U.put:U->Nat->V->U
 |[],_,_=>[]
 |e::σ,0,v=>(v,e.2)::σ
 |e::σ,t+1,v=>e::U.put σ t v
def U.Yj:U->Nat->Nat->Ob->U
 |[],_,_,_=>[]
 |e::σ,0,j,o=>(e.1,e.2.set j o)::σ
 |e::σ,t+1,j,o=>e::U.Yj σ t j o
def U.new:U->Nat->V->List Ob->U
 |[],_,_,_=>[]
 |_::σ,0,v,aa=>(v,aa)::σ
 |e::σ,t+1,v,aa=>e::U.new σ t v aa
theorem U.K9(σ:U)(t:Nat)(v:V):(σ.put t v).length=σ.length:=by
 induction σ generalizing t with
 |nil=>rfl
 |cons e σ ih=>cases t<;>simp[U.put,ih]
theorem U.Qs(σ:U)(t j:Nat)(o:Ob):(σ.Yj t j o).length=σ.length:=by
 induction σ generalizing t with
 |nil=>rfl
 |cons e σ ih=>cases t<;>simp[U.Yj,ih]
theorem U.Rz(σ:U)(t:Nat)(v:V)(aa:List Ob):(σ.new t v aa).length=σ.length:=by
 induction σ generalizing t with
 |nil=>rfl
 |cons e σ ih=>cases t<;>simp[U.new,ih]
theorem U.qM(σ:U)(t:Nat)(v:V)(u:Nat):(σ.put t v).get u=if u=t/\t<σ.length then v else σ.get u:=by
 induction σ generalizing t u with
 |nil=>simp[U.put]
 |cons e σ ih=>
  cases t with
  |zero=>cases u<;>simp[U.put,U.get]
  |succ t=>cases u with
   |zero=>simp[U.put,U.get]
   |succ u=>have:=ih t u;simp only[U.get,U.put]at this⊢;simpa using this
theorem U.Kr(σ:U)(t:Nat)(v:V):(σ.put t v).ob=σ.ob:=by
 funext u j;induction σ generalizing t u with
 |nil=>simp[U.put]
 |cons e σ ih=>
  cases t with
  |zero=>cases u<;>simp[U.put,U.ob]
  |succ t=>cases u with
   |zero=>simp[U.put,U.ob]
   |succ u=>have:=ih t u;simp only[U.ob,U.put]at this⊢;simpa using this
theorem U.JI(σ:U)(t j:Nat)(o:Ob)(u:Nat):(σ.Yj t j o).get u=σ.get u:=by
 induction σ generalizing t u with
 |nil=>simp[U.Yj]
 |cons e σ ih=>
  cases t with
  |zero=>cases u<;>simp[U.Yj,U.get]
  |succ t=>cases u with
   |zero=>simp[U.Yj,U.get]
   |succ u=>have:=ih t u;simp only[U.get,U.Yj]at this⊢;simpa using this
theorem l8(aa:List Ob)(j:Nat)(o:Ob)(i:Nat):XG (aa.set j o) i=if i=j/\j<aa.length then o else XG aa i:=by
 unfold XG;by_cases h:j=i
 ·subst h;by_cases X:j<aa.length
  ·simp[X]
  ·simp[X]
 ·simp[h,Ne.symm h]
theorem U.Kg(σ:U)(t j:Nat)(o:Ob)(u i:Nat)(hl:σ.ob t j≠ .none):(σ.Yj t j o).ob u i=if u=t/\i=j then o else σ.ob u i:=by
 induction σ generalizing t u with
 |nil=>simp[U.ob]at hl
 |cons e σ ih=>
  cases t with
  |zero=>
   have hj:j<e.2.length:=by
    simp only[U.ob,XG]at hl;rcases Nat.lt_or_ge j e.2.length with h|h
    ·exact h
    ·simp[List.getElem?_eq_none h]at hl
   cases u with
   |zero=>simp[U.Yj,U.ob,l8,hj]
   |succ u=>simp[U.Yj,U.ob]
  |succ t=>cases u with
   |zero=>simp[U.Yj,U.ob]
   |succ u=>have:=ih t u (by simpa[U.ob]using hl);simp only[U.ob,U.Yj]at this⊢;simpa using this
theorem U.P7(σ:U)(t:Nat)(v:V)(aa:List Ob)(u:Nat):(σ.new t v aa).get u=if u=t/\t<σ.length then v else σ.get u:=by
 induction σ generalizing t u with
 |nil=>simp[U.new]
 |cons e σ ih=>
  cases t with
  |zero=>cases u<;>simp[U.new,U.get]
  |succ t=>cases u with
   |zero=>simp[U.new,U.get]
   |succ u=>have:=ih t u;simp only[U.get,U.new]at this⊢;simpa using this
theorem U.xG(σ:U)(t:Nat)(v:V)(aa:List Ob)(u j:Nat):(σ.new t v aa).ob u j=if u=t/\t<σ.length then XG aa j else σ.ob u j:=by
 induction σ generalizing t u with
 |nil=>simp[U.new]
 |cons e σ ih=>
  cases t with
  |zero=>cases u<;>simp[U.new,U.ob]
  |succ t=>cases u with
   |zero=>simp[U.new,U.ob]
   |succ u=>have:=ih t u;simp only[U.ob,U.new]at this⊢;simpa using this
def ib(h:Value)(ae:Nat):Value:=match h with|.slice b _ c=>.slice b ae c|v=>v
def fZ(h:Value)(Q n lo ae:Nat)(v:Value):Prop:=
 lo+ae<=n/\(ae=n->lo=0->v=h)/\(lo=0->v=ib h ae)/\∃aA ah,v= .slice aA ae ah/\ae<=ah/\ah<=maxLen/\(aA=none->ah=0)/\(0<ae->∃b aE,h= .slice (some ⟨b,0,none⟩) n aE/\aA=some ⟨b,lo*Q,none⟩)
def A2:Option Nat->Value->Value->Prop
 |none,x,v=>v=x
 |some k,x,v=>∃b n ah,x= .slice (some ⟨b,0,none⟩) n ah/\v= .pointer (some ⟨b,k,none⟩)
def Ys(T:CS)(h:Nat->Nat->Hd)(ai:Nat->Nat->Ob)(w:World):At->Value->Prop
 |.any,v=>v.oneCell'=true
 |.d x,v=>Rd T w v x
 |.nil _,v=>v= .slice none 0 0
 |.O t j lo ae,v=>v.oneCell'=true/\(∀q Q M,ai t j= .arr q Q M->fZ (h t j).v Q M.length lo ae v)/\(∀Q M,ai t j= .lit Q M->fZ (h t j).v Q M.length lo ae v)
 |.ptr t j i c,v=>v.oneCell'=true/\(∀q Q M,ai t j= .arr q Q M->∃b n ah,(h t j).v= .slice (some ⟨b,0,none⟩) n ah/\v= .pointer (some ⟨b,i*Q+c,none⟩))
 |.Z t c,v=>v.oneCell'=true/\∀G,ai t 0= .box G->∃b,(h t 0).v= .pointer (some ⟨b,0,none⟩)/\v= .pointer (some ⟨b,c,none⟩)
 |.fn f t,v=>v.oneCell'=true/\∀G,ai t 0= .box G->∃b,(h t 0).v= .pointer (some ⟨b,0,none⟩)/\v= .func (.func f) #[] #[.pointer (some ⟨b,0,none⟩)]
 |.am r c,v=>∃b aw,∃g:Nat->Value,v= .pointer (some ⟨b,aw+c,none⟩)/\∀k d,r[k]?=some d->w.cell? ⟨b,aw+k,none⟩=some (g k)/\T b (aw+k)/\Rd T w (g k) d
 |.ac t j i c o,v=>v.oneCell'=true/\∀Q M,ai t j= .arr true Q M->A2 o ((h t j).n (i*Q+c)) v
theorem Ys.Qe{ai:Nat->Nat->Ob}{x:At}(r:Ys T h ai w x v):v.oneCell'=true:=by
 cases x with
 |any=>exact r
 |d x=>exact Rd.Qe r
 |nil s=>cases r;rfl
 |O=>exact r.1
 |ptr=>exact r.1
 |Z=>exact r.1
 |fn=>exact r.1
 |ac=>exact r.1
 |am r' c=>obtain⟨b,aw,g,rfl,_⟩:=r;rfl
inductive Yn{α β:Type}(R:α->β->Prop):List α->List β->Prop
 |nil:Yn R [] []
 |cons {a b l m}:R a b->Yn R l m->Yn R (a::l) (b::m)
theorem Yn.imp{α β:Type}{R S:α->β->Prop}(h:∀a b,R a b->S a b){l:List α}{m:List β}(x:Yn R l m):Yn S l m:=by
 induction x with
 |nil=>exact .nil
 |cons r _ ih=>exact .cons (h _ _ r) ih
theorem Yn.length{α β:Type}{R:α->β->Prop}{l:List α}{m:List β}(x:Yn R l m):l.length=m.length:=by
 induction x with
 |nil=>rfl
 |cons r _ ih=>simp[ih]
theorem Yn.get{α β:Type}{R:α->β->Prop}{l:List α}{m:List β}(x:Yn R l m):∀(i:Nat)(a:α),l[i]?=some a->∃b,m[i]?=some b/\R a b:=by
 induction x with
 |nil=>intro i a h;simp at h
 |cons r _ ih=>
  intro i a h;cases i with
  |zero=>simp at h;subst h;exact⟨_,ab,r⟩
  |succ i=>simpa using ih i a aD
theorem Yn.get'{α β:Type}{R:α->β->Prop}{l:List α}{m:List β}(x:Yn R l m):∀(i:Nat)(b:β),m[i]?=some b->∃a,l[i]?=some a/\R a b:=by
 induction x with
 |nil=>intro i a h;simp at h
 |cons r _ ih=>
  intro i a h;cases i with
  |zero=>simp at h;subst h;exact⟨_,ab,r⟩
  |succ i=>simpa using ih i a aD
theorem Yn.ka{α β:Type}{R:α->β->Prop}{l:List α}{m:List β}(hl:l.length=m.length)(h:∀(i:Nat)(a:α)(b:β),l[i]?=some a->m[i]?=some b->R a b):Yn R l m:=by
 induction l generalizing m with
 |nil=>cases m with
  |nil=>exact .nil
  |cons b m=>simp at hl
 |cons a l ih=>cases m with
  |nil=>simp at hl
  |cons b m=>exact .cons (h 0 a b rfl rfl) (ih aD (fun i a b ha J=>h (i+1) a b aD aD))
theorem Yn.append{α β:Type}{R:α->β->Prop}{l g:List α}{m q:List β}(x:Yn R l m)(y:Yn R g q):Yn R (l++g) (m++q):=by
 induction x with
 |nil=>exact y
 |cons r _ ih=>exact .cons r ih
theorem Yn.take{α β:Type}{R:α->β->Prop}{l:List α}{m:List β}(x:Yn R l m)(n:Nat):Yn R (l.take n) (m.take n):=by
 induction x generalizing n with
 |nil=>simpa using Yn.nil
 |cons r _ ih=>cases n with
  |zero=>simpa using Yn.nil
  |succ n=>simpa using Yn.cons r (ih n)
theorem Yn.drop{α β:Type}{R:α->β->Prop}{l:List α}{m:List β}(x:Yn R l m)(n:Nat):Yn R (l.drop n) (m.drop n):=by
 induction x generalizing n with
 |nil=>simpa using Yn.nil
 |cons r x ih=>cases n with
  |zero=>simpa using Yn.cons r x
  |succ n=>simpa using ih n
theorem Yn.set{α β:Type}{R:α->β->Prop}{l:List α}{m:List β}(x:Yn R l m)(i:Nat){a:α}{b:β}(r:R a b):Yn R (l.set i a) (m.set i b):=by
 induction x generalizing i with
 |nil=>simpa using Yn.nil
 |cons r' x ih=>cases i with
  |zero=>simpa using Yn.cons r x
  |succ i=>simpa using Yn.cons r' (ih i)
theorem Yn.mem{α β:Type}{R:α->β->Prop}{l:List α}{m:List β}(x:Yn R l m){b:β}(h:b∈m):∃a,a∈l/\R a b:=by obtain⟨i,hi⟩:=List.mem_iff_getElem?.1 h;obtain⟨a,ha,r⟩:=x.get' i b hi;grind
def y9(T:CS)(h:Nat->Nat->Hd)(ai:Nat->Nat->Ob)(w:World):V->Value->Prop
 |.any,_=>True
 |.one x,v=>Ys T h ai w x v
 |.agg xs,v=>∃C:Array Value,v= .agg C/\Yn (Ys T h ai w) xs C.toList
 |.Z _,_=>False
 |.O _ _,_=>False
 |.fix _ _,_=>False
def J8(T:CS)(h:Nat->Nat->Hd)(ai:Nat->Nat->Ob)(w:World):V->Value->Prop
 |.Z xs,v=>∃vs:Array Value,v= .tuple vs/\Yn (y9 T h ai w) xs vs.toList
 |.O g x,v=>(g=true->y9 T h ai w x v)/\(g=false->v=undef)
 |.any,_=>True
 |.one x,v=>Ys T h ai w x v
 |.agg xs,v=>y9 T h ai w (.agg xs) v
 |.fix u x,v=>v=u/\y9 T h ai w x v
theorem y9.up{ai:Nat->Nat->Ob}{x:V}(r:y9 T h ai w x v):J8 T h ai w x v:=by cases x<;>first|exact r|exact r.elim
def blk:Value->Option Nat
 |.slice (some a) _ _=>some a.block
 |.pointer (some a)=>some a.block
 |_=>none
def Hd.of(v:Value):Hd:=⟨v,fun _=>undef,fun b=>blk v=some b⟩
inductive aZ(w:World):Value->D->(Nat->Prop)->Prop
 |int (k:IntKind) (n:Int) (S:Nat->Prop):aZ w (.int k n) (.int k n) S
 |bool (b:Bool) (S:Nat->Prop):aZ w (.bool b) (.bool b) S
 |str (s:ByteArray) (S:Nat->Prop):aZ w (.string s) (.str s) S
 |unk (v:Value) (h:v.oneCell'=true) (S:Nat->Prop):aZ w v .unk S
 |sl (v:Value) (Q:Nat) (M:List (List D)) (S:Nat->Prop) (e:TypeId) (xs:List Value) (l:Nat->Nat->Prop) (ho:w.ownsRow 0 e Q v M.length xs) (hz:∀r∈M,r.length=Q)
   (J:∀b,blk v=some b->S b) (hl:xs.length=M.flatten.length) (hk:∀k x d,xs[k]?=some x->M.flatten[k]?=some d->aZ w x d (l k))
   (hs:∀k b,l k b->S b/\blk v≠some b) (hd:∀i j b,l i b->l j b->i=j):aZ w v (.sl Q M) S
def zq(w:World)(xs:List Value)(ds:List D)(S:Nat->Prop):Prop:=
 xs.length=ds.length/\∃l:Nat->Nat->Prop,(∀k x d,xs[k]?=some x->ds[k]?=some d->aZ w x d (l k))/\(∀k b,l k b->S b)/\(∀i j b,l i b->l j b->i=j)
def zR(T:CS)(h:Nat->Nat->Hd)(ai:Nat->Nat->Ob)(w:World)(hd:Hd):Ob->Prop
 |.none=>True
 |.box G=>∃b C e,hd.v= .pointer (some ⟨b,0,none⟩)/\w.heap[b]?=some (.cells C e (0,0))/\Yn (Ys T h ai w) G C.toList
 |.arr false Q M=>∃e xs,w.ownsRow 0 e Q hd.v M.length xs/\(∀r∈M,r.length=Q)/\Yn (Rd T w) xs M.flatten
 |.arr true Q M=>∃e xs,w.ownsRow 0 e Q hd.v M.length xs/\(∀r∈M,r.length=Q)/\zq w xs M.flatten (fun b=>hd.u b/\blk hd.v≠some b)/\(∀k x d,xs[k]?=some x->M.flatten[k]?=some d->d.scalar=false->hd.n k=x)
 |.lit Q M=>∃e xs,w.ownsRow 0 e Q hd.v M.length xs/\(∀r∈M,r.length=Q)/\Yn (Ys T h ai w) M.flatten xs
def ak(T0:CS)(ad:Nat->Prop):CS:=fun b k=>T0 b k\/ad b
structure Xl(B:Nat->Prop)(w w':World):Prop where
 os:w'.os=w.os
 tape:w'.tape=w.tape
 output:w'.output=w.output
 size:w.heap.size<=w'.heap.size
 block:∀k,B k->w'.heap[k]?=w.heap[k]?
theorem Xl.refl(B:Nat->Prop)(w:World):Xl B w w:=⟨rfl,rfl,rfl,Nat.le_refl _,fun _ _=>rfl⟩
theorem Xl.trans{a b c:World}(h:Xl B a b)(k:Xl B b c):Xl B a c:=
 ⟨k.os.trans h.os,k.tape.trans h.tape,k.output.trans h.output,Nat.le_trans h.size k.size,fun i hi=>(k.block i hi).trans (h.block i hi)⟩
theorem Xl.vY(h:RowKit.Below w.heap.size w w')(hB:∀b,B b->b<w.heap.size):Xl B w w':=⟨h.os,h.tape,h.output,h.size,fun k hk=>h.block k (hB k hk)⟩
structure ar(T0:CS)(B:Nat->Prop)(σ:U)(a:Act)(w:World)(ad:Nat->Prop)(h:Nat->Nat->Hd):Prop where
 size:a.tmps.size=σ.length
 defers:a.defers=[]
 d:∀b,B b->b<w.heap.size
 e:∀b,ad b->¬B b/\b<w.heap.size
 f:∀b k,T0 b k->B b
 slot:∀t,t<σ.length->J8 (ak T0 ad) h σ.ob w (σ.get t) (a.tmps.getD t undef)
 obj:∀t j,zR (ak T0 ad) h σ.ob w (h t j) (σ.ob t j)
 c:∀t j b,σ.ob t j≠ .none->blk (h t j).v=some b->(h t j).u b
 own:∀t j b,σ.ob t j≠ .none->(h t j).u b->¬B b/\¬ad b/\b<w.heap.size
 inj:∀t j t' j' b,σ.ob t j≠ .none->σ.ob t' j'≠ .none->(h t j).u b->(h t' j').u b->t=t'/\j=j'
def zh(T0:CS)(B:Nat->Prop)(σ:U)(a:Act)(w:World):Prop:=∃ad h,ar T0 B σ a w ad h
theorem ar.bh(r:ar T0 B σ a w ad h)(ho:σ.ob t j≠ .none)(J:blk (h t j).v=some b):¬B b/\¬ad b/\b<w.heap.size:=
 r.own t j b ho (r.c t j b ho J)
section
variable{ai:Nat->Nat->Ob}
theorem Ys.mono(hT:∀b k v,T b k->w.cell? ⟨b,k,none⟩=some v->w'.cell? ⟨b,k,none⟩=some v/\T' b k){x:At}
  (r:Ys T h ai w x v):Ys T' h ai w' x v:=by
 cases x with
 |any=>exact r
 |d x=>exact Rd.mono hT r
 |nil s=>exact r
 |O t j lo ae=>exact r
 |ptr t j i c=>exact r
 |Z t c=>exact r
 |fn f t=>exact r
 |ac t j i c o=>exact r
 |am rr c=>obtain⟨b,aw,g,e,hk⟩:=r;exact⟨b,aw,g,e,fun k d hd=>⟨(hT _ _ _ (hk k d hd).2.1 (hk k d hd).1).1,(hT _ _ _ (hk k d hd).2.1 (hk k d hd).1).2,Rd.mono hT (hk k d hd).2.2⟩⟩
theorem y9.mono(hT:∀b k v,T b k->w.cell? ⟨b,k,none⟩=some v->w'.cell? ⟨b,k,none⟩=some v/\T' b k){x:V}
  (r:y9 T h ai w x v):y9 T' h ai w' x v:=by
 cases x with
 |any=>exact r
 |one x=>exact Ys.mono hT r
 |agg xs=>obtain⟨C,e,r⟩:=r;exact⟨C,e,r.imp fun _ _=>Ys.mono hT⟩
 |Z xs=>exact r.elim
 |O g x=>exact r.elim
 |fix u x=>exact r.elim
theorem J8.mono(hT:∀b k v,T b k->w.cell? ⟨b,k,none⟩=some v->w'.cell? ⟨b,k,none⟩=some v/\T' b k){x:V}
  (r:J8 T h ai w x v):J8 T' h ai w' x v:=by
 cases x with
 |any=>exact r
 |one x=>exact Ys.mono hT r
 |agg xs=>exact y9.mono (x:=.agg xs) hT r
 |Z xs=>obtain⟨vs,e,r⟩:=r;exact⟨vs,e,r.imp fun _ _=>y9.mono hT⟩
 |O g x=>exact⟨fun hg=>y9.mono hT (r.1 hg),r.2⟩
 |fix u x=>exact⟨r.1,y9.mono hT r.2⟩
end
def unc:V->V
 |.O _ x=>x
 |.fix _ x=>x
 |x=>x
def am:V->Bool
 |.O g _=>g
 |_=>true
def E(P:Program)(t:TypeId):TypeId:=
 match P.underlying t with
 |some (.slice e)=>e
 |some (.array _ e)=>e
 |_=>0
def Xo(P:Program)(t:TypeId):Bool:=
 match P.underlying t with
 |some (.slice e)=>(P.info? e).isSome
 |_=>false
def Bm(P:Program)(t:TypeId):Option Nat:=
 match P.underlying t with
 |some (.array n e)=>if(P.info? e).isSome then some n else none
 |_=>none
def Ow(P:Program)(t:TypeId):Bool:=
 match P.underlying t with
 |some (.struct _)|some (.array _ _)=>true
 |_=>false
def Wj(P:Program)(t:TypeId):Bool:=
 (P.underlying t).isSome&&(P.info? t).isSome&&(Ow P t||P.cellsOf t==1)
def KJ(P:Program)(t:TypeId)(f:Nat):Nat:=
 match P.underlying t with
 |some (.struct E)=>(match E[f]? with|some c=>c.offset|none=>0)
 |_=>0
def Wc(P:Program)(t:TypeId)(f:Nat):TypeId:=
 match P.underlying t with
 |some (.struct E)=>(match E[f]? with|some c=>c.type|none=>0)
 |_=>0
def U4(P:Program)(t:TypeId)(f:Nat):Bool:=
 match P.underlying t with
 |some (.struct E)=>(match E[f]? with|some c=>(P.info? c.type).isSome&&decide (P.cellsOf c.type≠0)|none=>false)
 |_=>false
def fU(P:Program)(t:TypeId):Option IntKind:=
 match P.underlying t with
 |some (.int k)=>some k
 |_=>none
def Oo(P:Program)(t:TypeId):Bool:=
 match P.underlying t with
 |some .string=>true
 |_=>false
def Cu(P:Program)(t:TypeId):Bool:=
 match P.underlying t with
 |some .bool=>true
 |_=>false
def dB(P:Program)(A:TypeId):Value->V
 |.int k n=>.one (.d (.int k n))
 |.bool b=>.one (.d (.bool b))
 |.string s=>.one (.d (.str s))
 |.slice none 0 0=>.one (.nil (P.cellsOf (E P A)))
 |_=>.any
def look(P:Program)(σ:U)(A:TypeId):Operand->V
 |.tmp t=>σ.get t
 |.const v=>dB P A v
 |_=>.any
theorem ar.get(r:ar T0 B σ a w ad h)(t:Nat):J8 (ak T0 ad) h σ.ob w (σ.get t) (a.tmps.getD t undef):=by
 rcases Nat.lt_or_ge t σ.length with hl|hl
 ·exact r.slot t hl
 ·simp[U.get,List.getElem?_eq_none hl,J8]
theorem r1(T:CS)(h:Nat->Nat->Hd)(ai:Nat->Nat->Ob)(w:World)(A:TypeId)(v:Value):J8 T h ai w (dB P A v) v:=by
 unfold dB;split
 ·exact .int _ _
 ·exact .bool _
 ·exact .str _
 ·rfl
 ·trivial
theorem ar.look(r:ar T0 B σ a w ad h)(A:TypeId)(x:Operand):J8 (ak T0 ad) h σ.ob w (look P σ A x) (a.eval x):=by
 cases x with
 |tmp t=>exact r.get t
 |const v=>exact r1 _ _ _ _ _ _
 |global g=>trivial
 |func f=>trivial
theorem J8.unc{ai:Nat->Nat->Ob}{x:V}(r:J8 T h ai w x v)(hg:am x=true):J8 T h ai w (unc x) v:=by
 cases x with
 |O g x=>exact y9.up (r.1 hg)
 |fix u x=>exact y9.up r.2
 |_=>exact r
theorem ar.arg(r:ar T0 B σ a w ad h)(A:TypeId)(x:Operand){v:V}(he:Vm.unc (Vm.look P σ A x)=v)(hg:am (Vm.look P σ A x)=true):J8 (ak T0 ad) h σ.ob w v (a.eval x):=by subst he;exact(r.look A x).unc hg
theorem ar.put(r:ar T0 B σ a w ad h)(d:Nat)(v:V)(an:Value)(hv:J8 (ak T0 ad) h σ.ob w v an):ar T0 B (σ.put d v) (a.put (some d) an) w ad h:=by
 refine⟨by simp[Act.put,r.size,U.K9],r.defers,r.d,r.e,r.f,fun t ht=>?_,fun t j=>?_,fun t j b=>?_,fun t j b=>?_,fun t j t' j' b=>?_⟩
 ·rw[U.Kr,U.qM];rw[U.K9]at ht;by_cases hd:t=d/\d<σ.length
  ·obtain⟨rfl,hl⟩:=hd;simp only[hl,if_true];have:(a.tmps.setIfInBounds t an).getD t undef=an:=by simp[r.size,hl]
   simp only[Act.put,this];exact hv
  ·rw[if_neg hd];have W:d≠t:=fun e=>hd ⟨e.symm,e▸ht⟩
   have:(a.tmps.setIfInBounds d an).getD t undef=a.tmps.getD t undef:=by simp[Array.getElem?_setIfInBounds_ne W]
   simp only[Act.put,this];exact r.slot t ht
 ·rw[U.Kr];exact r.obj t j
 ·rw[U.Kr];exact r.c t j b
 ·rw[U.Kr];exact r.own t j b
 ·rw[U.Kr];exact r.inj t j t' j' b
def bt(P:Program)(T:TypeId)(xs:List At):V:=if Ow P T then .agg xs else(match xs with|[x]=>.one x|_=>.any)
def fy(k:IntKind)(x y:Int):Int:=k.wrap (BitVec.ofInt k.bits x&&&BitVec.ofInt k.bits y).toNat
def fK(k:IntKind)(x y:Int):Int:=k.wrap (BitVec.ofInt k.bits x|||BitVec.ofInt k.bits y).toNat
def fj(k:IntKind)(x y:Int):Int:=k.wrap (BitVec.ofInt k.bits x^^^BitVec.ofInt k.bits y).toNat
def vv(op:BinOp)(k:IntKind)(x y:Int)(v:V):Prop:=
 match op with
 |.eql=>v= .one (.d (.bool (x==y)))
 |.neq=>v= .one (.d (.bool (x !=y)))
 |.lss=>v= .one (.d (.bool (decide (x<y))))
 |.leq=>v= .one (.d (.bool (decide (x<=y))))
 |.gtr=>v= .one (.d (.bool (decide (x>y))))
 |.geq=>v= .one (.d (.bool (decide (x>=y))))
 |.add=>v= .one (.d (.int k (k.wrap (x+y))))
 |.sub=>v= .one (.d (.int k (k.wrap (x-y))))
 |.mul=>v= .one (.d (.int k (k.wrap (x*y))))
 |.quo=>y≠0/\v= .one (.d (.int k (k.wrap (x.tdiv y))))
 |.rem=>y≠0/\v= .one (.d (.int k (x.tmod y)))
 |.and=>v= .one (.d (.int k (fy k x y)))
 |.or=>v= .one (.d (.int k (fK k x y)))
 |.xor=>v= .one (.d (.int k (fj k x y)))
 |.shl=>0<=y/\v= .one (.d (.int k (k.wrap (x*2^min y.toNat k.bits))))
 |.shr=>0<=y/\v= .one (.d (.int k (x.fdiv (2^min y.toNat k.bits))))
 |_=>False
def uO(op:BinOp)(x y:ByteArray)(v:V):Prop:=
 match op with
 |.add=>((x.size+y.size:Nat):Int)<=9223372036854775807/\v= .one (.d (.str (x++y)))
 |.eql=>v= .one (.d (.bool (decide (x=y))))
 |.neq=>v= .one (.d (.bool (!decide (x=y))))
 |_=>False
def EM(op:BinOp)(x y:Bool)(v:V):Prop:=
 match op with
 |.eql=>v= .one (.d (.bool (x==y)))
 |.neq=>v= .one (.d (.bool (!(x==y))))
 |_=>False
theorem z0{x y:Int}{v:V}{t:TypeId}(hk:(op= .shl\/op= .shr)\/X=k)(J:vv op k x y v)(w:World):
  ∃d,v= .one (.d d)/\∃an,(binOp op t (.int k x) (.int X y)).run P w= .ok an w/\∀T w',Rd T w' an d:=by
 cases op<;>simp only[vv]at J;case shl=>obtain⟨h0,rfl⟩:=J;exact⟨_,rfl,_,by simp[binOp,Op.shift,Int.not_lt.2 h0],fun _ _=>.int _ _⟩
 case shr=>obtain⟨h0,rfl⟩:=J;exact⟨_,rfl,_,by simp[binOp,Op.shift,Int.not_lt.2 h0],fun _ _=>.int _ _⟩
 all_goals(have a:X=k:=by rcases hk with(hk|hk)|hk<;>first|exact hk|cases hk)
 all_goals subst a
 case quo=>obtain⟨h0,rfl⟩:=J;exact⟨_,rfl,_,by simp[binOp,Op.intDiv,h0],fun _ _=>.int _ _⟩
 case rem=>obtain⟨h0,rfl⟩:=J;exact⟨_,rfl,_,by simp[binOp,Op.intDiv,h0],fun _ _=>.int _ _⟩
 case add=>subst J;exact⟨_,rfl,_,by simp[binOp,Op.intArith],fun _ _=>.int _ _⟩
 case sub=>subst J;exact⟨_,rfl,_,by simp[binOp,Op.intArith],fun _ _=>.int _ _⟩
 case mul=>subst J;exact⟨_,rfl,_,by simp[binOp,Op.intArith],fun _ _=>.int _ _⟩
 case and=>subst J;exact⟨_,rfl,_,by simp[binOp,Op.intBits,fy],fun _ _=>.int _ _⟩
 case or=>subst J;exact⟨_,rfl,_,by simp[binOp,Op.intBits,fK],fun _ _=>.int _ _⟩
 case xor=>subst J;exact⟨_,rfl,_,by simp[binOp,Op.intBits,fj],fun _ _=>.int _ _⟩
 all_goals(subst J;exact⟨_,rfl,.bool _,by simp only[binOp,ne_eq,if_false];rfl,fun _ _=>.bool _⟩)
theorem fM(x y:ByteArray):(x.toList==y.toList)=decide (x=y):=by
 rw[ByteArray.toList_eq,ByteArray.toList_eq,Bool.eq_iff_iff];simp;constructor
 ·intro hh;cases x;cases y;simp_all
 ·rintro rfl;rfl
theorem L3{x y:ByteArray}{v:V}{t:TypeId}(J:uO op x y v)(w:World):
  ∃d,v= .one (.d d)/\∃an,(binOp op t (.string x) (.string y)).run P w= .ok an w/\∀T w',Rd T w' an d:=by
 cases op<;>simp only[uO]at J;case add=>obtain⟨h0,rfl⟩:=J;exact⟨_,rfl,_,by simp only[binOp,Op.stringOp];rw[if_neg dw];rfl,fun _ _=>.str _⟩
 case eql=>subst J;exact⟨_,rfl,.bool _,by simp only[binOp,Op.stringOp,fM];rfl,fun _ _=>.bool _⟩
 case neq=>subst J;exact⟨_,rfl,.bool _,by simp only[binOp,Op.stringOp,fM];rfl,fun _ _=>.bool _⟩
theorem run_equalIn_bool{t:TypeId}(F:P.underlying t=some .bool)(d:Nat)(x y:Bool)(w:World):(Op.equalIn (d+1) t (.bool x) (.bool y)).run P w= .ok (x==y) w:=by simp[Op.equalIn,run_underlying F]
theorem lb{x y:Bool}{v:V}{t:TypeId}(ht:Cu P t=true)(J:EM op x y v)(w:World):
  ∃d,v= .one (.d d)/\∃an,(binOp op t (.bool x) (.bool y)).run P w= .ok an w/\∀T w',Rd T w' an d:=by
 have F:P.underlying t=some .bool:=by unfold Cu at ht;split at ht<;>first|assumption|cases ht
 cases op<;>simp only[EM]at J;case eql=>subst J;exact⟨_,rfl,_,by simp only[binOp,Op.equal,Op.maxDepth,Sem.run_bind,run_equalIn_bool F 9999,Result.andThen_ok,Sem.run_pure],fun _ _=>.bool _⟩
 case neq=>subst J;exact⟨_,rfl,_,by simp only[binOp,Op.equal,Op.maxDepth,Sem.run_bind,run_equalIn_bool F 9999,Result.andThen_ok,Sem.run_pure],fun _ _=>.bool _⟩
def Pk(P:Program)(σ:U)(x:Operand)(k:IntKind)(n:Int):Prop:=am (look P σ 0 x)=true/\unc (look P σ 0 x)= .one (.d (.int k n))
def bm(P:Program)(σ:U)(ai:Nat):Option Operand->Nat->Prop
 |none,n=>n=ai
 |some x,n=>∃k i,am (look P σ 0 x)=true/\unc (look P σ 0 x)= .one (.d (.int k i))/\0<=i/\n=i.toNat
def cut{α:Type}(xs:List α)(aw n:Nat):List α:=(xs.drop aw).take n
def TG(P:Program):Nat->TypeId->Option (List At)
 |0,_=>none
 |n+1,t=>
  match P.underlying t with
  |some .bool=>some [.d (.bool false)]
  |some (.int k)=>some [.d (.int k 0)]
  |some .string=>some [.d (.str ⟨#[]⟩)]
  |some (.slice e)=>some [.nil (P.cellsOf e)]
  |some (.struct E)=>(E.toList.mapM (fun f=>TG P n f.type)).map List.flatten
  |some (.array m e)=>(TG P n e).map (fun r=>(List.replicate m r).flatten)
  |_=>none
def fr:At->Value->Bool
 |.d (.bool b),.bool b'=>b==b'
 |.d (.int k n),.int k' n'=>k==k'&&n==n'
 |.d (.str s),.string s'=>s.data.toList==s'.data.toList
 |.nil _,.slice none 0 0=>true
 |_,_=>false
def dJ:List At->List Value->Bool
 |[],[]=>true
 |x::xs,v::vs=>fr x v&&dJ xs vs
 |_,_=>false
def Qq(P:Program)(t:TypeId):Bool:=
 match TG P 12 t,P.info? t with
 |some ac,some i=>(match i.zero with|some z=>dJ ac z.cells.toList&&i.size==ac.length|none=>false)
 |_,_=>false
theorem k1{x:At}(hz:fr x v=true)(T:CS)(h:Nat->Nat->Hd)(ai:Nat->Nat->Ob)(w:World):Ys T h ai w x v:=by
 unfold fr at hz;split at hz
 ·simp at hz;subst hz;exact .bool _
 ·simp at hz;obtain⟨rfl,rfl⟩:=hz;exact .int _ _
 ·rename_i s s';have:s=s':=by cases s;cases s';simp_all
  subst this;exact .str _
 ·rfl
 ·cases hz
theorem no{xs:List At}(hz:dJ xs vs=true)(T:CS)(h:Nat->Nat->Hd)(ai:Nat->Nat->Ob)(w:World):Yn (Ys T h ai w) xs vs:=by
 induction xs generalizing vs with
 |nil=>cases vs with
  |nil=>exact .nil
  |cons v vs=>simp[dJ]at hz
 |cons x xs ih=>cases vs with
  |nil=>simp[dJ]at hz
  |cons v vs=>simp[dJ]at hz;exact .cons (k1 hz.1 _ _ _ _) (ih hz.2)
theorem wH{t:TypeId}{ac:List At}(hz:Qq P t=true)(hr:TG P 12 t=some ac):
  ∃i z,P.info? t=some i/\i.zero=some z/\i.size=ac.length/\(∀T h ai w,Yn (Ys T h ai w) ac z.cells.toList):=by
 unfold Qq at hz;rw[hr]at hz;split at hz
 ·rename_i aB i ax hi;cases ax;split at hz
  ·rename_i z aW;simp at hz;exact⟨i,z,hi,aW,hz.2,fun T h ai w=>no hz.1 T h ai w⟩
  ·cases hz
 ·cases hz
def V.cells:V->List At
 |.one c=>[c]
 |.agg xs=>xs
 |_=>[]
def V.flat:V->Bool
 |.one _=>true
 |.agg _=>true
 |_=>false
def place{α:Type}(r:List α)(aw:Nat)(xs:List α):List α:=r.take aw++xs++r.drop (aw+xs.length)
def VU(P:Program)(T:TypeId)(i:Nat):Nat:=match P.underlying T with|some (.array _ e)=>i*P.cellsOf e|_=>KJ P T i
def aV(P:Program)(T:TypeId)(i:Nat):TypeId:=match P.underlying T with|some (.array _ e)=>e|_=>Wc P T i
def bb(P:Program)(T:TypeId)(i:Nat):Bool:=match P.underlying T with
 |some (.array _ e)=>(P.info? e).isSome
 |some (.struct E)=>E.all (fun f=>(P.info? f.type).isSome)&&decide (i<E.size)
 |_=>false
def Ou(P:Program)(σ:U)(T:TypeId):List (Nat×Operand)->List At->List At->Prop
 |[],r,d=>d=r
 |(i,x)::K,r,d=>bb P T i=true/\am (look P σ (aV P T i) x)=true/\(unc (look P σ (aV P T i) x)).flat=true/\
   (unc (look P σ (aV P T i) x)).cells.length=P.cellsOf (aV P T i)/\VU P T i+P.cellsOf (aV P T i)<=r.length/\
   Ou P σ T K (place r (VU P T i) (unc (look P σ (aV P T i) x)).cells) d
def HK(P:Program)(t:TypeId):Bool:=match P.underlying t with|some .bool=>true|some (.int _)=>true|some .string=>true|_=>false
def PC(P:Program):List Field->Nat->Bool
 |[],_=>true
 | f :: E, i => decide (f.name ≠ "_") && f.offset == i && HK P f.type && PC P E (i + 1)
def N5(P:Program):List Field->Nat->Bool
 |[],_=>true
 | f :: E, i => decide (f.name ≠ "_") && f.offset == i && (if HK P f.type then N5 P E (i + 1) else (match P.underlying f.type with | some (.struct b) => Wj P f.type && Ow P f.type && P.cellsOf f.type == b.size && decide (0 < b.size) && !P.stoodInHeld f.type && PC P b.toList 0 && N5 P E (i + b.size) | _ => false))
def pX(P:Program)(f:Field):List TypeId:=if HK P f.type then[f.type]else(match P.underlying f.type with|some (.struct b)=>b.toList.map (·.type)|_=>[])
def Kq(P:Program)(T:TypeId):List TypeId:=(P.fieldsOf T).toList.flatMap (pX P)
def PR(P:Program)(t:TypeId):Bool:=match P.underlying t with
 |some (.struct E)=>!P.stoodInHeld t&&!P.eqGuardType P.depth t&&N5 P E.toList 0
 |_=>false
def eP(P:Program)(t:TypeId):At->At->Option Bool
 |.d (.int k a),.d (.int k' b)=>if k=k'/\(fU P t).isSome then some (a==b)else none
 |.d (.bool a),.d (.bool b)=>if Cu P t then some (a==b)else none
 |.d (.str a),.d (.str b)=>if Oo P t then some (decide (a=b))else none
 |_,_=>none
def J2(P:Program):List TypeId->List At->List At->Option Bool
 |[],_,_=>some true
 |f::E,x::xs,y::ys=>(match eP P f x y,J2 P E xs ys with|some p,some q=>some (p&&q)|_,_=>none)
 |_,_,_=>none
def iM(P:Program)(op:BinOp)(T:TypeId)(x y v:V):Prop:=
 match x,y with
 |.one (.d (.int k m)),.one (.d (.int k' n))=>((op= .shl\/op= .shr)\/k'=k)/\vv op k m n v
 |.one (.d (.str m)),.one (.d (.str n))=>uO op m n v
 |.one (.d (.bool m)),.one (.d (.bool n))=>Cu P T=true/\EM op m n v
 |.agg xs,.agg ys=>PR P T=true/\∃q,J2 P (Kq P T) xs ys=some q/\((op= .eql/\v= .one (.d (.bool q)))\/(op= .neq/\v= .one (.d (.bool (!q)))))
 |_,_=>False
def PJ(t j i:Nat):Nat->List D->List At
 |_,[]=>[]
 |c,x::xs=>(match x with|.sl _ _=>.ac t j i c none|x=>.d x)::PJ t j i (c+1) xs
def HC(q:Bool)(t j i c:Nat)(xs:List D):List At:=match q with|true=>PJ t j i c xs|false=>xs.map .d
def Xa(P:Program)(σ:U)(op:Op)(A:TypeId)(v:V):Prop:=
 match op with
 |.move x=>v=look P σ A x
 |.assign x=>v=look P σ A x
 |.pick c a b=>∃g p q,am (look P σ A c)=true/\unc (look P σ A c)= .one (.d (.bool g))/\(g=true->unc (look P σ A a)= .one (.d (.bool p)))/\(g=false->unc (look P σ A b)= .one (.d (.bool q)))/\
   (g=true->am (look P σ A a)=true)/\(g=false->am (look P σ A b)=true)/\v= .one (.d (.bool (cond g p q)))
 |.load T x=>am (look P σ 0 x)=true/\Wj P T=true/\
   (match unc (look P σ 0 x)with
   |.one (.Z t c)=>∃G,σ.ob t 0= .box G/\c+P.cellsOf T<=G.length/\v=bt P T (cut G c (P.cellsOf T))
   |.one (.ptr t j i c)=>∃q Q M,σ.ob t j= .arr q Q M/\i<M.length/\c+P.cellsOf T<=Q/\v=bt P T (HC q t j i c (cut (M.getD i []) c (P.cellsOf T)))
   |.one (.am r c)=>c+P.cellsOf T<=r.length/\v=bt P T ((cut r c (P.cellsOf T)).map .d)
   |.one (.ac t j i c (some k))=>∃Q M s,σ.ob t j= .arr true Q M/\i<M.length/\(M.getD i [])[c]?=some (.sl 1 s)/\P.cellsOf T=1/\k<s.length/\(s.getD k []).all D.scalar=true/\v=bt P T ((s.getD k []).map .d)
   |_=>False)
 |.fieldAddr T x f=>am (look P σ 0 x)=true/\U4 P T f=true/\
   (match unc (look P σ 0 x)with
   |.one (.Z t c)=>(∃G,σ.ob t 0= .box G)/\v= .one (.Z t (c+KJ P T f))
   |.one (.ptr t j i c)=>(∃q Q M,σ.ob t j= .arr q Q M)/\v= .one (.ptr t j i (c+KJ P T f))
   |.one (.am r c)=>v= .one (.am r (c+KJ P T f))
   |.one (.ac t j i c (some k))=>(∃Q M,σ.ob t j= .arr true Q M)/\v= .one (.ac t j i c (some (k+KJ P T f)))
   |_=>False)
 |.nilCheck x=>am (look P σ 0 x)=true/\
   (match unc (look P σ 0 x)with
   |.one (.Z t c)=>(∃G,σ.ob t 0= .box G)/\v= .one (.Z t c)
   |_=>False)
 |.indexAddr T x ix=>∃k i,Pk P σ ix k i/\0<=i/\am (look P σ 0 x)=true/\
   (match unc (look P σ 0 x)with
   |.one (.d (.sl Q M))=>Xo P T=true/\Q=P.cellsOf (E P T)/\0<Q/\i<(M.length:Int)/\v= .one (.am (M.getD i.toNat []) 0)
   |.one (.O t j lo ae)=>Xo P T=true/\0<P.cellsOf (E P T)/\(∃q M,σ.ob t j= .arr q (P.cellsOf (E P T)) M)/\i<(ae:Int)/\v= .one (.ptr t j (lo+i.toNat) 0)
   |.one (.Z t c)=>(∃G,σ.ob t 0= .box G)/\(∃n,Bm P T=some n/\1<n/\i<(n:Int))/\v= .one (.Z t (c+i.toNat*P.cellsOf (E P T)))
   |.one (.ac t j m c none)=>Xo P T=true/\0<P.cellsOf (E P T)/\(∃Q M s,σ.ob t j= .arr true Q M/\m<M.length/\(M.getD m [])[c]?=some (.sl (P.cellsOf (E P T)) s)/\i<(s.length:Int))/\v= .one (.ac t j m c (some (i.toNat*P.cellsOf (E P T))))
   |_=>False)
 |.index T x ix=>∃k i,Pk P σ ix k i/\0<=i/\am (look P σ 0 x)=true/\
   (match unc (look P σ 0 x)with
   |.one (.d (.str s))=>Oo P T=true/\i<(s.size:Int)/\v= .one (.d (.int .u8 (s.data.toList.getD i.toNat 0).toNat))
   |.agg xs=>(∃n,Bm P T=some n/\i<(n:Int))/\Wj P (E P T)=true/\i.toNat*P.cellsOf (E P T)+P.cellsOf (E P T)<=xs.length/\v=bt P (E P T) (cut xs (i.toNat*P.cellsOf (E P T)) (P.cellsOf (E P T)))
   |_=>False)
 |.slice T x lo hi none=>am (look P σ 0 x)=true/\
   (match unc (look P σ 0 x)with
   |.one (.d (.str s))=>Oo P T=true/\∃l h,bm P σ 0 lo l/\bm P σ s.size hi h/\l<=h/\h<=s.size/\v= .one (.d (.str (s.extract l h)))
   |.one (.d (.sl Q M))=>Xo P T=true/\Q=P.cellsOf (E P T)/\∃l h,bm P σ 0 lo l/\bm P σ M.length hi h/\l<=h/\h<=M.length/\v= .one (.d (.sl Q (cut M l (h-l))))
   |.one (.O t j o ae)=>Xo P T=true/\(∃q M,σ.ob t j= .arr q (P.cellsOf (E P T)) M)/\∃l h,bm P σ 0 lo l/\bm P σ ae hi h/\l<=h/\h<=ae/\v= .one (.O t j (o+l) (h-l))
   |_=>False)
 |.binOp op T x y _=>am (look P σ T x)=true/\am (look P σ T y)=true/\
   iM P op T (unc (look P σ T x)) (unc (look P σ T y)) v
 |.unOp op _ x=>am (look P σ 0 x)=true/\
   (match op,unc (look P σ 0 x)with
   |.not,.one (.d (.bool b))=>v= .one (.d (.bool (!b)))
   |.neg,.one (.d (.int k n))=>v= .one (.d (.int k (k.wrap (-n))))
   |_,_=>False)
 |.convert S T x=>am (look P σ 0 x)=true/\(P.underlying S).isSome=true/\
   (match unc (look P σ 0 x)with
   |.one (.d (.int _ n))=>∃k,fU P T=some k/\v= .one (.d (.int k (k.wrap n)))
   |_=>False)
 |.extract x i=>am (look P σ 0 x)=true/\
   (match unc (look P σ 0 x)with
   |.Z xs=>xs[i]?=some v/\v.flat=true
   |_=>False)
 |.field T x f=>am (look P σ 0 x)=true/\U4 P T f=true/\Wj P (Wc P T f)=true/\
   (match unc (look P σ 0 x)with
   |.agg xs=>KJ P T f+P.cellsOf (Wc P T f)<=xs.length/\v=bt P (Wc P T f) (cut xs (KJ P T f) (P.cellsOf (Wc P T f)))
   |_=>False)
 |.build T parts=>Qq P T=true/\Ow P T=true/\∃z d,TG P 12 T=some z/\Ou P σ T parts.toList z d/\v= .agg d
 |.call c=>
   (match c.callee,c.args.toList,c.argTypes.toList with
   |.builtin .len,[x],[t]=>am (look P σ t x)=true/\
     (match unc (look P σ t x)with
     |.one (.d (.str s))=>Oo P t=true/\v= .one (.d (.int .i64 s.size))
     |.one (.d (.sl _ M))=>Xo P t=true/\v= .one (.d (.int .i64 M.length))
     |.one (.nil _)=>Xo P t=true/\v= .one (.d (.int .i64 0))
     |.one (.O u j _ ae)=>Xo P t=true/\((∃q Q M,σ.ob u j= .arr q Q M)\/∃Q M,σ.ob u j= .lit Q M)/\v= .one (.d (.int .i64 ae))
     |.one (.ac u j i c none)=>Xo P t=true/\∃Q M n s,σ.ob u j= .arr true Q M/\i<M.length/\(M.getD i [])[c]?=some (.sl n s)/\v= .one (.d (.int .i64 s.length))
     |_=>False)
   |.builtin .max,[x,y],_=>∃k m n,Pk P σ x k m/\Pk P σ y k n/\v= .one (.d (.int k (if n>m then n else m)))
   |.builtin .min,[x,y],_=>∃k m n,Pk P σ x k m/\Pk P σ y k n/\v= .one (.d (.int k (if n<m then n else m)))
   |_,_,_=>False)
 |_=>False
theorem WA(b aw n:Nat):(⟨b,aw,none⟩:Addr).add n=⟨b,aw+n,none⟩:=by unfold Addr.add;split<;>simp_all
theorem Tq{T:TypeId}(ht:Wj P T=true):∃d i,P.underlying T=some d/\P.info? T=some i/\i.size=P.cellsOf T/\(Ow P T=true\/P.cellsOf T=1):=by simp only[Wj,Bool.and_eq_true,Bool.or_eq_true,beq_iff_eq]at ht;obtain⟨⟨I,X⟩,h3⟩:=ht;obtain⟨d,hd⟩:=Option.isSome_iff_exists.1 I;obtain⟨i,hi⟩:=Option.isSome_iff_exists.1 X;exact⟨d,i,hd,hi,by simp[Program.cellsOf,hi],h3⟩
theorem HF{T:TypeId}{d:TypeDesc}(hd:P.underlying T=some d)(w:World):(isAgg T).run P w= .ok (Ow P T) w:=by unfold isAgg Ow;rw[hd];simp only[Sem.run_bind,run_underlying hd];cases d<;>simp
theorem z5{T:TypeId}{i:TypeInfo}(hi:P.info? T=some i)(w:World):(sizeOf T).run P w= .ok (P.cellsOf T) w:=by simp[sizeOf,typeInfo,hi,Program.cellsOf]
theorem gR{T:TypeId}(ht:Wj P T=true)(hl:C.length=P.cellsOf T)(Z:∀j v,C[j]?=some v->w.cell? ⟨b,aw+j,none⟩=some v):
  ∃an,(Instr.loadAt T (.pointer (some ⟨b,aw,none⟩))).run P w= .ok an w/\(Ow P T=true->an= .agg C.toArray)/\(Ow P T=false->C=[an]):=by
 obtain⟨d,i,hd,hi,aI,m⟩:=Tq ht;cases k:Ow P T with
 |true=>
  refine⟨.agg C.toArray,?_,fun _=>rfl,(fun hh=>by cases hh)⟩;have:=run_loadCells_list (P:=P) w _ C (fun j v hv=>by rw[WA];exact Z j v hv)
  simp only[Instr.loadAt,Instr.sureAddr,loadVar,Sem.run_bind,Sem.run_pure,Result.andThen_ok,HF hd,k,if_true,z5 hi,<-hl,this]
 |false=>
  rcases m with m|m
  ·rw[k]at m;cases m
  ·rw[m]at hl;obtain⟨an,rfl⟩:=List.length_eq_one_iff.1 hl;have a:=Z 0 an rfl
   simp at a;simp[Instr.loadAt,Instr.sureAddr,loadVar,HF hd,k,Sem.run,a]
theorem hu{T:TypeId}(a:Wj P T=true){ai:Nat->Nat->Ob}{xs:List At}(O:Yn (Ys T' h ai w) xs C)
  (I:Ow P T=true->an= .agg C.toArray) (X:Ow P T=false->C=[an]):J8 T' h ai w (bt P T xs) an:=by
 unfold bt;cases k:Ow P T with
 |true=>simp;exact⟨_,I k,by simpa using O⟩
 |false=>
  rw[X k]at O;cases O with
  |cons r O=>cases O;exact r
theorem Yn.cut{α β:Type}{R:α->β->Prop}{l:List α}{m:List β}(x:Yn R l m)(o n:Nat):Yn R (Vm.cut l o n) (Vm.cut m o n):=(x.drop o).take n
theorem Xh{α:Type}(l:List α)(o n:Nat)(hl:o+n<=l.length):(cut l o n).length=n:=by simp[cut];omega
theorem xn{α:Type}(l:List α)(o n j:Nat)(v:α)(hv:(cut l o n)[j]?=some v):l[o+j]?=some v:=by
 simp only[cut,List.getElem?_take,List.getElem?_drop]at hv;split at hv
 ·exact hv
 ·cases hv
theorem WB{α:Type}:∀(M:List (List α))(Q:Nat),(∀r∈M,r.length=Q)->∀(i:Nat)(r:List α),M[i]?=some r->∀(j:Nat)(d:α),r[j]?=some d->M.flatten[i*Q+j]?=some d
 |[],_,_,i,r,hr,_,_,_=>by simp at hr
 |r0::M,Q,hz,0,r,hr,j,d,hd=>by
  simp at hr;subst hr;have hj:=(List.getElem?_eq_some_iff.1 hd).1
  grind
 |r0::M,Q,hz,i+1,r,hr,j,d,hd=>by
  have ih:=WB M Q (fun r hr=>hz r aD) i r aD j d hd;have h0:=hz r0 ab;rw[List.flatten_cons,List.getElem?_append_right aD,h0];have:(i+1)*Q+j-Q=i*Q+j:=by rw[Nat.add_mul];omega
  grind
theorem XM{α:Type}(M:List (List α))(Q:Nat)(hz:∀r∈M,r.length=Q):M.flatten.length=M.length*Q:=by
 induction M with
 |nil=>simp
 |cons r M ih=>rw[List.flatten_cons,List.length_append,ih (fun r hr=>hz r aD),hz r ab,List.length_cons,Nat.add_mul];omega
theorem Rd.row(r:Rd T w v (.sl Q M))(i:Nat)(hi:i<M.length)(aI:0<Q):
  ∃a ae ah,v= .slice (some a) ae ah/\ae=M.length/\a.spot=none/\
   ∃g:Nat->Value,∀k d,(M.getD i [])[k]?=some d->w.cell? ⟨a.block,a.off+i*Q+k,none⟩=some (g k)/\T a.block (a.off+i*Q+k)/\Rd T w (g k) d:=by
 cases r with
 |nil=>simp at hi
 |sl a ae ah Q M g hl Z hm hz hs hg hr=>
  have aA:M[i]?=some (M.getD i []):=eg;have W:M.flatten≠[]:=by
   have aC:=XM M Q hz;have hp:0<M.length*Q:=Nat.mul_pos Y aI;intro he;have h0:M.flatten.length=0:=by rw[he];rfl
   omega
  refine⟨a,ae,ah,rfl,hl.symm,hs W,fun k=>g (i*Q+k),fun k d hd=>?_⟩;have hf:=WB M Q hz i _ aA k d hd
  have I:=hg _ _ hf;rw[Nat.add_assoc];grind
theorem sy(r:Rd T w v (.sl Q M)):∀x∈M,x.length=Q:=by
 cases r with
 |nil=>intro x O;cases O
 |sl a ae ah Q M g hl Z hm hz hs hg hr=>exact hz
theorem gL(r:Rd T w v (.sl Q M)):∃aA ah,v= .slice aA M.length ah/\M.length<=ah/\ah<=maxLen:=by
 cases r with
 |nil=>exact⟨none,0,rfl,ab,ab⟩
 |sl a ae ah Q M g hl Z hm hz hs hg hr=>exact⟨some a,ah,by rw[hl],Y,hm⟩
theorem Qc{t:TypeId}(ht:Xo P t=true):∃i,P.underlying t=some (.slice (E P t))/\P.info? (E P t)=some i/\i.size=P.cellsOf (E P t):=by
 unfold Xo at ht;split at ht
 ·rename_i e he;obtain⟨i,hi⟩:=Option.isSome_iff_exists.1 ht;have:E P t=e:=by simp[E,he]
  rw[this];exact⟨i,he,hi,by simp[Program.cellsOf,hi]⟩
 ·cases ht
theorem wJ{t:TypeId}(ht:Bm P t=some n):∃i,P.underlying t=some (.array n (E P t))/\P.info? (E P t)=some i/\i.size=P.cellsOf (E P t):=by
 unfold Bm at ht;split at ht
 ·rename_i m e he;split at ht
  ·rename_i hh;cases ht;obtain⟨i,hi⟩:=Option.isSome_iff_exists.1 hh;have:E P t=e:=by simp[E,he]
   rw[this];exact⟨i,he,hi,by simp[Program.cellsOf,hi]⟩
  ·cases ht
 ·cases ht
theorem Hy{t:TypeId}(ht:U4 P t f=true):∃E c i,P.underlying t=some (.struct E)/\E[f]?=some c/\c.offset=KJ P t f/\c.type=Wc P t f/\P.info? c.type=some i/\i.size≠0:=by
 unfold U4 at ht;split at ht
 ·rename_i E he;split at ht
  ·rename_i c hf;simp at ht;obtain⟨i,hi⟩:=Option.isSome_iff_exists.1 ht.1;exact⟨E,c,i,he,hf,by simp[KJ,he,hf],by simp[Wc,he,hf],hi,by simpa[Program.cellsOf,hi]using ht.2⟩
  ·cases ht
 ·cases ht
theorem Vr{t:TypeId}(ht:Oo P t=true):P.underlying t=some .string:=by unfold Oo at ht;split at ht<;>first|assumption|cases ht
theorem u7{t:TypeId}(ht:fU P t=some k):P.underlying t=some (.int k):=by
 unfold fU at ht;split at ht
 ·cases ht;assumption
 ·cases ht
theorem Mx{n:Int}(r:Rd T w v (.int k n)):v= .int k n:=by cases r;rfl
theorem Ub{b:Bool}(r:Rd T w v (.bool b)):v= .bool b:=by cases r;rfl
theorem L0{s:ByteArray}(r:Rd T w v (.str s)):v= .string s:=by cases r;rfl
theorem kW(r:ar T0 B σ a w ad h){n:Int}(O:Pk P σ x k n):a.eval x= .int k n:=
 Mx (r.arg 0 x O.2 O.1)
theorem aZ.Qe{d:D}(h:aZ w v d S):v.oneCell'=true:=by
 cases h with
 |int=>rfl
 |bool=>rfl
 |str=>rfl
 |unk _ h=>exact h
 |sl v Q M S e xs l ho hz J hl hk hs hd=>rcases ho.2 with⟨rfl,_⟩|⟨g,ah,ay,rfl,_⟩<;>rfl
theorem vh{t j i:Nat}:∀{xs:List D}{c k:Nat}{x:At},(PJ t j i c xs)[k]?=some x->∃d,xs[k]?=some d/\x=(match d with|.sl _ _=>.ac t j i (c+k) none|d=>.d d)
 |[],c,k,x,O=>by simp[PJ]at O
 |d::xs,c,0,x,O=>by cases O;exact⟨d,ab,by cases d<;>simp⟩
 |d::xs,c,k+1,x,O=>by simp only[PJ]at O;obtain⟨d',m,rfl⟩:=vh O;grind
theorem GA{t j i:Nat}:∀(c:Nat)(xs:List D),(PJ t j i c xs).length=xs.length
 |_,[]=>rfl
 |c,d::xs=>by simp[PJ,GA _ xs]
theorem rh(q:Bool)(t j i c:Nat)(xs:List D):(HC q t j i c xs).length=xs.length:=by cases q<;>simp[HC,GA]
theorem ar.box(r:ar T0 B σ a w ad h){G:List At}(ho:σ.ob t 0= .box G){c:Nat}(hv:Ys (ak T0 ad) h σ.ob w (.Z t c) v):
  ∃b C e,(h t 0).v= .pointer (some ⟨b,0,none⟩)/\v= .pointer (some ⟨b,c,none⟩)/\w.heap[b]?=some (.cells C e (0,0))/\Yn (Ys (ak T0 ad) h σ.ob w) G C.toList:=by
 obtain⟨b,J,rfl⟩:=hv.2 G ho;have ao:=r.obj t 0
 rw[ho]at ao;obtain⟨b',C,e,aj,hh,aa⟩:=ao;rw[J]at aj;cases aj;grind
theorem xO{C:Array Value}{e:TypeId}{f:Nat×Nat}(hh:w.heap[b]?=some (.cells C e f))(k:Nat)(v:Value)(hv:C.toList[k]?=some v):w.cell? ⟨b,k,none⟩=some v:=by simp only[World.cell?,hh];simpa using hv
theorem ar.arr(r:ar T0 B σ a w ad h){q:Bool}(ho:σ.ob t j= .arr q Q M){c:Nat}(hv:Ys (ak T0 ad) h σ.ob w (.ptr t j i c) v):
  ∃b ah ay e xs,(h t j).v= .slice (some ⟨b,0,none⟩) M.length ah/\v= .pointer (some ⟨b,i*Q+c,none⟩)/\w.heap[b]?=some (.cells ay e (0,0))/\M.length<=ah/\ah<=maxLen/\ay.size=ah*Q/\
   ay.toList.take (M.length*Q)=xs/\(∀r∈M,r.length=Q)/\xs.length=M.flatten.length/\(q=false->Yn (Rd (ak T0 ad) w) xs M.flatten)/\
   (q=true->zq w xs M.flatten (fun b=>(h t j).u b/\blk (h t j).v≠some b)/\∀k x d,xs[k]?=some x->M.flatten[k]?=some d->d.scalar=false->(h t j).n k=x):=by
 obtain⟨b,n,ah,J,rfl⟩:=hv.2 q Q M ho;have ao:=r.obj t j
 rw[ho]at ao;cases q with
 |false=>
  obtain⟨e,xs,av,hz,aa⟩:=ao;rcases av.2 with⟨h0,_⟩|⟨g,bd,ay,hg,_,hh,aF,aP,aK,aU⟩
  ·rw[J]at h0;cases h0
  ·rw[J]at hg;cases hg;exact⟨b,ah,ay,e,xs,J,rfl,hh,aF,aP,aK,aU,hz,aa.length,fun _=>aa,fun hh=>by cases hh⟩
 |true=>
  obtain⟨e,xs,av,hz,aa,hn⟩:=ao;rcases av.2 with⟨h0,_⟩|⟨g,bd,ay,hg,_,hh,aF,aP,aK,aU⟩
  ·rw[J]at h0;cases h0
  ·rw[J]at hg;cases hg;exact⟨b,ah,ay,e,xs,J,rfl,hh,aF,aP,aK,aU,hz,aa.1,(fun hh=>by cases hh),fun _=>⟨aa,hn⟩⟩
theorem aZ.hdr(h:aZ w v (.sl n s) S)(hp:0<s.length):∃b ah,v= .slice (some ⟨b,0,none⟩) s.length ah:=by
 cases h with
 |sl v Q M S e xs l ho hz J hl hk hs hd=>
  obtain⟨_,_|⟨g,ah,ay,hv,_⟩⟩:=ho
  ·omega
  ·exact⟨g,ah,hv⟩
theorem ar.nest(r:ar T0 B σ a w ad h){c:Nat}(ho:σ.ob t j= .arr true Q M)(hi:i<M.length)(aB:(M.getD i [])[c]?=some (.sl n s)):∃v0 S,(h t j).n (i*Q+c)=v0/\aZ w v0 (.sl n s) S:=by
 have h0:=r.obj t j;rw[ho]at h0;obtain⟨e,vs,aw,hz,⟨hl,l,o1,V,o3⟩,hn⟩:=h0;have aA:M[i]?=some (M.getD i []):=eg;have aM:=WB M Q hz i _ aA c _ aB;have ag:i*Q+c<vs.length:=by rw[hl];exact(List.getElem?_eq_some_iff.1 aM).1
 have m:=List.getElem?_eq_getElem ag;exact⟨_,_,hn _ _ _ m aM rfl,o1 _ _ _ m aM⟩
theorem mD(r:ar T0 B σ a w ad h){T:TypeId}{v:V}(A:o.op= .load T x)(hs:Xa P σ o.op o.type v):
  ∃an,(execOp a.eval o).run P w= .ok (.value an) w/\J8 (ak T0 ad) h σ.ob w v an:=by
 simp only[A]at hs;obtain⟨hg,aj,hs⟩:=hs;have O:=r.arg 0 x rfl hg
 have ai:∀(b aw:Nat)(xs:List At)(C:List Value),a.eval x= .pointer (some ⟨b,aw,none⟩)->v=bt P T xs->C.length=P.cellsOf T->
   (∀j u,C[j]?=some u->w.cell? ⟨b,aw+j,none⟩=some u)->Yn (Ys (ak T0 ad) h σ.ob w) xs C->∃an,(execOp a.eval o).run P w= .ok (.value an) w/\J8 (ak T0 ad) h σ.ob w v an:=by
  intro b aw xs C he hv hl Z aa;obtain⟨an,hr,I,X⟩:=gR aj hl Z;refine⟨an,?_,?_⟩
  ·simp only[execOp,A,he,Sem.run_bind,hr,Result.andThen_ok,Sem.run_pure]
  ·rw[hv];exact hu aj aa I X
 split at hs
 ·rename_i t c heq;rw[heq]at O;obtain⟨G,ho,aF,hv⟩:=hs;obtain⟨b,C,e,J,he,hh,aa⟩:=r.box ho O;have aC:=aa.length
  refine ai b c _ _ he hv (Xh _ _ _ Y) (fun j u F=>xO hh _ _ (xn _ _ _ _ _ F)) (aa.cut _ _)
 ·rename_i t j i c heq;rw[heq]at O;obtain⟨q,Q,M,ho,hi,aF,hv⟩:=hs;obtain⟨b,ah,ay,e,xs,J,he,hh,aX,aP,aK,aU,hz,aq,aa,av⟩:=r.arr ho O;have aA:M[i]?=some (M.getD i []):=eg
  have aV:=hz _ (List.mem_of_getElem? aA);have aJ:=XM M Q hz;have aI:i*Q+Q<=M.length*Q:=fs;have p:∀k d',(cut (M.getD i []) c (P.cellsOf T))[k]?=some d'->M.flatten[i*Q+c+k]?=some d':=by
   intro k d' m;have X:=WB M Q hz i _ aA _ d' (xn _ _ _ _ _ m)
   grind
  refine ai b _ _ (cut xs (i*Q+c) _) he hv (Xh _ _ _ Y) (fun j u F=>?_) ?_
  ·have I:=xn _ _ _ _ _ F;refine xO hh _ _ ?_;rw[<-aU,List.getElem?_take]at I;split at I
   ·exact I
   ·cases I
  ·refine Yn.ka (by rw[Xh _ _ _ Y,rh,Xh _ _ _ Y]) (fun k x u O F=>?_);have I:=xn _ _ _ _ _ F
   cases q with
   |false=>
    obtain⟨d,hd,hr⟩:=(aa rfl).get _ _ I;simp only[HC]at O;rw[List.getElem?_map]at O;cases m:(cut _ c _)[k]? with
    |none=>rw[m]at O;cases O
    |some d'=>rw[m]at O;cases O;rw[p k d' m]at hd;cases hd;exact hr
   |true=>
    obtain⟨⟨_,l,av,_,_⟩,hn⟩:=av rfl;obtain⟨d',m,rfl⟩:=vh O;have L:=av _ _ _ I (p k d' m)
    cases d' with
    |sl s rs=>
     refine⟨L.Qe,fun aN az ag=>?_⟩;rw[ho]at ag;cases ag;show _=_
     rw[<-hn _ _ _ I (p k _ m) rfl,Nat.add_assoc]
    |int k n=>cases L;exact .int _ _
    |bool b=>cases L;exact .bool _
    |str s=>cases L;exact .str _
    |unk=>exact .unk _ L.Qe
 ·rename_i rr c heq;rw[heq]at O;obtain⟨aF,hv⟩:=hs;obtain⟨b,aw,g,he,hk⟩:=O;refine ai b _ _ ((List.range (P.cellsOf T)).map fun j=>g (c+j)) he hv ab (fun j u F=>?_) ?_
  ·rw[List.getElem?_map]at F;rcases Nat.lt_or_ge j _ with hj|hj
   ·rw[List.getElem?_range hj]at F;cases F;have hd:=hk _ (rr[c+j]'Y) (List.getElem?_eq_getElem _)
    grind
   ·rw[List.getElem?_eq_none aD]at F;cases F
  ·refine Yn.ka (by rw[List.length_map,Xh _ _ _ Y];simp) (fun k x u O F=>?_);rw[List.getElem?_map]at O F;cases m:(cut rr c _)[k]? with
   |none=>rw[m]at O;cases O
   |some d'=>
    rw[m]at O;cases O;have f:k<P.cellsOf T:=by have:=(List.getElem?_eq_some_iff.1 m).1;rw[Xh _ _ _ Y]at this;exact this
    rw[List.getElem?_range f]at F;cases F;exact(hk _ d' (xn _ _ _ _ _ m)).2.2
 ·rename_i t j i c k heq;rw[heq]at O;obtain⟨Q,M,s,ho,hi,aB,z,E,aG,hv⟩:=hs;obtain⟨v0,S,hn,av⟩:=r.nest ho hi aB;obtain⟨b,ae,aE,al,he⟩:=O.2 _ _ ho;rw[hn]at al;cases av with
  |sl v aN az S e xs l ag hz J hl hk ac hd=>
   rcases ag.2 with⟨rfl,h0⟩|⟨g,ah,ay,rfl,_,hh,au,aP,aK,aU⟩
   ·omega
   ·cases al;have aA:s[k]?=some (s.getD k []):=by simp[List.getElem?_eq_getElem E]
    have aV:=hz _ (List.mem_of_getElem? aA);have aJ:=XM s 1 hz;refine ai b k _ (cut xs k _) he hv (Xh _ _ _ Y) (fun j u F=>?_) ?_
    ·have I:=xn _ _ _ _ _ F;refine xO hh _ _ ?_;rw[<-aU,List.getElem?_take]at I;split at I
     ·exact I
     ·cases I
    ·refine Yn.ka (by rw[List.length_map,Xh _ _ _ Y];omega) (fun q x u O F=>?_);rw[List.getElem?_map]at O;cases m:(s.getD k [])[q]? with
     |none=>rw[m]at O;cases O
     |some d'=>
      rw[m]at O;cases O;have hq:q=0:=by have:=(List.getElem?_eq_some_iff.1 m).1;omega
      subst hq;have hf:=WB s 1 hz k _ aA 0 d' m
      rw[Nat.mul_one]at hf;have y:=hk _ _ _ (xn _ _ _ _ _ F) hf
      have D:=List.all_eq_true.1 aG d' (List.mem_of_getElem? m);cases d' with
      |sl s' rs=>cases D
      |int k' n'=>cases y;exact .int _ _
      |bool b'=>cases y;exact .bool _
      |str s'=>cases y;exact .str _
      |unk=>exact .unk _ y.Qe
 ·exact hs.elim
theorem OC{T:TypeId}(hf:U4 P T f=true)(b aw:Nat):(Instr.fieldAt T (.pointer (some ⟨b,aw,none⟩)) f).run P w= .ok (.pointer (some ⟨b,aw+KJ P T f,none⟩)) w:=by
 obtain⟨E,c,i,F,aL,d,aj,hi,W⟩:=Hy hf;have aK:P.cellsOf c.type≠0:=by simpa[Program.cellsOf,hi]using W
 simp[Instr.fieldAt,run_underlying F,aL,Instr.sureAddr,fieldPlace,z5 hi,aK,WA]
theorem BW(r:ar T0 B σ a w ad h){T:TypeId}{v:V}(A:o.op= .fieldAddr T x f)(hs:Xa P σ o.op o.type v):
  ∃an,(execOp a.eval o).run P w= .ok (.value an) w/\J8 (ak T0 ad) h σ.ob w v an:=by
 simp only[A]at hs;obtain⟨hg,hf,hs⟩:=hs;have O:=r.arg 0 x rfl hg
 split at hs
 ·rename_i t c heq;rw[heq]at O;obtain⟨⟨G,ho⟩,rfl⟩:=hs;obtain⟨b,J,he⟩:=O.2 G ho;refine⟨.pointer _,by simp only[execOp,A,he,Sem.run_bind,OC hf,Result.andThen_ok,Sem.run_pure],rfl,fun N _=>⟨b,J,rfl⟩⟩
 ·rename_i t j i c heq;rw[heq]at O;obtain⟨⟨q,Q,M,ho⟩,rfl⟩:=hs;obtain⟨b,n,ah,J,he⟩:=O.2 q Q M ho;refine⟨.pointer (some ⟨b,i*Q+c+KJ P T f,none⟩),by simp only[execOp,A,he,Sem.run_bind,OC hf,Result.andThen_ok,Sem.run_pure],rfl,fun q' aN az L=>?_⟩;rw[ho]at L;cases L;grind
 ·rename_i rr c heq;rw[heq]at O;subst hs;obtain⟨b,aw,g,he,hk⟩:=O;exact⟨.pointer (some ⟨b,aw+c+KJ P T f,none⟩),by simp only[execOp,A,he,Sem.run_bind,OC hf,Result.andThen_ok,Sem.run_pure],b,aw,g,by rw[Nat.add_assoc],hk⟩
 ·rename_i t j i c k heq;rw[heq]at O;obtain⟨⟨Q,M,ho⟩,rfl⟩:=hs;obtain⟨b,n,ah,J,he⟩:=O.2 Q M ho;refine⟨.pointer (some ⟨b,k+KJ P T f,none⟩),by simp only[execOp,A,he,Sem.run_bind,OC hf,Result.andThen_ok,Sem.run_pure],rfl,fun aN az L=>?_⟩;rw[ho]at L;cases L;exact⟨b,n,ah,J,rfl⟩
 ·exact hs.elim
theorem wl(r:ar T0 B σ a w ad h){v:V}(A:o.op= .nilCheck x)(hs:Xa P σ o.op o.type v):
  ∃an,(execOp a.eval o).run P w= .ok (.value an) w/\J8 (ak T0 ad) h σ.ob w v an:=by
 simp only[A]at hs;obtain⟨hg,hs⟩:=hs;have O:=r.arg 0 x rfl hg
 split at hs
 ·rename_i t c heq;rw[heq]at O;obtain⟨⟨G,ho⟩,rfl⟩:=hs;obtain⟨b,J,he⟩:=O.2 G ho;exact⟨.pointer _,by simp only[execOp,A,he,Sem.run_pure],rfl,fun N _=>⟨b,J,rfl⟩⟩
 ·exact hs.elim
theorem I8{T:TypeId}(ht:Xo P T=true)(C:Addr)(z:C.spot=none)(ae ah:Nat)(k:IntKind)(i:Int)(h0:0<=i)(hl:i<(ae:Int)):
  (Instr.indexAt T (.slice (some C) ae ah) (.int k i)).run P w= .ok (.pointer (some ⟨C.block,C.off+i.toNat*P.cellsOf (E P T),none⟩)) w:=by
 obtain⟨f,F,hi,aI⟩:=Qc ht;obtain⟨b,aw,sp⟩:=C;simp at z;subst z;simp[Instr.indexAt,asIntOf,run_underlying F,h0,hl,z5 hi,WA]
theorem ty{T:TypeId}(ht:Bm P T=some n)(a:1<n)(b aw:Nat)(k:IntKind)(i:Int)(h0:0<=i)(hl:i<(n:Int)):
  (Instr.indexAt T (.pointer (some ⟨b,aw,none⟩)) (.int k i)).run P w= .ok (.pointer (some ⟨b,aw+i.toNat*P.cellsOf (E P T),none⟩)) w:=by
 obtain⟨f,F,hi,aI⟩:=wJ ht;simp[Instr.indexAt,Instr.sureAddr,asIntOf,run_underlying F,h0,hl,z5 hi,WA]
theorem Ng(r:ar T0 B σ a w ad h){T:TypeId}{ix:Operand}{v:V}(A:o.op= .indexAddr T x ix)(hs:Xa P σ o.op o.type v):
  ∃an,(execOp a.eval o).run P w= .ok (.value an) w/\J8 (ak T0 ad) h σ.ob w v an:=by
 simp only[A]at hs;obtain⟨k,i,e,h0,hg,hs⟩:=hs;have O:=r.arg 0 x rfl hg
 have y:=kW r e;split at hs
 ·rename_i Q M heq;rw[heq]at O;obtain⟨ht,rfl,aQ,ag,rfl⟩:=hs;have d:i.toNat<M.length:=Y
  obtain⟨C,ae,ah,he,aC,z,g,hk⟩:=Rd.row (O) i.toNat d aQ;refine⟨.pointer (some ⟨C.block,C.off+i.toNat*P.cellsOf (E P T),none⟩),by simp only[execOp,A,he,y,Sem.run_bind,I8 ht C z ae ah k i h0 Y,Result.andThen_ok,Sem.run_pure],C.block,C.off+i.toNat*P.cellsOf _,g,ab,hk⟩
 ·rename_i t j lo ae heq;rw[heq]at O;obtain⟨ht,aQ,⟨q,M,ho⟩,ag,rfl⟩:=hs;obtain⟨aF,_,_,aA,ah,he,aX,_,_,J⟩:=O.2.1 _ _ M ho;obtain⟨b,aE,hh,ai⟩:=J Y;rw[ai]at he;refine⟨.pointer (some ⟨b,lo*P.cellsOf (E P T)+i.toNat*P.cellsOf (E P T),none⟩),by simp only[execOp,A,he,y,Sem.run_bind,I8 ht ⟨b,lo*P.cellsOf _,none⟩ rfl ae ah k i h0 ag,Result.andThen_ok,Sem.run_pure],rfl,fun q' aN az L=>?_⟩;rw[ho]at L;cases L;grind
 ·rename_i t c heq;rw[heq]at O;obtain⟨⟨G,ho⟩,⟨n,hn,I,ag⟩,rfl⟩:=hs;obtain⟨b,J,he⟩:=O.2 G ho;exact⟨.pointer _,by simp only[execOp,A,he,y,Sem.run_bind,ty hn I b c k i h0 ag,Result.andThen_ok,Sem.run_pure],rfl,fun N _=>⟨b,J,rfl⟩⟩
 ·rename_i t j m c heq;rw[heq]at O;obtain⟨ht,aQ,⟨Q,M,s,ho,hm,aB,ag⟩,rfl⟩:=hs;obtain⟨v0,S,hn,av⟩:=r.nest ho hm aB;have he:a.eval x=v0:=by rw[<-hn];exact O.2 Q M ho
  obtain⟨b,ah,al⟩:=av.hdr Y;rw[al]at he hn;refine⟨.pointer (some ⟨b,0+i.toNat*P.cellsOf (E P T),none⟩),by simp only[execOp,A,he,y,Sem.run_bind,I8 ht ⟨b,0,none⟩ rfl s.length ah k i h0 ag,Result.andThen_ok,Sem.run_pure],rfl,fun aN az L=>?_⟩;rw[ho]at L;cases L;exact⟨b,s.length,ah,hn,ab⟩
 ·exact hs.elim
theorem uz{T:TypeId}(ht:Wj P T=true){C:Array Value}(hl:aw+P.cellsOf T<=C.size):
  ∃an,(part T C aw).run P w= .ok an w/\(Ow P T=true->an= .agg (cut C.toList aw (P.cellsOf T)).toArray)/\(Ow P T=false->cut C.toList aw (P.cellsOf T)=[an]):=by
 obtain⟨d,i,hd,hi,aI,m⟩:=Tq ht;cases k:Ow P T with
 |true=>
  refine⟨.agg (C.extract aw (aw+P.cellsOf T)),?_,fun _=>?_,(fun hh=>by cases hh)⟩
  ·simp only[part,Sem.run_bind,HF hd,k,Result.andThen_ok,if_true,z5 hi,Sem.run_pure]
  ·congr 1;apply Array.toList_inj.1;simp[cut,Array.toList_extract]
 |false=>
  rcases m with m|m
  ·rw[k]at m;cases m
  ·rw[m]at hl⊢;have ag:aw<C.size:=Y
   refine⟨C[aw],?_,(fun hh=>by cases hh),fun _=>?_⟩
   ·simp[part,HF hd,k,Array.getElem?_eq_getElem ag]
   ·have:cut C.toList aw 1=[C.toList[aw]'Y]:=by simp only[cut];rw[List.drop_eq_getElem_cons Y];simp
    rw[this];simp
theorem lV{T:TypeId}(ht:Wj P T=true){xs:List At}{x:Value}(O:J8 (ak T0 ad) h σ.ob w (.agg xs) x)(hl:aw+P.cellsOf T<=xs.length):
  ∃C:Array Value,x= .agg C/\∃an,(part T C aw).run P w= .ok an w/\J8 (ak T0 ad) h σ.ob w (bt P T (cut xs aw (P.cellsOf T))) an:=by
 obtain⟨C,rfl,aa⟩:=O;obtain⟨an,hr,I,X⟩:=uz ht (C:=C) (aw:=aw) (by have:=aa.length;simp at this;omega);exact⟨C,rfl,an,hr,hu ht (aa.cut _ _) I X⟩
theorem M2(r:ar T0 B σ a w ad h){T:TypeId}{ix:Operand}{v:V}(A:o.op= .index T x ix)(hs:Xa P σ o.op o.type v):
  ∃an,(execOp a.eval o).run P w= .ok (.value an) w/\J8 (ak T0 ad) h σ.ob w v an:=by
 simp only[A]at hs;obtain⟨k,i,e,h0,hg,hs⟩:=hs;have O:=r.arg 0 x rfl hg
 have y:=kW r e;split at hs
 ·rename_i s heq;rw[heq]at O;obtain⟨ht,ag,rfl⟩:=hs;have he:=L0 O
  have d:i.toNat<s.size:=Y;refine⟨.int .u8 (s.data.toList.getD i.toNat 0).toNat,?_,.int _ _⟩;have am:s[i.toNat]?=some (s.data.toList.getD i.toNat 0):=by
   rw[List.getD_eq_getElem?_getD];have I:s.data.toList[i.toNat]?=some (s.data[i.toNat]'d):=by simp
   rw[I,getElem?_pos s i.toNat d];rfl
  simp[execOp,A,he,y,Instr.index,asIntOf,run_underlying (Vr ht),h0,am]
 ·rename_i xs heq;rw[heq]at O;obtain⟨⟨n,hn,ag⟩,ht,hl,rfl⟩:=hs;obtain⟨f,F,hi,aI⟩:=wJ hn;obtain⟨C,he,an,hr,hv⟩:=lV ht O hl;refine⟨an,?_,hv⟩;simp[execOp,A,he,y,Instr.index,asIntOf,run_underlying F,h0,ag,z5 hi,hr]
 ·exact hs.elim
theorem m7(r:ar T0 B σ a w ad h){T:TypeId}{v:V}(A:o.op= .field T x f)(hs:Xa P σ o.op o.type v):
  ∃an,(execOp a.eval o).run P w= .ok (.value an) w/\J8 (ak T0 ad) h σ.ob w v an:=by
 simp only[A]at hs;obtain⟨hg,hf,ht,hs⟩:=hs;have O:=r.arg 0 x rfl hg
 split at hs
 ·rename_i xs heq;rw[heq]at O;obtain⟨hl,rfl⟩:=hs;obtain⟨E,c,i,F,aL,d,aj,hi,W⟩:=Hy hf;obtain⟨C,he,an,hr,hv⟩:=lV ht O hl;refine⟨an,?_,hv⟩;rw[<-d,<-aj]at hr;simp[execOp,A,he,Instr.field,run_underlying F,aL,asAgg,hr]
 ·exact hs.elim
theorem nd(r:ar T0 B σ a w ad h){ai y:Nat}{x:Option Operand}(J:bm P σ ai x n)(hy:n<=y)(W:x≠none):
  (Instr.sliceBound ((x.map a.eval).getD undef) y A).run P w= .ok n w:=by
 cases x with
 |none=>exact absurd rfl W
 |some x=>
  obtain⟨k,i,hg,O,h0,rfl⟩:=J;have he:=Mx (r.arg 0 x O hg)
  have:i<=(y:Int):=Y;simp[he,Instr.sliceBound,asIntOf,h0,this]
theorem GS(r:ar T0 B σ a w ad h){sl:Bool}{l hh:Nat}(C:bm P σ 0 lo l)(K:bm P σ ae hi hh)(I:l<=hh)(X:hh<=ah):
  (Instr.sliceBounds sl ae ah (lo.map a.eval) (hi.map a.eval) none).run P w= .ok (l,hh,ah) w:=by
 unfold Instr.sliceBounds;cases hi with
 |none=>
  cases K;cases lo with
  |none=>cases C;simp
  |some x=>have:=nd r (A:=.sliceB) C I ab;simp at this;simp[this]
 |some y=>
  have J:=nd r (A:=if sl then .sliceAcap else .sliceAlen) K X ab;simp at J;cases lo with
  |none=>cases C;simp[J]
  |some x=>have:=nd r (A:=.sliceB) C I ab;simp at this;simp_all
theorem UD{α:Type}(M:List (List α))(Q l n:Nat)(hz:∀r∈M,r.length=Q)(k:Nat)(d:α)(hd:(cut M l n).flatten[k]?=some d):M.flatten[l*Q+k]?=some d:=by
 induction M generalizing l with
 |nil=>simp[cut]at hd
 |cons r M ih=>
  have hr:=hz r ab;cases l with
  |zero=>
   simp only[cut,List.drop_zero,Nat.zero_mul,Nat.zero_add]at hd⊢;have c:(r::M).flatten=((r::M).take n).flatten++((r::M).drop n).flatten:=ga
   grind
  |succ l=>have:=ih l (fun r hr=>hz r aD) (by simpa[cut]using hd);rw[List.flatten_cons,List.getElem?_append_right aD,hr];grind
theorem Rd.cut(hv:v= .slice aA ae ah)(r:Rd T w v (.sl Q M))(l hh:Nat)(I:l<=hh)(X:hh<=M.length)(e:0<Q\/True):
  Rd T w (.slice (if ah=l then aA else aA.map (·.add (l*Q))) (hh-l) (ah-l)) (.sl Q (Vm.cut M l (hh-l))):=by
 subst hv;cases r with
 |nil=>
  simp at X;subst X;have:l=0:=Y
  simp;exact .nil _
 |sl a ae ah Q M g hl Z hm hz hs hg hr=>
  have aC:(Vm.cut M l (hh-l)).length=hh-l:=Xh _ _ _ Y;have ac:∀r∈Vm.cut M l (hh-l),r.length=Q:=fun r hr=>hz r (List.mem_of_mem_drop (List.mem_of_mem_take hr));by_cases R:ah=l
  ·have h0:hh-l=0:=Y;have H:Vm.cut M l (hh-l)=[]:=List.eq_nil_of_length_eq_zero Y;rw[if_pos R,H,h0];exact .sl a 0 _ Q [] g rfl (Nat.zero_le _) Y ab ab ab ab
  ·rw[if_neg R];refine .sl (a.add _) (hh-l) _ Q _ (fun k=>g _) aC Y Y ac (fun W=>?_) (fun k d hd=>?_) (fun k d hd=>hr _ _ (UD M Q l _ hz k d hd))
   ·have:M.flatten≠[]:=by
     intro he;apply W;cases an:(Vm.cut M l (hh-l)).flatten with
     |nil=>rfl
     |cons d ds=>have:=UD M Q l (hh-l) hz 0 d (by rw[an];rfl);grind
    have z:=hs this;unfold Addr.add;split<;>simp[z]
   ·have z:=hs (by
     intro he;have:=UD M Q l (hh-l) hz k d hd
     rw[he]at this;simp at this)
    have:=hg _ _ (UD M Q l (hh-l) hz k d hd);obtain⟨b,aw,sp⟩:=a;simp at z;subst z;rw[WA];simp only[Nat.add_assoc]at this⊢;exact this
theorem ok(r:ar T0 B σ a w ad h){T:TypeId}{v:V}(A:o.op= .slice T x lo hi none)(hs:Xa P σ o.op o.type v):
  ∃an,(execOp a.eval o).run P w= .ok (.value an) w/\J8 (ak T0 ad) h σ.ob w v an:=by
 simp only[A]at hs;obtain⟨hg,hs⟩:=hs;have O:=r.arg 0 x rfl hg
 split at hs
 ·rename_i s heq;rw[heq]at O;obtain⟨ht,l,hh,C,K,I,X,rfl⟩:=hs;have he:=L0 O
  have J:=GS r (sl:=false) C K I X;refine⟨.string _,?_,.str _⟩;simp[execOp,A,he,Instr.sliceAt,Instr.slice,run_underlying (Vr ht),J]
 ·rename_i Q M heq;rw[heq]at O;obtain⟨ht,rfl,l,hh,C,K,I,X,rfl⟩:=hs;obtain⟨f,F,ap,aI⟩:=Qc ht;obtain⟨aA,ah,he,aX,aP⟩:=gL (O);have J:=GS r (sl:=true) (ah:=ah) C K I Y
  refine⟨_,?_,Rd.cut he O l hh I X (.inr trivial)⟩;simp[execOp,A,he,Instr.sliceAt,Instr.slice,run_underlying F,J,z5 ap]
 ·rename_i t j G ae heq;rw[heq]at O;obtain⟨ht,⟨q,M,ho⟩,l,hh,C,K,I,X,rfl⟩:=hs;obtain⟨f,F,ap,aI⟩:=Qc ht;obtain⟨aF,aG,aR,aA,ah,he,aX,aP,ax,g⟩:=O.2.1 _ _ M ho;have J:=GS r (sl:=true) (ah:=ah) C K I Y
  refine⟨.slice (if ah=l then aA else aA.map (·.add (l*P.cellsOf (E P T)))) (hh-l) (ah-l),?_,rfl,fun q' aN az L=>?_,fun aN az L=>by rw[ho]at L;cases L⟩
  ·simp[execOp,A,he,Instr.sliceAt,Instr.slice,run_underlying F,J,z5 ap]
  ·rw[ho]at L;cases L;refine⟨Y,fun aa e=>?_,fun e=>?_,_,ah-l,rfl,Y,Y,fun hn=>?_,fun aQ=>?_⟩
   ·have hl:l=0:=Y;subst hl;have:ae=M.length:=Y;have hv:=aG this Y;rw[<-hv,he];have h3:hh=ae:=Y;congr 1;split
    ·rfl
    ·cases aA<;>simp[Addr.add]
   ·have hl:l=0:=Y;subst hl;have hv:=aR Y;rw[he]at hv;have av:(if ah=0 then aA else aA.map (·.add (0*P.cellsOf (E P T))))=aA:=by
     split
     ·rfl
     ·cases aA<;>simp[Addr.add]
    rw[av];unfold ib at hv⊢;revert hv;cases(h t j).v with
    |slice b n c=>intro hv;cases hv;simp
    |_=>intro hv;cases hv
   ·have aC:aA=none:=by
     by_cases R:ah=l
     ·rw[if_pos R]at hn;exact hn
     ·rw[if_neg R]at hn;simpa using hn
    have:=ax aC;omega
   ·obtain⟨b,aE,d,ai⟩:=g Y;refine⟨b,aE,d,?_⟩;rw[if_neg Y,ai];simp[WA,Nat.add_mul]
 ·exact hs.elim
theorem sN{α:Type}(l:List α)(k:Nat)(v:α)(vs:List α)(hk:k+(vs.length+1)<=l.length):place (l.set k v) (k+1) vs=place l k (v::vs):=by
 unfold place;have I:(l.set k v).take (k+1)=l.take k++[v]:=by rw[List.take_set,List.take_succ_eq_append_getElem Y];rw[List.set_append_right _ _ aD];simp[Nat.min_eq_left (show k<=l.length by omega)]
 have X:(l.set k v).drop (k+1+vs.length)=l.drop (k+(vs.length+1)):=by rw[List.drop_set_of_lt Y];congr 1;omega
 grind
theorem Cl(aw:Nat):∀(vs:List Value)(j:Nat)(C:Array Value),aw+j+vs.length<=C.size->
  ((vs.zipIdx j).foldl (fun C x=>C.setIfInBounds (aw+x.2) x.1) C).toList=place C.toList (aw+j) vs
 |[],j,C,_=>by simp[place]
 |v::vs,j,C,hl=>by rw[List.zipIdx_cons,List.foldl_cons,Cl aw vs _ _ aD];rw[Array.toList_setIfInBounds,show aw+(j+1)=aw+j+1 by omega,sN _ _ _ _ Y]
theorem MZ(aw:Nat)(vs C:Array Value)(hl:aw+vs.size<=C.size):
  (vs.zipIdx.foldl (fun C x=>C.setIfInBounds (aw+x.2) x.1) C).toList=place C.toList aw vs.toList:=by
 rw[<-Array.foldl_toList,Array.toList_zipIdx,Cl aw vs.toList 0 C Y];rfl
theorem QB{α:Type}(r:List α)(aw:Nat)(xs:List α)(hl:aw+xs.length<=r.length):(place r aw xs).length=r.length:=by simp[place];omega
theorem Yn.place{α β:Type}{R:α->β->Prop}{l:List α}{m:List β}(x:Yn R l m)(aw:Nat){g:List α}{q:List β}(y:Yn R g q):Yn R (Vm.place l aw g) (Vm.place m aw q):=by unfold Vm.place;rw[y.length];exact((x.take _).append y).append (x.drop _)
theorem SP{ai:Nat->Nat->Ob}{x:V}(hf:x.flat=true)(hv:J8 T' h ai w x v):Yn (Ys T' h ai w) x.cells v.cells.toList:=by
 cases x with
 |one c=>
  have I:=Ys.Qe (hv);have:v.cells=#[v]:=by cases v<;>first|rfl|(simp[Value.oneCell']at I)
  rw[this];exact .cons hv .nil
 |agg xs=>obtain⟨C,rfl,aa⟩:=hv;exact aa
 |any=>cases hf
 |Z xs=>cases hf
 |O g x=>cases hf
 |fix u x=>cases hf
theorem wh(r:ar T0 B σ a w ad h)(T:TypeId)(b:Nat->Option (Nat×Nat))(L:∀i,bb P T i=true->b i=some (VU P T i,P.cellsOf (aV P T i))):
  ∀(K:List (Nat×Operand))(ac d:List At)(G:Array Value),Yn (Ys (ak T0 ad) h σ.ob w) ac G.toList->Ou P σ T K ac d->
   ∃N,Instr.fill b G (K.map fun x=>(x.1,a.eval x.2))=some N/\Yn (Ys (ak T0 ad) h σ.ob w) d N.toList
 |[],ac,d,G,aa,J=>by cases J;exact⟨G,rfl,aa⟩
 |(i,x)::K,ac,d,G,aa,J=>by
  obtain⟨ap,hg,hf,aC,aF,J⟩:=J;have O:=SP hf (r.arg _ x rfl hg)
  have ay:=O.length;have e:=aa.length;have H:G.toList.length=G.size:=Array.length_toList;have e2:(a.eval x).cells.toList.length=(a.eval x).cells.size:=Array.length_toList;have c:=aa.place (VU P T i) O;have heq:=MZ (VU P T i) (a.eval x).cells G Y;rw[<-heq]at c;obtain⟨N,I,X⟩:=wh r T b L K _ d _ c J;refine⟨N,?_,X⟩;have aI:(a.eval x).cells.size=P.cellsOf (aV P T i):=Y;simp only[List.map_cons,Instr.fill,L i ap];rw[if_neg aD];exact I
theorem run_places(E:List Field)(y:∀f∈E,(P.info? f.type).isSome=true)(w:World):
  (E.mapM (m:=Sem) fun f=>do pure (f.offset,<-sizeOf f.type)).run P w= .ok (E.map fun f=>(f.offset,P.cellsOf f.type)) w:=by
 induction E with
 |nil=>simp
 |cons f E ih=>obtain⟨i,hi⟩:=Option.isSome_iff_exists.1 (y f ab);simp only[List.mapM_cons,Sem.run_bind,z5 hi,Result.andThen_ok,Sem.run_pure,ih (fun f hf=>y f aD),List.map_cons]
theorem rd(r:ar T0 B σ a w ad h){T:TypeId}{v:V}(A:o.op= .build T parts)(hs:Xa P σ o.op o.type v):
  ∃an,(execOp a.eval o).run P w= .ok (.value an) w/\J8 (ak T0 ad) h σ.ob w v an:=by
 simp only[A]at hs;obtain⟨hz,k,z,d,D,J,rfl⟩:=hs;obtain⟨i,c,hi,j,aI,a3⟩:=wH hz D;have G:(zeroValue T).run P w= .ok c w:=by simp[zeroValue,typeInfo,hi,j]
 have q:(parts.map fun(x:Nat×Operand)=>(x.1,a.eval x.2)).toList=parts.toList.map fun x=>(x.1,a.eval x.2):=ab;unfold Ow at k;split at k
 ·rename_i E F;by_cases C:∀f∈E.toList,(P.info? f.type).isSome=true
  ·have L:∀i,bb P T i=true->(E.toList.map fun f=>(f.offset,P.cellsOf f.type)).toArray[i]?=some (VU P T i,P.cellsOf (aV P T i)):=by
    intro i ap;simp only[bb,F,Bool.and_eq_true,decide_eq_true_eq]at ap;have ag:=ap.2
    simp[VU,aV,F,KJ,Wc,ag]
   obtain⟨N,I,X⟩:=wh r T _ L parts.toList z d c.cells (a3 _ _ _ _) J;refine⟨.agg N,?_,N,rfl,X⟩;have hm:=run_places E.toList C w
   have:(E.mapM (m:=Sem) fun f=>do pure (f.offset,<-sizeOf f.type)).run P w= .ok (E.toList.map fun f=>(f.offset,P.cellsOf f.type)).toArray w:=by rw[Array.mapM_eq_mapM_toList];change((E.toList.mapM (m:=Sem) fun f=>do pure (f.offset,<-sizeOf f.type))>>=fun l=>pure l.toArray).run P w=_;simp_all
   simp only[execOp,A,Instr.build,Sem.run_bind,G,Result.andThen_ok,run_underlying F,this,q,I,Sem.run_pure]
  · -- no part can be placed:then there are none
   have H:parts.toList=[]:=by
    cases hp:parts.toList with
    |nil=>rfl
    |cons p K=>
     rw[hp]at J;have ap:=J.1
     simp only[bb,F,Bool.and_eq_true]at ap;exact absurd (by intro f hf;exact Array.all_eq_true'.1 ap.1 f aD) C
   exfalso;rw[TG,F]at D;simp at D;obtain⟨rs,s,_⟩:=D;apply C;intro f hf;have:∀(l:List Field)(rs:List _),l.mapM (fun f=>TG P 11 f.type)=some rs->∀f∈l,(P.info? f.type).isSome=true:=by
    intro l;induction l with
    |nil=>intro rs _ f hf;cases hf
    |cons g l ih=>
     intro rs s f hf;simp only[List.mapM_cons,Option.bind_eq_bind,Option.bind_eq_some_iff]at s;obtain⟨r0,ah,b,M,_⟩:=s;rcases List.mem_cons.1 hf with rfl|hf
     ·rw[TG]at ah;cases t:P.info? f.type with
      |some i=>rfl
      |none=>simp[Program.underlying,t]at ah
     ·exact ih b M f hf
   grind
 ·rename_i n e F;cases y:P.info? e with
  |none=>exfalso;rw[TG,F]at D;simp at D;obtain⟨r0,ah,_⟩:=D;rw[TG]at ah;simp[Program.underlying,y]at ah
  |some u=>
   have L:∀i,bb P T i=true->(fun i=>some (i*P.cellsOf e,P.cellsOf e)) i=some (VU P T i,P.cellsOf (aV P T i)):=by intro i _;simp[VU,aV,F]
   obtain⟨N,I,X⟩:=wh r T _ L parts.toList z d c.cells (a3 _ _ _ _) J;refine⟨.agg N,?_,N,rfl,X⟩;simp only[execOp,A,Instr.build,Sem.run_bind,G,Result.andThen_ok,run_underlying F,z5 y,q,I,Sem.run_pure]
 ·cases k
theorem Rl{t:TypeId}(ht:HK P t=true){C:Array Value}(hv:C[i]?=some v):(part t C i).run P w= .ok v w:=by unfold HK at ht;split at ht<;>first|(rename_i F;simp[part,isAgg,run_underlying F,hv])|cases ht
theorem l6{t:TypeId}{ai:Nat->Nat->Ob}{x y:At}(hp:eP P t x y=some p)(O:Ys T' h ai w x u)(hy:Ys T' h ai w y v)(d:Nat)(w':World):
  (Op.equalIn (d+1) t u v).run P w'= .ok p w':=by
 unfold eP at hp;split at hp
 ·rename_i k a' k' b';split at hp
  ·rename_i Z;obtain⟨rfl,hi⟩:=Z;obtain⟨k2,z⟩:=Option.isSome_iff_exists.1 hi;cases hp;rw[Mx O,Mx hy];exact Go.run_equalIn_int w' d t _ _ _ _ (u7 z)
  ·cases hp
 ·split at hp
  ·rename_i Z;cases hp;rw[Ub O,Ub hy];have F:P.underlying t=some .bool:=by unfold Cu at Z;split at Z<;>first|assumption|cases Z
   exact Go.run_equalIn_bool' w' d t _ _ F
  ·cases hp
 ·split at hp
  ·rename_i Z;cases hp;rw[L0 O,L0 hy];rw[Go.run_equalIn_string w' d t _ _ (Vr Z),fM]
  ·cases hp
 ·cases hp
theorem CN{T':CS}{ai:Nat->Nat->Ob}(d:Nat)(C ds:Array Value)(w':World):∀(E:List Field)(i:Nat)(xs ys:List At)(q:Bool),PC P E i=true->J2 P (E.map (·.type)) xs ys=some q->
  Yn (Ys T' h ai w) xs (C.toList.drop i)->Yn (Ys T' h ai w) ys (ds.toList.drop i)->(Op.eqFields (d+1) C ds E).run P w'= .ok q w'
 |[],i,xs,ys,q,_,hq,_,_=>by simp[J2]at hq;subst hq;simp[Op.eqFields]
 |f::E,i,[],ys,q,_,hq,_,_=>by simp[J2]at hq
 |f::E,i,x::xs,[],q,_,hq,_,_=>by simp[J2]at hq
 |f::E,i,x::xs,y::ys,q,ap,hq,O,hy=>by
  simp only[PC,Bool.and_eq_true,decide_eq_true_eq,beq_iff_eq]at ap;obtain⟨⟨⟨hn,ho⟩,aG⟩,ap⟩:=ap;simp only[List.map_cons,J2]at hq;split at hq
  ·rename_i p q' hp z;cases hq;cases b:C.toList.drop i with
   |nil=>rw[b]at O;cases O
   |cons u a=>
    cases G:ds.toList.drop i with
    |nil=>rw[G]at hy;cases hy
    |cons v vs=>
     rw[b]at O;rw[G]at hy;cases O with
     |cons e O=>
      cases hy with
      |cons g hy=>
       have F:C[i]?=some u:=by
        have:(C.toList.drop i)[0]?=some u:=by rw[b];rfl
        simpa using this
       have hv:ds[i]?=some v:=by
        have:(ds.toList.drop i)[0]?=some v:=by rw[G];rfl
        simpa using this
       have c:C.toList.drop (i+1)=a:=by rw[<-List.drop_drop,b];rfl
       have m:ds.toList.drop (i+1)=vs:=by rw[<-List.drop_drop,G];rfl
       have ih:=CN d C ds w' E _ xs ys q' ap z (by rw[c];exact O) aD;subst ho;simp only[Op.eqFields,if_pos hn,Sem.run_bind,Rl aG F,Rl aG hv,Result.andThen_ok,l6 hp e g d w'];cases p
       ·simp
       ·simpa using ih
  ·cases hq
theorem GK(P:Program):∀(ts:List TypeId)(xs ys:List At)(q:Bool),J2 P ts xs ys=some q->ts.length<=xs.length/\ts.length<=ys.length
 |[],_,_,_,_=>⟨Nat.zero_le _,Nat.zero_le _⟩
 |t::ts,[],_,_,h=>by simp[J2]at h
 |t::ts,x::xs,[],_,h=>by simp[J2]at h
 |t::ts,x::xs,y::ys,q,h=>by
  simp only[J2]at h;split at h
  ·rename_i p q' hp z;have:=GK P ts xs ys q' z
   grind
  ·cases h
theorem Cm(P:Program):∀(ts:List TypeId)(xs ys:List At)(m:Nat),ts.length<=m->J2 P ts (xs.take m) (ys.take m)=J2 P ts xs ys
 |[],_,_,_,_=>by simp[J2]
 |t::ts,_,_,0,h=>cz
 |t::ts,[],_,m+1,_=>by simp[J2]
 |t::ts,x::xs,[],m+1,_=>by simp[J2]
 |t::ts,x::xs,y::ys,m+1,h=>by simp only[List.take_succ_cons,J2];rw[Cm P ts xs ys m aD]
theorem wu(P:Program):∀(ts a:List TypeId)(xs ys:List At)(q:Bool),J2 P (ts++a) xs ys=some q->∃p q',J2 P ts xs ys=some p/\J2 P a (xs.drop ts.length) (ys.drop ts.length)=some q'/\q=(p&&q')
 |[],a,xs,ys,q,h=>⟨true,q,by simp[J2],by simpa using h,ab⟩
 |t::ts,a,[],_,_,h=>by simp[J2]at h
 |t::ts,a,x::xs,[],_,h=>by simp[J2]at h
 |t::ts,a,x::xs,y::ys,q,h=>by
  simp only[List.cons_append,J2]at h;split at h
  ·rename_i p q0 hp c;obtain⟨p2,q2,I,X,h3⟩:=wu P ts a xs ys q0 c;cases h;exact⟨p&&p2,q2,by simp only[J2,hp,I],by simpa using X,by rw[h3,Bool.and_assoc]⟩
  ·cases h
theorem Gh{T':CS}{ai:Nat->Nat->Ob}(d:Nat)(C ds:Array Value)(w':World):∀(E:List Field)(i:Nat)(xs ys:List At)(q:Bool),N5 P E i=true->J2 P (E.flatMap (pX P)) xs ys=some q->
  Yn (Ys T' h ai w) xs (C.toList.drop i)->Yn (Ys T' h ai w) ys (ds.toList.drop i)->(Op.eqFields (d+2) C ds E).run P w'= .ok q w'
 |[],i,xs,ys,q,_,hq,_,_=>by simp[J2]at hq;subst hq;simp[Op.eqFields]
 |f::E,i,xs,ys,q,ap,hq,O,hy=>by
  simp only[N5,Bool.and_eq_true,decide_eq_true_eq,beq_iff_eq]at ap;obtain⟨⟨hn,ho⟩,ap⟩:=ap;subst ho;obtain⟨p,q',hp,z,rfl⟩:=wu P _ _ _ _ _ hq;cases aG:HK P f.type with
  |true=>
   rw[aG]at ap;have hl:pX P f=[f.type]:=by unfold pX;rw[aG,if_pos rfl]
   rw[hl]at hp z;have aM:=CN (d+1) C ds w' [f] f.offset xs ys p (by simp only[PC,Bool.and_eq_true,decide_eq_true_eq,beq_iff_eq];exact⟨⟨⟨hn,trivial⟩,aG⟩,trivial⟩) hp O hy
   have ih:=Gh d C ds w' E _ _ _ q' ap z (by rw[<-List.drop_drop];exact O.drop 1) (by rw[<-List.drop_drop];exact hy.drop 1);simp only[Op.eqFields,if_pos hn]at aM⊢;have aC:=GK P _ _ _ _ hp;have aq:=O.length;have aO:=hy.length;simp at aC aq aO;have F:C[f.offset]?=some (C[f.offset]'Y):=Array.getElem?_eq_getElem _;have hv:ds[f.offset]?=some (ds[f.offset]'Y):=Array.getElem?_eq_getElem _;simp only[Sem.run_bind,Rl aG F,Rl aG hv,Result.andThen_ok]at aM⊢;cases xs with
   |nil=>simp at aC
   |cons x xs=>
    cases ys with
    |nil=>simp at aC
    |cons y ys=>
     obtain⟨u,j,e⟩:=O.get 0 x rfl;obtain⟨v,aI,g⟩:=hy.get 0 y rfl;simp only[J2]at hp;split at hp
     ·rename_i m q0 r c;cases c;cases hp;have H:C[f.offset]'Y=u:=by
       have:C[f.offset]?=some u:=by simpa using j
       grind
      have e2:ds[f.offset]'Y=v:=by
       have:ds[f.offset]?=some v:=by simpa using aI
       grind
      rw[H,e2,l6 r e g _ w'];cases m
      ·simp
      ·simpa using ih
     ·cases hp
  |false=>
   rw[aG,if_neg ab]at ap;cases F:P.underlying f.type with
   |none=>rw[F]at ap;cases ap
   |some s=>
    rw[F]at ap;cases s with
    |struct b=>
     simp at ap;obtain⟨⟨⟨⟨⟨⟨aj,k⟩,R⟩,D⟩,au⟩,A⟩,ap⟩:=ap;have hl:pX P f=b.toList.map (·.type):=by unfold pX;rw[aG,if_neg ab,F]
     rw[hl]at hp z;rw[List.length_map]at z;have hf:P.fieldsOf f.type=b:=by simp[Program.fieldsOf,F]
     have aC:=GK P _ _ _ _ hp;have aq:=O.length;have aO:=hy.length;simp at aC aq aO;have ih:=Gh d C ds w' E _ _ _ q' ap z (by rw[<-List.drop_drop];exact O.drop b.size) (by rw[<-List.drop_drop];exact hy.drop b.size);obtain⟨t,o,a,_⟩:=uz (w:=w') aj (C:=C) (aw:=f.offset) Y;obtain⟨n,l,aJ,_⟩:=uz (w:=w') aj (C:=ds) (aw:=f.offset) Y;rw[R]at a aJ;have ao:(Op.equalIn (d+2) f.type t n).run P w'= .ok p w':=by
      rw[a k,aJ k,Go.run_equalIn_struct w' _ f.type _ _ aD au,hf];refine CN (h:=h) (w:=w) (T':=T') (ai:=ai) d _ _ w' b.toList 0 (xs.take b.size) (ys.take b.size) p A ?_ ?_ ?_
      ·rw[Cm P _ _ _ _ ab];exact hp
      ·simpa[cut]using O.take b.size
      ·simpa[cut]using hy.take b.size
     simp only[Op.eqFields,if_pos hn,Sem.run_bind,o,l,Result.andThen_ok,ao];cases p
     ·simp
     ·simpa using ih
    |_=>cases ap
theorem uZ{T:TypeId}{ai:Nat->Nat->Ob}{xs ys:List At}{q:Bool}(ap:PR P T=true)(hq:J2 P (Kq P T) xs ys=some q)
  (O:J8 T' h ai w (.agg xs) u) (hy:J8 T' h ai w (.agg ys) v) (op:BinOp) (x y:Operand) (w':World):
  (eqGuard op T x y u v).run P w'= .ok () w'/\(binOp .eql T u v).run P w'= .ok (.bool q) w'/\(binOp .neq T u v).run P w'= .ok (.bool (!q)) w':=by
 obtain⟨C,rfl,aK⟩:=O;obtain⟨ds,rfl,S⟩:=hy;unfold PR at ap;split at ap
 ·rename_i E F;simp at ap;have hf:P.fieldsOf T=E:=by simp[Program.fieldsOf,F]
  have aL:P.underlying T=some (.struct (P.fieldsOf T)):=by rw[hf];exact F
  have aH:(Op.equalIn 10000 T (.agg C) (.agg ds)).run P w'= .ok q w':=by rw[Go.run_equalIn_struct w' 9999 T C ds aL ap.1.1];exact Gh 9997 C ds w' _ 0 xs ys q aD hq (by simpa using aK) aD
  refine⟨Go.run_eqGuard_agg w' op T x y C ds ap.1.2,?_,?_⟩
  ·rw[Go.run_eql_struct,aH];rfl
  ·rw[Go.run_neq_struct,aH];rfl
 ·cases ap
theorem vA(r:ar T0 B σ a w ad h){v:V}(A:o.op= .move x\/o.op= .assign x)(hs:Xa P σ o.op o.type v):
  ∃an,(execOp a.eval o).run P w= .ok (.value an) w/\J8 (ak T0 ad) h σ.ob w v an:=by
 rcases A with A|A<;>
 ·simp only[A]at hs;subst hs;exact⟨a.eval x,by simp[execOp,A],r.look _ x⟩
theorem lP(r:ar T0 B σ a w ad h){c:Operand}{v:V}(A:o.op= .pick c x y)(hs:Xa P σ o.op o.type v):
  ∃an,(execOp a.eval o).run P w= .ok (.value an) w/\J8 (ak T0 ad) h σ.ob w v an:=by
 simp only[A]at hs;obtain⟨g,p,q,hg,Z,hp,hq,D,b,rfl⟩:=hs;have he:=Ub (r.arg o.type c Z hg)
 cases g with
 |true=>have O:=Ub (r.arg o.type x (hp rfl) (D rfl));exact⟨.bool p,by simp[execOp,A,he,asBool,O],.bool _⟩
 |false=>have hy:=Ub (r.arg o.type y (hq rfl) (b rfl));exact⟨.bool q,by simp[execOp,A,he,asBool,hy],.bool _⟩
theorem Uv(op:BinOp)(T:TypeId)(x y:Operand)(hv:∀C,v≠ .agg C)(hn:v≠ .nilIface):(eqGuard op T x y v u).run P w= .ok () w:=by unfold eqGuard;cases op<;>simp<;>(split<;>first|exact absurd rfl hn|exact absurd rfl (hv _)|simp)
theorem si(r:ar T0 B σ a w ad h){T T':TypeId}{v:V}(A:o.op= .binOp op T x y T')(hs:Xa P σ o.op o.type v):
  ∃an,(execOp a.eval o).run P w= .ok (.value an) w/\J8 (ak T0 ad) h σ.ob w v an:=by
 simp only[A]at hs;obtain⟨aZ,a0,hs⟩:=hs;have O:=r.arg T x rfl aZ
 have hy:=r.arg T y rfl a0;unfold iM at hs;split at hs
 ·rename_i k m k' n heq i;rw[heq]at O;rw[i]at hy;have b:=Mx O
  have E:=Mx hy;obtain⟨d,rfl,an,hr,hd⟩:=z0 (P:=P) (t:=T) hs.1 hs.2 w;refine⟨an,?_,hd _ _⟩;simp only[execOp,A,b,E,Sem.run_bind,Uv op T x y (v:=.int k m) ab ab,Result.andThen_ok,hr,Sem.run_pure]
 ·rename_i m n heq i;rw[heq]at O;rw[i]at hy;have b:=L0 O
  have E:=L0 hy;obtain⟨d,rfl,an,hr,hd⟩:=L3 (P:=P) (t:=T) hs w;refine⟨an,?_,hd _ _⟩;simp only[execOp,A,b,E,Sem.run_bind,Uv op T x y (v:=.string m) ab ab,Result.andThen_ok,hr,Sem.run_pure]
 ·rename_i m n heq i;rw[heq]at O;rw[i]at hy;have b:=Ub O
  have E:=Ub hy;obtain⟨d,rfl,an,hr,hd⟩:=lb hs.1 hs.2 w;refine⟨an,?_,hd _ _⟩;simp only[execOp,A,b,E,Sem.run_bind,Uv op T x y (v:=.bool m) ab ab,Result.andThen_ok,hr,Sem.run_pure]
 ·rename_i xs ys heq i;rw[heq]at O;rw[i]at hy;obtain⟨ap,q,hq,hs⟩:=hs;obtain⟨I,X,h3⟩:=uZ ap hq O hy op x y w;rcases hs with⟨rfl,rfl⟩|⟨rfl,rfl⟩
  ·exact⟨.bool q,by simp only[execOp,A,Sem.run_bind,I,Result.andThen_ok,X,Sem.run_pure],.bool _⟩
  ·exact⟨.bool (!q),by simp only[execOp,A,Sem.run_bind,I,Result.andThen_ok,h3,Sem.run_pure],.bool _⟩
 ·exact hs.elim
theorem o3(r:ar T0 B σ a w ad h){op:UnOp}{T:TypeId}{v:V}(A:o.op= .unOp op T x)(hs:Xa P σ o.op o.type v):
  ∃an,(execOp a.eval o).run P w= .ok (.value an) w/\J8 (ak T0 ad) h σ.ob w v an:=by
 simp only[A]at hs;obtain⟨hg,hs⟩:=hs;have O:=r.arg 0 x rfl hg
 split at hs
 ·rename_i b heq;rw[heq]at O;subst hs;have he:=Ub O
  exact⟨.bool (!b),by simp[execOp,A,he,Op.unary],.bool _⟩
 ·rename_i k n heq;rw[heq]at O;subst hs;have he:=Mx O
  exact⟨.int k _,by simp[execOp,A,he,Op.unary,Op.intArith],.int _ _⟩
 ·exact hs.elim
theorem No(r:ar T0 B σ a w ad h){S T:TypeId}{v:V}(A:o.op= .convert S T x)(L:(P.underlying S).isSome=true)(hs:Xa P σ o.op o.type v):
  ∃an,(execOp a.eval o).run P w= .ok (.value an) w/\J8 (ak T0 ad) h σ.ob w v an:=by
 simp only[A]at hs;obtain⟨hg,_,hs⟩:=hs;have O:=r.arg 0 x rfl hg
 split at hs
 ·rename_i k' n heq;rw[heq]at O;obtain⟨k,hk,rfl⟩:=hs;have he:=Mx O
  obtain⟨d,hd⟩:=Option.isSome_iff_exists.1 L;exact⟨.int k _,by simp[execOp,A,he,convert,run_underlying hd,run_underlying (u7 hk),Conv.intToInt],.int _ _⟩
 ·exact hs.elim
theorem rk(r:ar T0 B σ a w ad h){v:V}(A:o.op= .extract x i)(hs:Xa P σ o.op o.type v):
  ∃an,(execOp a.eval o).run P w= .ok (.value an) w/\J8 (ak T0 ad) h σ.ob w v an:=by
 simp only[A]at hs;obtain⟨hg,hs⟩:=hs;have O:=r.arg 0 x rfl hg
 split at hs
 ·rename_i xs heq;rw[heq]at O;obtain⟨vs,he,aa⟩:=O;obtain⟨an,d,hr⟩:=aa.get i v hs.1;have:vs[i]?=some an:=by simpa using d
  exact⟨an,by simp[execOp,A,he,Instr.extract,this],hr.up⟩
 ·exact hs.elim
theorem NB(r:ar T0 B σ a w ad h){v:V}(A:o.op= .call c)(hs:Xa P σ o.op o.type v):
  ∃an,(execOp a.eval o).run P w= .ok (.value an) w/\J8 (ak T0 ad) h σ.ob w v an:=by
 simp only[A,Xa]at hs;obtain⟨p,ax,C⟩:=c;simp only at hs;split at hs
 ·rename_i x t ha ht;obtain rfl:ax=#[x]:=fn;obtain rfl:C=#[t]:=by apply Array.toList_inj.1;simpa using ht
  obtain⟨hg,hs⟩:=hs;have O:=r.arg t x rfl hg
  split at hs
  ·rename_i s heq;rw[heq]at O;obtain⟨au,rfl⟩:=hs;have he:=L0 O
   exact⟨.int .i64 s.size,by simp[execOp,A,resolve,invoke,builtin,he,Builtin.len_,run_underlying (Vr au),goInt],.int _ _⟩
  ·rename_i Q M heq;rw[heq]at O;obtain⟨au,rfl⟩:=hs;obtain⟨f,F,_,_⟩:=Qc au;obtain⟨aA,ah,he,_,_⟩:=gL (O);exact⟨.int .i64 M.length,by simp[execOp,A,resolve,invoke,builtin,he,Builtin.len_,run_underlying F,goInt],.int _ _⟩
  ·rename_i Q heq;rw[heq]at O;obtain⟨au,rfl⟩:=hs;obtain⟨f,F,_,_⟩:=Qc au;have he:a.eval x= .slice none 0 0:=O
   exact⟨.int .i64 0,by simp[execOp,A,resolve,invoke,builtin,he,Builtin.len_,run_underlying F,goInt],.int _ _⟩
  ·rename_i u j lo ae heq;rw[heq]at O;obtain⟨au,ho,rfl⟩:=hs;obtain⟨f,F,_,_⟩:=Qc au;have d:∃aA ah,a.eval x= .slice aA ae ah:=by
    rcases ho with⟨q,Q,M,ho⟩|⟨Q,M,ho⟩
    ·obtain⟨_,_,_,aA,ah,he,_,_,_,_⟩:=O.2.1 _ _ _ ho;grind
    ·obtain⟨_,_,_,aA,ah,he,_,_,_,_⟩:=O.2.2 _ _ ho;grind
   obtain⟨aA,ah,he⟩:=d;exact⟨.int .i64 ae,by simp[execOp,A,resolve,invoke,builtin,he,Builtin.len_,run_underlying F,goInt],.int _ _⟩
  ·rename_i u j i c heq;rw[heq]at O;obtain⟨au,Q,M,n,s,ho,hi,aB,rfl⟩:=hs;obtain⟨f,F,_,_⟩:=Qc au;obtain⟨v0,S,hn,av⟩:=r.nest ho hi aB;have z:=O.2 _ _ ho
   rw[hn]at z;have he:∃aA ah,a.eval x= .slice aA s.length ah:=by
    rw[z];cases av with
    |sl v Q M S e xs l ag hz J hl hk hs hd=>
     rcases ag.2 with⟨rfl,h0⟩|⟨g,ah,ay,rfl,_⟩
     ·exact⟨none,0,by rw[h0]⟩
     ·exact⟨_,ah,rfl⟩
   obtain⟨aA,ah,he⟩:=he;exact⟨.int .i64 s.length,by simp[execOp,A,resolve,invoke,builtin,he,Builtin.len_,run_underlying F,goInt],.int _ _⟩
  ·exact hs.elim
 ·rename_i x y ha;obtain rfl:ax=#[x,y]:=fn;obtain⟨k,m,n,O,hy,rfl⟩:=hs;have b:=kW r O
  have E:=kW r hy;exact⟨.int k _,by simp[execOp,A,resolve,invoke,builtin,b,E,Builtin.max_,Builtin.max2],.int _ _⟩
 ·rename_i x y ha;obtain rfl:ax=#[x,y]:=fn;obtain⟨k,m,n,O,hy,rfl⟩:=hs;have b:=kW r O
  have E:=kW r hy;exact⟨.int k _,by simp[execOp,A,resolve,invoke,builtin,b,E,Builtin.min_,Builtin.min2],.int _ _⟩
 ·exact hs.elim
theorem BB(r:ar T0 B σ a w ad h){v:V}(hs:Xa P σ o.op o.type v):
  ∃an,(execOp a.eval o).run P w= .ok (.value an) w/\J8 (ak T0 ad) h σ.ob w v an:=by
 cases A:o.op with
 |move x=>exact vA r (.inl A) hs
 |assign x=>exact vA r (.inr A) hs
 |pick c x y=>exact lP r A hs
 |load T x=>exact mD r A hs
 |fieldAddr T x f=>exact BW r A hs
 |nilCheck x=>exact wl r A hs
 |indexAddr T x i=>exact Ng r A hs
 |index T x i=>exact M2 r A hs
 |field T x f=>exact m7 r A hs
 |slice T x lo hi m=>
  cases m with
  |none=>exact ok r A hs
  |some m=>rw[A]at hs;exact hs.elim
 |binOp op T x y T'=>exact si r A hs
 |unOp op T x=>exact o3 r A hs
 |convert S T x=>rw[A]at hs;exact No r A hs.2.1 aD
 |extract x i=>exact rk r A hs
 |call c=>exact NB r A hs
 |build T K=>exact rd r A hs
 |_=>rw[A]at hs;exact hs.elim
def At.ref(d:Nat):At->Bool
 |.O t _ _ _=>t==d
 |.ptr t _ _ _=>t==d
 |.Z t _=>t==d
 |.fn _ t=>t==d
 |.ac t _ _ _ _=>t==d
 |_=>false
def Y6(d:Nat):List At->Bool
 |[]=>false
 |x::xs=>x.ref d||Y6 d xs
def V.Ft(d:Nat):V->Bool
 |.one x=>x.ref d
 |.agg xs=>Y6 d xs
 |_=>false
def N9(d:Nat):List V->Bool
 |[]=>false
 |x::xs=>x.Ft d||N9 d xs
def V.ref(d:Nat):V->Bool
 |.Z xs=>N9 d xs
 |.O _ x=>x.Ft d||(match x with|.Z xs=>N9 d xs|_=>false)
 |.one x=>x.ref d
 |.agg xs=>Y6 d xs
 |.fix _ x=>x.Ft d||(match x with|.Z xs=>N9 d xs|_=>false)
 |.any=>false
def Xi(d:Nat):List Ob->Bool
 |[]=>false
 |.box G::aa=>Y6 d G||Xi d aa
 |.lit _ M::aa=>Y6 d M.flatten||Xi d aa
 |_::aa=>Xi d aa
def qp(d:Nat):Nat->U->Bool
 |_,[]=>true
 |k,e::σ=>(k==d||(!e.1.ref d&&!Xi d e.2))&&qp d (k+1) σ
def U.fresh(σ:U)(d:Nat):Bool:=decide (d<σ.length)&&qp d 0 σ
theorem kD{d:Nat}:∀{σ:U}{k:Nat},qp d k σ=true->∀t e,σ[t]?=some e->k+t≠d->e.1.ref d=false/\Xi d e.2=false
 |[],_,_,t,e,he,_=>by simp at he
 |e0::σ,k,hf,t,e,he,W=>by
  simp only[qp,Bool.and_eq_true,Bool.or_eq_true,beq_iff_eq,Bool.not_eq_true']at hf;cases t with
  |zero=>
   simp at he;subst he;rcases hf.1 with h|h
   ·omega
   ·exact h
  |succ t=>exact kD hf.2 t e aD Y
theorem U.dR(hf:σ.fresh d=true)(t:Nat)(W:t≠d):(σ.get t).ref d=false:=by
 simp only[U.fresh,Bool.and_eq_true]at hf;unfold U.get;cases he:σ[t]? with
 |none=>rfl
 |some e=>exact(kD hf.2 t e he Y).1
theorem pD{d:Nat}:∀{aa:List Ob},Xi d aa=false->∀j G,XG aa j= .box G->Y6 d G=false
 |[],_,j,G,h=>by simp[XG]at h
 |o::aa,hr,j,G,h=>by
  cases j with
  |zero=>simp[XG]at h;subst h;simp[Xi]at hr;exact hr.1
  |succ j=>have:XG aa j= .box G:=dU;refine pD ?_ j G this;cases o<;>simp_all[Xi]
theorem uW{d:Nat}:∀{aa:List Ob},Xi d aa=false->∀j Q M,XG aa j= .lit Q M->Y6 d M.flatten=false
 |[],_,j,_,_,h=>by simp[XG]at h
 |o::aa,hr,j,Q,M,h=>by
  cases j with
  |zero=>simp[XG]at h;subst h;simp[Xi]at hr;exact hr.1
  |succ j=>have:XG aa j= .lit Q M:=dU;refine uW ?_ j Q M this;cases o<;>simp_all[Xi]
theorem U.dD(hf:σ.fresh d=true)(t j:Nat)(W:t≠d)(Q:Nat)(M:List (List At))(ho:σ.ob t j= .lit Q M):Y6 d M.flatten=false:=by
 simp only[U.fresh,Bool.and_eq_true]at hf;unfold U.ob at ho;cases he:σ[t]? with
 |none=>rw[he]at ho;cases ho
 |some e=>rw[he]at ho;exact uW (kD hf.2 t e he Y).2 j Q M ho
theorem U.bY(hf:σ.fresh d=true)(t j:Nat)(W:t≠d)(G:List At)(ho:σ.ob t j= .box G):Y6 d G=false:=by
 simp only[U.fresh,Bool.and_eq_true]at hf;unfold U.ob at ho;cases he:σ[t]? with
 |none=>rw[he]at ho;cases ho
 |some e=>rw[he]at ho;exact pD (kD hf.2 t e he Y).2 j G ho
theorem U.kh(hf:σ.fresh d=true):d<σ.length:=by simp only[U.fresh,Bool.and_eq_true,decide_eq_true_eq]at hf;exact hf.1
def bA(h h':Nat->Nat->Hd)(ai F:Nat->Nat->Ob)(t j:Nat):Prop:=
 (∀q Q M,F t j= .arr q Q M->h' t j=h t j/\∃aH,ai t j= .arr q Q aH/\aH.length=M.length)/\
 (∀Q M,F t j= .lit Q M->h' t j=h t j/\∃aH,ai t j= .lit Q aH/\aH.length=M.length)/\
 (∀G,F t j= .box G->h' t j=h t j/\∃aa,ai t j= .box aa)
theorem bA.same{ai:Nat->Nat->Ob}(hh:h' t j=h t j)(ho:F t j=ai t j):bA h h' ai F t j:=
 ⟨fun q Q M e=>⟨hh,M,by rw[<-ho];exact e,rfl⟩,fun Q M e=>⟨hh,M,by rw[<-ho];exact e,rfl⟩,fun G e=>⟨hh,G,by rw[<-ho];exact e⟩⟩
section
variable{ai:Nat->Nat->Ob}
theorem Ys.carry(hT:∀b k v,T b k->w.cell? ⟨b,k,none⟩=some v->w'.cell? ⟨b,k,none⟩=some v/\T' b k)(Z:∀t j,t≠d->bA h h' ai F t j)
  {x:At} (O:x.ref d=false) (r:Ys T h ai w x v):Ys T' h' F w' x v:=by
 cases x with
 |any=>exact r
 |d x=>exact Rd.mono hT r
 |nil s=>exact r
 |O t j lo ae=>
  have ht:t≠d:=dM;refine⟨r.1,fun q Q M ho=>?_,fun Q M ho=>?_⟩
  ·obtain⟨hh,aH,af,hl⟩:=(Z t j ht).1 q Q M ho;rw[hh,<-hl];exact r.2.1 q Q aH af
  ·obtain⟨hh,aH,af,hl⟩:=(Z t j ht).2.1 Q M ho;rw[hh,<-hl];exact r.2.2 Q aH af
 |ptr t j i c=>have ht:t≠d:=dM;refine⟨r.1,fun q Q M ho=>?_⟩;obtain⟨hh,aH,af,hl⟩:=(Z t j ht).1 q Q M ho;rw[hh];exact r.2 q Q aH af
 |Z t c=>have ht:t≠d:=dM;refine⟨r.1,fun G ho=>?_⟩;obtain⟨hh,aa,af⟩:=(Z t 0 ht).2.2 G ho;rw[hh];exact r.2 aa af
 |fn f t=>have ht:t≠d:=dM;refine⟨r.1,fun G ho=>?_⟩;obtain⟨hh,aa,af⟩:=(Z t 0 ht).2.2 G ho;rw[hh];exact r.2 aa af
 |ac t j i c o=>have ht:t≠d:=dM;refine⟨r.1,fun Q M ho=>?_⟩;obtain⟨hh,aH,af,hl⟩:=(Z t j ht).1 true Q M ho;rw[hh];exact r.2 Q aH af
 |am rr c=>obtain⟨b,aw,g,e,hk⟩:=r;exact⟨b,aw,g,e,fun k d hd=>⟨(hT _ _ _ (hk k d hd).2.1 (hk k d hd).1).1,(hT _ _ _ (hk k d hd).2.1 (hk k d hd).1).2,Rd.mono hT (hk k d hd).2.2⟩⟩
theorem Rt(hT:∀b k v,T b k->w.cell? ⟨b,k,none⟩=some v->w'.cell? ⟨b,k,none⟩=some v/\T' b k)(Z:∀t j,t≠d->bA h h' ai F t j)
  {xs:List At} (O:Y6 d xs=false) (r:Yn (Ys T h ai w) xs vs):Yn (Ys T' h' F w') xs vs:=by
 induction r with
 |nil=>exact .nil
 |cons r _ ih=>simp only[Y6,Bool.or_eq_false_iff]at O;exact .cons (Ys.carry hT Z O.1 r) (ih O.2)
theorem y9.carry(hT:∀b k v,T b k->w.cell? ⟨b,k,none⟩=some v->w'.cell? ⟨b,k,none⟩=some v/\T' b k)(Z:∀t j,t≠d->bA h h' ai F t j)
  {x:V} (O:x.Ft d=false) (r:y9 T h ai w x v):y9 T' h' F w' x v:=by
 cases x with
 |any=>exact r
 |one x=>exact Ys.carry hT Z O r
 |agg xs=>obtain⟨C,e,r⟩:=r;exact⟨C,e,Rt hT Z O r⟩
 |Z xs=>exact r.elim
 |O g x=>exact r.elim
 |fix u x=>exact r.elim
theorem J8.carry(hT:∀b k v,T b k->w.cell? ⟨b,k,none⟩=some v->w'.cell? ⟨b,k,none⟩=some v/\T' b k)(Z:∀t j,t≠d->bA h h' ai F t j)
  {x:V} (O:x.ref d=false) (r:J8 T h ai w x v):J8 T' h' F w' x v:=by
 cases x with
 |any=>exact r
 |one x=>exact Ys.carry hT Z O r
 |agg xs=>obtain⟨C,e,r⟩:=r;exact⟨C,e,Rt hT Z O r⟩
 |Z xs=>
  obtain⟨vs,e,r⟩:=r;refine⟨vs,e,?_⟩;generalize vs.toList=vl at r;simp only[V.ref]at O;induction r with
  |nil=>exact .nil
  |cons r _ ih=>simp only[N9,Bool.or_eq_false_iff]at O;exact .cons (y9.carry hT Z O.1 r) (ih O.2)
 |O g x=>simp only[V.ref,Bool.or_eq_false_iff]at O;exact⟨fun hg=>y9.carry hT Z O.1 (r.1 hg),r.2⟩
 |fix u x=>simp only[V.ref,Bool.or_eq_false_iff]at O;exact⟨r.1,y9.carry hT Z O.1 r.2⟩
end
theorem ar.Tlt(r:ar T0 B σ a w ad h){k:Nat}(J:ak T0 ad b k):b<w.heap.size:=by
 rcases J with J|J
 ·exact r.d b (r.f b k J)
 ·exact(r.e b J).2
theorem j8{e:TypeId}{xs:List Value}(J:∀b,blk v=some b->w'.heap[b]?=w.heap[b]?)(ho:w.ownsRow 0 e Q v n xs):w'.ownsRow 0 e Q v n xs:=by
 refine⟨ho.1,?_⟩;rcases ho.2 with hn|⟨g,ah,ay,rfl,h0,hg,ap⟩
 ·exact .inl hn
 ·exact .inr ⟨g,ah,ay,rfl,h0,by rw[J g rfl];exact hg,ap⟩
theorem aZ.Gi{d:D}(J:∀b,S b->w'.heap[b]?=w.heap[b]?)(ho:aZ w v d S):aZ w' v d S:=by
 induction ho with
 |int k n S=>exact .int k n S
 |bool b S=>exact .bool b S
 |str s S=>exact .str s S
 |unk v h S=>exact .unk v h S
 |sl v Q M S e xs l ho hz aj hl hk hs hd ih=>exact .sl v Q M S e xs l (j8 (fun b h=>J b (aj b h)) ho) hz aj hl (fun k x d O m=>ih k x d O m (fun b h=>J b (hs k b h).1)) hs hd
theorem aZ.mono{d:D}{C:Nat->Prop}(L:∀b,S b->C b)(ho:aZ w v d S):aZ w v d C:=by
 cases ho with
 |int k n S=>exact .int k n C
 |bool b S=>exact .bool b C
 |str s S=>exact .str s C
 |unk v h S=>exact .unk v h C
 |sl v Q M S e xs l ho hz aj hl hk hs hd=>exact .sl v Q M C e xs l ho hz (fun b h=>L b (aj b h)) hl hk (fun k b h=>⟨L b (hs k b h).1,(hs k b h).2⟩) hd
theorem zq.Gi{xs:List Value}(J:∀b,S b->w'.heap[b]?=w.heap[b]?)(ho:zq w xs ds S):zq w' xs ds S:=by obtain⟨hl,l,I,X,h3⟩:=ho;exact⟨hl,l,fun k x d O hd=>(I k x d O hd).Gi (fun b h=>J b (X k b h)),X,h3⟩
theorem zR.Gi{ai:Nat->Nat->Ob}{o:Ob}
  (hT:∀b k v,T b k->w.cell? ⟨b,k,none⟩=some v->w'.cell? ⟨b,k,none⟩=some v/\T' b k) (Z:∀t j,t≠d->bA h h' ai F t j)
  (aM:o≠ .none->∀b,blk hd.v=some b->hd.u b) (J:o≠ .none->∀b,hd.u b->w'.heap[b]?=w.heap[b]?) (hr:Xi d [o]=false) (r:zR T h ai w hd o):zR T' h' F w' hd o:=by
 cases o with
 |none=>trivial
 |box G=>obtain⟨b,C,e,hv,hh,aa⟩:=r;simp only[Xi,Bool.or_false]at hr;exact⟨b,C,e,hv,by rw[J ab b (aM ab b (by rw[hv];rfl))];exact hh,Rt hT Z hr aa⟩
 |arr q Q M=>
  have hk:∀{e:TypeId}{n:Nat}{xs:List Value},w.ownsRow 0 e Q hd.v n xs->w'.ownsRow 0 e Q hd.v n xs:=fun ho=>j8 (fun b h=>J ab b (aM ab b h)) ho;cases q with
  |false=>obtain⟨e,xs,ho,hz,aa⟩:=r;exact⟨e,xs,hk ho,hz,aa.imp fun _ _=>Rd.mono hT⟩
  |true=>obtain⟨e,xs,ho,hz,aa,hn⟩:=r;exact⟨e,xs,hk ho,hz,aa.Gi (fun b h=>J ab b h.1),hn⟩
 |lit Q M=>obtain⟨e,xs,ho,hz,aa⟩:=r;simp only[Xi,Bool.or_false]at hr;exact⟨e,xs,j8 (fun b h=>J ab b (aM ab b h)) ho,hz,Rt hT Z hr aa⟩
theorem U.ew(hf:σ.fresh d=true)(t j:Nat)(W:t≠d):Xi d [σ.ob t j]=false:=by
 cases ho:σ.ob t j with
 |none=>rfl
 |box G=>simp[Xi,U.bY hf t j W G ho]
 |arr q Q M=>rfl
 |lit Q M=>simp only[Xi,U.dD hf t j W Q M ho,Bool.or_false]
theorem ar.ZAM(r:ar T0 B σ a w ad h)(hf:σ.fresh d=true)(al:Nat->Prop)(aI:w.heap.size<=w'.heap.size)(hg:∀k,k<w.heap.size->¬al k->w'.heap[k]?=w.heap[k]?)
  (hm:∀b,al b->¬B b/\¬ad b/\∀t j,t≠d->σ.ob t j≠ .none->¬(h t j).u b) (z:∀b,ad b->X' b) (g:∀b,X' b->ad b\/(w.heap.size<=b/\b<w'.heap.size))
  (v:V) (an:Value) (aa:List Ob) (hd:Nat->Hd)
  (hv:J8 (ak T0 X') (fun t j=>if t=d then hd j else h t j) (σ.new d v aa).ob w' v an)
  (A:∀j,zR (ak T0 X') (fun t j=>if t=d then hd j else h t j) (σ.new d v aa).ob w' (hd j) (XG aa j))
  (aM:∀j b,XG aa j≠ .none->blk (hd j).v=some b->(hd j).u b)
  (av:∀j b,XG aa j≠ .none->(hd j).u b->(w.heap.size<=b\/al b)/\¬X' b/\b<w'.heap.size)
  (az:∀j j' b,XG aa j≠ .none->XG aa j'≠ .none->(hd j).u b->(hd j').u b->j=j'):
  ar T0 B (σ.new d v aa) (a.put (some d) an) w' X' (fun t j=>if t=d then hd j else h t j):=by
 have ag:=U.kh hf;have C:∀b k,ak T0 ad b k->¬al b:=by
  intro b k J q;rcases J with J|J
  ·exact(hm b q).1 (r.f b k J)
  ·exact(hm b q).2.1 J
 have hT:∀b k v,ak T0 ad b k->w.cell? ⟨b,k,none⟩=some v->w'.cell? ⟨b,k,none⟩=some v/\ak T0 X' b k:=by intro b k v J aB;refine⟨?_,J.imp id (z b)⟩;rw[World.cell?_of_block (hg b (r.Tlt J) (C b k J))];exact aB
 have Z:∀t j,t≠d->bA h (fun t j=>if t=d then hd j else h t j) σ.ob (σ.new d v aa).ob t j:=by
  intro t j W;have he:(σ.new d v aa).ob t j=σ.ob t j:=fQ
  exact bA.same aD he
 refine⟨by simp[Act.put,r.size,U.Rz],r.defers,fun b J=>Nat.lt_of_lt_of_le (r.d b J) aI,fun b J=>?_,r.f,fun t ht=>?_,fun t j=>?_,fun t j b ho J=>?_,fun t j b ho J=>?_,fun t j t' j' b ho L J aj=>?_⟩
 ·rcases g b J with J|J
  ·have:=r.e b J;exact⟨this.1,Y⟩
  ·exact⟨fun aA=>by have:=r.d b aA;omega,J.2⟩
 ·rw[U.Rz]at ht;rw[U.P7];by_cases m:t=d
  ·subst m;simp only[ag,if_true];have:(a.tmps.setIfInBounds t an).getD t undef=an:=by simp[r.size,ag]
   simp only[Act.put,this];exact hv
  ·rw[if_neg (fun hh=>m hh.1)];have:(a.tmps.setIfInBounds d an).getD t undef=a.tmps.getD t undef:=by simp[Array.getElem?_setIfInBounds_ne (Ne.symm m)]
   simp only[Act.put,this];exact J8.carry hT Z (U.dR hf t m) (r.slot t ht)
 ·rw[U.xG];by_cases m:t=d
  ·subst m;grind
  ·have W:¬(t=d/\d<σ.length):=fun hh=>m hh.1;rw[if_neg W];simp only[if_neg m];exact zR.Gi hT Z (fun ho b=>r.c t j b ho) (fun ho b F=>hg b (r.own t j b ho F).2.2 (fun q=>(hm b q).2.2 t j m ho F)) (U.ew hf t j m) (r.obj t j)
 ·rw[U.xG]at ho;by_cases m:t=d
  ·subst m;simp only[ag,if_true]at ho J⊢;grind
  ·rw[if_neg (fun hh=>m hh.1)]at ho;simp only[m]at J⊢;exact r.c t j b ho J
 ·rw[U.xG]at ho;by_cases m:t=d
  ·subst m;simp only[ag,if_true]at ho J;have I:=av j b ho J
   refine⟨?_,I.2.1,I.2.2⟩;rcases I.1 with X|X
   ·exact fun aA=>by have:=r.d b aA;omega
   ·exact(hm b X).1
  ·rw[if_neg (fun hh=>m hh.1)]at ho;simp only[m]at J;have:=r.own t j b ho J
   refine⟨this.1,fun O=>?_,Y⟩;rcases g b O with O|O
   ·exact this.2.1 O
   ·omega
 ·rw[U.xG]at ho L;by_cases l:t=d
  ·by_cases ae:t'=d
   ·subst l;subst ae;simp only[ag,if_true]at ho J L aj;grind
   ·subst l;simp only[ag,if_true]at ho J;rw[if_neg (fun hh=>ae hh.1)]at L;simp only[ae]at aj;have I:=av j b ho J
    have X:=r.own t' j' b L aj;rcases I.1 with h3|h3
    ·omega
    ·exact absurd aj ((hm b h3).2.2 t' j' ae L)
  ·by_cases ae:t'=d
   ·subst ae;simp only[ag,if_true]at L aj;rw[if_neg (fun hh=>l hh.1)]at ho;simp only[l]at J;have I:=av j' b L aj
    have X:=r.own t j b ho J;rcases I.1 with h3|h3
    ·omega
    ·exact absurd J ((hm b h3).2.2 t j l ho)
   ·rw[if_neg (fun hh=>l hh.1)]at ho;rw[if_neg (fun hh=>ae hh.1)]at L;simp only[l,ae]at J aj;exact r.inj t j t' j' b ho L J aj
theorem ar.new(r:ar T0 B σ a w ad h)(hf:σ.fresh d=true)(hg:w.grownBy w' none)(z:∀b,ad b->X' b)(g:∀b,X' b->ad b\/(w.heap.size<=b/\b<w'.heap.size))
  (v:V) (an:Value) (aa:List Ob) (hd:Nat->Hd)
  (hv:J8 (ak T0 X') (fun t j=>if t=d then hd j else h t j) (σ.new d v aa).ob w' v an)
  (A:∀j,zR (ak T0 X') (fun t j=>if t=d then hd j else h t j) (σ.new d v aa).ob w' (hd j) (XG aa j))
  (aM:∀j b,XG aa j≠ .none->blk (hd j).v=some b->(hd j).u b)
  (av:∀j b,XG aa j≠ .none->(hd j).u b->w.heap.size<=b/\¬X' b/\b<w'.heap.size)
  (az:∀j j' b,XG aa j≠ .none->XG aa j'≠ .none->(hd j).u b->(hd j').u b->j=j'):
  ar T0 B (σ.new d v aa) (a.put (some d) an) w' X' (fun t j=>if t=d then hd j else h t j):=
 r.ZAM hf (fun _=>False) hg.size (fun k hk _=>hg.block k hk ab) (fun _ hh=>hh.elim) z g v an aa hd hv A aM (fun j b I X=>⟨.inl (av j b I X).1,(av j b I X).2⟩) az
open Go.RowKit
def yg(v:Value)(C:List Value):Prop:=(∃c,C=[c]/\v=c/\c.oneCell'=true)\/(C.length≠1/\v= .agg C.toArray)
def wa:List Value->Value
 |[v]=>v
 |vs=>.tuple vs.toArray
def zm(T:CS)(w:World)(v:Value):D->Prop
 |.sl Q M=>∃e xs,w.ownsRow 0 e Q v M.length xs/\(∀r∈M,r.length=Q)/\Yn (Rd T w) xs M.flatten
 |d=>Rd T w v d
def U6(own:Bool)(T:CS)(w:World)(v:Value)(d:D):Prop:=if own then zm T w v d else Rd T w v d
def R7(P:Program)(f:FuncId):Bool:=
 match P.funcs[f]? with
 | some fn => fn.body.isSome && fn.name != "runtime.NumGoroutine"
 |none=>false
def l1(B N:Nat)(y:Nat->Prop)(C:List Value)(ds:List D):Prop:=
 (∀(i:Nat)(c:Value)(d:D)(b:Nat),C[i]?=some c->ds[i]?=some d->d.scalar=false->blk c=some b->B<=b/\b<N/\¬y b)/\
 (∀(i j:Nat)(c R:Value)(d d':D)(b:Nat),C[i]?=some c->ds[i]?=some d->C[j]?=some R->ds[j]?=some d'->d.scalar=false->d'.scalar=false->blk c=some b->blk R=some b->i=j)
def hC(own:Bool)(T:CS)(w:World)(H:List (List D))(e:Ending)(w':World):Prop:=
 ∃(vs:List Value)(E:List (List Value))(y:Nat->Prop),e= .returned (wa vs)/\Below w.heap.size w w'/\(∀b,y b->w.heap.size<=b/\b<w'.heap.size)/\
  Yn yg vs E/\Yn (fun C ac=>Yn (U6 own (ak T y) w') C ac) E H/\(own=true->l1 w.heap.size w'.heap.size y E.flatten H.flatten)
def JT(P:Program)(f:FuncId)(own:Bool)(ax H:List (List D)):Prop:=
 R7 P f=true/\∀(T:CS)(w:World)(au:List Value),(∀b k,T b k->b<w.heap.size)->Yn (fun v ac=>∃C,yg v C/\Yn (Rd T w) C ac) au ax->
  Calls P f au.toArray w (hC own T w H)
def a2:List At->V
 |[x]=>.one x
 |xs=>.agg xs
def Qt(t:Nat):Nat->List D->List At
 |_,[]=>[]
 |k,.sl _ M::ds=>.O t k 0 M.length::Qt t (k+1) ds
 |k,d::ds=>.d d::Qt t (k+1) ds
def kp:List D->List Ob
 |[]=>[]
 |.sl Q M::ds=>.arr false Q M::kp ds
 |_::ds=>.none::kp ds
def pN(t:Nat):Nat->List (List D)->List V
 |_,[]=>[]
 |k,r::rs=>a2 (Qt t k r)::pN t (k+r.length) rs
def Px(t:Nat):List (List D)->V
 |[r]=>a2 (Qt t 0 r)
 |rs=>.Z (pN t 0 rs)
def VO:List (List D)->V
 |[r]=>a2 (r.map .d)
 |rs=>.Z (rs.map fun r=>a2 (r.map .d))
def qn(σ:U):At->Option D
 |.d x=>some x
 |.nil s=>some (.sl s [])
 |.O t j lo ae=>(match σ.ob t j with|.arr _ Q M=>some (.sl Q (cut M lo ae))|_=>none)
 |_=>none
def rowOf(σ:U):List At->Option (List D)
 |[]=>some []
 |x::xs=>(match qn σ x,rowOf σ xs with|some d,some ds=>some (d::ds)|_,_=>none)
def V.xJ(σ:U):V->Option (List D)
 |.one x=>rowOf σ [x]
 |.agg [_]=>none
 |.agg xs=>rowOf σ xs
 |_=>none
def JD(P:Program)(σ:U):List Operand->List TypeId->List (List D)->Prop
 |[],_,rs=>rs=[]
 |x::xs,t::ts,rs=>am (look P σ t x)=true/\∃r ap,(unc (look P σ t x)).xJ σ=some r/\JD P σ xs ts ap/\rs=r::ap
 |_::_,[],_=>False
def At.nr:At->Bool
 |.O _ _ _ _=>false
 |.ac _ _ _ _ _=>false
 |_=>true
def xY:List At->Bool
 |[]=>true
 |x::xs=>x.nr&&xY xs
def Yz(P:Program)(σ:U):List Operand->List TypeId->Bool
 |x::xs,t::ts=>xY (unc (look P σ t x)).cells&&Yz P σ xs ts
 |_,_=>true
theorem ar.grow(r:ar T0 B σ a w ad h)(hg:w.grownBy w' none)(z:∀b,ad b->X' b)(g:∀b,X' b->ad b\/(w.heap.size<=b/\b<w'.heap.size)):ar T0 B σ a w' X' h:=by
 have hT:∀b k v,ak T0 ad b k->w.cell? ⟨b,k,none⟩=some v->w'.cell? ⟨b,k,none⟩=some v/\ak T0 X' b k:=by intro b k v J aB;refine⟨?_,J.imp id (z b)⟩;rw[World.cell?_of_block (hg.block b (r.Tlt J) ab)];exact aB
 have hB:=hg.size;refine⟨r.size,r.defers,fun b J=>Nat.lt_of_lt_of_le (r.d b J) hB,fun b J=>?_,r.f,fun t ht=>J8.mono hT (r.slot t ht),fun t j=>?_,r.c,fun t j b ho J=>?_,r.inj⟩
 ·rcases g b J with J|J
  ·have:=r.e b J;exact⟨this.1,Y⟩
  ·exact⟨fun aA=>by have:=r.d b aA;omega,J.2⟩
 ·have h0:=r.obj t j;have hk:=fun ho b F=>hg.block b (r.own t j b ho F).2.2 ab;have ao:=r.c t j;cases ho:σ.ob t j with
  |none=>trivial
  |box G=>rw[ho]at h0 hk ao;obtain⟨b,C,e,hv,hh,aa⟩:=h0;exact⟨b,C,e,hv,by rw[hk ab b (ao b ab (by rw[hv];rfl))];exact hh,aa.imp fun _ _=>Ys.mono hT⟩
  |arr q Q M=>
   rw[ho]at h0 hk ao;cases q with
   |false=>obtain⟨e,xs,aw,hz,aa⟩:=h0;exact⟨e,xs,j8 (fun b J=>hk ab b (ao b ab J)) aw,hz,aa.imp fun _ _=>Rd.mono hT⟩
   |true=>obtain⟨e,xs,aw,hz,aa,hn⟩:=h0;exact⟨e,xs,j8 (fun b J=>hk ab b (ao b ab J)) aw,hz,aa.Gi (fun b J=>hk ab b J.1),hn⟩
  |lit Q M=>rw[ho]at h0 hk ao;obtain⟨e,xs,aw,hz,aa⟩:=h0;exact⟨e,xs,j8 (fun b J=>hk ab b (ao b ab J)) aw,hz,aa.imp fun _ _=>Ys.mono hT⟩
 ·have:=r.own t j b ho J;refine⟨this.1,fun O=>?_,Y⟩;rcases g b O with O|O
  ·exact this.2.1 O
  ·omega
def E6(T0:CS)(ad:Nat->Prop)(h:Nat->Nat->Hd)(σ:U):CS:=fun b k=>ak T0 ad b k\/∃t j q Q M,σ.ob t j= .arr q Q M/\(h t j).u b
theorem ar.mR(r:ar T0 B σ a w ad h){k:Nat}(J:E6 T0 ad h σ b k):b<w.heap.size:=by
 rcases J with J|⟨t,j,q,Q,M,ho,J⟩
 ·exact r.Tlt J
 ·exact(r.own t j b aD J).2.2
theorem hp{e:TypeId}{xs:List Value}(ho:w.ownsRow 0 e Q v M.length xs)(hz:∀r∈M,r.length=Q)(hT:∀b k,blk v=some b->T b k)
  (aa:Yn (Rd T w) xs M.flatten):Rd T w v (.sl Q M):=by
 rcases ho.2 with⟨rfl,hn⟩|⟨g,ah,ay,rfl,_,hh,au,aP,aK,aU⟩
 ·have:=List.eq_nil_of_length_eq_zero hn;subst this;exact .nil _
 ·refine .sl _ _ ah Q M (fun k=>(xs[k]?).getD undef) rfl au aP hz (fun _=>rfl) (fun k d hd=>?_) (fun k d hd=>?_)
  ·obtain⟨u,F,_⟩:=aa.get' k d hd;have ag:k<M.length*Q:=by have:=(List.getElem?_eq_some_iff.1 hd).1;grind
   rw[F];refine⟨?_,hT g _ rfl⟩;simp;refine xO hh _ _ ?_;rw[<-aU,List.getElem?_take,if_pos ag]at F;exact F
  ·obtain⟨u,F,hr⟩:=aa.get' k d hd;grind
theorem aZ.rd{d:D}(ho:aZ w v d S)(hT:∀b k,S b->T b k):Rd T w v d:=by
 induction ho with
 |int k n S=>exact .int k n
 |bool b S=>exact .bool b
 |str s S=>exact .str s
 |unk v h S=>exact .unk v h
 |sl v Q M S e xs l ho hz aj hl hk hs hd ih=>exact hp ho hz (fun b k J=>hT b k (aj b J)) (Yn.ka hl (fun k x d O m=>ih k x d O m (fun b k' J=>hT b k' (hs k b J).1)))
theorem zq.rd{xs:List Value}(ho:zq w xs ds S)(hT:∀b k,S b->T b k):Yn (Rd T w) xs ds:=by obtain⟨hl,l,I,X,h3⟩:=ho;exact Yn.ka hl (fun k x d O hd=>(I k x d O hd).rd (fun b k' J=>hT b k' (X k b J)))
theorem ar.cells(r:ar T0 B σ a w ad h){q:Bool}(ho:σ.ob t j= .arr q Q M):
  ∃e xs,w.ownsRow 0 e Q (h t j).v M.length xs/\(∀r∈M,r.length=Q)/\∀T:CS,(∀b k,ak T0 ad b k->T b k)->(∀b k,(h t j).u b->T b k)->Yn (Rd T w) xs M.flatten:=by
 have h0:=r.obj t j;rw[ho]at h0;cases q with
 |false=>obtain⟨e,xs,aw,hz,aa⟩:=h0;exact⟨e,xs,aw,hz,fun T I _=>aa.imp fun _ _=>Rd.mono (fun b k v J Z=>⟨Z,I b k J⟩)⟩
 |true=>obtain⟨e,xs,aw,hz,aa,hn⟩:=h0;exact⟨e,xs,aw,hz,fun T _ X=>aa.rd (fun b k J=>X b k J.1)⟩
theorem ar.eU(r:ar T0 B σ a w ad h){lo:Nat}{q:Bool}(ho:σ.ob t j= .arr q Q M)(hv:Ys (ak T0 ad) h σ.ob w (.O t j lo ae) v)
  (T:CS) (z:∀b k,ak T0 ad b k->T b k) (l:∀b k,(h t j).u b->T b k):Rd T w v (.sl Q (cut M lo ae)):=by
 obtain⟨aF,aG,_,aA,ah,rfl,aX,V,ax,J⟩:=hv.2.1 q Q M ho;obtain⟨e,xs,⟨hl,av⟩,hz,E⟩:=r.cells ho;have aa:=E T z l
 have aM:=r.c t j;have R:=Xh _ _ _ aF;have ac:∀x∈cut M lo ae,x.length=Q:=fun x O=>hz x (List.mem_of_mem_drop (List.mem_of_mem_take O));by_cases aQ:0<ae
 ·obtain⟨b,aE,hh,rfl⟩:=J aQ;rcases av with⟨hn,_⟩|⟨g,bd,ay,G,_,hgg,au,aP,aK,aU⟩
  ·rw[hh]at hn;cases hn
  ·rw[hh]at G;cases G;have ai:∀k d,(cut M lo ae).flatten[k]?=some d->∃u,w.cell? ⟨b,lo*Q+k,none⟩=some u/\T b (lo*Q+k)/\Rd T w u d:=by
    intro k d hd;have m:=UD M Q lo ae hz k d hd
    obtain⟨u,F,hr⟩:=aa.get' _ _ m;have ag:lo*Q+k<M.length*Q:=by have:=(List.getElem?_eq_some_iff.1 m).1;grind
    refine⟨u,xO hgg _ _ ?_,l b _ (aM b aD (by rw[hh];rfl)),hr⟩;rw[<-aU,List.getElem?_take,if_pos ag]at F;exact F
   refine .sl _ ae ah Q _ (fun k=>(w.cell? ⟨b,lo*Q+k,none⟩).getD undef) R aX V ac (fun _=>rfl) (fun k d hd=>?_) (fun k d hd=>?_)
   ·obtain⟨u,F,ht,_⟩:=ai k d hd;grind
   ·obtain⟨u,F,_,hr⟩:=ai k d hd;grind
 ·have A:ae=0:=Y;subst A;have H:cut M lo 0=[]:=by simp[cut]
  cases aA with
  |none=>have:=ax rfl;subst this;exact .nil _
  |some C=>exact .sl C 0 ah Q [] (fun _=>undef) rfl aX V ab ab ab ab
open Go.RowKit
def D.nw:D->Prop
 |.sl _ M=>∀r∈M,∀d∈r,d.scalar=true
 |_=>True
def zu(own:Bool)(H:List (List D)):Prop:=∀r∈H,∀d∈r,if own=true then d.nw else d.scalar=true
theorem Rd.scalar{d:D}(hd:d.scalar=true)(r:Rd T w v d):Rd T' w v d:=by
 cases r with
 |int k n=>exact .int k n
 |bool b=>exact .bool b
 |str s=>exact .str s
 |unk v h=>exact .unk v h
 |nil=>cases hd
 |sl=>cases hd
theorem zm.flat{d:D}(hd:d.nw)(r:zm T w v d):zm T' w v d:=by
 cases d with
 |sl Q M=>
  obtain⟨e,xs,ho,hz,aa⟩:=r;refine⟨e,xs,ho,hz,?_⟩;refine Yn.ka aa.length (fun i x d O m=>?_);obtain⟨d2,ae,hr⟩:=aa.get i x O;rw[m]at ae;cases ae;have hm:=List.mem_of_getElem? m
  obtain⟨r0,ah,L⟩:=List.mem_flatten.1 hm;exact Rd.scalar (hd r0 ah d L) hr
 |int k n=>exact Rd.scalar rfl r
 |bool b=>exact Rd.scalar rfl r
 |str s=>exact Rd.scalar rfl r
 |unk=>exact Rd.scalar rfl r
theorem MS{e:TypeId}{xs:List Value}(ho:w.ownsRow 0 e Q v n xs):fZ v Q n 0 n v:=by
 refine⟨Y,fun _ _=>rfl,?_,?_⟩
 ·intro _;rcases ho.2 with⟨rfl,rfl⟩|⟨g,ah,ay,rfl,_⟩<;>rfl
 rcases ho.2 with⟨rfl,rfl⟩|⟨g,ah,ay,rfl,_,_,au,aP,_,_⟩
 ·exact⟨none,0,rfl,Y,ab,fun _=>rfl,fun hh=>Y⟩
 ·exact⟨_,ah,rfl,au,aP,(fun hh=>by cases hh),fun _=>⟨g,ah,rfl,ab⟩⟩
theorem xr{e:TypeId}{xs:List Value}(ho:w.ownsRow 0 e Q v n xs):v.oneCell'=true:=by rcases ho.2 with⟨rfl,rfl⟩|⟨g,ah,ay,rfl,_⟩<;>rfl
theorem zm.Qe{d:D}(r:zm T w v d):v.oneCell'=true:=by
 cases d with
 |sl Q M=>obtain⟨e,xs,ho,_⟩:=r;exact xr ho
 |int k n=>exact Rd.Qe r
 |bool b=>exact Rd.Qe r
 |str s=>exact Rd.Qe r
 |unk=>exact Rd.Qe r
theorem zm.rd{d:D}(r:zm T w v d)(I:∀b k,T b k->T' b k)(X:d.scalar=false->∀b k,blk v=some b->T' b k):Rd T' w v d:=by
 cases d with
 |sl Q M=>
  obtain⟨e,xs,⟨hl,av⟩,hz,aa⟩:=r;rcases av with⟨rfl,hn⟩|⟨g,ah,ay,rfl,_,hh,au,aP,aK,aU⟩
  ·have:=List.eq_nil_of_length_eq_zero hn;subst this;exact .nil _
  ·refine .sl _ _ ah Q M (fun k=>(xs[k]?).getD undef) rfl au aP hz (fun _=>rfl) (fun k d hd=>?_) (fun k d hd=>?_)
   ·obtain⟨u,F,_⟩:=aa.get' k d hd;have ag:k<M.length*Q:=by have:=(List.getElem?_eq_some_iff.1 hd).1;grind
    rw[F];refine⟨?_,X rfl g _ rfl⟩;simp;refine xO hh _ _ ?_;rw[<-aU,List.getElem?_take,if_pos ag]at F;exact F
   ·obtain⟨u,F,hr⟩:=aa.get' k d hd;rw[F];exact Rd.mono (fun b k v J Z=>⟨Z,I b k J⟩) hr
 |int k n=>exact Rd.scalar rfl r
 |bool b=>exact Rd.scalar rfl r
 |str s=>exact Rd.scalar rfl r
 |unk=>exact Rd.scalar rfl r
theorem ar.qn(r:ar T0 B σ a w ad h){x:At}{d:D}(hd:qn σ x=some d)(hv:Ys (ak T0 ad) h σ.ob w x v)(l:Bool)(au:l=true->x.nr=true):
  Rd (if l then ak T0 ad else E6 T0 ad h σ) w v d:=by
 cases x with
 |d x=>simp[Vm.qn]at hd;subst hd;cases l<;>simp<;>first|exact hv|exact Rd.mono (fun b k v J Z=>⟨Z,.inl J⟩) hv
 |nil s=>simp[Vm.qn]at hd;subst hd;cases hv;exact .nil _
 |O t j lo ae=>
  cases l with
  |true=>have:=au rfl;simp[At.nr]at this
  |false=>
   simp only[Vm.qn]at hd;split at hd
   ·rename_i q Q M ho;cases hd;exact r.eU ho hv _ (fun b k J=>.inl J) (fun b k J=>.inr ⟨t,j,_,Q,M,ho,J⟩)
   ·cases hd
 |any=>simp[Vm.qn]at hd
 |ptr=>simp[Vm.qn]at hd
 |Z=>simp[Vm.qn]at hd
 |fn=>simp[Vm.qn]at hd
 |am=>simp[Vm.qn]at hd
 |ac=>simp[Vm.qn]at hd
theorem ar.rowOf(r:ar T0 B σ a w ad h)(l:Bool):∀{xs:List At}{vs:List Value}{ds:List D},rowOf σ xs=some ds->Yn (Ys (ak T0 ad) h σ.ob w) xs vs->(l=true->xY xs=true)->
  Yn (Rd (if l then ak T0 ad else E6 T0 ad h σ) w) vs ds
 |[],_,ds,hd,aa,_=>by cases aa;simp[Vm.rowOf]at hd;subst hd;exact .nil
 |x::xs,_,ds,hd,aa,au=>by
  cases aa with
  |cons O aa=>
   simp only[Vm.rowOf]at hd;split at hd
   ·rename_i d g I X;cases hd;refine .cons (r.qn I O l (fun hs=>?_)) (ar.rowOf r l X aa (fun hs=>?_))
    ·have:=au hs;simp[xY]at this;exact this.1
    ·have:=au hs;simp[xY]at this;exact this.2
   ·cases hd
theorem ar.xJ(r:ar T0 B σ a w ad h)(l:Bool){v:V}{ac:List D}(hr:v.xJ σ=some ac)(hv:J8 (ak T0 ad) h σ.ob w v an)(au:l=true->xY v.cells=true):
  ∃C,yg an C/\Yn (Rd (if l then ak T0 ad else E6 T0 ad h σ) w) C ac:=by
 cases v with
 |one x=>exact⟨[an],.inl ⟨an,rfl,rfl,Ys.Qe (hv)⟩,r.rowOf l hr (.cons hv .nil) au⟩
 |agg xs=>
  obtain⟨C,rfl,aa⟩:=hv;have hl:=aa.length
  match xs,hr,aa,hl,au with
  |[],hr,aa,hl,au=>exact⟨C.toList,.inr ⟨by rw[<-hl];simp,ab⟩,r.rowOf l hr aa au⟩
  |[_],hr,_,_,_=>simp[V.xJ]at hr
  |x::y::xs,hr,aa,hl,au=>exact⟨C.toList,.inr ⟨by rw[<-hl];simp,ab⟩,r.rowOf l hr aa au⟩
 |any=>simp[V.xJ]at hr
 |Z xs=>simp[V.xJ]at hr
 |O g x=>simp[V.xJ]at hr
 |fix u x=>simp[V.xJ]at hr
theorem ar.JD(r:ar T0 B σ a w ad h)(l:Bool):∀{xs:List Operand}{ts:List TypeId}{rs:List (List D)},JD P σ xs ts rs->(l=true->Yz P σ xs ts=true)->
  Yn (fun v ac=>∃C,yg v C/\Yn (Rd (if l then ak T0 ad else E6 T0 ad h σ) w) C ac) (xs.map a.eval) rs
 |[],_,rs,hr,_=>by cases hr;exact .nil
 |x::xs,[],rs,hr,_=>hr.elim
 |x::xs,t::ts,rs,hr,au=>by
  obtain⟨hg,ac,ap,I,X,rfl⟩:=hr;refine .cons (r.xJ l I (r.arg t x rfl hg) (fun hs=>?_)) (ar.JD r l X (fun hs=>?_))
  ·have:=au hs;simp[Yz]at this;exact this.1
  ·have:=au hs;simp[Yz]at this;exact this.2
theorem Tl{f:FuncId}(A:o.op= .call c)(Z:c.callee= .value (.func f))(hf:R7 P f=true):(execOp a.eval o).run P w= .ok (.enter f (c.args.toList.map a.eval).toArray) w:=by
 unfold R7 at hf;split at hf
 ·rename_i fn j;simp at hf;obtain⟨b,J⟩:=Option.isSome_iff_exists.1 hf.1;obtain⟨p,ax,aK⟩:=c;simp only at Z;subst Z;have hm:(ax.toList.map a.eval).toArray=ax.map a.eval:=by apply Array.toList_inj.1;simp
  rw[hm];simp[execOp,A,resolve,Act.eval,Deferred.ofValue,invoke,callFunc,j,hf.2,J]
 ·cases hf
open Go.RowKit
variable{af:Exit->Act->World->Prop}{K:Act->World->Prop}{E:List (List Value)}
theorem Below.grownBy(J:Below w.heap.size w w'):w.grownBy w' none:=⟨J.os,J.tape,J.output,J.size,fun k hk _=>J.block k hk⟩
theorem HP{ai:Nat->Nat->Ob}{xs:List At}(hf:yg v C)(aa:Yn (Ys T h ai w) xs C):y9 T h ai w (a2 xs) v:=by
 have hl:=aa.length;rcases hf with⟨c,rfl,rfl,I⟩|⟨W,rfl⟩
 ·cases aa with
  |cons O aa=>cases aa;exact O
 ·match xs,aa,hl with
  |[],aa,_=>exact⟨_,rfl,by simpa using aa⟩
  |[x],aa,hl=>exact absurd hl.symm Y
  |x::y::xs,aa,_=>exact⟨_,rfl,by simpa using aa⟩
theorem HE{ai:Nat->Nat->Ob}{ac:List D}(aa:Yn (Rd T w) C ac):Yn (Ys T h ai w) (ac.map .d) C:=by
 induction aa with
 |nil=>exact .nil
 |cons r _ ih=>exact .cons r ih
theorem k3{ai:Nat->Nat->Ob}(hf:Yn yg vs E)(aa:Yn (fun C ac=>Yn (Rd T w) C ac) E H):
  Yn (y9 T h ai w) (H.map fun r=>a2 (r.map .d)) vs:=by
 induction hf generalizing H with
 |nil=>cases aa;exact .nil
 |cons f _ ih=>cases aa with
  |cons r aa=>exact .cons (HP f (HE r)) (ih aa)
theorem A5{ai:Nat->Nat->Ob}(hf:Yn yg vs E)(aa:Yn (fun C ac=>Yn (Rd T w) C ac) E H):
  J8 T h ai w (VO H) (wa vs):=by
 have hl:=k3 (h:=h) (ai:=ai) hf aa;have I:=hl.length;match H,vs,hl,I with
 |[r],[v],hl,_=>cases hl with|cons x _=>exact x.up
 |[],[],hl,_=>exact⟨_,rfl,by simpa using hl⟩
 |r::r'::rs,v::v'::vs,hl,_=>exact⟨_,rfl,by simpa using hl⟩
 |[],v::vs,_,I=>simp at I
 |[r],[],_,I=>simp at I
 |[r],v::v'::vs,_,I=>simp at I
 |r::r'::rs,[],_,I=>simp at I
 |r::r'::rs,[v],_,I=>simp at I
theorem pZ{α β:Type}{R S:α->β->Prop}{l:List (List α)}{m:List (List β)}(s:∀(a:α)(b:β)(ac:List β),ac∈m->b∈ac->R a b->S a b)(aa:Yn (fun x y=>Yn R x y) l m):Yn (fun x y=>Yn S x y) l m:=by
 induction aa with
 |nil=>exact .nil
 |@cons x y _ _ o _ ih=>
  refine .cons ?_ (ih (fun a b ac hr=>s a b ac aD));have n:=fun b J a hr=>s a b y ab J hr
  clear ih s;induction o with
  |nil=>exact .nil
  |cons r _ c=>exact .cons (n _ ab _ r) (c (fun b J=>n b aD))
theorem RT(r:ar T0 B σ a w ad h){f:FuncId}{own:Bool}(A:o.op= .call c)(Z:c.callee= .value (.func f))(hd:o.dst=some d)
  (al:JD P σ c.args.toList c.argTypes.toList M) (l:Bool) (au:l=true->Yz P σ c.args.toList c.argTypes.toList=true) (aJ:l=false->zu own H) (hs:JT P f own M H)
  (hK:∀a' w',zh T0 B (σ.put d (VO H)) a' w'->Xl B w w'->K a' w'):o.wp P a w K af:=by
 unfold Oper.wp;rw[Tl A Z hs.1,Oper.upon_enter];refine(hs.2 _ w _ (fun b k J=>?_) (r.JD l al au)).mono ?_
 ·cases l
  ·exact r.mR J
  ·exact r.Tlt J
 ·rintro e w' ⟨vs,E,y,rfl,p,x,aT,G,F⟩;have g:∀b,_->ad b\/(w.heap.size<=b/\b<w'.heap.size):=fun b J=>J
  have r2:=r.grow (Below.grownBy p) (fun b J=>.inl J) g;have N:Yn (fun C ac=>Yn (Rd (ak T0 fun b=>ad b\/(w.heap.size<=b/\b<w'.heap.size)) w') C ac) E H:=by
   have n:∀(i:Nat)(c:Value)(d:D),E.flatten[i]?=some c->H.flatten[i]?=some d->own=true->d.scalar=false->∀b,blk c=some b->w.heap.size<=b/\b<w'.heap.size:=by
    intro i c d I X ho aG b J;have:=(F ho).1 i c d b I X aG J
    exact⟨this.1,this.2.1⟩
   have conv:∀(c:Value)(d:D),(∀b,own=true->d.scalar=false->blk c=some b->w.heap.size<=b/\b<w'.heap.size)->(l=false->if own=true then d.nw else d.scalar=true)->
     U6 own (ak (if l then ak T0 ad else E6 T0 ad h σ) y) w' c d->Rd (ak T0 fun b=>ad b\/(w.heap.size<=b/\b<w'.heap.size)) w' c d:=by
    intro c d aS S hr;cases own with
    |true=>
     have ax:zm (ak (if l then ak T0 ad else E6 T0 ad h σ) y) w' c d:=by simpa[U6]using hr
     cases l with
     |true=>
      refine zm.rd ax (fun b k J=>?_) (fun aG b k J=>.inr (.inr (aS b rfl aG J)));rcases J with J|J
      ·rcases(show ak T0 ad b k from by simpa using J)with J|J
       ·exact .inl J
       ·exact .inr (.inl J)
      ·exact .inr (.inr (x b J))
     |false=>exact zm.rd (zm.flat (T':=fun _ _=>False) (by simpa using S rfl) ax) (fun b k J=>J.elim) (fun aG b k J=>.inr (.inr (aS b rfl aG J)))
    |false=>
     have ax:Rd (ak (if l then ak T0 ad else E6 T0 ad h σ) y) w' c d:=by simpa[U6]using hr
     cases l with
     |true=>
      refine Rd.mono (fun b k v J Z=>⟨Z,?_⟩) ax;rcases J with J|J
      ·rcases(show ak T0 ad b k from by simpa using J)with J|J
       ·exact .inl J
       ·exact .inr (.inl J)
      ·exact .inr (.inr (x b J))
     |false=>exact Rd.scalar (by simpa using S rfl) ax
   have z:∀(E:List (List Value))(H:List (List D)),Yn (fun C ac=>Yn (U6 own (ak (if l then ak T0 ad else E6 T0 ad h σ) y) w') C ac) E H->
     (∀(i:Nat)(c:Value)(d:D),E.flatten[i]?=some c->H.flatten[i]?=some d->own=true->d.scalar=false->∀b,blk c=some b->w.heap.size<=b/\b<w'.heap.size)->
     (l=false->zu own H)->Yn (fun C ac=>Yn (Rd (ak T0 fun b=>ad b\/(w.heap.size<=b/\b<w'.heap.size)) w') C ac) E H:=by
    intro E H aa;induction aa with
    |nil=>intro _ _;exact .nil
    |@cons C ac s j aA _ ih=>
     intro hm hf;have aC:=aA.length
     refine .cons (Yn.ka aC (fun i c d Z m=>?_)) (ih (fun i c d I X=>?_) (fun hs r hr=>hf hs r (by simp[hr])))
     ·obtain⟨d2,ae,hr⟩:=aA.get i c Z;rw[m]at ae;cases ae;refine conv c d (fun b ho aG J=>hm i c d ?_ ?_ ho aG b J) (fun hs=>hf hs ac ab d (List.mem_of_getElem? m)) hr
      ·rw[List.flatten_cons,List.getElem?_append_left (List.getElem?_eq_some_iff.1 Z).1];exact Z
      ·rw[List.flatten_cons,List.getElem?_append_left (List.getElem?_eq_some_iff.1 m).1];exact m
     ·refine hm (C.length+i) c d ?_ ?_
      ·rw[List.flatten_cons,List.getElem?_append_right Y];simpa using I
      ·rw[List.flatten_cons,List.getElem?_append_right Y,aC];simpa using X
   exact z E H G n aJ
  rw[hd];exact hK _ _ ⟨_,_,r2.put d _ _ (A5 aT N)⟩ (Xl.vY p r.d)
open Go.RowKit
theorem M5:∀(ds:List D)(k:Nat),XG (kp ds) k=(match ds[k]? with|some (.sl Q M)=>.arr false Q M|_=>.none)
 |[],k=>by simp[kp,XG]
 |d::ds,0=>by cases d<;>simp[kp,XG]
 |d::ds,k+1=>by have:=M5 ds k;cases d<;>simpa[kp,XG]using this
def Rb(T:CS)(w:World)(v:Value):D->Prop
 |.sl Q M=>∃e xs,w.ownsRow 0 e Q v M.length xs
 |d=>Rd T w v d
theorem zm.top{d:D}(r:zm T w v d):Rb T w v d:=by
 cases d with
 |sl Q M=>obtain⟨e,xs,ho,_⟩:=r;exact⟨e,xs,ho⟩
 |int k n=>exact r
 |bool b=>exact r
 |str s=>exact r
 |unk=>exact r
theorem Rb.Qe{d:D}(r:Rb T w v d):v.oneCell'=true:=by
 cases d with
 |sl Q M=>obtain⟨e,xs,ho⟩:=r;exact xr ho
 |int k n=>exact Rd.Qe r
 |bool b=>exact Rd.Qe r
 |str s=>exact Rd.Qe r
 |unk=>exact Rd.Qe r
theorem Pw{T:CS}{ai:Nat->Nat->Ob}{t:Nat}:∀{ds:List D}{C:List Value}{k:Nat},Yn (Rb T w) C ds->
  (∀i Q M,ds[i]?=some (.sl Q M)->∃q,ai t (k+i)= .arr q Q M)->(∀i c,C[i]?=some c->(h t (k+i)).v=c)->Yn (Ys T h ai w) (Qt t k ds) C
 |[],_,k,aa,_,_=>by cases aa;exact .nil
 |d::ds,_,k,aa,ho,hh=>by
  cases aa with
  |@cons c _ C _ Z aa=>
   have ih:=Pw aa (fun i Q M hi=>by have:=ho (i+1) Q M aD;rw[show k+1+i=k+(i+1)by omega];exact this)
    (fun i R an=>by have:=hh (i+1) R aD;rw[show k+1+i=k+(i+1)by omega];exact this)
   cases d with
   |sl Q M=>
    obtain⟨q0,h0⟩:=ho 0 Q M rfl;have I:=hh 0 c rfl
    rw[Nat.add_zero]at h0 I;refine .cons ⟨Rb.Qe Z,fun q' aN az L=>?_,fun aN az L=>by rw[h0]at L;cases L⟩ ih;rw[h0]at L;cases L;obtain⟨e,xs,av⟩:=Z;rw[I];exact MS av
   |int k' n=>exact .cons Z ih
   |bool b=>exact .cons Z ih
   |str s=>exact .cons Z ih
   |unk=>exact .cons Z ih
theorem vq{ai:Nat->Nat->Ob}(hf:Yn yg vs E):∀{H:List (List D)}{k:Nat},Yn (fun C ac=>Yn (Rb T w) C ac) E H->
  (∀i Q M,H.flatten[i]?=some (.sl Q M)->∃q,ai t (k+i)= .arr q Q M)->(∀i c,E.flatten[i]?=some c->(h t (k+i)).v=c)->Yn (y9 T h ai w) (pN t k H) vs:=by
 induction hf with
 |nil=>intro H k aa _ _;cases aa;exact .nil
 |@cons v C a s f _ ih=>
  intro H k aa ho hh;cases aa with
  |@cons _ ac _ j r aa=>
   have aC:=r.length;refine .cons (HP f (Pw r (fun i Q M hi=>ho i Q M ?_) (fun i c Z=>hh i c ?_))) (ih aa (fun i Q M hi=>?_) (fun i c Z=>?_))
   ·rw[List.flatten_cons,List.getElem?_append_left (List.getElem?_eq_some_iff.1 hi).1];exact hi
   ·rw[List.flatten_cons,List.getElem?_append_left (List.getElem?_eq_some_iff.1 Z).1];exact Z
   ·have:=ho (ac.length+i) Q M aD;grind
   ·have:=hh (ac.length+i) c aD;grind
theorem lA{ai:Nat->Nat->Ob}(hf:Yn yg vs E)(aa:Yn (fun C ac=>Yn (Rb T w) C ac) E H)
  (ho:∀i Q M,H.flatten[i]?=some (.sl Q M)->∃q,ai t i= .arr q Q M) (hh:∀i c,E.flatten[i]?=some c->(h t i).v=c):J8 T h ai w (Px t H) (wa vs):=by
 have hl:=vq (k:=0) hf aa (by simpa using ho) (by simpa using hh);have I:H.length=vs.length:=by rw[hf.length,aa.length]
 match H,vs,hl,I with
 |[r],[v],hl,_=>cases hl with|cons x _=>exact x.up
 |[],[],hl,_=>exact⟨_,rfl,by simpa using hl⟩
 |r::r'::rs,v::v'::vs,hl,_=>exact⟨_,rfl,by simpa using hl⟩
 |[],v::vs,_,I=>simp at I
 |[r],[],_,I=>simp at I
 |[r],v::v'::vs,_,I=>simp at I
 |r::r'::rs,[],_,I=>simp at I
 |r::r'::rs,[v],_,I=>simp at I
theorem U5{α β:Type}{R:α->β->Prop}{l:List (List α)}{m:List (List β)}(aa:Yn (fun x y=>Yn R x y) l m):Yn R l.flatten m.flatten:=by
 induction aa with
 |nil=>exact .nil
 |cons r _ ih=>rw[List.flatten_cons];exact r.append ih
theorem Hu(r:ar T0 B σ a w ad h){f:FuncId}(A:o.op= .call c)(Z:c.callee= .value (.func f))(hd:o.dst=some d)(aw:σ.fresh d=true)
  (al:JD P σ c.args.toList c.argTypes.toList M) (l:Bool) (au:l=true->Yz P σ c.args.toList c.argTypes.toList=true) (aJ:l=false->zu true H) (hs:JT P f true M H)
  (hK:∀a' w',zh T0 B (σ.new d (Px d H) (kp H.flatten)) a' w'->Xl B w w'->K a' w'):o.wp P a w K af:=by
 have ag:=U.kh aw;unfold Oper.wp;rw[Tl A Z hs.1];refine(hs.2 _ w _ (fun b k J=>?_) (r.JD l al au)).mono ?_
 ·cases l
  ·exact r.mR J
  ·exact r.Tlt J
 ·rintro e w' ⟨vs,E,y,rfl,p,x,aT,G,F⟩;have F:=F rfl
  have N:Yn (fun C ac=>Yn (zm (ak T0 fun b=>ad b\/y b) w') C ac) E H:=by
   refine pZ (fun c d ac aA L hr=>?_) G;have ax:zm (ak (if l then ak T0 ad else E6 T0 ad h σ) y) w' c d:=by simpa[U6]using hr
   cases l with
   |true=>
    have hT:∀b k,ak (if true=true then ak T0 ad else E6 T0 ad h σ) y b k->ak T0 (fun b=>ad b\/y b) b k:=by
     intro b k J;rcases J with J|J
     ·rcases(by simpa using J)with J|J
      ·exact .inl J
      ·exact .inr (.inl J)
     ·exact .inr (.inr J)
    cases d with
    |sl Q M=>obtain⟨e,xs,ho,hz,aa⟩:=ax;exact⟨e,xs,ho,hz,aa.imp fun _ _=>Rd.mono (fun b k v J Z=>⟨Z,hT b k J⟩)⟩
    |int k n=>exact Rd.scalar rfl ax
    |bool b=>exact Rd.scalar rfl ax
    |str s=>exact Rd.scalar rfl ax
    |unk=>exact Rd.scalar rfl ax
   |false=>exact zm.flat (by simpa using aJ rfl ac aA d L) ax
  have aM:=U5 N;rw[hd];refine hK _ _ ⟨fun b=>ad b\/y b,fun t j=>if t=d then Hd.of ((E.flatten[j]?).getD undef)else h t j,?_⟩ (Xl.vY p r.d);have aB:∀(j Q:Nat)(M:List _),H.flatten[j]?=some _->∃c,E.flatten[j]?=some c/\zm _ w' c (D.sl Q M):=fun j Q M hj=>aM.get' j _ hj;have ao:∀j,(σ.new d (Px d H) (kp H.flatten)).ob d j=XG (kp H.flatten) j:=fun j=>by rw[U.xG];simp[ag]
  have ai:∀j,XG (kp H.flatten) j≠ .none->∃Q M,H.flatten[j]?=some (D.sl Q M):=by
   intro j W;rw[M5]at W;split at W
   ·rename_i Q M hj;exact⟨Q,M,hj⟩
   ·exact absurd rfl W
  refine r.new aw (Below.grownBy p) (fun b J=>.inl J) (fun b J=>J.imp id (fun hy=>x b hy)) _ _ _ (fun j=>Hd.of _) ?_ (fun j=>?_) (fun j b _ J=>J) (fun j b W J=>?_) (fun j j' b W aK J aj=>?_)
  ·refine lA aT (pZ (fun _ _ _ _ _ hr=>zm.top hr) N) (fun i Q M hi=>⟨false,?_⟩) (fun i c hi=>by simp[hi,Hd.of]);rw[ao,M5,hi]
  ·rw[M5];split
   ·rename_i Q M hj;obtain⟨c,an,av⟩:=aB j Q M hj;obtain⟨e,xs,ho,hz,aa⟩:=av;exact⟨e,xs,by rw[an];exact ho,hz,aa⟩
   ·trivial
  ·obtain⟨Q,M,hj⟩:=ai j W;obtain⟨c,an,_⟩:=aB j Q M hj;have aj:blk c=some b:=by simpa[Hd.of,an]using J
   have:=F.1 j c _ b an hj rfl aj;refine⟨this.1,?_,this.2.1⟩;rintro(O|hy)
   ·have:=r.e b O;omega
   ·exact this.2.2 hy
  ·obtain⟨Q,M,hj⟩:=ai j W;obtain⟨aN,az,ay⟩:=ai j' aK;obtain⟨c,an,_⟩:=aB j Q M hj;obtain⟨c2,q,_⟩:=aB j' aN az ay;exact F.2 j j' c c2 _ _ b an hj q ay rfl rfl (by simpa[Hd.of,an]using J) (by simpa[Hd.of,q]using aj)
open Go.RowKit
theorem Xl.Ng(hg:w.grownBy w' none)(hB:∀b,B b->b<w.heap.size):Xl B w w':=⟨hg.os,hg.tape,hg.output,hg.size,fun k hk=>hg.block k (hB k hk) ab⟩
theorem ar.cJ(r:ar T0 B σ a w ad h)(hf:σ.fresh d=true)(C:Array Value)(T:TypeId)(xs:List At)(O:Y6 d xs=false)(aa:Yn (Ys (ak T0 ad) h σ.ob w) xs C.toList):
  zh T0 B (σ.new d (.one (.Z d 0)) [.box xs]) (a.put (some d) (.pointer (some ⟨w.heap.size,0,none⟩))) (w.alloc (.cells C T))/\Xl B w (w.alloc (.cells C T)):=by
 have hg:=World.grownBy_alloc w (.cells C T) none;have ag:=U.kh hf;have hT:∀b k v,ak T0 ad b k->w.cell? ⟨b,k,none⟩=some v->(w.alloc (.cells C T)).cell? ⟨b,k,none⟩=some v/\ak T0 ad b k:=by intro b k v J aB;refine⟨?_,J⟩;rw[World.cell?_of_block (hg.block b (r.Tlt J) ab)];exact aB
 refine⟨⟨ad,fun t j=>if t=d then Hd.of (.pointer (some ⟨w.heap.size,0,none⟩))else h t j,?_⟩,Xl.Ng hg r.d⟩;have Z:∀t j,t≠d->bA h (fun t j=>if t=d then Hd.of (.pointer (some ⟨w.heap.size,0,none⟩))else h t j) σ.ob (σ.new d (.one (.Z d 0)) [.box xs]).ob t j:=by
  intro t j W;have he:(σ.new d (.one (.Z d 0)) [.box xs]).ob t j=σ.ob t j:=fQ
  exact bA.same aD he
 refine r.new hf hg (fun _ J=>J) (fun _ J=>.inl J) _ _ [.box xs] (fun _=>Hd.of _) ?_ (fun j=>?_) (fun j b _ J=>J) (fun j b _ J=>?_) (fun j j' b W aK _ _=>?_)
 ·exact⟨rfl,fun G _=>⟨w.heap.size,by simp[Hd.of],rfl⟩⟩
 ·cases j with
  |zero=>refine⟨w.heap.size,C,T,rfl,?_,Rt hT Z O aa⟩;exact heap_alloc_new w _
  |succ j=>simp[XG,zR]
 ·simp[Hd.of,blk]at J;subst J;refine⟨Nat.le_refl _,fun ai=>?_,ab⟩;have:=(r.e _ ai).2;omega
 ·have:∀j,XG [Ob.box xs] j≠ .none->j=0:=by
   intro j hj;cases j with
   |zero=>rfl
   |succ j=>simp[XG]at hj
  grind
theorem ar.bQ(r:ar T0 B σ a w ad h)(hf:σ.fresh d=true)(hg:w.grownBy w' none)(v:Value)
  (ho:zm (ak T0 ad) w' v (.sl Q M)) (J:∀b,blk v=some b->w.heap.size<=b/\b<w'.heap.size):
  zh T0 B (σ.new d (.one (.O d 0 0 M.length)) [.arr false Q M]) (a.put (some d) v) w'/\Xl B w w':=by
 have ag:=U.kh hf;refine⟨⟨ad,fun t j=>if t=d then Hd.of v else h t j,?_⟩,Xl.Ng hg r.d⟩;have an:(σ.new d (.one (.O d 0 0 M.length)) [.arr false Q M]).ob d 0= .arr false Q M:=du;obtain⟨e,xs,av,hz,aa⟩:=ho;refine r.new hf hg (fun _ J=>J) (fun _ J=>.inl J) _ _ [.arr false Q M] (fun _=>Hd.of v) ?_ (fun j=>?_) (fun j b _ J=>J) (fun j b _ aj=>?_) (fun j j' b W aK _ _=>?_)
 ·refine⟨xr av,fun q' aN az L=>?_,fun aN az L=>by rw[an]at L;cases L⟩;rw[an]at L;cases L;simp;exact MS av
 ·cases j with
  |zero=>exact⟨e,xs,av,hz,aa⟩
  |succ j=>simp[XG,zR]
 ·have:=J b aj;refine⟨this.1,fun ai=>?_,this.2⟩;have:=(r.e _ ai).2;omega
 ·have:∀j,XG [Ob.arr false Q M] j≠ .none->j=0:=by
   intro j hj;cases j with
   |zero=>rfl
   |succ j=>simp[XG]at hj
  grind
theorem ar.ZAD(r:ar T0 B σ a w ad h)(hf:σ.fresh d=true)(hg:w.grownBy w' none)(v:Value){e:TypeId}{xs:List Value}
  (av:w'.ownsRow 0 e Q v M.length xs) (hz:∀r∈M,r.length=Q) (aa:zq w' xs M.flatten (fun _=>False)) (J:∀b,blk v=some b->w.heap.size<=b/\b<w'.heap.size):
  zh T0 B (σ.new d (.one (.O d 0 0 M.length)) [.arr true Q M]) (a.put (some d) v) w'/\Xl B w w':=by
 have ag:=U.kh hf;refine⟨⟨ad,fun t j=>if t=d then⟨v,fun k=>(xs[k]?).getD undef,fun b=>blk v=some b⟩else h t j,?_⟩,Xl.Ng hg r.d⟩;have an:(σ.new d (.one (.O d 0 0 M.length)) [.arr true Q M]).ob d 0= .arr true Q M:=du;refine r.new hf hg (fun _ J=>J) (fun _ J=>.inl J) _ _ [.arr true Q M] (fun _=>_) ?_ (fun j=>?_) (fun j b _ J=>J) (fun j b _ aj=>?_) (fun j j' b W aK _ _=>?_)
 ·refine⟨xr av,fun q' aN az L=>?_,fun aN az L=>by rw[an]at L;cases L⟩;rw[an]at L;cases L;simp;exact MS av
 ·cases j with
  |zero=>obtain⟨hl,l,I,X,h3⟩:=aa;exact⟨e,xs,av,hz,⟨hl,l,I,fun k b hk=>(X k b hk).elim,h3⟩,fun k x d O _ _=>by simp[O]⟩
  |succ j=>simp[XG,zR]
 ·have:=J b aj;refine⟨this.1,fun ai=>?_,this.2⟩;have:=(r.e _ ai).2;omega
 ·have:∀j,XG [Ob.arr true Q M] j≠ .none->j=0:=by
   intro j hj;cases j with
   |zero=>rfl
   |succ j=>simp[XG]at hj
  grind
theorem AP(r:ar T0 B σ a w ad h){T:TypeId}{ac:List At}(A:o.op= .alloc T)(hd:o.dst=some d)(hf:σ.fresh d=true)(hz:Qq P T=true)(D:TG P 12 T=some ac)(aA:Y6 d ac=false)
  (hK:∀a' w',zh T0 B (σ.new d (.one (.Z d 0)) [.box ac]) a' w'->Xl B w w'->K a' w'):o.wp P a w K af:=by
 obtain⟨i,z,hi,j,aI,aa⟩:=wH hz D;have aH:(execOp a.eval o).run P w= .ok (.value (.pointer (some ⟨w.heap.size,0,none⟩))) (w.alloc (.cells z.cells T)):=by simp[execOp,A,Instr.alloc,zeroValue,typeInfo,hi,j,newVar,newRow]
 unfold Oper.wp;rw[aH,Oper.upon_value,hd];have:=r.cJ hf z.cells T ac aA (aa _ _ _ _)
 grind
theorem oy(r:ar T0 B σ a w ad h){T:TypeId}(A:o.op= .box T x)(hd:o.dst=some d)(hf:σ.fresh d=true)(hg:am (look P σ T x)=true)(aJ:(unc (look P σ T x)).flat=true)(aA:Y6 d (unc (look P σ T x)).cells=false)
  (hK:∀a' w',zh T0 B (σ.new d (.one (.Z d 0)) [.box (unc (look P σ T x)).cells]) a' w'->Xl B w w'->K a' w'):o.wp P a w K af:=by
 have aa:=SP aJ (r.arg T x rfl hg);have aH:(execOp a.eval o).run P w= .ok (.value (.pointer (some ⟨w.heap.size,0,none⟩))) (w.alloc (.cells (a.eval x).cells T)):=by simp[execOp,A,Instr.box,newVar,newRow]
 unfold Oper.wp;rw[aH,Oper.upon_value,hd];have:=r.cJ hf (a.eval x).cells T _ aA aa
 grind
end Go.Vm
