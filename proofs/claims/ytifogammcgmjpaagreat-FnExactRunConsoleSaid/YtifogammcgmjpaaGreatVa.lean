/- An abstract machine C7 the model of Go, by value, and that it is sound: part Va. No condition. -/
import Derived.WalkKit
import Derived.Below
set_option linter.unusedVariables false
set_option linter.unusedSimpArgs false
namespace Go.Vm
theorem Y{p:Prop}(h:p:=by omega):p:=h
theorem bj{p:Prop}(h:p:=by(first|exact B (XF (n:=2281472) (by decide))|exact B g|exact B S|exact B u2|exact a|exact B (ZI.Yf g)|exact B (ZI.Yq g)|exact B (Zf (K:=2281472) S a (by decide))|exact B (Y5 (Zf (K:=2281472) S a (by decide)))|exact B (XJ (Zf (K:=2281472) S a (by decide))))):p:=h
theorem bl{p:Prop}(h:p:=by(first|exact B (XL (n:=2281472) (by decide))|exact B g|exact B S|exact B u2|exact a|exact B (ZI.Yf g)|exact B (ZI.Yq g)|exact B (Ze (K:=2281472) S a (by decide))|exact B (Y4 (Ze (K:=2281472) S a (by decide)))|exact B (XI (Ze (K:=2281472) S a (by decide))))):p:=h
theorem bY{p:Prop}(h:p:=by(first|(exact⟨Nat.zero_le _,fun _ _=>trivial⟩)|(refine ZN (n:=2322432) ?_;exact⟨Nat.zero_le _,fun _ _=>trivial⟩)|(refine ZN (n:=2322432) (ZN (n:=2322432-1) ?_);exact⟨Nat.zero_le _,fun _ _=>trivial⟩)|(refine ZJ (n:=3) (by decide) (ZN (ZN (ZN (n:=0) ?_)));exact⟨Nat.zero_le _,fun _ _=>trivial⟩)|(refine ZJ (n:=2) (by decide) (ZN (ZN (n:=0) ?_));exact⟨Nat.zero_le _,fun _ _=>trivial⟩)|(refine ZJ (n:=1) (by decide) (ZN (n:=0) ?_);exact⟨Nat.zero_le _,fun _ _=>trivial⟩))):p:=h
theorem bZ{p:Prop}(h:p:=by(first|(exact⟨Nat.zero_le _,fun _ _=>trivial⟩)|(refine Zd (n:=2326528) ?_;exact⟨Nat.zero_le _,fun _ _=>trivial⟩)|(refine Zd (n:=2326528) (Zd (n:=2326528-1) ?_);exact⟨Nat.zero_le _,fun _ _=>trivial⟩)|(refine ZJ (n:=3) (by decide) (Zd (Zd (Zd (n:=0) ?_)));exact⟨Nat.zero_le _,fun _ _=>trivial⟩)|(refine ZJ (n:=2) (by decide) (Zd (Zd (n:=0) ?_));exact⟨Nat.zero_le _,fun _ _=>trivial⟩)|(refine ZJ (n:=1) (by decide) (Zd (n:=0) ?_);exact⟨Nat.zero_le _,fun _ _=>trivial⟩))):p:=h
theorem ab{p:Prop}(h:p:=by simp):p:=h
theorem cq{p:Prop}(h:p:=by first|exact ZJ (n:=210+q) (by omega) j2.2.2.2.2.2.1|exact(X5 (n:=210+q) (by omega) j2.2.2.2.2.2.1 j2.2.2.2.2.2.2.1).1|exact(X5 (n:=210+q) (by omega) j2.2.2.2.2.2.1 j2.2.2.2.2.2.2.1).2|exact Km j2.2.2.2.2.2.2.2 _|exact ZJ (n:=210+s) (by omega) j3.2.2.2.2.2.1|exact(X5 (n:=210+s) (by omega) j3.2.2.2.2.2.1 j3.2.2.2.2.2.2.1).1|exact(X5 (n:=210+s) (by omega) j3.2.2.2.2.2.1 j3.2.2.2.2.2.2.1).2|exact Km j3.2.2.2.2.2.2.2 _):p:=h
theorem au{p:Prop}(h:p:=by decide):p:=h
theorem cj{p:Prop}(h:p:=by first|exact ZJ (n:=210+U) (by omega) j1.2.2.2.2.2.1|exact(X5 (n:=210+U) (by omega) j1.2.2.2.2.2.1 j1.2.2.2.2.2.2).1|exact(X5 (n:=210+U) (by omega) j1.2.2.2.2.2.1 j1.2.2.2.2.2.2).2|exact ZJ (n:=210+q) (by omega) j2.2.2.2.2.2.1|exact(X5 (n:=210+q) (by omega) j2.2.2.2.2.2.1 j2.2.2.2.2.2.2).1|exact(X5 (n:=210+q) (by omega) j2.2.2.2.2.2.1 j2.2.2.2.2.2.2).2|exact(Xx 10 g).2 _ _|exact(Xx 10 g).1 _):p:=h
theorem cs{p:Prop}(h:p:=by(first|exact B g|exact B u2|exact B (ZU.JM S)|exact B (n:=2097152) (show R 2097152 (Q.mk [C.a] [])from⟨⟨Nat.le_of_ble_eq_true rfl,fun x O=>by rcases List.mem_cons.1 O with rfl|O;exact ZU.YM S;cases O⟩,⟨Nat.zero_le _,fun x O=>by cases O⟩⟩)|exact(show C.a.b.length+0<=2097152 from Zx (ZR.Yp (ZU.YM S)))|exact B S)):p:=h
theorem cg{p:Prop}(h:p:=by(first|exact B g|exact B (ZU.JM S)|exact B (n:=2097152) (show R 2097152 (Q.mk [C.a] [])from⟨⟨Nat.le_of_ble_eq_true rfl,fun x O=>by rcases List.mem_cons.1 O with rfl|O;exact ZU.YM S;cases O⟩,⟨Nat.zero_le _,fun x O=>by cases O⟩⟩)|exact(show C.a.b.length+0<=2097152 from Zx (ZR.Yp (ZU.YM S)))|exact B S)):p:=h
theorem cd{p:Prop}(h:p:=by first|omega|(simp[G]at*;omega)|(have z:=RL (a:=C) (by simpa using M);have y:=z.1;first|omega|((try simp at h5);(try simp at h9);first|(rw[z.2 q i3 (by simpa using h4)];omega)|(rw[z.2 s o (by simpa using h8)];omega)))):p:=h
theorem cN{p:Prop}(h:p:=by first|omega|(simp at M;simp;omega;done)|(rw[List.length_append];show _<_+2;omega)|(have z:∀v:Nat,v<7->1<=I ([1,1,1,1,3,2,2]:List Int) v:=(by decide);have z:=z J (of_decide_eq_true M|>Int.ofNat_lt.1);have y:=(Bool.or_eq_false_iff.1 h3).2;simp only[bne_eq_false_iff_eq]at y;rw[List.length_append];show _<_+2;omega)):p:=h
theorem ca{p:Prop}(h:p:=by first|exact g|exact GS (J0 C.tail) _|exact .inr (by simp at*;omega)|exact .inl ⟨.inl (of_decide_eq_true (by assumption)),by(simp at*;omega)⟩|exact .inl ⟨.inr (of_decide_eq_true (by assumption)),by(simp at*;omega)⟩):p:=h
theorem bG{p:Prop}(h:p:=by first|(simp(maxDischargeDepth:=12) [XG];omega)|(simp(maxDischargeDepth:=12) [ZJ (m:=68719476736) (by decide) g];done)):p:=h
theorem eV{p:Prop}(h:p:=by first|omega|(have d:=Y2 A C (by first|omega|(simp at*;omega));omega)|(simp only[Bool.or_eq_false_iff,decide_eq_false_iff_not]at*;omega)|(have z:=Zm G;(try simp only[]at z);omega)|(have z:=Zm G.1;(try simp only[]at z);omega)|(have z:=Zm G.2;(try simp only[]at z);omega)|(have z:=Zm G.2.1;(try simp only[]at z);omega)|(have z:=Zm G.2.2;(try simp only[]at z);omega)|(have z:=Zm G.1.2;(try simp only[]at z);omega)|(have z:=Zm G.2.2.2;(try simp only[]at z);omega)):p:=h
theorem bO{p:Prop}(h:p:=by first|omega|(exact List.length_pos_iff.2 (fun e=>by rw[e]at M;simp at M))|exact qU (by assumption) (by decide+kernel)):p:=h
theorem bg{p:Prop}(h:p:=by first|omega|(simp at*;omega)):p:=h
theorem ho{p:Prop}(h:p:=by have:=Xd A.b.a (I A.c (YQ A.c (Zh (I (I (I A.a (u A C).1.toNat).a (u A C).2.toNat).a.b 1)).1.b).toNat).e;first|omega|(have d:=Y2 A C (by first|omega|(simp at*;omega));omega)|(simp only[Bool.or_eq_false_iff,decide_eq_false_iff_not]at*;omega)|(have z:=Zm G;(try simp only[]at z);omega)|(have z:=Zm G.1;(try simp only[]at z);omega)|(have z:=Zm G.2;(try simp only[]at z);omega)|(have z:=Zm G.2.1;(try simp only[]at z);omega)|(have z:=Zm G.2.2;(try simp only[]at z);omega)|(have z:=Zm G.1.2;(try simp only[]at z);omega)|(have z:=Zm G.2.2.2;(try simp only[]at z);omega)):p:=h
theorem ch{p:Prop}(h:p:=by(first|exact B g|exact B S|exact B u2|exact B (ZI.Yf g)|exact B j2.2.2.2.2|exact B (ZY j2.2.2.2.2)|exact B (ZY (ZR.Yp (ZY (Q.Yo S)))))):p:=h
theorem ii{p:Prop}(h:p:=by have:=L0 A.c (Zh (I (I (I A.a (u A C).1.toNat).a (u A C).2.toNat).a.b 1)).1.b;first|omega|(have d:=Y2 A C (by first|omega|(simp at*;omega));omega)|(simp only[Bool.or_eq_false_iff,decide_eq_false_iff_not]at*;omega)|(have z:=Zm G;(try simp only[]at z);omega)|(have z:=Zm G.1;(try simp only[]at z);omega)|(have z:=Zm G.2;(try simp only[]at z);omega)|(have z:=Zm G.2.1;(try simp only[]at z);omega)|(have z:=Zm G.2.2;(try simp only[]at z);omega)|(have z:=Zm G.1.2;(try simp only[]at z);omega)|(have z:=Zm G.2.2.2;(try simp only[]at z);omega)):p:=h
theorem dL{p:Prop}(h:p:=by(first|(exact xd (s:=(I A.a U).a) (by decide) (show R 2314240 _ by simp(maxDischargeDepth:=12) [g]) (by simp))|(refine W0 ?_;exact xd (s:=(I A.a U).a) (by decide) (show R 2314240 _ by simp(maxDischargeDepth:=12) [g]) (by simp))|(exact ZJ (n:=2314240) (by decide) (xs g)))):p:=h
theorem bB{p:Prop}(h:p:=by first|exact B g|exact⟨⟨X.zero _,X.zero _⟩,X.zero _⟩):p:=h
theorem cm{p:Prop}(h:p:=by first|(simp(maxDischargeDepth:=12) [XG];omega)|(simp(maxDischargeDepth:=12) [ZJ (m:=2322432) (by decide) g];done)):p:=h
theorem da{p:Prop}(h:p:=by first|exact g|exact⟨fun _=>by(simp at*;omega),fun h=>by cases h⟩|exact⟨fun h=>by(cases h),fun _=>by(simp at*;omega)⟩|(simp at*;omega)):p:=h
theorem ec{p:Prop}(h:p:=by(have cc:A.a.length<=2318336:=Zx (xs g);have d:=o;simp at d;have z:=TS (by omega) d.1;have t:=d.2;(try have w3:IntKind.i64.wrap (E-1)=E-1:=YB (by omega) (by omega));(try have i:W (E-1)=E-1:=w3);omega)):p:=h
theorem dX{p:Prop}(h:p:=by(have cc:A.a.length<=2318336:=Zx (xs g);have d:=o;simp at d;have z:=Ms (by omega) d.1;have t:=d.2;(try have w3:IntKind.i64.wrap (E-1)=E-1:=YB (by omega) (by omega));(try have i:W (E-1)=E-1:=w3);omega)):p:=h
theorem ad{p:Prop}(h:p:=by simp[D]):p:=h
theorem bM{p:Prop}(h:p:=by first|(simp;done)|(simp[G];done)|(simp[G];omega)|(simp_all;done)):p:=h
theorem b7{p:Prop}(h:p:=by first|omega|exact qU (by assumption) (by decide+kernel)|(simp[Z5,ZW,Xf]at*;omega)):p:=h
theorem fV{p:Prop}(h:p:=by first|omega|(have f0:0<=(u A C).1:=(by first|omega|(simp at*;omega));have d:=Y2 A C f0;omega)|(have f0:0<=(u A C).1:=(by first|omega|(simp at*;omega));have d:=Y2 A C f0;have v:=Tz (I A.a (u A C).1.toNat) (Zv A.b.c A.b.d);omega)):p:=h
theorem cJ{p:Prop}(h:p:=by first|exact B g|exact ZJ (n:=1048577) (by decide) (QZ (n:=1048577) (A:=C) (by have:=XR S;omega))|exact .inr rfl|exact .inl rfl):p:=h
theorem a5{p:Prop}(h:p:=by(have z:=YU A;simp_all;done)):p:=h
theorem a4{p:Prop}(h:p:=by(have z:=YW A;simp_all;done)):p:=h
theorem aL{p:Prop}(h:p:=by decide+kernel):p:=h
theorem dN{p:Prop}(h:p:=by(first|exact⟨by omega,fun x O=>Nat.le_trans (j1.2.2.2.2 x O) (by decide)⟩|exact⟨by omega,fun x O=>Nat.le_trans (j2.2.2.2.2.2 x O) (by decide)⟩|exact Nat.le_of_ble_eq_true rfl)):p:=h
theorem zAl{p:Prop}(h:p:=by have:=Zx S;rw[List.length_drop];omega):p:=h
theorem aC{p:Prop}(h:p:=by grind):p:=h
theorem hy{p:Prop}(h:p:=by(first|exact B g|exact B u2|exact B (ZU.JM S)|exact B (show R 2097152 (Q.mk [C.a] [])from⟨⟨Nat.le_of_ble_eq_true rfl,fun x O=>by rcases List.mem_cons.1 O with rfl|O;exact ZU.YM S;cases O⟩,⟨Nat.zero_le _,fun x O=>by cases O⟩⟩)|exact(show C.a.b.length+0<=2097152 from Zx (ZR.Yp (ZU.YM S)))|exact B S)):p:=h
theorem a1{p:Prop}(h:p:=by first|rfl|trivial):p:=h
theorem hi{p:Prop}(h:p:=by(first|exact B g|exact B (ZU.JM S)|exact B (show R 2097152 (Q.mk [C.a] [])from⟨⟨Nat.le_of_ble_eq_true rfl,fun x O=>by rcases List.mem_cons.1 O with rfl|O;exact ZU.YM S;cases O⟩,⟨Nat.zero_le _,fun x O=>by cases O⟩⟩)|exact(show C.a.b.length+0<=2097152 from Zx (ZR.Yp (ZU.YM S)))|exact B S)):p:=h
theorem cE{p:Prop}(h:p:=by first|exact B g|exact⟨⟨X.zero _,X.zero _⟩,xJ (by have:=Zx S;rw[List.length_drop];omega)⟩):p:=h
theorem eE{p:Prop}(h:p:=by first|exact g|exact Xq (n:=1048577) (A:=C) (by have:=XR S;omega)|exact List.length_pos_iff.2 (fun e=>by rw[e]at M;cases M)|exact u2|exact a):p:=h
theorem aG{p:Prop}(h:p:=by simp[Op.operands]):p:=h
theorem ds{p:Prop}(h:p:=by first|omega|(have z:=jk (C.tail.take ((W (E+1)).toNat-1)) (by simpa using Z);simp at M z;simp only[Xf]at*;omega)):p:=h
theorem dk{p:Prop}(h:p:=by first|omega|(have z:=VL (C.tail.take ((W (E+1)).toNat-1)) (by simpa using Z);simp at M z;simp only[Xf]at*;omega)):p:=h
theorem cv{p:Prop}(h:p:=by have:=XR S;omega):p:=h
theorem dZ{p:Prop}(h:p:=by first|omega|(have h0:0<=(u A (I C 0)).1:=(by simp at M;omega);have d:=Y2 A (I C 0) h0;omega)|(have z:=S.2 (by simpa using Z);omega)):p:=h
theorem bH{p:Prop}(h:p:=by simp(maxDischargeDepth:=12) [XG];try omega):p:=h
theorem dM{p:Prop}(h:p:=by first|exact B g|exact ZJ (n:=1048577) (by decide) (Xq (n:=1048577) (A:=C) (by have:=XR S;omega))|exact .inr rfl|exact .inl rfl):p:=h
theorem cI{p:Prop}(h:p:=by(first|exact B g|exact B S|exact B u2|exact a|exact B (Kf (n:=2277376) S))):p:=h
theorem cO{p:Prop}(h:p:=by(first|exact B g|exact B S|exact B u2|exact a|exact B (Qh (n:=2277376) S))):p:=h
theorem c9{p:Prop}(h:p:=by(first|exact B g|exact B S|exact B u2|exact a|exact B (Kd (n:=2277376) S))):p:=h
theorem cH{p:Prop}(h:p:=by(first|exact B g|exact B S|exact B u2|exact a|exact B (Qm (n:=2277376) S))):p:=h
theorem bQ{p:Prop}(h:p:=by first|omega|(simp;done)|(simp;omega)):p:=h
theorem dC{p:Prop}(h:p:=by first|(exact ZJ (n:=2314240) (by decide) (xs (an g S)))|(exact ZJ (n:=2314240) (by decide) (Up (xs (an g S)) (by decide)))):p:=h
theorem h2{p:Prop}(h:p:=by have:=Qv A.b.b (I E T);first|omega|(have z:=zd (A:=A) (C:=E) (j:=U) (by have o:=M;simp at o;simp[o]) (by omega);omega)|(have z:=zd (A:=A) (C:=E) (j:=T) (by have o:=M;simp at o;simp[o]) (by omega);omega)):p:=h
theorem iN{p:Prop}(h:p:=by have:=Qv A.b.b (I E U);first|omega|(have z:=zd (A:=A) (C:=E) (j:=U) (by have o:=M;simp at o;simp[o]) (by omega);omega)|(have z:=zd (A:=A) (C:=E) (j:=T) (by have o:=M;simp at o;simp[o]) (by omega);omega)):p:=h
theorem e7{p:Prop}(h:p:=by assumption):p:=h
theorem fq{p:Prop}(h:p:=by first|(exact ZJ (n:=2310144) (by decide) (xs (an g S)))|(exact ZJ (n:=2310144+1) (by decide) (xS (n:=2310144) (xs (an g S)) (xs (an g S)) (by decide)))):p:=h
theorem ia{p:Prop}(h:p:=by first|exact B (P.Yc g)|exact B (ZY (ZD.Z8 (ZY (P.Zs g))))|exact ZJ (n:=1048578) (by decide) (Wt (n:=1048576) (A:=I (I A.a (u A (I C 0)).1.toNat).a (u A (I C 0)).2.toNat) (C:=[I C 1]) (ZY (ZD.Z8 (ZY (P.Zs g)))))):p:=h
theorem b8{p:Prop}(h:p:=by first|exact B (ZY S)|exact L7 (B (ZY S))):p:=h
theorem ez{p:Prop}(h:p:=by(first|exact⟨by omega,fun x O=>Nat.le_trans (j1.2.2.2.2 x O) (by decide)⟩|exact Nat.le_of_ble_eq_true rfl)):p:=h
theorem fm{p:Prop}(h:p:=by first|omega|(have d:=Qt A C (by first|omega|(simp at*;omega));omega)|(simp only[Bool.or_eq_false_iff,decide_eq_false_iff_not]at*;omega)):p:=h
theorem go{p:Prop}(h:p:=by(have e:C.a.length<=2306048:=Zx (xs S);(try simp[ZW]at q1);have d:=GR C.a.length (by omega);first|omega|((try rw[d]at q1);(try rw[d]at q2);have w3:W (E+1)=E+1:=YB (by omega) (by omega);omega))):p:=h
theorem fJ{p:Prop}(h:p:=by first|omega|(have d:=Y2 A C (by first|omega|(simp at*;omega));omega)|(simp only[Bool.or_eq_false_iff,decide_eq_false_iff_not]at*;omega)):p:=h
theorem i3{p:Prop}(h:p:=by(have e:C.a.length<=2314240:=Zx (xs S);(try simp[Z1]at q1);have d:=GR C.a.length (by omega);first|omega|((try rw[d]at q1);(try rw[d]at q2);have w3:W (E+1)=E+1:=YB (by omega) (by omega);omega))):p:=h
theorem dA{p:Prop}(h:p:=by first|exact B g|exact⟨⟨X.zero _,X.zero _⟩,jM (by have:=Zx S;rw[List.length_drop];omega)⟩):p:=h
theorem eU{p:Prop}(h:p:=by first|exact ZJ (n:=101) (by decide) (Hy _ _ _)|exact ZJ (n:=1048577) (by decide) (L2 (ZY (P.Zs g)))|exact B (UP (P.Yc g))|exact B u2):p:=h
theorem eJ{p:Prop}(h:p:=by have o:=M;simp at o;simp[o]):p:=h
theorem b3{p:Prop}(h:p:=by first|exact B g|exact a|exact e):p:=h
theorem fU{p:Prop}(h:p:=by first|exact B (ZI.Yf (P.Yc g))|exact B (ZI.Yh (P.Yc g))|exact⟨Nat.le_trans (O2 A) (by omega),fun _ _=>trivial⟩):p:=h
theorem gi{p:Prop}(h:p:=by first|exact B (ZI.Yf (P.Yc g))|exact B (ZI.Yh (P.Yc g))|exact⟨Nat.le_trans (OY A) (by omega),fun _ _=>trivial⟩):p:=h
theorem gx{p:Prop}(h:p:=by(first|(have d:=OC (l:=(I A.a J).a) (i:=T) (by first|omega|(simp at*;omega));omega)|(have d:=It (l:=A.b) (i:=j) (by first|omega|(simp at*;omega));omega))):p:=h
theorem g0{p:Prop}(h:p:=by(first|(have d:=OC (l:=(I A.a U).a) (i:=q) (by first|omega|(simp at*;omega));omega)|(have d:=It (l:=A.b) (i:=s) (by first|omega|(simp at*;omega));omega))):p:=h
theorem a0{p:Prop}(h:p:=by simp;omega):p:=h
theorem e6{p:Prop}(h:p:=by first|exact B g|exact ZJ (n:=1048577) (by decide) (QZ (n:=1048577) (A:=C) (by have:=XR S;omega))|exact S3 C):p:=h
theorem i0{p:Prop}(h:p:=by first|omega|(have c:=Int.tmod_eq_emod_of_nonneg (b:=2) (show 0<=U by omega);(try simp only[Xf,show ∀x,IntKind.i64.wrap x=W x from fun _=>rfl]at*);(try simp at*);omega)):p:=h
theorem hT{p:Prop}(h:p:=by first|omega|(have c:=Int.tmod_eq_emod_of_nonneg (b:=2) (show 0<=J by omega);(try simp only[Xf,show ∀x,IntKind.i64.wrap x=W x from fun _=>rfl]at*);(try simp at*);omega)):p:=h
theorem b4{p:Prop}(h:p:=by first|omega|(simp;omega)):p:=h
theorem eZ{p:Prop}(h:p:=by first|omega|exact iO S M|(rcases u2 with⟨e|e,_⟩|_;(rw[e]at Z;cases Z);(rw[e]at h3;cases h3);omega)):p:=h
theorem hS{p:Prop}(h:p:=by first|exact B g|exact ZJ (n:=1048577) (by decide) (Xq (n:=1048577) (A:=C) (by have:=XR S;omega))|exact List.length_pos_iff.2 (fun e=>by rw[e]at M;cases M)):p:=h
theorem em{p:Prop}(h:p:=by first|exact B g|exact B S|exact B u2|exact B (ZY (ZR.Yp (ZY (Q.Yo S))))):p:=h
theorem du{p:Prop}(h:p:=by have:=ko ds k X Q (by simpa using h);simpa[Ya,Y6]using this):p:=h
theorem k6{p:Prop}(h:p:=by first|(have o:=xA A;have l:=Zx (ZI.Yh (P.Yc g));simp[XG];omega)|(refine ZJ (n:=2314240) (by decide) ?_;simp(maxDischargeDepth:=12) [g];done)):p:=h
theorem h4{p:Prop}(h:p:=by first|(have o:=xI A;have l:=Zx (ZI.Yh (P.Yc g));simp[XG];omega)|(refine ZJ (n:=2310144) (by decide) ?_;simp(maxDischargeDepth:=12) [g];done)):p:=h
theorem i5{p:Prop}(h:p:=by first|(simp(maxDischargeDepth:=12) [XG];omega)|(simp(maxDischargeDepth:=12) [ZJ (m:=2330624) (by decide) g,ZJ (m:=2330624) (by decide) S];done)):p:=h
theorem fB{p:Prop}(h:p:=by first|omega|((try simp only[Xf,show ∀x,IntKind.i64.wrap x=W x from fun _=>rfl]at*);omega)):p:=h
theorem gq{p:Prop}(h:p:=by first|exact B (P.Yc g)|exact B (ZY (ZD.Z8 (ZY (P.Zs g))))|exact ZJ (n:=1048577) (by decide) (W9 (n:=1048576) (ZY (ZD.Z8 (ZY (P.Zs g)))))):p:=h
theorem ct{p:Prop}(h:p:=by simp at*;omega):p:=h
theorem dm{p:Prop}(h:p:=by have:=Ur ds k (by simpa[Ya,Y6]using h);simpa using this):p:=h
theorem h5{p:Prop}(h:p:=by first|(exact ZJ (n:=2310144) (by decide) (xs (an g S)))|(exact ZJ (by decide) (xS (n:=2310144) (xs (an g S)) (xs (an g S)) (by decide)))):p:=h
theorem er{p:Prop}(h:p:=by first|(simp;done)|(simp;done)|(simp;omega)|(simp_all;done)):p:=h
theorem iK{p:Prop}(h:p:=by first|(have hc:=M;simp at hc;have hl:=j1.2.2.2.1 hc.2;exact ZJ (n:=2306048+U) (by omega) j1.2.2.2.2)|exact B (ZY (Y7.Z8 S))):p:=h
theorem bn{p:Prop}(h:p:=by simp[At.ref]):p:=h
theorem ck{p:Prop}(h:p:=by first|exact B g|exact B S):p:=h
theorem eQ{p:Prop}(h:p:=by(have z:=Cs M (v:=U) w;first|omega|(have y:=z.2.2.2 (by simpa using h3);omega))):p:=h
theorem aY{p:Prop}(h:p:=by cases h):p:=h
theorem j1{p:Prop}(h:p:=by first|exact B g|exact⟨jS (ZJ (n:=2289664) (by decide) (jr S)) (by have:=Zx S;rw[List.length_drop];omega),X.zero _⟩):p:=h
theorem io{p:Prop}(h:p:=by first|exact B g|exact⟨qy (ZJ (n:=2289664) (by decide) (jr S)) (by have:=Zx S;rw[List.length_drop];omega),X.zero _⟩):p:=h
theorem cl{p:Prop}(h:p:=by(first|exact B g|exact S)):p:=h
theorem gY{p:Prop}(h:p:=by first|(have hl:=LL C E (by simp at M;exact M.1);exact ZJ (n:=2306048+J) (by omega) j1.2.2.2)|exact B (ZY (Y7.Z8 S))):p:=h
theorem hG{p:Prop}(h:p:=by first|exact B g|exact ZJ (by decide) (Xq (n:=1048577) (A:=C) (by have:=XR S;omega))|exact .inr rfl|exact .inl rfl):p:=h
theorem g3{p:Prop}(h:p:=by first|(simp(maxDischargeDepth:=12) [XG];omega)|(simp(maxDischargeDepth:=12) [ZJ (m:=2318336) (by decide) g];done)):p:=h
theorem gD{p:Prop}(h:p:=by first|exact B g|exact ZJ (n:=1048577) (by decide) (Xq (n:=1048577) (A:=C) (by have:=XR S;omega))|exact MI C):p:=h
theorem ej{p:Prop}(h:p:=by simpa using Z):p:=h
theorem hV{p:Prop}(h:p:=by intro i h;(have z:i=0\/i=1\/i=2\/i=3\/i=4:=by omega);rcases z with rfl|rfl|rfl|rfl|rfl<;>rfl):p:=h
theorem bK{p:Prop}(h:p:=by(simp at M;omega)):p:=h
theorem g8{p:Prop}(h:p:=by first|exact B g|exact⟨jS (ZJ (by decide) (jr S)) (by have:=Zx S;rw[List.length_drop];omega),X.zero _⟩):p:=h
theorem e8{p:Prop}(h:p:=by simp(maxDischargeDepth:=12) [kY,ZJ (m:=2322432) (by decide) g];try omega):p:=h
theorem k7{p:Prop}(h:p:=by first|exact B g|exact⟨qy (ZJ (by decide) (jr S)) (by have:=Zx S;rw[List.length_drop];omega),X.zero _⟩):p:=h
theorem fl{p:Prop}(h:p:=by first|omega|(simp only[Bool.and_eq_true,decide_eq_true_eq,ZW]at*;omega)):p:=h
theorem h8{p:Prop}(h:p:=by first|omega|(have f0:0<=(S A C).1:=(by first|omega|(simp at*;omega));have d:=Qt A C f0;omega)):p:=h
theorem iy{p:Prop}(h:p:=by simp(maxDischargeDepth:=12) [RS,ZJ (m:=2318336) (by decide) g,ZJ (m:=2318336) (by decide) S];try omega):p:=h
theorem bq{p:Prop}(h:p:=by rw[ho];simp):p:=h
theorem bC{p:Prop}(h:p:=by simp[D,w2]):p:=h
theorem bv{p:Prop}(h:p:=by simp[D,G]):p:=h
theorem eH{p:Prop}(h:p:=by first|exact B (P.Yc g)|exact B (ZY (P.Zs g))):p:=h
theorem e4{p:Prop}(h:p:=by first|omega|(have z:=yG A C (by simp_all);(try simp at*);omega)):p:=h
theorem ht{p:Prop}(h:p:=by first|omega|(simp at q1;omega)):p:=h
theorem gw{p:Prop}(h:p:=by(have q:=Zx (show R 2310144 E from S);exact ZJ (n:=2310144) (by decide) ⟨by omega,j1.2.2.2.2⟩)):p:=h
theorem dh{p:Prop}(h:p:=by have:=Jk A.b.b (I E U);exact il):p:=h
theorem gG{p:Prop}(h:p:=by rw[List.drop_zero];simp only[List.length_nil];exact Nat.le_trans (by rw[Nat.zero_add];exact hp) hk):p:=h
theorem cw{p:Prop}(h:p:=by simpa using M):p:=h
theorem bt{p:Prop}(h:p:=by rw[h];rfl):p:=h
theorem dG{p:Prop}(h:p:=by first|exact g|exact S|exact u2|exact a):p:=h
theorem fF{p:Prop}(h:p:=by(have z:=of_decide_eq_false M;show A.size<=1048576;omega)):p:=h
theorem bE{p:Prop}(h:p:=by simpa using hc):p:=h
theorem dS{p:Prop}(h:p:=by have:=(List.getElem?_eq_some_iff.1 hq).1;omega):p:=h
theorem eG{p:Prop}(h:p:=by have:=W _ _ _ ht e;simpa[At.ref]using this):p:=h
theorem ff{p:Prop}(h:p:=by cases h;exact⟨Nat.zero_le _,fun x O=>(by cases O)⟩):p:=h
theorem g7{p:Prop}(h:p:=by(first|(rw[<-H.h,zU];exact B (Nc g S (by decide)))|(rw[<-H.h,zU];exact u2))):p:=h
theorem he{p:Prop}(h:p:=by(first|(rw[<-H.h,zT];exact B (Nc g S (by decide)))|(rw[<-H.h,zT];exact u2))):p:=h
theorem dR{p:Prop}(h:p:=by simp only[true_and,and_true];exact Iff.rfl):p:=h
theorem hY{p:Prop}(h:p:=by first|exact ZJ (n:=2318336+1) (by decide) (Rl g)|exact B (ZU.JM g)|exact B S):p:=h
theorem c7{p:Prop}(h:p:=by simp at hy⊢;exact .inr hy):p:=h
theorem fZ{p:Prop}(h:p:=by(have z:=yG A C (by simp_all);(try simp at*);omega)):p:=h
theorem lg{p:Prop}(h:p:=by have:=Xd A.b.a (I A.b.b (Zp A.b.b (I C J)).toNat).a;exact il):p:=h
theorem bV{p:Prop}(h:p:=by simpa using hk):p:=h
theorem ci{p:Prop}(h:p:=by intro q hq;cases hq):p:=h
theorem hW{p:Prop}(h:p:=by(have h0:0<=(S A C).1:=(by simp at M;omega);have d:=Qt A C h0;omega)):p:=h
theorem gr{p:Prop}(h:p:=by injection ak with ak;injection ak with ak;injection ak with ak;exact ak.symm):p:=h
theorem kf{p:Prop}(h:p:=by simp(maxDischargeDepth:=12) [I5,XG,ZJ (m:=2330624) (by decide) g];try omega):p:=h
theorem hH{p:Prop}(h:p:=by first|omega|(have d:=Qt A C (by first|omega|(simp at q1;omega));omega)):p:=h
theorem h9{p:Prop}(h:p:=by first|omega|(have d:=Y2 A C (by first|omega|(simp at q1;omega));omega)):p:=h
theorem cA{p:Prop}(h:p:=by simp[Region.wanted,hg]):p:=h
theorem cx{p:Prop}(h:p:=by simpa using h):p:=h
theorem e1{p:Prop}(h:p:=by rw[<-Nat.succ_mul];exact Nat.mul_le_mul_right _ hi):p:=h
theorem fT{p:Prop}(h:p:=by rw[<-Nat.add_mul];exact Nat.mul_le_mul_right _ aA):p:=h
theorem cT{p:Prop}(h:p:=by rw[J.qK];simp[ac,Y6]):p:=h
theorem de{p:Prop}(h:p:=by simp[Program.bytesOf,hi]):p:=h
theorem ei{p:Prop}(h:p:=by cases‹List (DataW H)›<;>exact h.elim):p:=h
theorem c4{p:Prop}(h:p:=by have:=h.1;simp;omega):p:=h
theorem fb{p:Prop}(h:p:=by rw[<-List.flatten_append,List.take_append_drop]):p:=h
theorem k8{p:Prop}(h:p:=by rw[Vn (by first|omega|(simp;omega))];first|omega|(simp;omega)):p:=h
theorem b0{p:Prop}(h:p:=by rw[ha];simp):p:=h
theorem dz{p:Prop}(h:p:=by cases qs<;>simp[Ya,Xi,Vk u _ ds]):p:=h
theorem eg{p:Prop}(h:p:=by have z:=Zx (Q.Yo h);simp;omega):p:=h
theorem es{p:Prop}(h:p:=by rw[Nat.add_mul,Nat.add_mul];omega):p:=h
theorem eP{p:Prop}(h:p:=by simp(maxDischargeDepth:=12) [LJ];try omega):p:=h
theorem zCn{p:Prop}(h:p:=by simpa using h4):p:=h
theorem zCo{p:Prop}(h:p:=by simpa using h8):p:=h
theorem dt{p:Prop}(h:p:=by rw[List.length_take];omega):p:=h
theorem dV{p:Prop}(h:p:=by first|exact B g|exact B u2):p:=h
theorem j4{p:Prop}(h:p:=by first|exact B S|exact ZJ (n:=2301952) (by decide) (Oh g u2)):p:=h
theorem hc{p:Prop}(h:p:=by first|exact B S|exact ZJ (n:=2301952) (by decide) (O6 g u2)):p:=h
theorem bL{p:Prop}(h:p:=by cases O):p:=h
theorem gM{p:Prop}(h:p:=by first|exact B j2.2.2.2.2|exact B (ZY (ZR.Yp (ZY (Q.Yo S))))):p:=h
theorem dH{p:Prop}(h:p:=by simp[List.getElem?_eq_getElem hi]):p:=h
theorem fh{p:Prop}(h:p:=by have:=Xd A.a (I A.b U).a;exact il):p:=h
theorem cy{p:Prop}(h:p:=by rw[QY];exact h):p:=h
theorem bU{p:Prop}(h:p:=by simp[y5]):p:=h
theorem ft{p:Prop}(h:p:=by apply Array.toList_inj.1;simpa using ha):p:=h
theorem cX{p:Prop}(h:p:=by simp_all):p:=h
theorem zC1{p:Prop}(h:p:=by simpa[Ya,Y6]using h):p:=h
theorem eY{p:Prop}(h:p:=by rw[J.qK,if_neg (fun hh=>W hh.1)]):p:=h
theorem en{p:Prop}(h:p:=by first|exact g|exact a):p:=h
theorem dw{p:Prop}(h:p:=by simpa[At.ref]using O):p:=h
theorem dE{p:Prop}(h:p:=by unfold maxLen at hm;omega):p:=h
theorem fR{p:Prop}(h:p:=by rw[<-Array.length_toList,R,V]):p:=h
theorem df{p:Prop}(h:p:=by simp[D,w2,G]):p:=h
theorem gd{p:Prop}(h:p:=by cases h;exact⟨by omega,U⟩):p:=h
theorem ew{p:Prop}(h:p:=by have:=Tx A C;exact il):p:=h
theorem eA{p:Prop}(h:p:=by simp[Region.wanted,n]):p:=h
theorem cc{p:Prop}(h:p:=by simp[Ql]):p:=h
theorem cz{p:Prop}(h:p:=by cases h;rfl):p:=h
theorem cr{p:Prop}(h:p:=by rw[hd,e]):p:=h
theorem ex{p:Prop}(h:p:=by cases qs<;>exact hf):p:=h
theorem dl{p:Prop}(h:p:=by simpa[Y6]using h):p:=h
theorem dr{p:Prop}(h:p:=by simp[Ya,Y6]at h):p:=h
theorem dj{p:Prop}(h:p:=by exact B (jr S)):p:=h
theorem cb{p:Prop}(h:p:=by simp at h):p:=h
theorem hz{p:Prop}(h:p:=by simpa using h3):p:=h
theorem dq{p:Prop}(h:p:=by simp[jY,A]):p:=h
theorem bD{p:Prop}(h:p:=by(intro z;simp;(repeat(with_reducible refine Go.Mo.sd ?_));exact z.h)):p:=h
theorem bT{p:Prop}(h:p:=by((try dsimp only);first|omega|(simp at*;omega))):p:=h
theorem b6{p:Prop}(h:p:=by(intro z;simp[G,Go.Vm.ZH];(repeat(with_reducible refine Go.Mo.cV ?_));exact z.h)):p:=h
theorem cf{p:Prop}(h:p:=by(intro h;(try simp only[beq_true,beq_false,Bool.not_eq_true',Bool.not_eq_false',Bool.true_and,Bool.and_true]at h);exact h)):p:=h
theorem di{p:Prop}(h:p:=by(intro F;exact Q6 (by simp[F]))):p:=h
theorem gk{p:Prop}(h:p:=by(intro F z;simp[F,Go.Vm.ZH];(repeat(with_reducible refine Go.Mo.sd ?_));exact z.h)):p:=h
variable{v ak u:Value}{w w':World}{B ad S X':Nat->Prop}{P:Program}{o:Oper}{d X t n f i j b aw ae ah:Nat}{x y:Operand}{a:Act}{vs I:List Value}{k H:IntKind}{op:BinOp}{q p:Bool}{c:Call}{parts:Array (Nat×Operand)}{lo hi:Option Operand}{ay:Option Addr}{A:BoundsCode}
inductive D where
 |int (k:IntKind) (n:Int)
 |bool (b:Bool)
 |str (s:ByteArray)
 |sl (X:Nat) (Q:List (List D))
 |unk
 deriving Inhabited
variable{Q ag s:List (List D)}{ds:List D}
def D.scalar:D->Bool
 |.sl _ _=>false
 |_=>true
abbrev CS:=Nat->Nat->Prop
variable{T T0 T':CS}
inductive Rd(T:CS)(w:World):Value->D->Prop
 |int (k:IntKind) (n:Int):Rd T w (.int k n) (.int k n)
 |bool (b:Bool):Rd T w (.bool b) (.bool b)
 |str (s:ByteArray):Rd T w (.string s) (.str s)
 |unk (v:Value) (h:v.oneCell'=true):Rd T w v .unk
 |nil (X:Nat):Rd T w (.slice none 0 0) (.sl X [])
 |sl (a:Addr) (ae ah X:Nat) (Q:List (List D)) (g:Nat->Value)
   (hl:Q.length=ae) (hc:ae<=ah) (hm:ah<=maxLen) (hz:∀r∈Q,r.length=X) (U:Q.flatten≠[]->a.spot=none)
   (hg:∀k d,Q.flatten[k]?=some d->w.cell? ⟨a.block,a.off+k,none⟩=some (g k)/\T a.block (a.off+k))
   (hr:∀k d,Q.flatten[k]?=some d->Rd T w (g k) d):Rd T w (.slice (some a) ae ah) (.sl X Q)
theorem Rd.mono(hT:∀b k v,T b k->w.cell? ⟨b,k,none⟩=some v->w'.cell? ⟨b,k,none⟩=some v/\T' b k)
  {d:D} (h:Rd T w v d):Rd T' w' v d:=by
 induction h with
 |int k n=>exact .int k n
 |bool b=>exact .bool b
 |str s=>exact .str s
 |unk v h=>exact .unk v h
 |nil s=>exact .nil s
 |sl a ae ah X Q g hl hc hm hz U hg hr ih=>exact .sl a ae ah X Q g hl hc hm hz U (fun k d hk=>hT _ _ _ (hg k d hk).2 (hg k d hk).1) (fun k d hk=>ih k d hk)
theorem Rd.Qo{d:D}(h:Rd T w v d):v.oneCell'=true:=by cases h<;>first|rfl|assumption
inductive At where
 |any
 |d (x:D)
 |nil (X:Nat)
 |E (t j lo ae:Nat)
 |ptr (t j i c:Nat)
 |O (t c:Nat)
 |fn (f t:Nat)
 |ac (r:List D) (c:Nat)
 |Z (t j i c:Nat) (o:Option Nat)
 deriving Inhabited
inductive V where
 |any
 |one (x:At)
 |agg (xs:List At)
 |O (xs:List V)
 |E (g:Bool) (x:V)
 |fix (v:Value) (x:V)
 deriving Inhabited
inductive Ob where
 |none
 |box (E:List At)
 |arr (q:Bool) (X:Nat) (Q:List (List D))
 |lit (X:Nat) (Q:List (List At))
 deriving Inhabited
variable{F:Nat->Nat->Ob}
structure Hd where
 v:Value
 n:Nat->Value
 u:Nat->Prop
variable{h h':Nat->Nat->Hd}{hd:Hd}
abbrev bx:=V×List Ob
abbrev J:=List bx
variable{σ:J}
def J.get(σ:J)(t:Nat):V:=match σ[t]? with|some e=>e.1|none=>.any
def Y6(aa:List Ob)(j:Nat):Ob:=match aa[j]? with|some o=>o|none=>.none
def J.ob(σ:J)(t j:Nat):Ob:=match σ[t]? with|some e=>Y6 e.2 j|none=>.none
def J.put:J->Nat->V->J
 |[],_,_=>[]
 |e::σ,0,v=>(v,e.2)::σ
 |e::σ,t+1,v=>e::J.put σ t v
def J.Yg:J->Nat->Nat->Ob->J
 |[],_,_,_=>[]
 |e::σ,0,j,o=>(e.1,e.2.set j o)::σ
 |e::σ,t+1,j,o=>e::J.Yg σ t j o
def J.new:J->Nat->V->List Ob->J
 |[],_,_,_=>[]
 |_::σ,0,v,aa=>(v,aa)::σ
 |e::σ,t+1,v,aa=>e::J.new σ t v aa
theorem J.zP(σ:J)(t:Nat)(v:V):(σ.put t v).length=σ.length:=by
 induction σ generalizing t with
 |nil=>rfl
 |cons e σ ih=>cases t<;>simp[J.put,ih]
theorem J.JQ(σ:J)(t j:Nat)(o:Ob):(σ.Yg t j o).length=σ.length:=by
 induction σ generalizing t with
 |nil=>rfl
 |cons e σ ih=>cases t<;>simp[J.Yg,ih]
theorem J.Mi(σ:J)(t:Nat)(v:V)(aa:List Ob):(σ.new t v aa).length=σ.length:=by
 induction σ generalizing t with
 |nil=>rfl
 |cons e σ ih=>cases t<;>simp[J.new,ih]
theorem J.js(σ:J)(t:Nat)(v:V)(u:Nat):(σ.put t v).get u=if u=t/\t<σ.length then v else σ.get u:=by
 induction σ generalizing t u with
 |nil=>simp[J.put]
 |cons e σ ih=>
  cases t with
  |zero=>cases u<;>simp[J.put,J.get]
  |succ t=>cases u with
   |zero=>simp[J.put,J.get]
   |succ u=>have:=ih t u;simp only[J.get,J.put]at this⊢;simpa using this
theorem J.Ku(σ:J)(t:Nat)(v:V):(σ.put t v).ob=σ.ob:=by
 funext u j;induction σ generalizing t u with
 |nil=>simp[J.put]
 |cons e σ ih=>
  cases t with
  |zero=>cases u<;>simp[J.put,J.ob]
  |succ t=>cases u with
   |zero=>simp[J.put,J.ob]
   |succ u=>have:=ih t u;simp only[J.ob,J.put]at this⊢;simpa using this
theorem J.JR(σ:J)(t j:Nat)(o:Ob)(u:Nat):(σ.Yg t j o).get u=σ.get u:=by
 induction σ generalizing t u with
 |nil=>simp[J.Yg]
 |cons e σ ih=>
  cases t with
  |zero=>cases u<;>simp[J.Yg,J.get]
  |succ t=>cases u with
   |zero=>simp[J.Yg,J.get]
   |succ u=>have:=ih t u;simp only[J.get,J.Yg]at this⊢;simpa using this
theorem hu(aa:List Ob)(j:Nat)(o:Ob)(i:Nat):Y6 (aa.set j o) i=if i=j/\j<aa.length then o else Y6 aa i:=by
 unfold Y6;by_cases h:j=i
 ·subst h;by_cases Z:j<aa.length
  ·simp[Z]
  ·simp[Z]
 ·simp[h,Ne.symm h]
theorem J.ze(σ:J)(t j:Nat)(o:Ob)(u i:Nat)(hl:σ.ob t j≠ .none):(σ.Yg t j o).ob u i=if u=t/\i=j then o else σ.ob u i:=by
 induction σ generalizing t u with
 |nil=>simp[J.ob]at hl
 |cons e σ ih=>
  cases t with
  |zero=>
   have hj:j<e.2.length:=by
    simp only[J.ob,Y6]at hl;rcases Nat.lt_or_ge j e.2.length with h|h
    ·exact h
    ·simp[List.getElem?_eq_none h]at hl
   cases u with
   |zero=>simp[J.Yg,J.ob,hu,hj]
   |succ u=>simp[J.Yg,J.ob]
  |succ t=>cases u with
   |zero=>simp[J.Yg,J.ob]
   |succ u=>have:=ih t u (by simpa[J.ob]using hl);simp only[J.ob,J.Yg]at this⊢;simpa using this
theorem J.Lo(σ:J)(t:Nat)(v:V)(aa:List Ob)(u:Nat):(σ.new t v aa).get u=if u=t/\t<σ.length then v else σ.get u:=by
 induction σ generalizing t u with
 |nil=>simp[J.new]
 |cons e σ ih=>
  cases t with
  |zero=>cases u<;>simp[J.new,J.get]
  |succ t=>cases u with
   |zero=>simp[J.new,J.get]
   |succ u=>have:=ih t u;simp only[J.get,J.new]at this⊢;simpa using this
theorem J.qK(σ:J)(t:Nat)(v:V)(aa:List Ob)(u j:Nat):(σ.new t v aa).ob u j=if u=t/\t<σ.length then Y6 aa j else σ.ob u j:=by
 induction σ generalizing t u with
 |nil=>simp[J.new]
 |cons e σ ih=>
  cases t with
  |zero=>cases u<;>simp[J.new,J.ob]
  |succ t=>cases u with
   |zero=>simp[J.new,J.ob]
   |succ u=>have:=ih t u;simp only[J.ob,J.new]at this⊢;simpa using this
def ef(h:Value)(ae:Nat):Value:=match h with|.slice b _ c=>.slice b ae c|v=>v
def fC(h:Value)(X n lo ae:Nat)(v:Value):Prop:=
 lo+ae<=n/\(ae=n->lo=0->v=h)/\(lo=0->v=ef h ae)/\∃ay ah,v= .slice ay ae ah/\ae<=ah/\ah<=maxLen/\(ay=none->ah=0)/\(0<ae->∃b aE,h= .slice (some ⟨b,0,none⟩) n aE/\ay=some ⟨b,lo*X,none⟩)
def q4:Option Nat->Value->Value->Prop
 |none,x,v=>v=x
 |some k,x,v=>∃b n ah,x= .slice (some ⟨b,0,none⟩) n ah/\v= .pointer (some ⟨b,k,none⟩)
def Yk(T:CS)(h:Nat->Nat->Hd)(ai:Nat->Nat->Ob)(w:World):At->Value->Prop
 |.any,v=>v.oneCell'=true
 |.d x,v=>Rd T w v x
 |.nil _,v=>v= .slice none 0 0
 |.E t j lo ae,v=>v.oneCell'=true/\(∀q X Q,ai t j= .arr q X Q->fC (h t j).v X Q.length lo ae v)/\(∀X Q,ai t j= .lit X Q->fC (h t j).v X Q.length lo ae v)
 |.ptr t j i c,v=>v.oneCell'=true/\(∀q X Q,ai t j= .arr q X Q->∃b n ah,(h t j).v= .slice (some ⟨b,0,none⟩) n ah/\v= .pointer (some ⟨b,i*X+c,none⟩))
 |.O t c,v=>v.oneCell'=true/\∀E,ai t 0= .box E->∃b,(h t 0).v= .pointer (some ⟨b,0,none⟩)/\v= .pointer (some ⟨b,c,none⟩)
 |.fn f t,v=>v.oneCell'=true/\∀E,ai t 0= .box E->∃b,(h t 0).v= .pointer (some ⟨b,0,none⟩)/\v= .func (.func f) #[] #[.pointer (some ⟨b,0,none⟩)]
 |.ac r c,v=>∃b aw,∃g:Nat->Value,v= .pointer (some ⟨b,aw+c,none⟩)/\∀k d,r[k]?=some d->w.cell? ⟨b,aw+k,none⟩=some (g k)/\T b (aw+k)/\Rd T w (g k) d
 |.Z t j i c o,v=>v.oneCell'=true/\∀X Q,ai t j= .arr true X Q->q4 o ((h t j).n (i*X+c)) v
theorem Yk.Qo{ai:Nat->Nat->Ob}{x:At}(r:Yk T h ai w x v):v.oneCell'=true:=by
 cases x with
 |any=>exact r
 |d x=>exact Rd.Qo r
 |nil s=>cases r;rfl
 |E=>exact r.1
 |ptr=>exact r.1
 |O=>exact r.1
 |fn=>exact r.1
 |Z=>exact r.1
 |ac r' c=>obtain⟨b,aw,g,rfl,_⟩:=r;rfl
inductive Yd{α β:Type}(R:α->β->Prop):List α->List β->Prop
 |nil:Yd R [] []
 |cons {a b l m}:R a b->Yd R l m->Yd R (a::l) (b::m)
theorem Yd.imp{α β:Type}{R S:α->β->Prop}(h:∀a b,R a b->S a b){l:List α}{m:List β}(x:Yd R l m):Yd S l m:=by
 induction x with
 |nil=>exact .nil
 |cons r _ ih=>exact .cons (h _ _ r) ih
theorem Yd.length{α β:Type}{R:α->β->Prop}{l:List α}{m:List β}(x:Yd R l m):l.length=m.length:=by
 induction x with
 |nil=>rfl
 |cons r _ ih=>simp[ih]
theorem Yd.get{α β:Type}{R:α->β->Prop}{l:List α}{m:List β}(x:Yd R l m):∀(i:Nat)(a:α),l[i]?=some a->∃b,m[i]?=some b/\R a b:=by
 induction x with
 |nil=>intro i a h;simp at h
 |cons r _ ih=>
  intro i a h;cases i with
  |zero=>simp at h;subst h;exact⟨_,ab,r⟩
  |succ i=>simpa using ih i a aC
theorem Yd.get'{α β:Type}{R:α->β->Prop}{l:List α}{m:List β}(x:Yd R l m):∀(i:Nat)(b:β),m[i]?=some b->∃a,l[i]?=some a/\R a b:=by
 induction x with
 |nil=>intro i a h;simp at h
 |cons r _ ih=>
  intro i a h;cases i with
  |zero=>simp at h;subst h;exact⟨_,ab,r⟩
  |succ i=>simpa using ih i a aC
theorem Yd.V8{α β:Type}{R:α->β->Prop}{l:List α}{m:List β}(hl:l.length=m.length)(h:∀(i:Nat)(a:α)(b:β),l[i]?=some a->m[i]?=some b->R a b):Yd R l m:=by
 induction l generalizing m with
 |nil=>cases m with
  |nil=>exact .nil
  |cons b m=>simp at hl
 |cons a l ih=>cases m with
  |nil=>simp at hl
  |cons b m=>exact .cons (h 0 a b rfl rfl) (ih aC (fun i a b ha G=>h (i+1) a b aC aC))
theorem Yd.append{α β:Type}{R:α->β->Prop}{l a:List α}{m b:List β}(x:Yd R l m)(y:Yd R a b):Yd R (l++a) (m++b):=by
 induction x with
 |nil=>exact y
 |cons r _ ih=>exact .cons r ih
theorem Yd.take{α β:Type}{R:α->β->Prop}{l:List α}{m:List β}(x:Yd R l m)(n:Nat):Yd R (l.take n) (m.take n):=by
 induction x generalizing n with
 |nil=>simpa using Yd.nil
 |cons r _ ih=>cases n with
  |zero=>simpa using Yd.nil
  |succ n=>simpa using Yd.cons r (ih n)
theorem Yd.drop{α β:Type}{R:α->β->Prop}{l:List α}{m:List β}(x:Yd R l m)(n:Nat):Yd R (l.drop n) (m.drop n):=by
 induction x generalizing n with
 |nil=>simpa using Yd.nil
 |cons r x ih=>cases n with
  |zero=>simpa using Yd.cons r x
  |succ n=>simpa using ih n
theorem Yd.set{α β:Type}{R:α->β->Prop}{l:List α}{m:List β}(x:Yd R l m)(i:Nat){a:α}{b:β}(r:R a b):Yd R (l.set i a) (m.set i b):=by
 induction x generalizing i with
 |nil=>simpa using Yd.nil
 |cons r' x ih=>cases i with
  |zero=>simpa using Yd.cons r x
  |succ i=>simpa using Yd.cons r' (ih i)
theorem Yd.mem{α β:Type}{R:α->β->Prop}{l:List α}{m:List β}(x:Yd R l m){b:β}(h:b∈m):∃a,a∈l/\R a b:=by obtain⟨i,hi⟩:=List.mem_iff_getElem?.1 h;obtain⟨a,ha,r⟩:=x.get' i b hi;grind
def qR(T:CS)(h:Nat->Nat->Hd)(ai:Nat->Nat->Ob)(w:World):V->Value->Prop
 |.any,_=>True
 |.one x,v=>Yk T h ai w x v
 |.agg xs,v=>∃I:Array Value,v= .agg I/\Yd (Yk T h ai w) xs I.toList
 |.O _,_=>False
 |.E _ _,_=>False
 |.fix _ _,_=>False
def KA(T:CS)(h:Nat->Nat->Hd)(ai:Nat->Nat->Ob)(w:World):V->Value->Prop
 |.O xs,v=>∃vs:Array Value,v= .tuple vs/\Yd (qR T h ai w) xs vs.toList
 |.E g x,v=>(g=true->qR T h ai w x v)/\(g=false->v=undef)
 |.any,_=>True
 |.one x,v=>Yk T h ai w x v
 |.agg xs,v=>qR T h ai w (.agg xs) v
 |.fix u x,v=>v=u/\qR T h ai w x v
theorem qR.up{ai:Nat->Nat->Ob}{x:V}(r:qR T h ai w x v):KA T h ai w x v:=by cases x<;>first|exact r|exact r.elim
def blk:Value->Option Nat
 |.slice (some a) _ _=>some a.block
 |.pointer (some a)=>some a.block
 |_=>none
def Hd.of(v:Value):Hd:=⟨v,fun _=>undef,fun b=>blk v=some b⟩
inductive aV(w:World):Value->D->(Nat->Prop)->Prop
 |int (k:IntKind) (n:Int) (S:Nat->Prop):aV w (.int k n) (.int k n) S
 |bool (b:Bool) (S:Nat->Prop):aV w (.bool b) (.bool b) S
 |str (s:ByteArray) (S:Nat->Prop):aV w (.string s) (.str s) S
 |unk (v:Value) (h:v.oneCell'=true) (S:Nat->Prop):aV w v .unk S
 |sl (v:Value) (X:Nat) (Q:List (List D)) (S:Nat->Prop) (e:TypeId) (xs:List Value) (l:Nat->Nat->Prop) (ho:w.ownsRow 0 e X v Q.length xs) (hz:∀r∈Q,r.length=X)
   (G:∀b,blk v=some b->S b) (hl:xs.length=Q.flatten.length) (hk:∀k x d,xs[k]?=some x->Q.flatten[k]?=some d->aV w x d (l k))
   (U:∀k b,l k b->S b/\blk v≠some b) (hd:∀i j b,l i b->l j b->i=j):aV w v (.sl X Q) S
def z6(w:World)(xs:List Value)(ds:List D)(S:Nat->Prop):Prop:=
 xs.length=ds.length/\∃l:Nat->Nat->Prop,(∀k x d,xs[k]?=some x->ds[k]?=some d->aV w x d (l k))/\(∀k b,l k b->S b)/\(∀i j b,l i b->l j b->i=j)
def zf(T:CS)(h:Nat->Nat->Hd)(ai:Nat->Nat->Ob)(w:World)(hd:Hd):Ob->Prop
 |.none=>True
 |.box E=>∃b I e,hd.v= .pointer (some ⟨b,0,none⟩)/\w.heap[b]?=some (.cells I e (0,0))/\Yd (Yk T h ai w) E I.toList
 |.arr false X Q=>∃e xs,w.ownsRow 0 e X hd.v Q.length xs/\(∀r∈Q,r.length=X)/\Yd (Rd T w) xs Q.flatten
 |.arr true X Q=>∃e xs,w.ownsRow 0 e X hd.v Q.length xs/\(∀r∈Q,r.length=X)/\z6 w xs Q.flatten (fun b=>hd.u b/\blk hd.v≠some b)/\(∀k x d,xs[k]?=some x->Q.flatten[k]?=some d->d.scalar=false->hd.n k=x)
 |.lit X Q=>∃e xs,w.ownsRow 0 e X hd.v Q.length xs/\(∀r∈Q,r.length=X)/\Yd (Yk T h ai w) Q.flatten xs
def al(T0:CS)(ad:Nat->Prop):CS:=fun b k=>T0 b k\/ad b
structure Xv(B:Nat->Prop)(w w':World):Prop where
 os:w'.os=w.os
 tape:w'.tape=w.tape
 output:w'.output=w.output
 size:w.heap.size<=w'.heap.size
 block:∀k,B k->w'.heap[k]?=w.heap[k]?
theorem Xv.refl(B:Nat->Prop)(w:World):Xv B w w:=⟨rfl,rfl,rfl,Nat.le_refl _,fun _ _=>rfl⟩
theorem Xv.trans{a b c:World}(h:Xv B a b)(k:Xv B b c):Xv B a c:=
 ⟨k.os.trans h.os,k.tape.trans h.tape,k.output.trans h.output,Nat.le_trans h.size k.size,fun i hi=>(k.block i hi).trans (h.block i hi)⟩
theorem Xv.pq(h:RowKit.Below w.heap.size w w')(g:∀b,B b->b<w.heap.size):Xv B w w':=⟨h.os,h.tape,h.output,h.size,fun k hk=>h.block k (g k hk)⟩
structure av(T0:CS)(B:Nat->Prop)(σ:J)(a:Act)(w:World)(ad:Nat->Prop)(h:Nat->Nat->Hd):Prop where
 size:a.tmps.size=σ.length
 defers:a.defers=[]
 d:∀b,B b->b<w.heap.size
 e:∀b,ad b->¬B b/\b<w.heap.size
 f:∀b k,T0 b k->B b
 slot:∀t,t<σ.length->KA (al T0 ad) h σ.ob w (σ.get t) (a.tmps.getD t undef)
 obj:∀t j,zf (al T0 ad) h σ.ob w (h t j) (σ.ob t j)
 c:∀t j b,σ.ob t j≠ .none->blk (h t j).v=some b->(h t j).u b
 own:∀t j b,σ.ob t j≠ .none->(h t j).u b->¬B b/\¬ad b/\b<w.heap.size
 inj:∀t j t' j' b,σ.ob t j≠ .none->σ.ob t' j'≠ .none->(h t j).u b->(h t' j').u b->t=t'/\j=j'
def yO(T0:CS)(B:Nat->Prop)(σ:J)(a:Act)(w:World):Prop:=∃ad h,av T0 B σ a w ad h
theorem av.ZEp(r:av T0 B σ a w ad h)(ho:σ.ob t j≠ .none)(G:blk (h t j).v=some b):¬B b/\¬ad b/\b<w.heap.size:=
 r.own t j b ho (r.c t j b ho G)
section
variable{ai:Nat->Nat->Ob}
theorem Yk.mono(hT:∀b k v,T b k->w.cell? ⟨b,k,none⟩=some v->w'.cell? ⟨b,k,none⟩=some v/\T' b k){x:At}
  (r:Yk T h ai w x v):Yk T' h ai w' x v:=by
 cases x with
 |any=>exact r
 |d x=>exact Rd.mono hT r
 |nil s=>exact r
 |E t j lo ae=>exact r
 |ptr t j i c=>exact r
 |O t c=>exact r
 |fn f t=>exact r
 |Z t j i c o=>exact r
 |ac R c=>obtain⟨b,aw,g,e,hk⟩:=r;exact⟨b,aw,g,e,fun k d hd=>⟨(hT _ _ _ (hk k d hd).2.1 (hk k d hd).1).1,(hT _ _ _ (hk k d hd).2.1 (hk k d hd).1).2,Rd.mono hT (hk k d hd).2.2⟩⟩
theorem qR.mono(hT:∀b k v,T b k->w.cell? ⟨b,k,none⟩=some v->w'.cell? ⟨b,k,none⟩=some v/\T' b k){x:V}
  (r:qR T h ai w x v):qR T' h ai w' x v:=by
 cases x with
 |any=>exact r
 |one x=>exact Yk.mono hT r
 |agg xs=>obtain⟨I,e,r⟩:=r;exact⟨I,e,r.imp fun _ _=>Yk.mono hT⟩
 |O xs=>exact r.elim
 |E g x=>exact r.elim
 |fix u x=>exact r.elim
theorem KA.mono(hT:∀b k v,T b k->w.cell? ⟨b,k,none⟩=some v->w'.cell? ⟨b,k,none⟩=some v/\T' b k){x:V}
  (r:KA T h ai w x v):KA T' h ai w' x v:=by
 cases x with
 |any=>exact r
 |one x=>exact Yk.mono hT r
 |agg xs=>exact qR.mono (x:=.agg xs) hT r
 |O xs=>obtain⟨vs,e,r⟩:=r;exact⟨vs,e,r.imp fun _ _=>qR.mono hT⟩
 |E g x=>exact⟨fun hg=>qR.mono hT (r.1 hg),r.2⟩
 |fix u x=>exact⟨r.1,qR.mono hT r.2⟩
end
def unc:V->V
 |.E _ x=>x
 |.fix _ x=>x
 |x=>x
def ap:V->Bool
 |.E g _=>g
 |_=>true
def C(P:Program)(t:TypeId):TypeId:=
 match P.underlying t with
 |some (.slice e)=>e
 |some (.array _ e)=>e
 |_=>0
def Xr(P:Program)(t:TypeId):Bool:=
 match P.underlying t with
 |some (.slice e)=>(P.info? e).isSome
 |_=>false
def tr(P:Program)(t:TypeId):Option Nat:=
 match P.underlying t with
 |some (.array n e)=>if(P.info? e).isSome then some n else none
 |_=>none
def Ie(P:Program)(t:TypeId):Bool:=
 match P.underlying t with
 |some (.struct _)|some (.array _ _)=>true
 |_=>false
def Uh(P:Program)(t:TypeId):Bool:=
 (P.underlying t).isSome&&(P.info? t).isSome&&(Ie P t||P.cellsOf t==1)
def KU(P:Program)(t:TypeId)(f:Nat):Nat:=
 match P.underlying t with
 |some (.struct C)=>(match C[f]? with|some c=>c.offset|none=>0)
 |_=>0
def Uz(P:Program)(t:TypeId)(f:Nat):TypeId:=
 match P.underlying t with
 |some (.struct C)=>(match C[f]? with|some c=>c.type|none=>0)
 |_=>0
def RO(P:Program)(t:TypeId)(f:Nat):Bool:=
 match P.underlying t with
 |some (.struct C)=>(match C[f]? with|some c=>(P.info? c.type).isSome&&decide (P.cellsOf c.type≠0)|none=>false)
 |_=>false
def cQ(P:Program)(t:TypeId):Option IntKind:=
 match P.underlying t with
 |some (.int k)=>some k
 |_=>none
def L4(P:Program)(t:TypeId):Bool:=
 match P.underlying t with
 |some .string=>true
 |_=>false
def vf(P:Program)(t:TypeId):Bool:=
 match P.underlying t with
 |some .bool=>true
 |_=>false
def cL(P:Program)(A:TypeId):Value->V
 |.int k n=>.one (.d (.int k n))
 |.bool b=>.one (.d (.bool b))
 |.string s=>.one (.d (.str s))
 |.slice none 0 0=>.one (.nil (P.cellsOf (C P A)))
 |_=>.any
def look(P:Program)(σ:J)(A:TypeId):Operand->V
 |.tmp t=>σ.get t
 |.const v=>cL P A v
 |_=>.any
theorem av.get(r:av T0 B σ a w ad h)(t:Nat):KA (al T0 ad) h σ.ob w (σ.get t) (a.tmps.getD t undef):=by
 rcases Nat.lt_or_ge t σ.length with hl|hl
 ·exact r.slot t hl
 ·simp[J.get,List.getElem?_eq_none hl,KA]
theorem nc(T:CS)(h:Nat->Nat->Hd)(ai:Nat->Nat->Ob)(w:World)(A:TypeId)(v:Value):KA T h ai w (cL P A v) v:=by
 unfold cL;split
 ·exact .int _ _
 ·exact .bool _
 ·exact .str _
 ·rfl
 ·trivial
theorem av.look(r:av T0 B σ a w ad h)(A:TypeId)(x:Operand):KA (al T0 ad) h σ.ob w (look P σ A x) (a.eval x):=by
 cases x with
 |tmp t=>exact r.get t
 |const v=>exact nc _ _ _ _ _ _
 |global g=>trivial
 |func f=>trivial
theorem KA.unc{ai:Nat->Nat->Ob}{x:V}(r:KA T h ai w x v)(hg:ap x=true):KA T h ai w (unc x) v:=by
 cases x with
 |E g x=>exact qR.up (r.1 hg)
 |fix u x=>exact qR.up r.2
 |_=>exact r
theorem av.arg(r:av T0 B σ a w ad h)(A:TypeId)(x:Operand){v:V}(he:Vm.unc (Vm.look P σ A x)=v)(hg:ap (Vm.look P σ A x)=true):KA (al T0 ad) h σ.ob w v (a.eval x):=by subst he;exact(r.look A x).unc hg
theorem av.put(r:av T0 B σ a w ad h)(d:Nat)(v:V)(ak:Value)(hv:KA (al T0 ad) h σ.ob w v ak):av T0 B (σ.put d v) (a.put (some d) ak) w ad h:=by
 refine⟨by simp[Act.put,r.size,J.zP],r.defers,r.d,r.e,r.f,fun t ht=>?_,fun t j=>?_,fun t j b=>?_,fun t j b=>?_,fun t j t' j' b=>?_⟩
 ·rw[J.Ku,J.js];rw[J.zP]at ht;by_cases hd:t=d/\d<σ.length
  ·obtain⟨rfl,hl⟩:=hd;simp only[hl,if_true];have:(a.tmps.setIfInBounds t ak).getD t undef=ak:=by simp[r.size,hl]
   simp only[Act.put,this];exact hv
  ·rw[if_neg hd];have W:d≠t:=fun e=>hd ⟨e.symm,e▸ht⟩
   have:(a.tmps.setIfInBounds d ak).getD t undef=a.tmps.getD t undef:=by simp[Array.getElem?_setIfInBounds_ne W]
   simp only[Act.put,this];exact r.slot t ht
 ·rw[J.Ku];exact r.obj t j
 ·rw[J.Ku];exact r.c t j b
 ·rw[J.Ku];exact r.own t j b
 ·rw[J.Ku];exact r.inj t j t' j' b
def bm(P:Program)(T:TypeId)(xs:List At):V:=if Ie P T then .agg xs else(match xs with|[x]=>.one x|_=>.any)
def fy(k:IntKind)(x y:Int):Int:=k.wrap (BitVec.ofInt k.bits x&&&BitVec.ofInt k.bits y).toNat
def eR(k:IntKind)(x y:Int):Int:=k.wrap (BitVec.ofInt k.bits x|||BitVec.ofInt k.bits y).toNat
def fc(k:IntKind)(x y:Int):Int:=k.wrap (BitVec.ofInt k.bits x^^^BitVec.ofInt k.bits y).toNat
def pe(op:BinOp)(k:IntKind)(x y:Int)(v:V):Prop:=
 match op with
 |.eql=>v= .one (.d (.bool (x==y)))
 |.neq=>v= .one (.d (.bool (x !=y)))
 |.lss=>v= .one (.d (.bool (decide (x<y))))
 |.leq=>v= .one (.d (.bool (decide (x<=y))))
 |.gtr=>v= .one (.d (.bool (decide (x>y))))
 |.geq=>v= .one (.d (.bool (decide (x>=y))))
 |.add=>v= .one (.d (.int k (k.wrap (x+y))))
 |.sub=>v= .one (.d (.int k (k.wrap (x-y))))
 |.mul=>v= .one (.d (.int k (k.wrap (x*y))))
 |.quo=>y≠0/\v= .one (.d (.int k (k.wrap (x.tdiv y))))
 |.rem=>y≠0/\v= .one (.d (.int k (x.tmod y)))
 |.and=>v= .one (.d (.int k (fy k x y)))
 |.or=>v= .one (.d (.int k (eR k x y)))
 |.xor=>v= .one (.d (.int k (fc k x y)))
 |.shl=>0<=y/\v= .one (.d (.int k (k.wrap (x*2^min y.toNat k.bits))))
 |.shr=>0<=y/\v= .one (.d (.int k (x.fdiv (2^min y.toNat k.bits))))
 |_=>False
def oQ(op:BinOp)(x y:ByteArray)(v:V):Prop:=
 match op with
 |.add=>((x.size+y.size:Nat):Int)<=9223372036854775807/\v= .one (.d (.str (x++y)))
 |.eql=>v= .one (.d (.bool (decide (x=y))))
 |.neq=>v= .one (.d (.bool (!decide (x=y))))
 |_=>False
def BP(op:BinOp)(x y:Bool)(v:V):Prop:=
 match op with
 |.eql=>v= .one (.d (.bool (x==y)))
 |.neq=>v= .one (.d (.bool (!(x==y))))
 |_=>False
theorem ps{x y:Int}{v:V}{t:TypeId}(hk:(op= .shl\/op= .shr)\/H=k)(G:pe op k x y v)(w:World):
  ∃d,v= .one (.d d)/\∃ak,(binOp op t (.int k x) (.int H y)).run P w= .ok ak w/\∀T w',Rd T w' ak d:=by
 cases op<;>simp only[pe]at G;case shl=>obtain⟨h0,rfl⟩:=G;exact⟨_,rfl,_,by simp[binOp,Op.shift,Int.not_lt.2 h0],fun _ _=>.int _ _⟩
 case shr=>obtain⟨h0,rfl⟩:=G;exact⟨_,rfl,_,by simp[binOp,Op.shift,Int.not_lt.2 h0],fun _ _=>.int _ _⟩
 all_goals(have a:H=k:=by rcases hk with(hk|hk)|hk<;>first|exact hk|cases hk)
 all_goals subst a
 case quo=>obtain⟨h0,rfl⟩:=G;exact⟨_,rfl,_,by simp[binOp,Op.intDiv,h0],fun _ _=>.int _ _⟩
 case rem=>obtain⟨h0,rfl⟩:=G;exact⟨_,rfl,_,by simp[binOp,Op.intDiv,h0],fun _ _=>.int _ _⟩
 case add=>subst G;exact⟨_,rfl,_,by simp[binOp,Op.intArith],fun _ _=>.int _ _⟩
 case sub=>subst G;exact⟨_,rfl,_,by simp[binOp,Op.intArith],fun _ _=>.int _ _⟩
 case mul=>subst G;exact⟨_,rfl,_,by simp[binOp,Op.intArith],fun _ _=>.int _ _⟩
 case and=>subst G;exact⟨_,rfl,_,by simp[binOp,Op.intBits,fy],fun _ _=>.int _ _⟩
 case or=>subst G;exact⟨_,rfl,_,by simp[binOp,Op.intBits,eR],fun _ _=>.int _ _⟩
 case xor=>subst G;exact⟨_,rfl,_,by simp[binOp,Op.intBits,fc],fun _ _=>.int _ _⟩
 all_goals(subst G;exact⟨_,rfl,.bool _,by simp only[binOp,ne_eq,if_false];rfl,fun _ _=>.bool _⟩)
theorem fp(x y:ByteArray):(x.toList==y.toList)=decide (x=y):=by
 rw[ByteArray.toList_eq,ByteArray.toList_eq,Bool.eq_iff_iff];simp;constructor
 ·intro hh;cases x;cases y;simp_all
 ·rintro rfl;rfl
theorem nd{x y:ByteArray}{v:V}{t:TypeId}(G:oQ op x y v)(w:World):
  ∃d,v= .one (.d d)/\∃ak,(binOp op t (.string x) (.string y)).run P w= .ok ak w/\∀T w',Rd T w' ak d:=by
 cases op<;>simp only[oQ]at G;case add=>obtain⟨h0,rfl⟩:=G;exact⟨_,rfl,_,by simp only[binOp,Op.stringOp];rw[if_neg cX];rfl,fun _ _=>.str _⟩
 case eql=>subst G;exact⟨_,rfl,.bool _,by simp only[binOp,Op.stringOp,fp];rfl,fun _ _=>.bool _⟩
 case neq=>subst G;exact⟨_,rfl,.bool _,by simp only[binOp,Op.stringOp,fp];rfl,fun _ _=>.bool _⟩
theorem run_equalIn_bool{t:TypeId}(F:P.underlying t=some .bool)(d:Nat)(x y:Bool)(w:World):(Op.equalIn (d+1) t (.bool x) (.bool y)).run P w= .ok (x==y) w:=by simp[Op.equalIn,run_underlying F]
theorem p6{x y:Bool}{v:V}{t:TypeId}(ht:vf P t=true)(G:BP op x y v)(w:World):
  ∃d,v= .one (.d d)/\∃ak,(binOp op t (.bool x) (.bool y)).run P w= .ok ak w/\∀T w',Rd T w' ak d:=by
 have F:P.underlying t=some .bool:=by unfold vf at ht;split at ht<;>first|assumption|cases ht
 cases op<;>simp only[BP]at G;case eql=>subst G;exact⟨_,rfl,_,by simp only[binOp,Op.equal,Op.maxDepth,Sem.run_bind,run_equalIn_bool F 9999,Result.andThen_ok,Sem.run_pure],fun _ _=>.bool _⟩
 case neq=>subst G;exact⟨_,rfl,_,by simp only[binOp,Op.equal,Op.maxDepth,Sem.run_bind,run_equalIn_bool F 9999,Result.andThen_ok,Sem.run_pure],fun _ _=>.bool _⟩
def MN(P:Program)(σ:J)(x:Operand)(k:IntKind)(n:Int):Prop:=ap (look P σ 0 x)=true/\unc (look P σ 0 x)= .one (.d (.int k n))
def bk(P:Program)(σ:J)(H:Nat):Option Operand->Nat->Prop
 |none,n=>n=H
 |some x,n=>∃k i,ap (look P σ 0 x)=true/\unc (look P σ 0 x)= .one (.d (.int k i))/\0<=i/\n=i.toNat
def cut{α:Type}(xs:List α)(aw n:Nat):List α:=(xs.drop aw).take n
def P8(P:Program):Nat->TypeId->Option (List At)
 |0,_=>none
 |n+1,t=>
  match P.underlying t with
  |some .bool=>some [.d (.bool false)]
  |some (.int k)=>some [.d (.int k 0)]
  |some .string=>some [.d (.str ⟨#[]⟩)]
  |some (.slice e)=>some [.nil (P.cellsOf e)]
  |some (.struct C)=>(C.toList.mapM (fun f=>P8 P n f.type)).map List.flatten
  |some (.array m e)=>(P8 P n e).map (fun r=>(List.replicate m r).flatten)
  |_=>none
def fa:At->Value->Bool
 |.d (.bool b),.bool b'=>b==b'
 |.d (.int k n),.int k' n'=>k==k'&&n==n'
 |.d (.str s),.string J=>s.data.toList==J.data.toList
 |.nil _,.slice none 0 0=>true
 |_,_=>false
def c3:List At->List Value->Bool
 |[],[]=>true
 |x::xs,v::vs=>fa x v&&c3 xs vs
 |_,_=>false
def JN(P:Program)(t:TypeId):Bool:=
 match P8 P 12 t,P.info? t with
 |some L,some i=>(match i.zero with|some z=>c3 L z.cells.toList&&i.size==L.length|none=>false)
 |_,_=>false
theorem nn{x:At}(hz:fa x v=true)(T:CS)(h:Nat->Nat->Hd)(ai:Nat->Nat->Ob)(w:World):Yk T h ai w x v:=by
 unfold fa at hz;split at hz
 ·simp at hz;subst hz;exact .bool _
 ·simp at hz;obtain⟨rfl,rfl⟩:=hz;exact .int _ _
 ·rename_i s J;have:s=J:=by cases s;cases J;simp_all
  subst this;exact .str _
 ·rfl
 ·cases hz
theorem Yf{xs:List At}(hz:c3 xs vs=true)(T:CS)(h:Nat->Nat->Hd)(ai:Nat->Nat->Ob)(w:World):Yd (Yk T h ai w) xs vs:=by
 induction xs generalizing vs with
 |nil=>cases vs with
  |nil=>exact .nil
  |cons v vs=>simp[c3]at hz
 |cons x xs ih=>cases vs with
  |nil=>simp[c3]at hz
  |cons v vs=>simp[c3]at hz;exact .cons (nn hz.1 _ _ _ _) (ih hz.2)
theorem pU{t:TypeId}{L:List At}(hz:JN P t=true)(hr:P8 P 12 t=some L):
  ∃i z,P.info? t=some i/\i.zero=some z/\i.size=L.length/\(∀T h ai w,Yd (Yk T h ai w) L z.cells.toList):=by
 unfold JN at hz;rw[hr]at hz;split at hz
 ·rename_i aG i aF hi;cases aF;split at hz
  ·rename_i z aQ;simp at hz;exact⟨i,z,hi,aQ,hz.2,fun T h ai w=>Yf hz.1 T h ai w⟩
  ·cases hz
 ·cases hz
def V.cells:V->List At
 |.one c=>[c]
 |.agg xs=>xs
 |_=>[]
def V.flat:V->Bool
 |.one _=>true
 |.agg _=>true
 |_=>false
def place{α:Type}(r:List α)(aw:Nat)(xs:List α):List α:=r.take aw++xs++r.drop (aw+xs.length)
def TZ(P:Program)(T:TypeId)(i:Nat):Nat:=match P.underlying T with|some (.array _ e)=>i*P.cellsOf e|_=>KU P T i
def aT(P:Program)(T:TypeId)(i:Nat):TypeId:=match P.underlying T with|some (.array _ e)=>e|_=>Uz P T i
def a6(P:Program)(T:TypeId)(i:Nat):Bool:=match P.underlying T with
 |some (.array _ e)=>(P.info? e).isSome
 |some (.struct C)=>C.all (fun f=>(P.info? f.type).isSome)&&decide (i<C.size)
 |_=>false
def Ig(P:Program)(σ:J)(T:TypeId):List (Nat×Operand)->List At->List At->Prop
 |[],r,d=>d=r
 |(i,x)::R,r,d=>a6 P T i=true/\ap (look P σ (aT P T i) x)=true/\(unc (look P σ (aT P T i) x)).flat=true/\
   (unc (look P σ (aT P T i) x)).cells.length=P.cellsOf (aT P T i)/\TZ P T i+P.cellsOf (aT P T i)<=r.length/\
   Ig P σ T R (place r (TZ P T i) (unc (look P σ (aT P T i) x)).cells) d
def Ew(P:Program)(t:TypeId):Bool:=match P.underlying t with|some .bool=>true|some (.int _)=>true|some .string=>true|_=>false
def MC(P:Program):List Field->Nat->Bool
 |[],_=>true
 | f :: C, i => decide (f.name ≠ "_") && f.offset == i && Ew P f.type && MC P C (i + 1)
def Hb(P:Program):List Field->Nat->Bool
 |[],_=>true
 | f :: C, i => decide (f.name ≠ "_") && f.offset == i && (if Ew P f.type then Hb P C (i + 1) else (match P.underlying f.type with | some (.struct a) => Uh P f.type && Ie P f.type && P.cellsOf f.type == a.size && decide (0 < a.size) && !P.stoodInHeld f.type && MC P a.toList 0 && Hb P C (i + a.size) | _ => false))
def lP(P:Program)(f:Field):List TypeId:=if Ew P f.type then[f.type]else(match P.underlying f.type with|some (.struct a)=>a.toList.map (·.type)|_=>[])
def jW(P:Program)(T:TypeId):List TypeId:=(P.fieldsOf T).toList.flatMap (lP P)
def E0(P:Program)(t:TypeId):Bool:=match P.underlying t with
 |some (.struct C)=>!P.stoodInHeld t&&!P.eqGuardType P.depth t&&Hb P C.toList 0
 |_=>false
def dJ(P:Program)(t:TypeId):At->At->Option Bool
 |.d (.int k a),.d (.int k' b)=>if k=k'/\(cQ P t).isSome then some (a==b)else none
 |.d (.bool a),.d (.bool b)=>if vf P t then some (a==b)else none
 |.d (.str a),.d (.str b)=>if L4 P t then some (decide (a=b))else none
 |_,_=>none
def J4(P:Program):List TypeId->List At->List At->Option Bool
 |[],_,_=>some true
 |f::C,x::xs,y::ys=>(match dJ P f x y,J4 P C xs ys with|some p,some q=>some (p&&q)|_,_=>none)
 |_,_,_=>none
def eN(P:Program)(op:BinOp)(T:TypeId)(x y v:V):Prop:=
 match x,y with
 |.one (.d (.int k m)),.one (.d (.int k' n))=>((op= .shl\/op= .shr)\/k'=k)/\pe op k m n v
 |.one (.d (.str m)),.one (.d (.str n))=>oQ op m n v
 |.one (.d (.bool m)),.one (.d (.bool n))=>vf P T=true/\BP op m n v
 |.agg xs,.agg ys=>E0 P T=true/\∃q,J4 P (jW P T) xs ys=some q/\((op= .eql/\v= .one (.d (.bool q)))\/(op= .neq/\v= .one (.d (.bool (!q)))))
 |_,_=>False
def Mj(t j i:Nat):Nat->List D->List At
 |_,[]=>[]
 |c,x::xs=>(match x with|.sl _ _=>.Z t j i c none|x=>.d x)::Mj t j i (c+1) xs
def Fz(q:Bool)(t j i c:Nat)(xs:List D):List At:=match q with|true=>Mj t j i c xs|false=>xs.map .d
def XV(P:Program)(σ:J)(op:Op)(A:TypeId)(v:V):Prop:=
 match op with
 |.move x=>v=look P σ A x
 |.assign x=>v=look P σ A x
 |.pick c a b=>∃g p q,ap (look P σ A c)=true/\unc (look P σ A c)= .one (.d (.bool g))/\(g=true->unc (look P σ A a)= .one (.d (.bool p)))/\(g=false->unc (look P σ A b)= .one (.d (.bool q)))/\
   (g=true->ap (look P σ A a)=true)/\(g=false->ap (look P σ A b)=true)/\v= .one (.d (.bool (cond g p q)))
 |.load T x=>ap (look P σ 0 x)=true/\Uh P T=true/\
   (match unc (look P σ 0 x)with
   |.one (.O t c)=>∃E,σ.ob t 0= .box E/\c+P.cellsOf T<=E.length/\v=bm P T (cut E c (P.cellsOf T))
   |.one (.ptr t j i c)=>∃q X Q,σ.ob t j= .arr q X Q/\i<Q.length/\c+P.cellsOf T<=X/\v=bm P T (Fz q t j i c (cut (Q.getD i []) c (P.cellsOf T)))
   |.one (.ac r c)=>c+P.cellsOf T<=r.length/\v=bm P T ((cut r c (P.cellsOf T)).map .d)
   |.one (.Z t j i c (some k))=>∃X Q s,σ.ob t j= .arr true X Q/\i<Q.length/\(Q.getD i [])[c]?=some (.sl 1 s)/\P.cellsOf T=1/\k<s.length/\(s.getD k []).all D.scalar=true/\v=bm P T ((s.getD k []).map .d)
   |_=>False)
 |.fieldAddr T x f=>ap (look P σ 0 x)=true/\RO P T f=true/\
   (match unc (look P σ 0 x)with
   |.one (.O t c)=>(∃E,σ.ob t 0= .box E)/\v= .one (.O t (c+KU P T f))
   |.one (.ptr t j i c)=>(∃q X Q,σ.ob t j= .arr q X Q)/\v= .one (.ptr t j i (c+KU P T f))
   |.one (.ac r c)=>v= .one (.ac r (c+KU P T f))
   |.one (.Z t j i c (some k))=>(∃X Q,σ.ob t j= .arr true X Q)/\v= .one (.Z t j i c (some (k+KU P T f)))
   |_=>False)
 |.nilCheck x=>ap (look P σ 0 x)=true/\
   (match unc (look P σ 0 x)with
   |.one (.O t c)=>(∃E,σ.ob t 0= .box E)/\v= .one (.O t c)
   |_=>False)
 |.indexAddr T x ix=>∃k i,MN P σ ix k i/\0<=i/\ap (look P σ 0 x)=true/\
   (match unc (look P σ 0 x)with
   |.one (.d (.sl X Q))=>Xr P T=true/\X=P.cellsOf (C P T)/\0<X/\i<(Q.length:Int)/\v= .one (.ac (Q.getD i.toNat []) 0)
   |.one (.E t j lo ae)=>Xr P T=true/\0<P.cellsOf (C P T)/\(∃q Q,σ.ob t j= .arr q (P.cellsOf (C P T)) Q)/\i<(ae:Int)/\v= .one (.ptr t j (lo+i.toNat) 0)
   |.one (.O t c)=>(∃E,σ.ob t 0= .box E)/\(∃n,tr P T=some n/\1<n/\i<(n:Int))/\v= .one (.O t (c+i.toNat*P.cellsOf (C P T)))
   |.one (.Z t j m c none)=>Xr P T=true/\0<P.cellsOf (C P T)/\(∃X Q s,σ.ob t j= .arr true X Q/\m<Q.length/\(Q.getD m [])[c]?=some (.sl (P.cellsOf (C P T)) s)/\i<(s.length:Int))/\v= .one (.Z t j m c (some (i.toNat*P.cellsOf (C P T))))
   |_=>False)
 |.index T x ix=>∃k i,MN P σ ix k i/\0<=i/\ap (look P σ 0 x)=true/\
   (match unc (look P σ 0 x)with
   |.one (.d (.str s))=>L4 P T=true/\i<(s.size:Int)/\v= .one (.d (.int .u8 (s.data.toList.getD i.toNat 0).toNat))
   |.agg xs=>(∃n,tr P T=some n/\i<(n:Int))/\Uh P (C P T)=true/\i.toNat*P.cellsOf (C P T)+P.cellsOf (C P T)<=xs.length/\v=bm P (C P T) (cut xs (i.toNat*P.cellsOf (C P T)) (P.cellsOf (C P T)))
   |_=>False)
 |.slice T x lo hi none=>ap (look P σ 0 x)=true/\
   (match unc (look P σ 0 x)with
   |.one (.d (.str s))=>L4 P T=true/\∃l h,bk P σ 0 lo l/\bk P σ s.size hi h/\l<=h/\h<=s.size/\v= .one (.d (.str (s.extract l h)))
   |.one (.d (.sl X Q))=>Xr P T=true/\X=P.cellsOf (C P T)/\∃l h,bk P σ 0 lo l/\bk P σ Q.length hi h/\l<=h/\h<=Q.length/\v= .one (.d (.sl X (cut Q l (h-l))))
   |.one (.E t j o ae)=>Xr P T=true/\(∃q Q,σ.ob t j= .arr q (P.cellsOf (C P T)) Q)/\∃l h,bk P σ 0 lo l/\bk P σ ae hi h/\l<=h/\h<=ae/\v= .one (.E t j (o+l) (h-l))
   |_=>False)
 |.binOp op T x y _=>ap (look P σ T x)=true/\ap (look P σ T y)=true/\
   eN P op T (unc (look P σ T x)) (unc (look P σ T y)) v
 |.unOp op _ x=>ap (look P σ 0 x)=true/\
   (match op,unc (look P σ 0 x)with
   |.not,.one (.d (.bool b))=>v= .one (.d (.bool (!b)))
   |.neg,.one (.d (.int k n))=>v= .one (.d (.int k (k.wrap (-n))))
   |_,_=>False)
 |.convert S T x=>ap (look P σ 0 x)=true/\(P.underlying S).isSome=true/\
   (match unc (look P σ 0 x)with
   |.one (.d (.int _ n))=>∃k,cQ P T=some k/\v= .one (.d (.int k (k.wrap n)))
   |_=>False)
 |.extract x i=>ap (look P σ 0 x)=true/\
   (match unc (look P σ 0 x)with
   |.O xs=>xs[i]?=some v/\v.flat=true
   |_=>False)
 |.field T x f=>ap (look P σ 0 x)=true/\RO P T f=true/\Uh P (Uz P T f)=true/\
   (match unc (look P σ 0 x)with
   |.agg xs=>KU P T f+P.cellsOf (Uz P T f)<=xs.length/\v=bm P (Uz P T f) (cut xs (KU P T f) (P.cellsOf (Uz P T f)))
   |_=>False)
 |.build T parts=>JN P T=true/\Ie P T=true/\∃z d,P8 P 12 T=some z/\Ig P σ T parts.toList z d/\v= .agg d
 |.call c=>
   (match c.callee,c.args.toList,c.argTypes.toList with
   |.builtin .len,[x],[t]=>ap (look P σ t x)=true/\
     (match unc (look P σ t x)with
     |.one (.d (.str s))=>L4 P t=true/\v= .one (.d (.int .i64 s.size))
     |.one (.d (.sl _ Q))=>Xr P t=true/\v= .one (.d (.int .i64 Q.length))
     |.one (.nil _)=>Xr P t=true/\v= .one (.d (.int .i64 0))
     |.one (.E u j _ ae)=>Xr P t=true/\((∃q X Q,σ.ob u j= .arr q X Q)\/∃X Q,σ.ob u j= .lit X Q)/\v= .one (.d (.int .i64 ae))
     |.one (.Z u j i c none)=>Xr P t=true/\∃X Q n s,σ.ob u j= .arr true X Q/\i<Q.length/\(Q.getD i [])[c]?=some (.sl n s)/\v= .one (.d (.int .i64 s.length))
     |_=>False)
   |.builtin .max,[x,y],_=>∃k m n,MN P σ x k m/\MN P σ y k n/\v= .one (.d (.int k (if n>m then n else m)))
   |.builtin .min,[x,y],_=>∃k m n,MN P σ x k m/\MN P σ y k n/\v= .one (.d (.int k (if n<m then n else m)))
   |_,_,_=>False)
 |_=>False
theorem V6(b aw n:Nat):(⟨b,aw,none⟩:Addr).add n=⟨b,aw+n,none⟩:=by unfold Addr.add;split<;>simp_all
theorem PH{T:TypeId}(ht:Uh P T=true):∃d i,P.underlying T=some d/\P.info? T=some i/\i.size=P.cellsOf T/\(Ie P T=true\/P.cellsOf T=1):=by simp only[Uh,Bool.and_eq_true,Bool.or_eq_true,beq_iff_eq]at ht;obtain⟨⟨M,Z⟩,h3⟩:=ht;obtain⟨d,hd⟩:=Option.isSome_iff_exists.1 M;obtain⟨i,hi⟩:=Option.isSome_iff_exists.1 Z;exact⟨d,i,hd,hi,by simp[Program.cellsOf,hi],h3⟩
theorem Ei{T:TypeId}{d:TypeDesc}(hd:P.underlying T=some d)(w:World):(isAgg T).run P w= .ok (Ie P T) w:=by unfold isAgg Ie;rw[hd];simp only[Sem.run_bind,run_underlying hd];cases d<;>simp
theorem ye{T:TypeId}{i:TypeInfo}(hi:P.info? T=some i)(w:World):(sizeOf T).run P w= .ok (P.cellsOf T) w:=by simp[sizeOf,typeInfo,hi,Program.cellsOf]
theorem g9{T:TypeId}(ht:Uh P T=true)(hl:I.length=P.cellsOf T)(hc:∀j v,I[j]?=some v->w.cell? ⟨b,aw+j,none⟩=some v):
  ∃ak,(Instr.loadAt T (.pointer (some ⟨b,aw,none⟩))).run P w= .ok ak w/\(Ie P T=true->ak= .agg I.toArray)/\(Ie P T=false->I=[ak]):=by
 obtain⟨d,i,hd,hi,aB,m⟩:=PH ht;cases k:Ie P T with
 |true=>
  refine⟨.agg I.toArray,?_,fun _=>rfl,(fun hh=>by cases hh)⟩;have:=run_loadCells_list (P:=P) w _ I (fun j v hv=>by rw[V6];exact hc j v hv)
  simp only[Instr.loadAt,Instr.sureAddr,loadVar,Sem.run_bind,Sem.run_pure,Result.andThen_ok,Ei hd,k,if_true,ye hi,<-hl,this]
 |false=>
  rcases m with m|m
  ·rw[k]at m;cases m
  ·rw[m]at hl;obtain⟨ak,rfl⟩:=List.length_eq_one_iff.1 hl;have a:=hc 0 ak rfl
   simp at a;simp[Instr.loadAt,Instr.sureAddr,loadVar,Ei hd,k,Sem.run,a]
theorem it{T:TypeId}(a:Uh P T=true){ai:Nat->Nat->Ob}{xs:List At}(O:Yd (Yk T' h ai w) xs I)
  (M:Ie P T=true->ak= .agg I.toArray) (Z:Ie P T=false->I=[ak]):KA T' h ai w (bm P T xs) ak:=by
 unfold bm;cases k:Ie P T with
 |true=>simp;exact⟨_,M k,by simpa using O⟩
 |false=>
  rw[Z k]at O;cases O with
  |cons r O=>cases O;exact r
theorem Yd.cut{α β:Type}{R:α->β->Prop}{l:List α}{m:List β}(x:Yd R l m)(o n:Nat):Yd R (Vm.cut l o n) (Vm.cut m o n):=(x.drop o).take n
theorem Xj{α:Type}(l:List α)(o n:Nat)(hl:o+n<=l.length):(cut l o n).length=n:=by simp[cut];omega
theorem jP{α:Type}(l:List α)(o n j:Nat)(v:α)(hv:(cut l o n)[j]?=some v):l[o+j]?=some v:=by
 simp only[cut,List.getElem?_take,List.getElem?_drop]at hv;split at hv
 ·exact hv
 ·cases hv
theorem S8{α:Type}:∀(Q:List (List α))(X:Nat),(∀r∈Q,r.length=X)->∀(i:Nat)(r:List α),Q[i]?=some r->∀(j:Nat)(d:α),r[j]?=some d->Q.flatten[i*X+j]?=some d
 |[],_,_,i,r,hr,_,_,_=>by simp at hr
 |r0::Q,X,hz,0,r,hr,j,d,hd=>by
  simp at hr;subst hr;have hj:=(List.getElem?_eq_some_iff.1 hd).1
  grind
 |r0::Q,X,hz,i+1,r,hr,j,d,hd=>by
  have ih:=S8 Q X (fun r hr=>hz r aC) i r aC j d hd;have h0:=hz r0 ab;rw[List.flatten_cons,List.getElem?_append_right aC,h0];have:(i+1)*X+j-X=i*X+j:=by rw[Nat.add_mul];omega
  grind
theorem XD{α:Type}(Q:List (List α))(X:Nat)(hz:∀r∈Q,r.length=X):Q.flatten.length=Q.length*X:=by
 induction Q with
 |nil=>simp
 |cons r Q ih=>rw[List.flatten_cons,List.length_append,ih (fun r hr=>hz r aC),hz r ab,List.length_cons,Nat.add_mul];omega
theorem Rd.row(r:Rd T w v (.sl X Q))(i:Nat)(hi:i<Q.length)(aB:0<X):
  ∃a ae ah,v= .slice (some a) ae ah/\ae=Q.length/\a.spot=none/\
   ∃g:Nat->Value,∀k d,(Q.getD i [])[k]?=some d->w.cell? ⟨a.block,a.off+i*X+k,none⟩=some (g k)/\T a.block (a.off+i*X+k)/\Rd T w (g k) d:=by
 cases r with
 |nil=>simp at hi
 |sl a ae ah X Q g hl hc hm hz U hg hr=>
  have ay:Q[i]?=some (Q.getD i []):=dH;have W:Q.flatten≠[]:=by
   have az:=XD Q X hz;have hp:0<Q.length*X:=Nat.mul_pos Y aB;intro he;have h0:Q.flatten.length=0:=by rw[he];rfl
   omega
  refine⟨a,ae,ah,rfl,hl.symm,U W,fun k=>g (i*X+k),fun k d hd=>?_⟩;have hf:=S8 Q X hz i _ ay k d hd
  have M:=hg _ _ hf;rw[Nat.add_assoc];grind
theorem v6(r:Rd T w v (.sl X Q)):∀x∈Q,x.length=X:=by
 cases r with
 |nil=>intro x O;cases O
 |sl a ae ah X Q g hl hc hm hz U hg hr=>exact hz
theorem fY(r:Rd T w v (.sl X Q)):∃ay ah,v= .slice ay Q.length ah/\Q.length<=ah/\ah<=maxLen:=by
 cases r with
 |nil=>exact⟨none,0,rfl,ab,ab⟩
 |sl a ae ah X Q g hl hc hm hz U hg hr=>exact⟨some a,ah,by rw[hl],Y,hm⟩
theorem Qc{t:TypeId}(ht:Xr P t=true):∃i,P.underlying t=some (.slice (C P t))/\P.info? (C P t)=some i/\i.size=P.cellsOf (C P t):=by
 unfold Xr at ht;split at ht
 ·rename_i e he;obtain⟨i,hi⟩:=Option.isSome_iff_exists.1 ht;have:C P t=e:=by simp[C,he]
  rw[this];exact⟨i,he,hi,by simp[Program.cellsOf,hi]⟩
 ·cases ht
theorem pW{t:TypeId}(ht:tr P t=some n):∃i,P.underlying t=some (.array n (C P t))/\P.info? (C P t)=some i/\i.size=P.cellsOf (C P t):=by
 unfold tr at ht;split at ht
 ·rename_i m e he;split at ht
  ·rename_i hh;cases ht;obtain⟨i,hi⟩:=Option.isSome_iff_exists.1 hh;have:C P t=e:=by simp[C,he]
   rw[this];exact⟨i,he,hi,by simp[Program.cellsOf,hi]⟩
  ·cases ht
 ·cases ht
theorem DJ{t:TypeId}(ht:RO P t f=true):∃C c i,P.underlying t=some (.struct C)/\C[f]?=some c/\c.offset=KU P t f/\c.type=Uz P t f/\P.info? c.type=some i/\i.size≠0:=by
 unfold RO at ht;split at ht
 ·rename_i C he;split at ht
  ·rename_i c hf;simp at ht;obtain⟨i,hi⟩:=Option.isSome_iff_exists.1 ht.1;exact⟨C,c,i,he,hf,by simp[KU,he,hf],by simp[Uz,he,hf],hi,by simpa[Program.cellsOf,hi]using ht.2⟩
  ·cases ht
 ·cases ht
theorem T3{t:TypeId}(ht:L4 P t=true):P.underlying t=some .string:=by unfold L4 at ht;split at ht<;>first|assumption|cases ht
theorem rA{t:TypeId}(ht:cQ P t=some k):P.underlying t=some (.int k):=by
 unfold cQ at ht;split at ht
 ·cases ht;assumption
 ·cases ht
theorem GO{n:Int}(r:Rd T w v (.int k n)):v= .int k n:=by cases r;rfl
theorem RH{b:Bool}(r:Rd T w v (.bool b)):v= .bool b:=by cases r;rfl
theorem EP{s:ByteArray}(r:Rd T w v (.str s)):v= .string s:=by cases r;rfl
theorem Vz(r:av T0 B σ a w ad h){n:Int}(O:MN P σ x k n):a.eval x= .int k n:=
 GO (r.arg 0 x O.2 O.1)
theorem aV.Qo{d:D}(h:aV w v d S):v.oneCell'=true:=by
 cases h with
 |int=>rfl
 |bool=>rfl
 |str=>rfl
 |unk _ h=>exact h
 |sl v X Q S e xs l ho hz G hl hk U hd=>rcases ho.2 with⟨rfl,_⟩|⟨g,ah,ax,rfl,_⟩<;>rfl
theorem pY{t j i:Nat}:∀{xs:List D}{c k:Nat}{x:At},(Mj t j i c xs)[k]?=some x->∃d,xs[k]?=some d/\x=(match d with|.sl _ _=>.Z t j i (c+k) none|d=>.d d)
 |[],c,k,x,O=>by simp[Mj]at O
 |d::xs,c,0,x,O=>by cases O;exact⟨d,ab,by cases d<;>simp⟩
 |d::xs,c,k+1,x,O=>by simp only[Mj]at O;obtain⟨d',m,rfl⟩:=pY O;grind
theorem Da{t j i:Nat}:∀(c:Nat)(xs:List D),(Mj t j i c xs).length=xs.length
 |_,[]=>rfl
 |c,d::xs=>by simp[Mj,Da _ xs]
theorem uf(q:Bool)(t j i c:Nat)(xs:List D):(Fz q t j i c xs).length=xs.length:=by cases q<;>simp[Fz,Da]
theorem av.box(r:av T0 B σ a w ad h){E:List At}(ho:σ.ob t 0= .box E){c:Nat}(hv:Yk (al T0 ad) h σ.ob w (.O t c) v):
  ∃b I e,(h t 0).v= .pointer (some ⟨b,0,none⟩)/\v= .pointer (some ⟨b,c,none⟩)/\w.heap[b]?=some (.cells I e (0,0))/\Yd (Yk (al T0 ad) h σ.ob w) E I.toList:=by
 obtain⟨b,G,rfl⟩:=hv.2 E ho;have an:=r.obj t 0
 rw[ho]at an;obtain⟨b',I,e,aj,hh,aa⟩:=an;rw[G]at aj;cases aj;grind
theorem qh{I:Array Value}{e:TypeId}{f:Nat×Nat}(hh:w.heap[b]?=some (.cells I e f))(k:Nat)(v:Value)(hv:I.toList[k]?=some v):w.cell? ⟨b,k,none⟩=some v:=by simp only[World.cell?,hh];simpa using hv
theorem av.arr(r:av T0 B σ a w ad h)(ho:σ.ob t j= .arr q X Q){c:Nat}(hv:Yk (al T0 ad) h σ.ob w (.ptr t j i c) v):
  ∃b ah ax e xs,(h t j).v= .slice (some ⟨b,0,none⟩) Q.length ah/\v= .pointer (some ⟨b,i*X+c,none⟩)/\w.heap[b]?=some (.cells ax e (0,0))/\Q.length<=ah/\ah<=maxLen/\ax.size=ah*X/\
   ax.toList.take (Q.length*X)=xs/\(∀r∈Q,r.length=X)/\xs.length=Q.flatten.length/\(q=false->Yd (Rd (al T0 ad) w) xs Q.flatten)/\
   (q=true->z6 w xs Q.flatten (fun b=>(h t j).u b/\blk (h t j).v≠some b)/\∀k x d,xs[k]?=some x->Q.flatten[k]?=some d->d.scalar=false->(h t j).n k=x):=by
 obtain⟨b,n,ah,G,rfl⟩:=hv.2 q X Q ho;have an:=r.obj t j
 rw[ho]at an;cases q with
 |false=>
  obtain⟨e,xs,aq,hz,aa⟩:=an;rcases aq.2 with⟨h0,_⟩|⟨g,ba,ax,hg,_,hh,aA,aL,aM,aO⟩
  ·rw[G]at h0;cases h0
  ·rw[G]at hg;cases hg;exact⟨b,ah,ax,e,xs,G,rfl,hh,aA,aL,aM,aO,hz,aa.length,fun _=>aa,fun hh=>by cases hh⟩
 |true=>
  obtain⟨e,xs,aq,hz,aa,hn⟩:=an;rcases aq.2 with⟨h0,_⟩|⟨g,ba,ax,hg,_,hh,aA,aL,aM,aO⟩
  ·rw[G]at h0;cases h0
  ·rw[G]at hg;cases hg;exact⟨b,ah,ax,e,xs,G,rfl,hh,aA,aL,aM,aO,hz,aa.1,(fun hh=>by cases hh),fun _=>⟨aa,hn⟩⟩
theorem aV.hdr(h:aV w v (.sl n s) S)(hp:0<s.length):∃b ah,v= .slice (some ⟨b,0,none⟩) s.length ah:=by
 cases h with
 |sl v X Q S e xs l ho hz G hl hk U hd=>
  obtain⟨_,_|⟨g,ah,ax,hv,_⟩⟩:=ho
  ·omega
  ·exact⟨g,ah,hv⟩
theorem av.nest(r:av T0 B σ a w ad h){c:Nat}(ho:σ.ob t j= .arr true X Q)(hi:i<Q.length)(ai:(Q.getD i [])[c]?=some (.sl n s)):∃z S,(h t j).n (i*X+c)=z/\aV w z (.sl n s) S:=by
 have h0:=r.obj t j;rw[ho]at h0;obtain⟨e,vs,ar,hz,⟨hl,l,o1,E,o3⟩,hn⟩:=h0;have ay:Q[i]?=some (Q.getD i []):=dH;have aX:=S8 Q X hz i _ ay c _ ai;have ac:i*X+c<vs.length:=by rw[hl];exact(List.getElem?_eq_some_iff.1 aX).1
 have m:=List.getElem?_eq_getElem ac;exact⟨_,_,hn _ _ _ m aX rfl,o1 _ _ _ m aX⟩
theorem o3(r:av T0 B σ a w ad h){T:TypeId}{v:V}(A:o.op= .load T x)(U:XV P σ o.op o.type v):
  ∃ak,(execOp a.eval o).run P w= .ok (.value ak) w/\KA (al T0 ad) h σ.ob w v ak:=by
 simp only[A]at U;obtain⟨hg,af,U⟩:=U;have O:=r.arg 0 x rfl hg
 have ag:∀(b aw:Nat)(xs:List At)(I:List Value),a.eval x= .pointer (some ⟨b,aw,none⟩)->v=bm P T xs->I.length=P.cellsOf T->
   (∀j u,I[j]?=some u->w.cell? ⟨b,aw+j,none⟩=some u)->Yd (Yk (al T0 ad) h σ.ob w) xs I->∃ak,(execOp a.eval o).run P w= .ok (.value ak) w/\KA (al T0 ad) h σ.ob w v ak:=by
  intro b aw xs I he hv hl hc aa;obtain⟨ak,hr,M,Z⟩:=g9 af hl hc;refine⟨ak,?_,?_⟩
  ·simp only[execOp,A,he,Sem.run_bind,hr,Result.andThen_ok,Sem.run_pure]
  ·rw[hv];exact it af aa M Z
 split at U
 ·rename_i t c heq;rw[heq]at O;obtain⟨E,ho,aA,hv⟩:=U;obtain⟨b,I,e,G,he,hh,aa⟩:=r.box ho O;have az:=aa.length
  refine ag b c _ _ he hv (Xj _ _ _ Y) (fun j u F=>qh hh _ _ (jP _ _ _ _ _ F)) (aa.cut _ _)
 ·rename_i t j i c heq;rw[heq]at O;obtain⟨q,X,Q,ho,hi,aA,hv⟩:=U;obtain⟨b,ah,ax,e,xs,G,he,hh,aS,aL,aM,aO,hz,aI,aa,aq⟩:=r.arr ho O;have ay:Q[i]?=some (Q.getD i []):=dH
  have aT:=hz _ (List.mem_of_getElem? ay);have aG:=XD Q X hz;have aB:i*X+X<=Q.length*X:=e1;have ao:∀k d',(cut (Q.getD i []) c (P.cellsOf T))[k]?=some d'->Q.flatten[i*X+c+k]?=some d':=by
   intro k d' m;have Z:=S8 Q X hz i _ ay _ d' (jP _ _ _ _ _ m)
   grind
  refine ag b _ _ (cut xs (i*X+c) _) he hv (Xj _ _ _ Y) (fun j u F=>?_) ?_
  ·have M:=jP _ _ _ _ _ F;refine qh hh _ _ ?_;rw[<-aO,List.getElem?_take]at M;split at M
   ·exact M
   ·cases M
  ·refine Yd.V8 (by rw[Xj _ _ _ Y,uf,Xj _ _ _ Y]) (fun k x u O F=>?_);have M:=jP _ _ _ _ _ F
   cases q with
   |false=>
    obtain⟨d,hd,hr⟩:=(aa rfl).get _ _ M;simp only[Fz]at O;rw[List.getElem?_map]at O;cases m:(cut _ c _)[k]? with
    |none=>rw[m]at O;cases O
    |some d'=>rw[m]at O;cases O;rw[ao k d' m]at hd;cases hd;exact hr
   |true=>
    obtain⟨⟨_,l,aq,_,_⟩,hn⟩:=aq rfl;obtain⟨d',m,rfl⟩:=pY O;have p:=aq _ _ _ M (ao k d' m)
    cases d' with
    |sl s rs=>
     refine⟨p.Qo,fun aJ aD ac=>?_⟩;rw[ho]at ac;cases ac;show _=_
     rw[<-hn _ _ _ M (ao k _ m) rfl,Nat.add_assoc]
    |int k n=>cases p;exact .int _ _
    |bool b=>cases p;exact .bool _
    |str s=>cases p;exact .str _
    |unk=>exact .unk _ p.Qo
 ·rename_i R c heq;rw[heq]at O;obtain⟨aA,hv⟩:=U;obtain⟨b,aw,g,he,hk⟩:=O;refine ag b _ _ ((List.range (P.cellsOf T)).map fun j=>g (c+j)) he hv ab (fun j u F=>?_) ?_
  ·rw[List.getElem?_map]at F;rcases Nat.lt_or_ge j _ with hj|hj
   ·rw[List.getElem?_range hj]at F;cases F;have hd:=hk _ (R[c+j]'Y) (List.getElem?_eq_getElem _)
    grind
   ·rw[List.getElem?_eq_none aC]at F;cases F
  ·refine Yd.V8 (by rw[List.length_map,Xj _ _ _ Y];simp) (fun k x u O F=>?_);rw[List.getElem?_map]at O F;cases m:(cut R c _)[k]? with
   |none=>rw[m]at O;cases O
   |some d'=>
    rw[m]at O;cases O;have f:k<P.cellsOf T:=by have:=(List.getElem?_eq_some_iff.1 m).1;rw[Xj _ _ _ Y]at this;exact this
    rw[List.getElem?_range f]at F;cases F;exact(hk _ d' (jP _ _ _ _ _ m)).2.2
 ·rename_i t j i c k heq;rw[heq]at O;obtain⟨X,Q,s,ho,hi,ai,C,L,N,hv⟩:=U;obtain⟨z,S,hn,aq⟩:=r.nest ho hi ai;obtain⟨b,ae,aE,D,he⟩:=O.2 _ _ ho;rw[hn]at D;cases aq with
  |sl v aJ aD S e xs l ac hz G hl hk K hd=>
   rcases ac.2 with⟨rfl,h0⟩|⟨g,ah,ax,rfl,_,hh,ar,aL,aM,aO⟩
   ·omega
   ·cases D;have ay:s[k]?=some (s.getD k []):=by simp[List.getElem?_eq_getElem L]
    have aT:=hz _ (List.mem_of_getElem? ay);have aG:=XD s 1 hz;refine ag b k _ (cut xs k _) he hv (Xj _ _ _ Y) (fun j u F=>?_) ?_
    ·have M:=jP _ _ _ _ _ F;refine qh hh _ _ ?_;rw[<-aO,List.getElem?_take]at M;split at M
     ·exact M
     ·cases M
    ·refine Yd.V8 (by rw[List.length_map,Xj _ _ _ Y];omega) (fun q x u O F=>?_);rw[List.getElem?_map]at O;cases m:(s.getD k [])[q]? with
     |none=>rw[m]at O;cases O
     |some d'=>
      rw[m]at O;cases O;have hq:q=0:=by have:=(List.getElem?_eq_some_iff.1 m).1;omega
      subst hq;have hf:=S8 s 1 hz k _ ay 0 d' m
      rw[Nat.mul_one]at hf;have y:=hk _ _ _ (jP _ _ _ _ _ F) hf
      have H:=List.all_eq_true.1 N d' (List.mem_of_getElem? m);cases d' with
      |sl J rs=>cases H
      |int k' n'=>cases y;exact .int _ _
      |bool b'=>cases y;exact .bool _
      |str J=>cases y;exact .str _
      |unk=>exact .unk _ y.Qo
 ·exact U.elim
theorem LB{T:TypeId}(hf:RO P T f=true)(b aw:Nat):(Instr.fieldAt T (.pointer (some ⟨b,aw,none⟩)) f).run P w= .ok (.pointer (some ⟨b,aw+KU P T f,none⟩)) w:=by
 obtain⟨C,c,i,F,aO,d,af,hi,W⟩:=DJ hf;have aI:P.cellsOf c.type≠0:=by simpa[Program.cellsOf,hi]using W
 simp[Instr.fieldAt,run_underlying F,aO,Instr.sureAddr,fieldPlace,ye hi,aI,V6]
theorem um(r:av T0 B σ a w ad h){T:TypeId}{v:V}(A:o.op= .fieldAddr T x f)(U:XV P σ o.op o.type v):
  ∃ak,(execOp a.eval o).run P w= .ok (.value ak) w/\KA (al T0 ad) h σ.ob w v ak:=by
 simp only[A]at U;obtain⟨hg,hf,U⟩:=U;have O:=r.arg 0 x rfl hg
 split at U
 ·rename_i t c heq;rw[heq]at O;obtain⟨⟨E,ho⟩,rfl⟩:=U;obtain⟨b,G,he⟩:=O.2 E ho;refine⟨.pointer _,by simp only[execOp,A,he,Sem.run_bind,LB hf,Result.andThen_ok,Sem.run_pure],rfl,fun N _=>⟨b,G,rfl⟩⟩
 ·rename_i t j i c heq;rw[heq]at O;obtain⟨⟨q,X,Q,ho⟩,rfl⟩:=U;obtain⟨b,n,ah,G,he⟩:=O.2 q X Q ho;refine⟨.pointer (some ⟨b,i*X+c+KU P T f,none⟩),by simp only[execOp,A,he,Sem.run_bind,LB hf,Result.andThen_ok,Sem.run_pure],rfl,fun q' aJ aD p=>?_⟩;rw[ho]at p;cases p;grind
 ·rename_i R c heq;rw[heq]at O;subst U;obtain⟨b,aw,g,he,hk⟩:=O;exact⟨.pointer (some ⟨b,aw+c+KU P T f,none⟩),by simp only[execOp,A,he,Sem.run_bind,LB hf,Result.andThen_ok,Sem.run_pure],b,aw,g,by rw[Nat.add_assoc],hk⟩
 ·rename_i t j i c k heq;rw[heq]at O;obtain⟨⟨X,Q,ho⟩,rfl⟩:=U;obtain⟨b,n,ah,G,he⟩:=O.2 X Q ho;refine⟨.pointer (some ⟨b,k+KU P T f,none⟩),by simp only[execOp,A,he,Sem.run_bind,LB hf,Result.andThen_ok,Sem.run_pure],rfl,fun aJ aD p=>?_⟩;rw[ho]at p;cases p;exact⟨b,n,ah,G,rfl⟩
 ·exact U.elim
theorem oF(r:av T0 B σ a w ad h){v:V}(A:o.op= .nilCheck x)(U:XV P σ o.op o.type v):
  ∃ak,(execOp a.eval o).run P w= .ok (.value ak) w/\KA (al T0 ad) h σ.ob w v ak:=by
 simp only[A]at U;obtain⟨hg,U⟩:=U;have O:=r.arg 0 x rfl hg
 split at U
 ·rename_i t c heq;rw[heq]at O;obtain⟨⟨E,ho⟩,rfl⟩:=U;obtain⟨b,G,he⟩:=O.2 E ho;exact⟨.pointer _,by simp only[execOp,A,he,Sem.run_pure],rfl,fun N _=>⟨b,G,rfl⟩⟩
 ·exact U.elim
theorem Fp{T:TypeId}(ht:Xr P T=true)(I:Addr)(y:I.spot=none)(ae ah:Nat)(k:IntKind)(i:Int)(h0:0<=i)(hl:i<(ae:Int)):
  (Instr.indexAt T (.slice (some I) ae ah) (.int k i)).run P w= .ok (.pointer (some ⟨I.block,I.off+i.toNat*P.cellsOf (C P T),none⟩)) w:=by
 obtain⟨f,F,hi,aB⟩:=Qc ht;obtain⟨b,aw,A⟩:=I;simp at y;subst y;simp[Instr.indexAt,asIntOf,run_underlying F,h0,hl,ye hi,V6]
theorem pO{T:TypeId}(ht:tr P T=some n)(a:1<n)(b aw:Nat)(k:IntKind)(i:Int)(h0:0<=i)(hl:i<(n:Int)):
  (Instr.indexAt T (.pointer (some ⟨b,aw,none⟩)) (.int k i)).run P w= .ok (.pointer (some ⟨b,aw+i.toNat*P.cellsOf (C P T),none⟩)) w:=by
 obtain⟨f,F,hi,aB⟩:=pW ht;simp[Instr.indexAt,Instr.sureAddr,asIntOf,run_underlying F,h0,hl,ye hi,V6]
theorem vM(r:av T0 B σ a w ad h){T:TypeId}{ix:Operand}{v:V}(A:o.op= .indexAddr T x ix)(U:XV P σ o.op o.type v):
  ∃ak,(execOp a.eval o).run P w= .ok (.value ak) w/\KA (al T0 ad) h σ.ob w v ak:=by
 simp only[A]at U;obtain⟨k,i,e,h0,hg,U⟩:=U;have O:=r.arg 0 x rfl hg
 have H:=Vz r e;split at U
 ·rename_i X Q heq;rw[heq]at O;obtain⟨ht,rfl,aK,ac,rfl⟩:=U;have d:i.toNat<Q.length:=Y
  obtain⟨I,ae,ah,he,az,y,g,hk⟩:=Rd.row (O) i.toNat d aK;refine⟨.pointer (some ⟨I.block,I.off+i.toNat*P.cellsOf (C P T),none⟩),by simp only[execOp,A,he,H,Sem.run_bind,Fp ht I y ae ah k i h0 Y,Result.andThen_ok,Sem.run_pure],I.block,I.off+i.toNat*P.cellsOf _,g,ab,hk⟩
 ·rename_i t j lo ae heq;rw[heq]at O;obtain⟨ht,aK,⟨q,Q,ho⟩,ac,rfl⟩:=U;obtain⟨aA,_,_,ay,ah,he,aS,_,_,G⟩:=O.2.1 _ _ Q ho;obtain⟨b,aE,hh,am⟩:=G Y;rw[am]at he;refine⟨.pointer (some ⟨b,lo*P.cellsOf (C P T)+i.toNat*P.cellsOf (C P T),none⟩),by simp only[execOp,A,he,H,Sem.run_bind,Fp ht ⟨b,lo*P.cellsOf _,none⟩ rfl ae ah k i h0 ac,Result.andThen_ok,Sem.run_pure],rfl,fun q' aJ aD p=>?_⟩;rw[ho]at p;cases p;grind
 ·rename_i t c heq;rw[heq]at O;obtain⟨⟨E,ho⟩,⟨n,hn,M,ac⟩,rfl⟩:=U;obtain⟨b,G,he⟩:=O.2 E ho;exact⟨.pointer _,by simp only[execOp,A,he,H,Sem.run_bind,pO hn M b c k i h0 ac,Result.andThen_ok,Sem.run_pure],rfl,fun N _=>⟨b,G,rfl⟩⟩
 ·rename_i t j m c heq;rw[heq]at O;obtain⟨ht,aK,⟨X,Q,s,ho,hm,ai,ac⟩,rfl⟩:=U;obtain⟨z,S,hn,aq⟩:=r.nest ho hm ai;have he:a.eval x=z:=by rw[<-hn];exact O.2 X Q ho
  obtain⟨b,ah,D⟩:=aq.hdr Y;rw[D]at he hn;refine⟨.pointer (some ⟨b,0+i.toNat*P.cellsOf (C P T),none⟩),by simp only[execOp,A,he,H,Sem.run_bind,Fp ht ⟨b,0,none⟩ rfl s.length ah k i h0 ac,Result.andThen_ok,Sem.run_pure],rfl,fun aJ aD p=>?_⟩;rw[ho]at p;cases p;exact⟨b,s.length,ah,hn,ab⟩
 ·exact U.elim
theorem pc{T:TypeId}(ht:Uh P T=true){I:Array Value}(hl:aw+P.cellsOf T<=I.size):
  ∃ak,(part T I aw).run P w= .ok ak w/\(Ie P T=true->ak= .agg (cut I.toList aw (P.cellsOf T)).toArray)/\(Ie P T=false->cut I.toList aw (P.cellsOf T)=[ak]):=by
 obtain⟨d,i,hd,hi,aB,m⟩:=PH ht;cases k:Ie P T with
 |true=>
  refine⟨.agg (I.extract aw (aw+P.cellsOf T)),?_,fun _=>?_,(fun hh=>by cases hh)⟩
  ·simp only[part,Sem.run_bind,Ei hd,k,Result.andThen_ok,if_true,ye hi,Sem.run_pure]
  ·congr 1;apply Array.toList_inj.1;simp[cut,Array.toList_extract]
 |false=>
  rcases m with m|m
  ·rw[k]at m;cases m
  ·rw[m]at hl⊢;have ac:aw<I.size:=Y
   refine⟨I[aw],?_,(fun hh=>by cases hh),fun _=>?_⟩
   ·simp[part,Ei hd,k,Array.getElem?_eq_getElem ac]
   ·have:cut I.toList aw 1=[I.toList[aw]'Y]:=by simp only[cut];rw[List.drop_eq_getElem_cons Y];simp
    rw[this];simp
theorem gR{T:TypeId}(ht:Uh P T=true){xs:List At}{x:Value}(O:KA (al T0 ad) h σ.ob w (.agg xs) x)(hl:aw+P.cellsOf T<=xs.length):
  ∃I:Array Value,x= .agg I/\∃ak,(part T I aw).run P w= .ok ak w/\KA (al T0 ad) h σ.ob w (bm P T (cut xs aw (P.cellsOf T))) ak:=by
 obtain⟨I,rfl,aa⟩:=O;obtain⟨ak,hr,M,Z⟩:=pc ht (I:=I) (aw:=aw) (by have:=aa.length;simp at this;omega);exact⟨I,rfl,ak,hr,it ht (aa.cut _ _) M Z⟩
theorem xc(r:av T0 B σ a w ad h){T:TypeId}{ix:Operand}{v:V}(A:o.op= .index T x ix)(U:XV P σ o.op o.type v):
  ∃ak,(execOp a.eval o).run P w= .ok (.value ak) w/\KA (al T0 ad) h σ.ob w v ak:=by
 simp only[A]at U;obtain⟨k,i,e,h0,hg,U⟩:=U;have O:=r.arg 0 x rfl hg
 have H:=Vz r e;split at U
 ·rename_i s heq;rw[heq]at O;obtain⟨ht,ac,rfl⟩:=U;have he:=EP O
  have d:i.toNat<s.size:=Y;refine⟨.int .u8 (s.data.toList.getD i.toNat 0).toNat,?_,.int _ _⟩;have af:s[i.toNat]?=some (s.data.toList.getD i.toNat 0):=by
   rw[List.getD_eq_getElem?_getD];have M:s.data.toList[i.toNat]?=some (s.data[i.toNat]'d):=by simp
   rw[M,getElem?_pos s i.toNat d];rfl
  simp[execOp,A,he,H,Instr.index,asIntOf,run_underlying (T3 ht),h0,af]
 ·rename_i xs heq;rw[heq]at O;obtain⟨⟨n,hn,ac⟩,ht,hl,rfl⟩:=U;obtain⟨f,F,hi,aB⟩:=pW hn;obtain⟨I,he,ak,hr,hv⟩:=gR ht O hl;refine⟨ak,?_,hv⟩;simp[execOp,A,he,H,Instr.index,asIntOf,run_underlying F,h0,ac,ye hi,hr]
 ·exact U.elim
theorem u8(r:av T0 B σ a w ad h){T:TypeId}{v:V}(A:o.op= .field T x f)(U:XV P σ o.op o.type v):
  ∃ak,(execOp a.eval o).run P w= .ok (.value ak) w/\KA (al T0 ad) h σ.ob w v ak:=by
 simp only[A]at U;obtain⟨hg,hf,ht,U⟩:=U;have O:=r.arg 0 x rfl hg
 split at U
 ·rename_i xs heq;rw[heq]at O;obtain⟨hl,rfl⟩:=U;obtain⟨C,c,i,F,aO,d,af,hi,W⟩:=DJ hf;obtain⟨I,he,ak,hr,hv⟩:=gR ht O hl;refine⟨ak,?_,hv⟩;rw[<-d,<-af]at hr;simp[execOp,A,he,Instr.field,run_underlying F,aO,asAgg,hr]
 ·exact U.elim
theorem gN(r:av T0 B σ a w ad h){H y:Nat}{x:Option Operand}(G:bk P σ H x n)(hy:n<=y)(W:x≠none):
  (Instr.sliceBound ((x.map a.eval).getD undef) y A).run P w= .ok n w:=by
 cases x with
 |none=>exact absurd rfl W
 |some x=>
  obtain⟨k,i,hg,O,h0,rfl⟩:=G;have he:=GO (r.arg 0 x O hg)
  have:i<=(y:Int):=Y;simp[he,Instr.sliceBound,asIntOf,h0,this]
theorem CR(r:av T0 B σ a w ad h){sl:Bool}{l hh:Nat}(D:bk P σ 0 lo l)(I:bk P σ ae hi hh)(M:l<=hh)(Z:hh<=ah):
  (Instr.sliceBounds sl ae ah (lo.map a.eval) (hi.map a.eval) none).run P w= .ok (l,hh,ah) w:=by
 unfold Instr.sliceBounds;cases hi with
 |none=>
  cases I;cases lo with
  |none=>cases D;simp
  |some x=>have:=gN r (A:=.sliceB) D M ab;simp at this;simp[this]
 |some y=>
  have G:=gN r (A:=if sl then .sliceAcap else .sliceAlen) I Z ab;simp at G;cases lo with
  |none=>cases D;simp[G]
  |some x=>have:=gN r (A:=.sliceB) D M ab;simp at this;simp_all
theorem Sr{α:Type}(Q:List (List α))(X l n:Nat)(hz:∀r∈Q,r.length=X)(k:Nat)(d:α)(hd:(cut Q l n).flatten[k]?=some d):Q.flatten[l*X+k]?=some d:=by
 induction Q generalizing l with
 |nil=>simp[cut]at hd
 |cons r Q ih=>
  have hr:=hz r ab;cases l with
  |zero=>
   simp only[cut,List.drop_zero,Nat.zero_mul,Nat.zero_add]at hd⊢;have e:(r::Q).flatten=((r::Q).take n).flatten++((r::Q).drop n).flatten:=fb
   grind
  |succ l=>have:=ih l (fun r hr=>hz r aC) (by simpa[cut]using hd);rw[List.flatten_cons,List.getElem?_append_right aC,hr];grind
theorem Rd.cut(hv:v= .slice ay ae ah)(r:Rd T w v (.sl X Q))(l hh:Nat)(M:l<=hh)(Z:hh<=Q.length)(c:0<X\/True):
  Rd T w (.slice (if ah=l then ay else ay.map (·.add (l*X))) (hh-l) (ah-l)) (.sl X (Vm.cut Q l (hh-l))):=by
 subst hv;cases r with
 |nil=>
  simp at Z;subst Z;have:l=0:=Y
  simp;exact .nil _
 |sl a ae ah X Q g hl hc hm hz U hg hr=>
  have az:(Vm.cut Q l (hh-l)).length=hh-l:=Xj _ _ _ Y;have am:∀r∈Vm.cut Q l (hh-l),r.length=X:=fun r hr=>hz r (List.mem_of_mem_drop (List.mem_of_mem_take hr));by_cases R:ah=l
  ·have h0:hh-l=0:=Y;have K:Vm.cut Q l (hh-l)=[]:=List.eq_nil_of_length_eq_zero Y;rw[if_pos R,K,h0];exact .sl a 0 _ X [] g rfl (Nat.zero_le _) Y ab ab ab ab
  ·rw[if_neg R];refine .sl (a.add _) (hh-l) _ X _ (fun k=>g _) az Y Y am (fun W=>?_) (fun k d hd=>?_) (fun k d hd=>hr _ _ (Sr Q X l _ hz k d hd))
   ·have:Q.flatten≠[]:=by
     intro he;apply W;cases z:(Vm.cut Q l (hh-l)).flatten with
     |nil=>rfl
     |cons d ds=>have:=Sr Q X l (hh-l) hz 0 d (by rw[z];rfl);grind
    have y:=U this;unfold Addr.add;split<;>simp[y]
   ·have y:=U (by
     intro he;have:=Sr Q X l (hh-l) hz k d hd
     rw[he]at this;simp at this)
    have:=hg _ _ (Sr Q X l (hh-l) hz k d hd);obtain⟨b,aw,A⟩:=a;simp at y;subst y;rw[V6];simp only[Nat.add_assoc]at this⊢;exact this
theorem mA(r:av T0 B σ a w ad h){T:TypeId}{v:V}(A:o.op= .slice T x lo hi none)(U:XV P σ o.op o.type v):
  ∃ak,(execOp a.eval o).run P w= .ok (.value ak) w/\KA (al T0 ad) h σ.ob w v ak:=by
 simp only[A]at U;obtain⟨hg,U⟩:=U;have O:=r.arg 0 x rfl hg
 split at U
 ·rename_i s heq;rw[heq]at O;obtain⟨ht,l,hh,D,I,M,Z,rfl⟩:=U;have he:=EP O
  have G:=CR r (sl:=false) D I M Z;refine⟨.string _,?_,.str _⟩;simp[execOp,A,he,Instr.sliceAt,Instr.slice,run_underlying (T3 ht),G]
 ·rename_i X Q heq;rw[heq]at O;obtain⟨ht,rfl,l,hh,D,I,M,Z,rfl⟩:=U;obtain⟨f,F,ao,aB⟩:=Qc ht;obtain⟨ay,ah,he,aS,aL⟩:=fY (O);have G:=CR r (sl:=true) (ah:=ah) D I M Y
  refine⟨_,?_,Rd.cut he O l hh M Z (.inr trivial)⟩;simp[execOp,A,he,Instr.sliceAt,Instr.slice,run_underlying F,G,ye ao]
 ·rename_i t j g ae heq;rw[heq]at O;obtain⟨ht,⟨q,Q,ho⟩,l,hh,D,I,M,Z,rfl⟩:=U;obtain⟨f,F,ao,aB⟩:=Qc ht;obtain⟨aA,az,aN,ay,ah,he,aS,aL,aG,k⟩:=O.2.1 _ _ Q ho;have G:=CR r (sl:=true) (ah:=ah) D I M Y
  refine⟨.slice (if ah=l then ay else ay.map (·.add (l*P.cellsOf (C P T)))) (hh-l) (ah-l),?_,rfl,fun q' aJ aD p=>?_,fun aJ aD p=>by rw[ho]at p;cases p⟩
  ·simp[execOp,A,he,Instr.sliceAt,Instr.slice,run_underlying F,G,ye ao]
  ·rw[ho]at p;cases p;refine⟨Y,fun S e=>?_,fun e=>?_,_,ah-l,rfl,Y,Y,fun hn=>?_,fun aK=>?_⟩
   ·have hl:l=0:=Y;subst hl;have:ae=Q.length:=Y;have hv:=az this Y;rw[<-hv,he];have h3:hh=ae:=Y;congr 1;split
    ·rfl
    ·cases ay<;>simp[Addr.add]
   ·have hl:l=0:=Y;subst hl;have hv:=aN Y;rw[he]at hv;have aq:(if ah=0 then ay else ay.map (·.add (0*P.cellsOf (C P T))))=ay:=by
     split
     ·rfl
     ·cases ay<;>simp[Addr.add]
    rw[aq];unfold ef at hv⊢;revert hv;cases(h t j).v with
    |slice b n c=>intro hv;cases hv;simp
    |_=>intro hv;cases hv
   ·have aW:ay=none:=by
     by_cases R:ah=l
     ·rw[if_pos R]at hn;exact hn
     ·rw[if_neg R]at hn;simpa using hn
    have:=aG aW;omega
   ·obtain⟨b,aE,d,am⟩:=k Y;refine⟨b,aE,d,?_⟩;rw[if_neg Y,am];simp[V6,Nat.add_mul]
 ·exact U.elim
theorem sC{α:Type}(l:List α)(k:Nat)(v:α)(vs:List α)(hk:k+(vs.length+1)<=l.length):place (l.set k v) (k+1) vs=place l k (v::vs):=by
 unfold place;have M:(l.set k v).take (k+1)=l.take k++[v]:=by rw[List.take_set,List.take_succ_eq_append_getElem Y];rw[List.set_append_right _ _ aC];simp[Nat.min_eq_left (show k<=l.length by omega)]
 have Z:(l.set k v).drop (k+1+vs.length)=l.drop (k+(vs.length+1)):=by rw[List.drop_set_of_lt Y];congr 1;omega
 grind
theorem vn(aw:Nat):∀(vs:List Value)(j:Nat)(I:Array Value),aw+j+vs.length<=I.size->
  ((vs.zipIdx j).foldl (fun I x=>I.setIfInBounds (aw+x.2) x.1) I).toList=place I.toList (aw+j) vs
 |[],j,I,_=>by simp[place]
 |v::vs,j,I,hl=>by rw[List.zipIdx_cons,List.foldl_cons,vn aw vs _ _ aC];rw[Array.toList_setIfInBounds,show aw+(j+1)=aw+j+1 by omega,sC _ _ _ _ Y]
theorem GJ(aw:Nat)(vs I:Array Value)(hl:aw+vs.size<=I.size):
  (vs.zipIdx.foldl (fun I x=>I.setIfInBounds (aw+x.2) x.1) I).toList=place I.toList aw vs.toList:=by
 rw[<-Array.foldl_toList,Array.toList_zipIdx,vn aw vs.toList 0 I Y];rfl
theorem Qb{α:Type}(r:List α)(aw:Nat)(xs:List α)(hl:aw+xs.length<=r.length):(place r aw xs).length=r.length:=by simp[place];omega
theorem Yd.place{α β:Type}{R:α->β->Prop}{l:List α}{m:List β}(x:Yd R l m)(aw:Nat){a:List α}{b:List β}(y:Yd R a b):Yd R (Vm.place l aw a) (Vm.place m aw b):=by unfold Vm.place;rw[y.length];exact((x.take _).append y).append (x.drop _)
theorem OH{ai:Nat->Nat->Ob}{x:V}(hf:x.flat=true)(hv:KA T' h ai w x v):Yd (Yk T' h ai w) x.cells v.cells.toList:=by
 cases x with
 |one c=>
  have M:=Yk.Qo (hv);have:v.cells=#[v]:=by cases v<;>first|rfl|(simp[Value.oneCell']at M)
  rw[this];exact .cons hv .nil
 |agg xs=>obtain⟨I,rfl,aa⟩:=hv;exact aa
 |any=>cases hf
 |O xs=>cases hf
 |E g x=>cases hf
 |fix u x=>cases hf
theorem pv(r:av T0 B σ a w ad h)(T:TypeId)(b:Nat->Option (Nat×Nat))(s:∀i,a6 P T i=true->b i=some (TZ P T i,P.cellsOf (aT P T i))):
  ∀(R:List (Nat×Operand))(L d:List At)(E:Array Value),Yd (Yk (al T0 ad) h σ.ob w) L E.toList->Ig P σ T R L d->
   ∃N,Instr.fill b E (R.map fun x=>(x.1,a.eval x.2))=some N/\Yd (Yk (al T0 ad) h σ.ob w) d N.toList
 |[],L,d,E,aa,G=>by cases G;exact⟨E,rfl,aa⟩
 |(i,x)::R,L,d,E,aa,G=>by
  obtain⟨ao,hg,hf,az,aA,G⟩:=G;have O:=OH hf (r.arg _ x rfl hg)
  have aD:=O.length;have e:=aa.length;have H:E.toList.length=E.size:=Array.length_toList;have e2:(a.eval x).cells.toList.length=(a.eval x).cells.size:=Array.length_toList;have c:=aa.place (TZ P T i) O;have heq:=GJ (TZ P T i) (a.eval x).cells E Y;rw[<-heq]at c;obtain⟨N,M,Z⟩:=pv r T b s R _ d _ c G;refine⟨N,?_,Z⟩;have aB:(a.eval x).cells.size=P.cellsOf (aT P T i):=Y;simp only[List.map_cons,Instr.fill,s i ao];rw[if_neg aC];exact M
theorem run_places(C:List Field)(H:∀f∈C,(P.info? f.type).isSome=true)(w:World):
  (C.mapM (m:=Sem) fun f=>do pure (f.offset,<-sizeOf f.type)).run P w= .ok (C.map fun f=>(f.offset,P.cellsOf f.type)) w:=by
 induction C with
 |nil=>simp
 |cons f C ih=>obtain⟨i,hi⟩:=Option.isSome_iff_exists.1 (H f ab);simp only[List.mapM_cons,Sem.run_bind,ye hi,Result.andThen_ok,Sem.run_pure,ih (fun f hf=>H f aC),List.map_cons]
theorem z2(r:av T0 B σ a w ad h){T:TypeId}{v:V}(A:o.op= .build T parts)(U:XV P σ o.op o.type v):
  ∃ak,(execOp a.eval o).run P w= .ok (.value ak) w/\KA (al T0 ad) h σ.ob w v ak:=by
 simp only[A]at U;obtain⟨hz,k,z,d,D,G,rfl⟩:=U;obtain⟨i,c,hi,j,aB,a1⟩:=pU hz D;have y:(zeroValue T).run P w= .ok c w:=by simp[zeroValue,typeInfo,hi,j]
 have q:(parts.map fun(x:Nat×Operand)=>(x.1,a.eval x.2)).toList=parts.toList.map fun x=>(x.1,a.eval x.2):=ab;unfold Ie at k;split at k
 ·rename_i C F;by_cases an:∀f∈C.toList,(P.info? f.type).isSome=true
  ·have s:∀i,a6 P T i=true->(C.toList.map fun f=>(f.offset,P.cellsOf f.type)).toArray[i]?=some (TZ P T i,P.cellsOf (aT P T i)):=by
    intro i ao;simp only[a6,F,Bool.and_eq_true,decide_eq_true_eq]at ao;have ac:=ao.2
    simp[TZ,aT,F,KU,Uz,ac]
   obtain⟨N,M,Z⟩:=pv r T _ s parts.toList z d c.cells (a1 _ _ _ _) G;refine⟨.agg N,?_,N,rfl,Z⟩;have hm:=run_places C.toList an w
   have:(C.mapM (m:=Sem) fun f=>do pure (f.offset,<-sizeOf f.type)).run P w= .ok (C.toList.map fun f=>(f.offset,P.cellsOf f.type)).toArray w:=by rw[Array.mapM_eq_mapM_toList];change((C.toList.mapM (m:=Sem) fun f=>do pure (f.offset,<-sizeOf f.type))>>=fun l=>pure l.toArray).run P w=_;simp_all
   simp only[execOp,A,Instr.build,Sem.run_bind,y,Result.andThen_ok,run_underlying F,this,q,M,Sem.run_pure]
  · -- no part can be placed:then there are none
   have K:parts.toList=[]:=by
    cases hp:parts.toList with
    |nil=>rfl
    |cons p R=>
     rw[hp]at G;have ao:=G.1
     simp only[a6,F,Bool.and_eq_true]at ao;exact absurd (by intro f hf;exact Array.all_eq_true'.1 ao.1 f aC) an
   exfalso;rw[P8,F]at D;simp at D;obtain⟨rs,E,_⟩:=D;apply an;intro f hf;have:∀(l:List Field)(rs:List _),l.mapM (fun f=>P8 P 11 f.type)=some rs->∀f∈l,(P.info? f.type).isSome=true:=by
    intro l;induction l with
    |nil=>intro rs _ f hf;cases hf
    |cons g l ih=>
     intro rs E f hf;simp only[List.mapM_cons,Option.bind_eq_bind,Option.bind_eq_some_iff]at E;obtain⟨r0,ap,b,I,_⟩:=E;rcases List.mem_cons.1 hf with rfl|hf
     ·rw[P8]at ap;cases t:P.info? f.type with
      |some i=>rfl
      |none=>simp[Program.underlying,t]at ap
     ·exact ih b I f hf
   grind
 ·rename_i n e F;cases H:P.info? e with
  |none=>exfalso;rw[P8,F]at D;simp at D;obtain⟨r0,ap,_⟩:=D;rw[P8]at ap;simp[Program.underlying,H]at ap
  |some u=>
   have s:∀i,a6 P T i=true->(fun i=>some (i*P.cellsOf e,P.cellsOf e)) i=some (TZ P T i,P.cellsOf (aT P T i)):=by intro i _;simp[TZ,aT,F]
   obtain⟨N,M,Z⟩:=pv r T _ s parts.toList z d c.cells (a1 _ _ _ _) G;refine⟨.agg N,?_,N,rfl,Z⟩;simp only[execOp,A,Instr.build,Sem.run_bind,y,Result.andThen_ok,run_underlying F,ye H,q,M,Sem.run_pure]
 ·cases k
theorem NW{t:TypeId}(ht:Ew P t=true){I:Array Value}(hv:I[i]?=some v):(part t I i).run P w= .ok v w:=by unfold Ew at ht;split at ht<;>first|(rename_i F;simp[part,isAgg,run_underlying F,hv])|cases ht
theorem hm{t:TypeId}{ai:Nat->Nat->Ob}{x y:At}(hp:dJ P t x y=some p)(O:Yk T' h ai w x u)(hy:Yk T' h ai w y v)(d:Nat)(w':World):
  (Op.equalIn (d+1) t u v).run P w'= .ok p w':=by
 unfold dJ at hp;split at hp
 ·rename_i k a' k' b';split at hp
  ·rename_i hc;obtain⟨rfl,hi⟩:=hc;obtain⟨k2,a⟩:=Option.isSome_iff_exists.1 hi;cases hp;rw[GO O,GO hy];exact Go.run_equalIn_int w' d t _ _ _ _ (rA a)
  ·cases hp
 ·split at hp
  ·rename_i hc;cases hp;rw[RH O,RH hy];have F:P.underlying t=some .bool:=by unfold vf at hc;split at hc<;>first|assumption|cases hc
   exact Go.run_equalIn_bool' w' d t _ _ F
  ·cases hp
 ·split at hp
  ·rename_i hc;cases hp;rw[EP O,EP hy];rw[Go.run_equalIn_string w' d t _ _ (T3 hc),fp]
  ·cases hp
 ·cases hp
theorem AY{T':CS}{ai:Nat->Nat->Ob}(d:Nat)(I ds:Array Value)(w':World):∀(C:List Field)(i:Nat)(xs ys:List At)(q:Bool),MC P C i=true->J4 P (C.map (·.type)) xs ys=some q->
  Yd (Yk T' h ai w) xs (I.toList.drop i)->Yd (Yk T' h ai w) ys (ds.toList.drop i)->(Op.eqFields (d+1) I ds C).run P w'= .ok q w'
 |[],i,xs,ys,q,_,hq,_,_=>by simp[J4]at hq;subst hq;simp[Op.eqFields]
 |f::C,i,[],ys,q,_,hq,_,_=>by simp[J4]at hq
 |f::C,i,x::xs,[],q,_,hq,_,_=>by simp[J4]at hq
 |f::C,i,x::xs,y::ys,q,ao,hq,O,hy=>by
  simp only[MC,Bool.and_eq_true,decide_eq_true_eq,beq_iff_eq]at ao;obtain⟨⟨⟨hn,ho⟩,N⟩,ao⟩:=ao;simp only[List.map_cons,J4]at hq;split at hq
  ·rename_i p q' hp aL;cases hq;cases b:I.toList.drop i with
   |nil=>rw[b]at O;cases O
   |cons u a=>
    cases R:ds.toList.drop i with
    |nil=>rw[R]at hy;cases hy
    |cons v vs=>
     rw[b]at O;rw[R]at hy;cases O with
     |cons e O=>
      cases hy with
      |cons g hy=>
       have F:I[i]?=some u:=by
        have:(I.toList.drop i)[0]?=some u:=by rw[b];rfl
        simpa using this
       have hv:ds[i]?=some v:=by
        have:(ds.toList.drop i)[0]?=some v:=by rw[R];rfl
        simpa using this
       have c:I.toList.drop (i+1)=a:=by rw[<-List.drop_drop,b];rfl
       have m:ds.toList.drop (i+1)=vs:=by rw[<-List.drop_drop,R];rfl
       have ih:=AY d I ds w' C _ xs ys q' ao aL (by rw[c];exact O) aC;subst ho;simp only[Op.eqFields,if_pos hn,Sem.run_bind,NW N F,NW N hv,Result.andThen_ok,hm hp e g d w'];cases p
       ·simp
       ·simpa using ih
  ·cases hq
theorem D0(P:Program):∀(ts:List TypeId)(xs ys:List At)(q:Bool),J4 P ts xs ys=some q->ts.length<=xs.length/\ts.length<=ys.length
 |[],_,_,_,_=>⟨Nat.zero_le _,Nat.zero_le _⟩
 |t::ts,[],_,_,h=>by simp[J4]at h
 |t::ts,x::xs,[],_,h=>by simp[J4]at h
 |t::ts,x::xs,y::ys,q,h=>by
  simp only[J4]at h;split at h
  ·rename_i p q' hp aL;have:=D0 P ts xs ys q' aL
   grind
  ·cases h
theorem vW(P:Program):∀(ts:List TypeId)(xs ys:List At)(m:Nat),ts.length<=m->J4 P ts (xs.take m) (ys.take m)=J4 P ts xs ys
 |[],_,_,_,_=>by simp[J4]
 |t::ts,_,_,0,h=>cb
 |t::ts,[],_,m+1,_=>by simp[J4]
 |t::ts,x::xs,[],m+1,_=>by simp[J4]
 |t::ts,x::xs,y::ys,m+1,h=>by simp only[List.take_succ_cons,J4];rw[vW P ts xs ys m aC]
theorem rZ(P:Program):∀(ts a:List TypeId)(xs ys:List At)(q:Bool),J4 P (ts++a) xs ys=some q->∃p q',J4 P ts xs ys=some p/\J4 P a (xs.drop ts.length) (ys.drop ts.length)=some q'/\q=(p&&q')
 |[],a,xs,ys,q,h=>⟨true,q,by simp[J4],by simpa using h,ab⟩
 |t::ts,a,[],_,_,h=>by simp[J4]at h
 |t::ts,a,x::xs,[],_,h=>by simp[J4]at h
 |t::ts,a,x::xs,y::ys,q,h=>by
  simp only[List.cons_append,J4]at h;split at h
  ·rename_i p q0 hp b;obtain⟨p2,q2,M,Z,h3⟩:=rZ P ts a xs ys q0 b;cases h;exact⟨p&&p2,q2,by simp only[J4,hp,M],by simpa using Z,by rw[h3,Bool.and_assoc]⟩
  ·cases h
theorem CG{T':CS}{ai:Nat->Nat->Ob}(d:Nat)(I ds:Array Value)(w':World):∀(C:List Field)(i:Nat)(xs ys:List At)(q:Bool),Hb P C i=true->J4 P (C.flatMap (lP P)) xs ys=some q->
  Yd (Yk T' h ai w) xs (I.toList.drop i)->Yd (Yk T' h ai w) ys (ds.toList.drop i)->(Op.eqFields (d+2) I ds C).run P w'= .ok q w'
 |[],i,xs,ys,q,_,hq,_,_=>by simp[J4]at hq;subst hq;simp[Op.eqFields]
 |f::C,i,xs,ys,q,ao,hq,O,hy=>by
  simp only[Hb,Bool.and_eq_true,decide_eq_true_eq,beq_iff_eq]at ao;obtain⟨⟨hn,ho⟩,ao⟩:=ao;subst ho;obtain⟨p,q',hp,aL,rfl⟩:=rZ P _ _ _ _ _ hq;cases N:Ew P f.type with
  |true=>
   rw[N]at ao;have hl:lP P f=[f.type]:=by unfold lP;rw[N,if_pos rfl]
   rw[hl]at hp aL;have aX:=AY (d+1) I ds w' [f] f.offset xs ys p (by simp only[MC,Bool.and_eq_true,decide_eq_true_eq,beq_iff_eq];exact⟨⟨⟨hn,trivial⟩,N⟩,trivial⟩) hp O hy
   have ih:=CG d I ds w' C _ _ _ q' ao aL (by rw[<-List.drop_drop];exact O.drop 1) (by rw[<-List.drop_drop];exact hy.drop 1);simp only[Op.eqFields,if_pos hn]at aX⊢;have az:=D0 P _ _ _ _ hp;have aI:=O.length;have V:=hy.length;simp at az aI V;have F:I[f.offset]?=some (I[f.offset]'Y):=Array.getElem?_eq_getElem _;have hv:ds[f.offset]?=some (ds[f.offset]'Y):=Array.getElem?_eq_getElem _;simp only[Sem.run_bind,NW N F,NW N hv,Result.andThen_ok]at aX⊢;cases xs with
   |nil=>simp at az
   |cons x xs=>
    cases ys with
    |nil=>simp at az
    |cons y ys=>
     obtain⟨u,s,e⟩:=O.get 0 x rfl;obtain⟨v,aB,g⟩:=hy.get 0 y rfl;simp only[J4]at hp;split at hp
     ·rename_i l q0 r b;cases b;cases hp;have H:I[f.offset]'Y=u:=by
       have:I[f.offset]?=some u:=by simpa using s
       grind
      have e2:ds[f.offset]'Y=v:=by
       have:ds[f.offset]?=some v:=by simpa using aB
       grind
      rw[H,e2,hm r e g _ w'];cases l
      ·simp
      ·simpa using ih
     ·cases hp
  |false=>
   rw[N,if_neg ab]at ao;cases F:P.underlying f.type with
   |none=>rw[F]at ao;cases ao
   |some t=>
    rw[F]at ao;cases t with
    |struct a=>
     simp at ao;obtain⟨⟨⟨⟨⟨⟨af,k⟩,R⟩,Q⟩,ar⟩,n⟩,ao⟩:=ao;have hl:lP P f=a.toList.map (·.type):=by unfold lP;rw[N,if_neg ab,F]
     rw[hl]at hp aL;rw[List.length_map]at aL;have hf:P.fieldsOf f.type=a:=by simp[Program.fieldsOf,F]
     have az:=D0 P _ _ _ _ hp;have aI:=O.length;have V:=hy.length;simp at az aI V;have ih:=CG d I ds w' C _ _ _ q' ao aL (by rw[<-List.drop_drop];exact O.drop a.size) (by rw[<-List.drop_drop];exact hy.drop a.size);obtain⟨z,j,c,_⟩:=pc (w:=w') af (I:=I) (aw:=f.offset) Y;obtain⟨o,m,ag,_⟩:=pc (w:=w') af (I:=ds) (aw:=f.offset) Y;rw[R]at c ag;have au:(Op.equalIn (d+2) f.type z o).run P w'= .ok p w':=by
      rw[c k,ag k,Go.run_equalIn_struct w' _ f.type _ _ aC ar,hf];refine AY (h:=h) (w:=w) (T':=T') (ai:=ai) d _ _ w' a.toList 0 (xs.take a.size) (ys.take a.size) p n ?_ ?_ ?_
      ·rw[vW P _ _ _ _ ab];exact hp
      ·simpa[cut]using O.take a.size
      ·simpa[cut]using hy.take a.size
     simp only[Op.eqFields,if_pos hn,Sem.run_bind,j,m,Result.andThen_ok,au];cases p
     ·simp
     ·simpa using ih
    |_=>cases ao
theorem tp{T:TypeId}{ai:Nat->Nat->Ob}{xs ys:List At}(ao:E0 P T=true)(hq:J4 P (jW P T) xs ys=some q)
  (O:KA T' h ai w (.agg xs) u) (hy:KA T' h ai w (.agg ys) v) (op:BinOp) (x y:Operand) (w':World):
  (eqGuard op T x y u v).run P w'= .ok () w'/\(binOp .eql T u v).run P w'= .ok (.bool q) w'/\(binOp .neq T u v).run P w'= .ok (.bool (!q)) w':=by
 obtain⟨I,rfl,aM⟩:=O;obtain⟨ds,rfl,z⟩:=hy;unfold E0 at ao;split at ao
 ·rename_i C F;simp at ao;have hf:P.fieldsOf T=C:=by simp[Program.fieldsOf,F]
  have aH:P.underlying T=some (.struct (P.fieldsOf T)):=by rw[hf];exact F
  have aE:(Op.equalIn 10000 T (.agg I) (.agg ds)).run P w'= .ok q w':=by rw[Go.run_equalIn_struct w' 9999 T I ds aH ao.1.1];exact CG 9997 I ds w' _ 0 xs ys q aC hq (by simpa using aM) aC
  refine⟨Go.run_eqGuard_agg w' op T x y I ds ao.1.2,?_,?_⟩
  ·rw[Go.run_eql_struct,aE];rfl
  ·rw[Go.run_neq_struct,aE];rfl
 ·cases ao
theorem rN(r:av T0 B σ a w ad h){v:V}(A:o.op= .move x\/o.op= .assign x)(U:XV P σ o.op o.type v):
  ∃ak,(execOp a.eval o).run P w= .ok (.value ak) w/\KA (al T0 ad) h σ.ob w v ak:=by
 rcases A with A|A<;>
 ·simp only[A]at U;subst U;exact⟨a.eval x,by simp[execOp,A],r.look _ x⟩
theorem mM(r:av T0 B σ a w ad h){c:Operand}{v:V}(A:o.op= .pick c x y)(U:XV P σ o.op o.type v):
  ∃ak,(execOp a.eval o).run P w= .ok (.value ak) w/\KA (al T0 ad) h σ.ob w v ak:=by
 simp only[A]at U;obtain⟨g,p,q,hg,hc,hp,hq,Q,b,rfl⟩:=U;have he:=RH (r.arg o.type c hc hg)
 cases g with
 |true=>have O:=RH (r.arg o.type x (hp rfl) (Q rfl));exact⟨.bool p,by simp[execOp,A,he,asBool,O],.bool _⟩
 |false=>have hy:=RH (r.arg o.type y (hq rfl) (b rfl));exact⟨.bool q,by simp[execOp,A,he,asBool,hy],.bool _⟩
theorem Ri(op:BinOp)(T:TypeId)(x y:Operand)(hv:∀I,v≠ .agg I)(hn:v≠ .nilIface):(eqGuard op T x y v u).run P w= .ok () w:=by unfold eqGuard;cases op<;>simp<;>(split<;>first|exact absurd rfl hn|exact absurd rfl (hv _)|simp)
theorem l5(r:av T0 B σ a w ad h){T T':TypeId}{v:V}(A:o.op= .binOp op T x y T')(U:XV P σ o.op o.type v):
  ∃ak,(execOp a.eval o).run P w= .ok (.value ak) w/\KA (al T0 ad) h σ.ob w v ak:=by
 simp only[A]at U;obtain⟨aU,aV,U⟩:=U;have O:=r.arg T x rfl aU
 have hy:=r.arg T y rfl aV;unfold eN at U;split at U
 ·rename_i k m k' n heq g;rw[heq]at O;rw[g]at hy;have D:=GO O
  have b:=GO hy;obtain⟨d,rfl,ak,hr,hd⟩:=ps (P:=P) (t:=T) U.1 U.2 w;refine⟨ak,?_,hd _ _⟩;simp only[execOp,A,D,b,Sem.run_bind,Ri op T x y (v:=.int k m) ab ab,Result.andThen_ok,hr,Sem.run_pure]
 ·rename_i m n heq g;rw[heq]at O;rw[g]at hy;have D:=EP O
  have b:=EP hy;obtain⟨d,rfl,ak,hr,hd⟩:=nd (P:=P) (t:=T) U w;refine⟨ak,?_,hd _ _⟩;simp only[execOp,A,D,b,Sem.run_bind,Ri op T x y (v:=.string m) ab ab,Result.andThen_ok,hr,Sem.run_pure]
 ·rename_i m n heq g;rw[heq]at O;rw[g]at hy;have D:=RH O
  have b:=RH hy;obtain⟨d,rfl,ak,hr,hd⟩:=p6 U.1 U.2 w;refine⟨ak,?_,hd _ _⟩;simp only[execOp,A,D,b,Sem.run_bind,Ri op T x y (v:=.bool m) ab ab,Result.andThen_ok,hr,Sem.run_pure]
 ·rename_i xs ys heq g;rw[heq]at O;rw[g]at hy;obtain⟨ao,q,hq,U⟩:=U;obtain⟨M,Z,h3⟩:=tp ao hq O hy op x y w;rcases U with⟨rfl,rfl⟩|⟨rfl,rfl⟩
  ·exact⟨.bool q,by simp only[execOp,A,Sem.run_bind,M,Result.andThen_ok,Z,Sem.run_pure],.bool _⟩
  ·exact⟨.bool (!q),by simp only[execOp,A,Sem.run_bind,M,Result.andThen_ok,h3,Sem.run_pure],.bool _⟩
 ·exact U.elim
theorem uU(r:av T0 B σ a w ad h){op:UnOp}{T:TypeId}{v:V}(A:o.op= .unOp op T x)(U:XV P σ o.op o.type v):
  ∃ak,(execOp a.eval o).run P w= .ok (.value ak) w/\KA (al T0 ad) h σ.ob w v ak:=by
 simp only[A]at U;obtain⟨hg,U⟩:=U;have O:=r.arg 0 x rfl hg
 split at U
 ·rename_i b heq;rw[heq]at O;subst U;have he:=RH O
  exact⟨.bool (!b),by simp[execOp,A,he,Op.unary],.bool _⟩
 ·rename_i k n heq;rw[heq]at O;subst U;have he:=GO O
  exact⟨.int k _,by simp[execOp,A,he,Op.unary,Op.intArith],.int _ _⟩
 ·exact U.elim
theorem WF(r:av T0 B σ a w ad h){S T:TypeId}{v:V}(A:o.op= .convert S T x)(y:(P.underlying S).isSome=true)(U:XV P σ o.op o.type v):
  ∃ak,(execOp a.eval o).run P w= .ok (.value ak) w/\KA (al T0 ad) h σ.ob w v ak:=by
 simp only[A]at U;obtain⟨hg,_,U⟩:=U;have O:=r.arg 0 x rfl hg
 split at U
 ·rename_i k' n heq;rw[heq]at O;obtain⟨k,hk,rfl⟩:=U;have he:=GO O
  obtain⟨d,hd⟩:=Option.isSome_iff_exists.1 y;exact⟨.int k _,by simp[execOp,A,he,convert,run_underlying hd,run_underlying (rA hk),Conv.intToInt],.int _ _⟩
 ·exact U.elim
theorem sI(r:av T0 B σ a w ad h){v:V}(A:o.op= .extract x i)(U:XV P σ o.op o.type v):
  ∃ak,(execOp a.eval o).run P w= .ok (.value ak) w/\KA (al T0 ad) h σ.ob w v ak:=by
 simp only[A]at U;obtain⟨hg,U⟩:=U;have O:=r.arg 0 x rfl hg
 split at U
 ·rename_i xs heq;rw[heq]at O;obtain⟨vs,he,aa⟩:=O;obtain⟨ak,d,hr⟩:=aa.get i v U.1;have:vs[i]?=some ak:=by simpa using d
  exact⟨ak,by simp[execOp,A,he,Instr.extract,this],hr.up⟩
 ·exact U.elim
theorem wn(r:av T0 B σ a w ad h){v:V}(A:o.op= .call c)(U:XV P σ o.op o.type v):
  ∃ak,(execOp a.eval o).run P w= .ok (.value ak) w/\KA (al T0 ad) h σ.ob w v ak:=by
 simp only[A,XV]at U;obtain⟨p,aA,E⟩:=c;simp only at U;split at U
 ·rename_i x t ha ht;obtain rfl:aA=#[x]:=ft;obtain rfl:E=#[t]:=by apply Array.toList_inj.1;simpa using ht
  obtain⟨hg,U⟩:=U;have O:=r.arg t x rfl hg
  split at U
  ·rename_i s heq;rw[heq]at O;obtain⟨ar,rfl⟩:=U;have he:=EP O
   exact⟨.int .i64 s.size,by simp[execOp,A,resolve,invoke,builtin,he,Builtin.len_,run_underlying (T3 ar),goInt],.int _ _⟩
  ·rename_i X Q heq;rw[heq]at O;obtain⟨ar,rfl⟩:=U;obtain⟨f,F,_,_⟩:=Qc ar;obtain⟨ay,ah,he,_,_⟩:=fY (O);exact⟨.int .i64 Q.length,by simp[execOp,A,resolve,invoke,builtin,he,Builtin.len_,run_underlying F,goInt],.int _ _⟩
  ·rename_i X heq;rw[heq]at O;obtain⟨ar,rfl⟩:=U;obtain⟨f,F,_,_⟩:=Qc ar;have he:a.eval x= .slice none 0 0:=O
   exact⟨.int .i64 0,by simp[execOp,A,resolve,invoke,builtin,he,Builtin.len_,run_underlying F,goInt],.int _ _⟩
  ·rename_i u j lo ae heq;rw[heq]at O;obtain⟨ar,ho,rfl⟩:=U;obtain⟨f,F,_,_⟩:=Qc ar;have d:∃ay ah,a.eval x= .slice ay ae ah:=by
    rcases ho with⟨q,X,Q,ho⟩|⟨X,Q,ho⟩
    ·obtain⟨_,_,_,ay,ah,he,_,_,_,_⟩:=O.2.1 _ _ _ ho;grind
    ·obtain⟨_,_,_,ay,ah,he,_,_,_,_⟩:=O.2.2 _ _ ho;grind
   obtain⟨ay,ah,he⟩:=d;exact⟨.int .i64 ae,by simp[execOp,A,resolve,invoke,builtin,he,Builtin.len_,run_underlying F,goInt],.int _ _⟩
  ·rename_i u j i c heq;rw[heq]at O;obtain⟨ar,X,Q,n,s,ho,hi,ai,rfl⟩:=U;obtain⟨f,F,_,_⟩:=Qc ar;obtain⟨z,S,hn,aq⟩:=r.nest ho hi ai;have C:=O.2 _ _ ho
   rw[hn]at C;have he:∃ay ah,a.eval x= .slice ay s.length ah:=by
    rw[C];cases aq with
    |sl v X Q S e xs l ac hz G hl hk U hd=>
     rcases ac.2 with⟨rfl,h0⟩|⟨g,ah,ax,rfl,_⟩
     ·exact⟨none,0,by rw[h0]⟩
     ·exact⟨_,ah,rfl⟩
   obtain⟨ay,ah,he⟩:=he;exact⟨.int .i64 s.length,by simp[execOp,A,resolve,invoke,builtin,he,Builtin.len_,run_underlying F,goInt],.int _ _⟩
  ·exact U.elim
 ·rename_i x y ha;obtain rfl:aA=#[x,y]:=ft;obtain⟨k,m,n,O,hy,rfl⟩:=U;have D:=Vz r O
  have b:=Vz r hy;exact⟨.int k _,by simp[execOp,A,resolve,invoke,builtin,D,b,Builtin.max_,Builtin.max2],.int _ _⟩
 ·rename_i x y ha;obtain rfl:aA=#[x,y]:=ft;obtain⟨k,m,n,O,hy,rfl⟩:=U;have D:=Vz r O
  have b:=Vz r hy;exact⟨.int k _,by simp[execOp,A,resolve,invoke,builtin,D,b,Builtin.min_,Builtin.min2],.int _ _⟩
 ·exact U.elim
theorem vO(r:av T0 B σ a w ad h){v:V}(U:XV P σ o.op o.type v):
  ∃ak,(execOp a.eval o).run P w= .ok (.value ak) w/\KA (al T0 ad) h σ.ob w v ak:=by
 cases A:o.op with
 |move x=>exact rN r (.inl A) U
 |assign x=>exact rN r (.inr A) U
 |pick c x y=>exact mM r A U
 |load T x=>exact o3 r A U
 |fieldAddr T x f=>exact um r A U
 |nilCheck x=>exact oF r A U
 |indexAddr T x i=>exact vM r A U
 |index T x i=>exact xc r A U
 |field T x f=>exact u8 r A U
 |slice T x lo hi m=>
  cases m with
  |none=>exact mA r A U
  |some m=>rw[A]at U;exact U.elim
 |binOp op T x y T'=>exact l5 r A U
 |unOp op T x=>exact uU r A U
 |convert S T x=>rw[A]at U;exact WF r A U.2.1 aC
 |extract x i=>exact sI r A U
 |call c=>exact wn r A U
 |build T R=>exact z2 r A U
 |_=>rw[A]at U;exact U.elim
def At.ref(d:Nat):At->Bool
 |.E t _ _ _=>t==d
 |.ptr t _ _ _=>t==d
 |.O t _=>t==d
 |.fn _ t=>t==d
 |.Z t _ _ _ _=>t==d
 |_=>false
def U(d:Nat):List At->Bool
 |[]=>false
 |x::xs=>x.ref d||U d xs
def V.BK(d:Nat):V->Bool
 |.one x=>x.ref d
 |.agg xs=>U d xs
 |_=>false
def HH(d:Nat):List V->Bool
 |[]=>false
 |x::xs=>x.BK d||HH d xs
def V.ref(d:Nat):V->Bool
 |.O xs=>HH d xs
 |.E _ x=>x.BK d||(match x with|.O xs=>HH d xs|_=>false)
 |.one x=>x.ref d
 |.agg xs=>U d xs
 |.fix _ x=>x.BK d||(match x with|.O xs=>HH d xs|_=>false)
 |.any=>false
def Xi(d:Nat):List Ob->Bool
 |[]=>false
 |.box E::aa=>U d E||Xi d aa
 |.lit _ Q::aa=>U d Q.flatten||Xi d aa
 |_::aa=>Xi d aa
def jt(d:Nat):Nat->J->Bool
 |_,[]=>true
 |k,e::σ=>(k==d||(!e.1.ref d&&!Xi d e.2))&&jt d (k+1) σ
def J.fresh(σ:J)(d:Nat):Bool:=decide (d<σ.length)&&jt d 0 σ
theorem VD{d:Nat}:∀{σ:J}{k:Nat},jt d k σ=true->∀t e,σ[t]?=some e->k+t≠d->e.1.ref d=false/\Xi d e.2=false
 |[],_,_,t,e,he,_=>by simp at he
 |e0::σ,k,hf,t,e,he,W=>by
  simp only[jt,Bool.and_eq_true,Bool.or_eq_true,beq_iff_eq,Bool.not_eq_true']at hf;cases t with
  |zero=>
   simp at he;subst he;rcases hf.1 with h|h
   ·omega
   ·exact h
  |succ t=>exact VD hf.2 t e aC Y
theorem J.ZAV(hf:σ.fresh d=true)(t:Nat)(W:t≠d):(σ.get t).ref d=false:=by
 simp only[J.fresh,Bool.and_eq_true]at hf;unfold J.get;cases he:σ[t]? with
 |none=>rfl
 |some e=>exact(VD hf.2 t e he Y).1
theorem mY{d:Nat}:∀{aa:List Ob},Xi d aa=false->∀j E,Y6 aa j= .box E->U d E=false
 |[],_,j,E,h=>by simp[Y6]at h
 |o::aa,hr,j,E,h=>by
  cases j with
  |zero=>simp[Y6]at h;subst h;simp[Xi]at hr;exact hr.1
  |succ j=>have:Y6 aa j= .box E:=dl;refine mY ?_ j E this;cases o<;>simp_all[Xi]
theorem rF{d:Nat}:∀{aa:List Ob},Xi d aa=false->∀j X Q,Y6 aa j= .lit X Q->U d Q.flatten=false
 |[],_,j,_,_,h=>by simp[Y6]at h
 |o::aa,hr,j,X,Q,h=>by
  cases j with
  |zero=>simp[Y6]at h;subst h;simp[Xi]at hr;exact hr.1
  |succ j=>have:Y6 aa j= .lit X Q:=dl;refine rF ?_ j X Q this;cases o<;>simp_all[Xi]
theorem J.af(hf:σ.fresh d=true)(t j:Nat)(W:t≠d)(X:Nat)(Q:List (List At))(ho:σ.ob t j= .lit X Q):U d Q.flatten=false:=by
 simp only[J.fresh,Bool.and_eq_true]at hf;unfold J.ob at ho;cases he:σ[t]? with
 |none=>rw[he]at ho;cases ho
 |some e=>rw[he]at ho;exact rF (VD hf.2 t e he Y).2 j X Q ho
theorem J.ZBR(hf:σ.fresh d=true)(t j:Nat)(W:t≠d)(E:List At)(ho:σ.ob t j= .box E):U d E=false:=by
 simp only[J.fresh,Bool.and_eq_true]at hf;unfold J.ob at ho;cases he:σ[t]? with
 |none=>rw[he]at ho;cases ho
 |some e=>rw[he]at ho;exact mY (VD hf.2 t e he Y).2 j E ho
theorem J.Vo(hf:σ.fresh d=true):d<σ.length:=by simp only[J.fresh,Bool.and_eq_true,decide_eq_true_eq]at hf;exact hf.1
def bz(h h':Nat->Nat->Hd)(ai F:Nat->Nat->Ob)(t j:Nat):Prop:=
 (∀q X Q,F t j= .arr q X Q->h' t j=h t j/\∃aL,ai t j= .arr q X aL/\aL.length=Q.length)/\
 (∀X Q,F t j= .lit X Q->h' t j=h t j/\∃aL,ai t j= .lit X aL/\aL.length=Q.length)/\
 (∀E,F t j= .box E->h' t j=h t j/\∃K,ai t j= .box K)
theorem bz.same{ai:Nat->Nat->Ob}(hh:h' t j=h t j)(ho:F t j=ai t j):bz h h' ai F t j:=
 ⟨fun q X Q e=>⟨hh,Q,by rw[<-ho];exact e,rfl⟩,fun X Q e=>⟨hh,Q,by rw[<-ho];exact e,rfl⟩,fun E e=>⟨hh,E,by rw[<-ho];exact e⟩⟩
section
variable{ai:Nat->Nat->Ob}
theorem Yk.carry(hT:∀b k v,T b k->w.cell? ⟨b,k,none⟩=some v->w'.cell? ⟨b,k,none⟩=some v/\T' b k)(hc:∀t j,t≠d->bz h h' ai F t j)
  {x:At} (O:x.ref d=false) (r:Yk T h ai w x v):Yk T' h' F w' x v:=by
 cases x with
 |any=>exact r
 |d x=>exact Rd.mono hT r
 |nil s=>exact r
 |E t j lo ae=>
  have ht:t≠d:=dw;refine⟨r.1,fun q X Q ho=>?_,fun X Q ho=>?_⟩
  ·obtain⟨hh,aL,C,hl⟩:=(hc t j ht).1 q X Q ho;rw[hh,<-hl];exact r.2.1 q X aL C
  ·obtain⟨hh,aL,C,hl⟩:=(hc t j ht).2.1 X Q ho;rw[hh,<-hl];exact r.2.2 X aL C
 |ptr t j i c=>have ht:t≠d:=dw;refine⟨r.1,fun q X Q ho=>?_⟩;obtain⟨hh,aL,C,hl⟩:=(hc t j ht).1 q X Q ho;rw[hh];exact r.2 q X aL C
 |O t c=>have ht:t≠d:=dw;refine⟨r.1,fun E ho=>?_⟩;obtain⟨hh,K,C⟩:=(hc t 0 ht).2.2 E ho;rw[hh];exact r.2 K C
 |fn f t=>have ht:t≠d:=dw;refine⟨r.1,fun E ho=>?_⟩;obtain⟨hh,K,C⟩:=(hc t 0 ht).2.2 E ho;rw[hh];exact r.2 K C
 |Z t j i c o=>have ht:t≠d:=dw;refine⟨r.1,fun X Q ho=>?_⟩;obtain⟨hh,aL,C,hl⟩:=(hc t j ht).1 true X Q ho;rw[hh];exact r.2 X aL C
 |ac R c=>obtain⟨b,aw,g,e,hk⟩:=r;exact⟨b,aw,g,e,fun k d hd=>⟨(hT _ _ _ (hk k d hd).2.1 (hk k d hd).1).1,(hT _ _ _ (hk k d hd).2.1 (hk k d hd).1).2,Rd.mono hT (hk k d hd).2.2⟩⟩
theorem Nw(hT:∀b k v,T b k->w.cell? ⟨b,k,none⟩=some v->w'.cell? ⟨b,k,none⟩=some v/\T' b k)(hc:∀t j,t≠d->bz h h' ai F t j)
  {xs:List At} (O:U d xs=false) (r:Yd (Yk T h ai w) xs vs):Yd (Yk T' h' F w') xs vs:=by
 induction r with
 |nil=>exact .nil
 |cons r _ ih=>simp only[U,Bool.or_eq_false_iff]at O;exact .cons (Yk.carry hT hc O.1 r) (ih O.2)
theorem qR.carry(hT:∀b k v,T b k->w.cell? ⟨b,k,none⟩=some v->w'.cell? ⟨b,k,none⟩=some v/\T' b k)(hc:∀t j,t≠d->bz h h' ai F t j)
  {x:V} (O:x.BK d=false) (r:qR T h ai w x v):qR T' h' F w' x v:=by
 cases x with
 |any=>exact r
 |one x=>exact Yk.carry hT hc O r
 |agg xs=>obtain⟨I,e,r⟩:=r;exact⟨I,e,Nw hT hc O r⟩
 |O xs=>exact r.elim
 |E g x=>exact r.elim
 |fix u x=>exact r.elim
theorem KA.carry(hT:∀b k v,T b k->w.cell? ⟨b,k,none⟩=some v->w'.cell? ⟨b,k,none⟩=some v/\T' b k)(hc:∀t j,t≠d->bz h h' ai F t j)
  {x:V} (O:x.ref d=false) (r:KA T h ai w x v):KA T' h' F w' x v:=by
 cases x with
 |any=>exact r
 |one x=>exact Yk.carry hT hc O r
 |agg xs=>obtain⟨I,e,r⟩:=r;exact⟨I,e,Nw hT hc O r⟩
 |O xs=>
  obtain⟨vs,e,r⟩:=r;refine⟨vs,e,?_⟩;generalize vs.toList=vl at r;simp only[V.ref]at O;induction r with
  |nil=>exact .nil
  |cons r _ ih=>simp only[HH,Bool.or_eq_false_iff]at O;exact .cons (qR.carry hT hc O.1 r) (ih O.2)
 |E g x=>simp only[V.ref,Bool.or_eq_false_iff]at O;exact⟨fun hg=>qR.carry hT hc O.1 (r.1 hg),r.2⟩
 |fix u x=>simp only[V.ref,Bool.or_eq_false_iff]at O;exact⟨r.1,qR.carry hT hc O.1 r.2⟩
end
theorem av.Tlt(r:av T0 B σ a w ad h){k:Nat}(G:al T0 ad b k):b<w.heap.size:=by
 rcases G with G|G
 ·exact r.d b (r.f b k G)
 ·exact(r.e b G).2
theorem Um{e:TypeId}{xs:List Value}(G:∀b,blk v=some b->w'.heap[b]?=w.heap[b]?)(ho:w.ownsRow 0 e X v n xs):w'.ownsRow 0 e X v n xs:=by
 refine⟨ho.1,?_⟩;rcases ho.2 with hn|⟨g,ah,ax,rfl,h0,hg,ai⟩
 ·exact .inl hn
 ·exact .inr ⟨g,ah,ax,rfl,h0,by rw[G g rfl];exact hg,ai⟩
theorem aV.Bn{d:D}(G:∀b,S b->w'.heap[b]?=w.heap[b]?)(ho:aV w v d S):aV w' v d S:=by
 induction ho with
 |int k n S=>exact .int k n S
 |bool b S=>exact .bool b S
 |str s S=>exact .str s S
 |unk v h S=>exact .unk v h S
 |sl v X Q S e xs l ho hz aj hl hk U hd ih=>exact .sl v X Q S e xs l (Um (fun b h=>G b (aj b h)) ho) hz aj hl (fun k x d O m=>ih k x d O m (fun b h=>G b (U k b h).1)) U hd
theorem aV.mono{d:D}{H:Nat->Prop}(y:∀b,S b->H b)(ho:aV w v d S):aV w v d H:=by
 cases ho with
 |int k n S=>exact .int k n H
 |bool b S=>exact .bool b H
 |str s S=>exact .str s H
 |unk v h S=>exact .unk v h H
 |sl v X Q S e xs l ho hz aj hl hk U hd=>exact .sl v X Q H e xs l ho hz (fun b h=>y b (aj b h)) hl hk (fun k b h=>⟨y b (U k b h).1,(U k b h).2⟩) hd
theorem z6.Bn{xs:List Value}(G:∀b,S b->w'.heap[b]?=w.heap[b]?)(ho:z6 w xs ds S):z6 w' xs ds S:=by obtain⟨hl,l,M,Z,h3⟩:=ho;exact⟨hl,l,fun k x d O hd=>(M k x d O hd).Bn (fun b h=>G b (Z k b h)),Z,h3⟩
theorem zf.Bn{ai:Nat->Nat->Ob}{o:Ob}
  (hT:∀b k v,T b k->w.cell? ⟨b,k,none⟩=some v->w'.cell? ⟨b,k,none⟩=some v/\T' b k) (hc:∀t j,t≠d->bz h h' ai F t j)
  (au:o≠ .none->∀b,blk hd.v=some b->hd.u b) (G:o≠ .none->∀b,hd.u b->w'.heap[b]?=w.heap[b]?) (hr:Xi d [o]=false) (r:zf T h ai w hd o):zf T' h' F w' hd o:=by
 cases o with
 |none=>trivial
 |box E=>obtain⟨b,I,e,hv,hh,aa⟩:=r;simp only[Xi,Bool.or_false]at hr;exact⟨b,I,e,hv,by rw[G ab b (au ab b (by rw[hv];rfl))];exact hh,Nw hT hc hr aa⟩
 |arr q X Q=>
  have hk:∀{e:TypeId}{n:Nat}{xs:List Value},w.ownsRow 0 e X hd.v n xs->w'.ownsRow 0 e X hd.v n xs:=fun ho=>Um (fun b h=>G ab b (au ab b h)) ho;cases q with
  |false=>obtain⟨e,xs,ho,hz,aa⟩:=r;exact⟨e,xs,hk ho,hz,aa.imp fun _ _=>Rd.mono hT⟩
  |true=>obtain⟨e,xs,ho,hz,aa,hn⟩:=r;exact⟨e,xs,hk ho,hz,aa.Bn (fun b h=>G ab b h.1),hn⟩
 |lit X Q=>obtain⟨e,xs,ho,hz,aa⟩:=r;simp only[Xi,Bool.or_false]at hr;exact⟨e,xs,Um (fun b h=>G ab b (au ab b h)) ho,hz,Nw hT hc hr aa⟩
theorem J.ZAH(hf:σ.fresh d=true)(t j:Nat)(W:t≠d):Xi d [σ.ob t j]=false:=by
 cases ho:σ.ob t j with
 |none=>rfl
 |box E=>simp[Xi,J.ZBR hf t j W E ho]
 |arr q X Q=>rfl
 |lit X Q=>simp only[Xi,J.af hf t j W X Q ho,Bool.or_false]
theorem av.ZCy(r:av T0 B σ a w ad h)(hf:σ.fresh d=true)(T:Nat->Prop)(aB:w.heap.size<=w'.heap.size)(hg:∀k,k<w.heap.size->¬T k->w'.heap[k]?=w.heap[k]?)
  (hm:∀b,T b->¬B b/\¬ad b/\∀t j,t≠d->σ.ob t j≠ .none->¬(h t j).u b) (l:∀b,ad b->X' b) (s:∀b,X' b->ad b\/(w.heap.size<=b/\b<w'.heap.size))
  (v:V) (ak:Value) (aa:List Ob) (hd:Nat->Hd)
  (hv:KA (al T0 X') (fun t j=>if t=d then hd j else h t j) (σ.new d v aa).ob w' v ak)
  (n:∀j,zf (al T0 X') (fun t j=>if t=d then hd j else h t j) (σ.new d v aa).ob w' (hd j) (Y6 aa j))
  (au:∀j b,Y6 aa j≠ .none->blk (hd j).v=some b->(hd j).u b)
  (aq:∀j b,Y6 aa j≠ .none->(hd j).u b->(w.heap.size<=b\/T b)/\¬X' b/\b<w'.heap.size)
  (am:∀j j' b,Y6 aa j≠ .none->Y6 aa j'≠ .none->(hd j).u b->(hd j').u b->j=j'):
  av T0 B (σ.new d v aa) (a.put (some d) ak) w' X' (fun t j=>if t=d then hd j else h t j):=by
 have ac:=J.Vo hf;have o:∀b k,al T0 ad b k->¬T b:=by
  intro b k G i;rcases G with G|G
  ·exact(hm b i).1 (r.f b k G)
  ·exact(hm b i).2.1 G
 have hT:∀b k v,al T0 ad b k->w.cell? ⟨b,k,none⟩=some v->w'.cell? ⟨b,k,none⟩=some v/\al T0 X' b k:=by intro b k v G ai;refine⟨?_,G.imp id (l b)⟩;rw[World.cell?_of_block (hg b (r.Tlt G) (o b k G))];exact ai
 have hc:∀t j,t≠d->bz h (fun t j=>if t=d then hd j else h t j) σ.ob (σ.new d v aa).ob t j:=by
  intro t j W;have he:(σ.new d v aa).ob t j=σ.ob t j:=eY
  exact bz.same aC he
 refine⟨by simp[Act.put,r.size,J.Mi],r.defers,fun b G=>Nat.lt_of_lt_of_le (r.d b G) aB,fun b G=>?_,r.f,fun t ht=>?_,fun t j=>?_,fun t j b ho G=>?_,fun t j b ho G=>?_,fun t j t' j' b ho p G aj=>?_⟩
 ·rcases s b G with G|G
  ·have:=r.e b G;exact⟨this.1,Y⟩
  ·exact⟨fun ay=>by have:=r.d b ay;omega,G.2⟩
 ·rw[J.Mi]at ht;rw[J.Lo];by_cases m:t=d
  ·subst m;simp only[ac,if_true];have:(a.tmps.setIfInBounds t ak).getD t undef=ak:=by simp[r.size,ac]
   simp only[Act.put,this];exact hv
  ·rw[if_neg (fun hh=>m hh.1)];have:(a.tmps.setIfInBounds d ak).getD t undef=a.tmps.getD t undef:=by simp[Array.getElem?_setIfInBounds_ne (Ne.symm m)]
   simp only[Act.put,this];exact KA.carry hT hc (J.ZAV hf t m) (r.slot t ht)
 ·rw[J.qK];by_cases m:t=d
  ·subst m;grind
  ·have W:¬(t=d/\d<σ.length):=fun hh=>m hh.1;rw[if_neg W];simp only[if_neg m];exact zf.Bn hT hc (fun ho b=>r.c t j b ho) (fun ho b F=>hg b (r.own t j b ho F).2.2 (fun i=>(hm b i).2.2 t j m ho F)) (J.ZAH hf t j m) (r.obj t j)
 ·rw[J.qK]at ho;by_cases m:t=d
  ·subst m;simp only[ac,if_true]at ho G⊢;grind
  ·rw[if_neg (fun hh=>m hh.1)]at ho;simp only[m]at G⊢;exact r.c t j b ho G
 ·rw[J.qK]at ho;by_cases m:t=d
  ·subst m;simp only[ac,if_true]at ho G;have M:=aq j b ho G
   refine⟨?_,M.2.1,M.2.2⟩;rcases M.1 with Z|Z
   ·exact fun ay=>by have:=r.d b ay;omega
   ·exact(hm b Z).1
  ·rw[if_neg (fun hh=>m hh.1)]at ho;simp only[m]at G;have:=r.own t j b ho G
   refine⟨this.1,fun O=>?_,Y⟩;rcases s b O with O|O
   ·exact this.2.1 O
   ·omega
 ·rw[J.qK]at ho p;by_cases g:t=d
  ·by_cases q:t'=d
   ·subst g;subst q;simp only[ac,if_true]at ho G p aj;grind
   ·subst g;simp only[ac,if_true]at ho G;rw[if_neg (fun hh=>q hh.1)]at p;simp only[q]at aj;have M:=aq j b ho G
    have Z:=r.own t' j' b p aj;rcases M.1 with h3|h3
    ·omega
    ·exact absurd aj ((hm b h3).2.2 t' j' q p)
  ·by_cases q:t'=d
   ·subst q;simp only[ac,if_true]at p aj;rw[if_neg (fun hh=>g hh.1)]at ho;simp only[g]at G;have M:=aq j' b p aj
    have Z:=r.own t j b ho G;rcases M.1 with h3|h3
    ·omega
    ·exact absurd G ((hm b h3).2.2 t j g ho)
   ·rw[if_neg (fun hh=>g hh.1)]at ho;rw[if_neg (fun hh=>q hh.1)]at p;simp only[g,q]at G aj;exact r.inj t j t' j' b ho p G aj
theorem av.new(r:av T0 B σ a w ad h)(hf:σ.fresh d=true)(hg:w.grownBy w' none)(l:∀b,ad b->X' b)(s:∀b,X' b->ad b\/(w.heap.size<=b/\b<w'.heap.size))
  (v:V) (ak:Value) (aa:List Ob) (hd:Nat->Hd)
  (hv:KA (al T0 X') (fun t j=>if t=d then hd j else h t j) (σ.new d v aa).ob w' v ak)
  (n:∀j,zf (al T0 X') (fun t j=>if t=d then hd j else h t j) (σ.new d v aa).ob w' (hd j) (Y6 aa j))
  (au:∀j b,Y6 aa j≠ .none->blk (hd j).v=some b->(hd j).u b)
  (aq:∀j b,Y6 aa j≠ .none->(hd j).u b->w.heap.size<=b/\¬X' b/\b<w'.heap.size)
  (am:∀j j' b,Y6 aa j≠ .none->Y6 aa j'≠ .none->(hd j).u b->(hd j').u b->j=j'):
  av T0 B (σ.new d v aa) (a.put (some d) ak) w' X' (fun t j=>if t=d then hd j else h t j):=
 r.ZCy hf (fun _=>False) hg.size (fun k hk _=>hg.block k hk ab) (fun _ hh=>hh.elim) l s v ak aa hd hv n au (fun j b M Z=>⟨.inl (aq j b M Z).1,(aq j b M Z).2⟩) am
open Go.RowKit
def xK(v:Value)(I:List Value):Prop:=(∃c,I=[c]/\v=c/\c.oneCell'=true)\/(I.length≠1/\v= .agg I.toArray)
def pj:List Value->Value
 |[v]=>v
 |vs=>.tuple vs.toArray
def z9(T:CS)(w:World)(v:Value):D->Prop
 |.sl X Q=>∃e xs,w.ownsRow 0 e X v Q.length xs/\(∀r∈Q,r.length=X)/\Yd (Rd T w) xs Q.flatten
 |d=>Rd T w v d
def R6(own:Bool)(T:CS)(w:World)(v:Value)(d:D):Prop:=if own then z9 T w v d else Rd T w v d
def Ly(P:Program)(f:FuncId):Bool:=
 match P.funcs[f]? with
 | some fn => fn.body.isSome && fn.name != "runtime.NumGoroutine"
 |none=>false
def oA(B N:Nat)(p:Nat->Prop)(I:List Value)(ds:List D):Prop:=
 (∀(i:Nat)(c:Value)(d:D)(b:Nat),I[i]?=some c->ds[i]?=some d->d.scalar=false->blk c=some b->B<=b/\b<N/\¬p b)/\
 (∀(i j:Nat)(c c':Value)(d d':D)(b:Nat),I[i]?=some c->ds[i]?=some d->I[j]?=some c'->ds[j]?=some d'->d.scalar=false->d'.scalar=false->blk c=some b->blk c'=some b->i=j)
def hj(own:Bool)(T:CS)(w:World)(ag:List (List D))(e:Ending)(w':World):Prop:=
 ∃(vs:List Value)(g:List (List Value))(p:Nat->Prop),e= .returned (pj vs)/\Below w.heap.size w w'/\(∀b,p b->w.heap.size<=b/\b<w'.heap.size)/\
  Yd xK vs g/\Yd (fun I L=>Yd (R6 own (al T p) w') I L) g ag/\(own=true->oA w.heap.size w'.heap.size p g.flatten ag.flatten)
def KJ(P:Program)(f:FuncId)(own:Bool)(aA ag:List (List D)):Prop:=
 Ly P f=true/\∀(T:CS)(w:World)(ar:List Value),(∀b k,T b k->b<w.heap.size)->Yd (fun v L=>∃I,xK v I/\Yd (Rd T w) I L) ar aA->
  Calls P f ar.toArray w (hj own T w ag)
def aZ:List At->V
 |[x]=>.one x
 |xs=>.agg xs
def Qz(t:Nat):Nat->List D->List At
 |_,[]=>[]
 |k,.sl _ Q::ds=>.E t k 0 Q.length::Qz t (k+1) ds
 |k,d::ds=>.d d::Qz t (k+1) ds
def UK:List D->List Ob
 |[]=>[]
 |.sl X Q::ds=>.arr false X Q::UK ds
 |_::ds=>.none::UK ds
def ld(t:Nat):Nat->List (List D)->List V
 |_,[]=>[]
 |k,r::rs=>aZ (Qz t k r)::ld t (k+r.length) rs
def Mz(t:Nat):List (List D)->V
 |[r]=>aZ (Qz t 0 r)
 |rs=>.O (ld t 0 rs)
def SW:List (List D)->V
 |[r]=>aZ (r.map .d)
 |rs=>.O (rs.map fun r=>aZ (r.map .d))
def kK(σ:J):At->Option D
 |.d x=>some x
 |.nil s=>some (.sl s [])
 |.E t j lo ae=>(match σ.ob t j with|.arr _ X Q=>some (.sl X (cut Q lo ae))|_=>none)
 |_=>none
def rowOf(σ:J):List At->Option (List D)
 |[]=>some []
 |x::xs=>(match kK σ x,rowOf σ xs with|some d,some ds=>some (d::ds)|_,_=>none)
def V.qS(σ:J):V->Option (List D)
 |.one x=>rowOf σ [x]
 |.agg [_]=>none
 |.agg xs=>rowOf σ xs
 |_=>none
def Jx(P:Program)(σ:J):List Operand->List TypeId->List (List D)->Prop
 |[],_,rs=>rs=[]
 |x::xs,t::ts,rs=>ap (look P σ t x)=true/\∃r ai,(unc (look P σ t x)).qS σ=some r/\Jx P σ xs ts ai/\rs=r::ai
 |_::_,[],_=>False
def At.gG:At->Bool
 |.E _ _ _ _=>false
 |.Z _ _ _ _ _=>false
 |_=>true
def qZ:List At->Bool
 |[]=>true
 |x::xs=>x.gG&&qZ xs
def XB(P:Program)(σ:J):List Operand->List TypeId->Bool
 |x::xs,t::ts=>qZ (unc (look P σ t x)).cells&&XB P σ xs ts
 |_,_=>true
theorem av.grow(r:av T0 B σ a w ad h)(hg:w.grownBy w' none)(l:∀b,ad b->X' b)(s:∀b,X' b->ad b\/(w.heap.size<=b/\b<w'.heap.size)):av T0 B σ a w' X' h:=by
 have hT:∀b k v,al T0 ad b k->w.cell? ⟨b,k,none⟩=some v->w'.cell? ⟨b,k,none⟩=some v/\al T0 X' b k:=by intro b k v G ai;refine⟨?_,G.imp id (l b)⟩;rw[World.cell?_of_block (hg.block b (r.Tlt G) ab)];exact ai
 have g:=hg.size;refine⟨r.size,r.defers,fun b G=>Nat.lt_of_lt_of_le (r.d b G) g,fun b G=>?_,r.f,fun t ht=>KA.mono hT (r.slot t ht),fun t j=>?_,r.c,fun t j b ho G=>?_,r.inj⟩
 ·rcases s b G with G|G
  ·have:=r.e b G;exact⟨this.1,Y⟩
  ·exact⟨fun ay=>by have:=r.d b ay;omega,G.2⟩
 ·have h0:=r.obj t j;have hk:=fun ho b F=>hg.block b (r.own t j b ho F).2.2 ab;have an:=r.c t j;cases ho:σ.ob t j with
  |none=>trivial
  |box E=>rw[ho]at h0 hk an;obtain⟨b,I,e,hv,hh,aa⟩:=h0;exact⟨b,I,e,hv,by rw[hk ab b (an b ab (by rw[hv];rfl))];exact hh,aa.imp fun _ _=>Yk.mono hT⟩
  |arr q X Q=>
   rw[ho]at h0 hk an;cases q with
   |false=>obtain⟨e,xs,ar,hz,aa⟩:=h0;exact⟨e,xs,Um (fun b G=>hk ab b (an b ab G)) ar,hz,aa.imp fun _ _=>Rd.mono hT⟩
   |true=>obtain⟨e,xs,ar,hz,aa,hn⟩:=h0;exact⟨e,xs,Um (fun b G=>hk ab b (an b ab G)) ar,hz,aa.Bn (fun b G=>hk ab b G.1),hn⟩
  |lit X Q=>rw[ho]at h0 hk an;obtain⟨e,xs,ar,hz,aa⟩:=h0;exact⟨e,xs,Um (fun b G=>hk ab b (an b ab G)) ar,hz,aa.imp fun _ _=>Yk.mono hT⟩
 ·have:=r.own t j b ho G;refine⟨this.1,fun O=>?_,Y⟩;rcases s b O with O|O
  ·exact this.2.1 O
  ·omega
def wH(T0:CS)(ad:Nat->Prop)(h:Nat->Nat->Hd)(σ:J):CS:=fun b k=>al T0 ad b k\/∃t j q X Q,σ.ob t j= .arr q X Q/\(h t j).u b
theorem av.iG(r:av T0 B σ a w ad h){k:Nat}(G:wH T0 ad h σ b k):b<w.heap.size:=by
 rcases G with G|⟨t,j,q,X,Q,ho,G⟩
 ·exact r.Tlt G
 ·exact(r.own t j b aC G).2.2
theorem hU{e:TypeId}{xs:List Value}(ho:w.ownsRow 0 e X v Q.length xs)(hz:∀r∈Q,r.length=X)(hT:∀b k,blk v=some b->T b k)
  (aa:Yd (Rd T w) xs Q.flatten):Rd T w v (.sl X Q):=by
 rcases ho.2 with⟨rfl,hn⟩|⟨g,ah,ax,rfl,_,hh,ar,aL,aM,aO⟩
 ·have:=List.eq_nil_of_length_eq_zero hn;subst this;exact .nil _
 ·refine .sl _ _ ah X Q (fun k=>(xs[k]?).getD undef) rfl ar aL hz (fun _=>rfl) (fun k d hd=>?_) (fun k d hd=>?_)
  ·obtain⟨u,F,_⟩:=aa.get' k d hd;have ac:k<Q.length*X:=by have:=(List.getElem?_eq_some_iff.1 hd).1;grind
   rw[F];refine⟨?_,hT g _ rfl⟩;simp;refine qh hh _ _ ?_;rw[<-aO,List.getElem?_take,if_pos ac]at F;exact F
  ·obtain⟨u,F,hr⟩:=aa.get' k d hd;grind
theorem aV.rd{d:D}(ho:aV w v d S)(hT:∀b k,S b->T b k):Rd T w v d:=by
 induction ho with
 |int k n S=>exact .int k n
 |bool b S=>exact .bool b
 |str s S=>exact .str s
 |unk v h S=>exact .unk v h
 |sl v X Q S e xs l ho hz aj hl hk U hd ih=>exact hU ho hz (fun b k G=>hT b k (aj b G)) (Yd.V8 hl (fun k x d O m=>ih k x d O m (fun b k' G=>hT b k' (U k b G).1)))
theorem z6.rd{xs:List Value}(ho:z6 w xs ds S)(hT:∀b k,S b->T b k):Yd (Rd T w) xs ds:=by obtain⟨hl,l,M,Z,h3⟩:=ho;exact Yd.V8 hl (fun k x d O hd=>(M k x d O hd).rd (fun b k' G=>hT b k' (Z k b G)))
theorem av.cells(r:av T0 B σ a w ad h)(ho:σ.ob t j= .arr q X Q):
  ∃e xs,w.ownsRow 0 e X (h t j).v Q.length xs/\(∀r∈Q,r.length=X)/\∀T:CS,(∀b k,al T0 ad b k->T b k)->(∀b k,(h t j).u b->T b k)->Yd (Rd T w) xs Q.flatten:=by
 have h0:=r.obj t j;rw[ho]at h0;cases q with
 |false=>obtain⟨e,xs,ar,hz,aa⟩:=h0;exact⟨e,xs,ar,hz,fun T M _=>aa.imp fun _ _=>Rd.mono (fun b k v G hc=>⟨hc,M b k G⟩)⟩
 |true=>obtain⟨e,xs,ar,hz,aa,hn⟩:=h0;exact⟨e,xs,ar,hz,fun T _ Z=>aa.rd (fun b k G=>Z b k G.1)⟩
theorem av.bp(r:av T0 B σ a w ad h){lo:Nat}(ho:σ.ob t j= .arr q X Q)(hv:Yk (al T0 ad) h σ.ob w (.E t j lo ae) v)
  (T:CS) (C:∀b k,al T0 ad b k->T b k) (i:∀b k,(h t j).u b->T b k):Rd T w v (.sl X (cut Q lo ae)):=by
 obtain⟨aA,az,_,ay,ah,rfl,aS,Z,aG,G⟩:=hv.2.1 q X Q ho;obtain⟨e,xs,⟨hl,aq⟩,hz,n⟩:=r.cells ho;have aa:=n T C i
 have au:=r.c t j;have R:=Xj _ _ _ aA;have am:∀x∈cut Q lo ae,x.length=X:=fun x O=>hz x (List.mem_of_mem_drop (List.mem_of_mem_take O));by_cases aK:0<ae
 ·obtain⟨b,aE,hh,rfl⟩:=G aK;rcases aq with⟨hn,_⟩|⟨g,ba,ax,aF,_,hgg,ar,aL,aM,aO⟩
  ·rw[hh]at hn;cases hn
  ·rw[hh]at aF;cases aF;have ag:∀k d,(cut Q lo ae).flatten[k]?=some d->∃u,w.cell? ⟨b,lo*X+k,none⟩=some u/\T b (lo*X+k)/\Rd T w u d:=by
    intro k d hd;have m:=Sr Q X lo ae hz k d hd
    obtain⟨u,F,hr⟩:=aa.get' _ _ m;have ac:lo*X+k<Q.length*X:=by have:=(List.getElem?_eq_some_iff.1 m).1;grind
    refine⟨u,qh hgg _ _ ?_,i b _ (au b aC (by rw[hh];rfl)),hr⟩;rw[<-aO,List.getElem?_take,if_pos ac]at F;exact F
   refine .sl _ ae ah X _ (fun k=>(w.cell? ⟨b,lo*X+k,none⟩).getD undef) R aS Z am (fun _=>rfl) (fun k d hd=>?_) (fun k d hd=>?_)
   ·obtain⟨u,F,ht,_⟩:=ag k d hd;grind
   ·obtain⟨u,F,_,hr⟩:=ag k d hd;grind
 ·have l:ae=0:=Y;subst l;have K:cut Q lo 0=[]:=by simp[cut]
  cases ay with
  |none=>have:=aG rfl;subst this;exact .nil _
  |some I=>exact .sl I 0 ah X [] (fun _=>undef) rfl aS Z ab ab ab ab
open Go.RowKit
def D.gd:D->Prop
 |.sl _ Q=>∀r∈Q,∀d∈r,d.scalar=true
 |_=>True
def yl(own:Bool)(ag:List (List D)):Prop:=∀r∈ag,∀d∈r,if own=true then d.gd else d.scalar=true
theorem Rd.scalar{d:D}(hd:d.scalar=true)(r:Rd T w v d):Rd T' w v d:=by
 cases r with
 |int k n=>exact .int k n
 |bool b=>exact .bool b
 |str s=>exact .str s
 |unk v h=>exact .unk v h
 |nil=>cases hd
 |sl=>cases hd
theorem z9.flat{d:D}(hd:d.gd)(r:z9 T w v d):z9 T' w v d:=by
 cases d with
 |sl X Q=>
  obtain⟨e,xs,ho,hz,aa⟩:=r;refine⟨e,xs,ho,hz,?_⟩;refine Yd.V8 aa.length (fun i x d O m=>?_);obtain⟨d2,q,hr⟩:=aa.get i x O;rw[m]at q;cases q;have hm:=List.mem_of_getElem? m
  obtain⟨r0,ap,ax⟩:=List.mem_flatten.1 hm;exact Rd.scalar (hd r0 ap d ax) hr
 |int k n=>exact Rd.scalar rfl r
 |bool b=>exact Rd.scalar rfl r
 |str s=>exact Rd.scalar rfl r
 |unk=>exact Rd.scalar rfl r
theorem Hz{e:TypeId}{xs:List Value}(ho:w.ownsRow 0 e X v n xs):fC v X n 0 n v:=by
 refine⟨Y,fun _ _=>rfl,?_,?_⟩
 ·intro _;rcases ho.2 with⟨rfl,rfl⟩|⟨g,ah,ax,rfl,_⟩<;>rfl
 rcases ho.2 with⟨rfl,rfl⟩|⟨g,ah,ax,rfl,_,_,ar,aL,_,_⟩
 ·exact⟨none,0,rfl,Y,ab,fun _=>rfl,fun hh=>Y⟩
 ·exact⟨_,ah,rfl,ar,aL,(fun hh=>by cases hh),fun _=>⟨g,ah,rfl,ab⟩⟩
theorem qn{e:TypeId}{xs:List Value}(ho:w.ownsRow 0 e X v n xs):v.oneCell'=true:=by rcases ho.2 with⟨rfl,rfl⟩|⟨g,ah,ax,rfl,_⟩<;>rfl
theorem z9.Qo{d:D}(r:z9 T w v d):v.oneCell'=true:=by
 cases d with
 |sl X Q=>obtain⟨e,xs,ho,_⟩:=r;exact qn ho
 |int k n=>exact Rd.Qo r
 |bool b=>exact Rd.Qo r
 |str s=>exact Rd.Qo r
 |unk=>exact Rd.Qo r
theorem z9.rd{d:D}(r:z9 T w v d)(M:∀b k,T b k->T' b k)(Z:d.scalar=false->∀b k,blk v=some b->T' b k):Rd T' w v d:=by
 cases d with
 |sl X Q=>
  obtain⟨e,xs,⟨hl,aq⟩,hz,aa⟩:=r;rcases aq with⟨rfl,hn⟩|⟨g,ah,ax,rfl,_,hh,ar,aL,aM,aO⟩
  ·have:=List.eq_nil_of_length_eq_zero hn;subst this;exact .nil _
  ·refine .sl _ _ ah X Q (fun k=>(xs[k]?).getD undef) rfl ar aL hz (fun _=>rfl) (fun k d hd=>?_) (fun k d hd=>?_)
   ·obtain⟨u,F,_⟩:=aa.get' k d hd;have ac:k<Q.length*X:=by have:=(List.getElem?_eq_some_iff.1 hd).1;grind
    rw[F];refine⟨?_,Z rfl g _ rfl⟩;simp;refine qh hh _ _ ?_;rw[<-aO,List.getElem?_take,if_pos ac]at F;exact F
   ·obtain⟨u,F,hr⟩:=aa.get' k d hd;rw[F];exact Rd.mono (fun b k v G hc=>⟨hc,M b k G⟩) hr
 |int k n=>exact Rd.scalar rfl r
 |bool b=>exact Rd.scalar rfl r
 |str s=>exact Rd.scalar rfl r
 |unk=>exact Rd.scalar rfl r
theorem av.kK(r:av T0 B σ a w ad h){x:At}{d:D}(hd:kK σ x=some d)(hv:Yk (al T0 ad) h σ.ob w x v)(l:Bool)(ar:l=true->x.gG=true):
  Rd (if l then al T0 ad else wH T0 ad h σ) w v d:=by
 cases x with
 |d x=>simp[Vm.kK]at hd;subst hd;cases l<;>simp<;>first|exact hv|exact Rd.mono (fun b k v G hc=>⟨hc,.inl G⟩) hv
 |nil s=>simp[Vm.kK]at hd;subst hd;cases hv;exact .nil _
 |E t j lo ae=>
  cases l with
  |true=>have:=ar rfl;simp[At.gG]at this
  |false=>
   simp only[Vm.kK]at hd;split at hd
   ·rename_i q X Q ho;cases hd;exact r.bp ho hv _ (fun b k G=>.inl G) (fun b k G=>.inr ⟨t,j,_,X,Q,ho,G⟩)
   ·cases hd
 |any=>simp[Vm.kK]at hd
 |ptr=>simp[Vm.kK]at hd
 |O=>simp[Vm.kK]at hd
 |fn=>simp[Vm.kK]at hd
 |ac=>simp[Vm.kK]at hd
 |Z=>simp[Vm.kK]at hd
theorem av.rowOf(r:av T0 B σ a w ad h)(l:Bool):∀{xs:List At}{vs:List Value}{ds:List D},rowOf σ xs=some ds->Yd (Yk (al T0 ad) h σ.ob w) xs vs->(l=true->qZ xs=true)->
  Yd (Rd (if l then al T0 ad else wH T0 ad h σ) w) vs ds
 |[],_,ds,hd,aa,_=>by cases aa;simp[Vm.rowOf]at hd;subst hd;exact .nil
 |x::xs,_,ds,hd,aa,ar=>by
  cases aa with
  |cons O aa=>
   simp only[Vm.rowOf]at hd;split at hd
   ·rename_i d g M Z;cases hd;refine .cons (r.kK M O l (fun U=>?_)) (av.rowOf r l Z aa (fun U=>?_))
    ·have:=ar U;simp[qZ]at this;exact this.1
    ·have:=ar U;simp[qZ]at this;exact this.2
   ·cases hd
theorem av.qS(r:av T0 B σ a w ad h)(l:Bool){v:V}{L:List D}(hr:v.qS σ=some L)(hv:KA (al T0 ad) h σ.ob w v ak)(ar:l=true->qZ v.cells=true):
  ∃I,xK ak I/\Yd (Rd (if l then al T0 ad else wH T0 ad h σ) w) I L:=by
 cases v with
 |one x=>exact⟨[ak],.inl ⟨ak,rfl,rfl,Yk.Qo (hv)⟩,r.rowOf l hr (.cons hv .nil) ar⟩
 |agg xs=>
  obtain⟨I,rfl,aa⟩:=hv;have hl:=aa.length
  match xs,hr,aa,hl,ar with
  |[],hr,aa,hl,ar=>exact⟨I.toList,.inr ⟨by rw[<-hl];simp,ab⟩,r.rowOf l hr aa ar⟩
  |[_],hr,_,_,_=>simp[V.qS]at hr
  |x::y::xs,hr,aa,hl,ar=>exact⟨I.toList,.inr ⟨by rw[<-hl];simp,ab⟩,r.rowOf l hr aa ar⟩
 |any=>simp[V.qS]at hr
 |O xs=>simp[V.qS]at hr
 |E g x=>simp[V.qS]at hr
 |fix u x=>simp[V.qS]at hr
theorem av.Jx(r:av T0 B σ a w ad h)(l:Bool):∀{xs:List Operand}{ts:List TypeId}{rs:List (List D)},Jx P σ xs ts rs->(l=true->XB P σ xs ts=true)->
  Yd (fun v L=>∃I,xK v I/\Yd (Rd (if l then al T0 ad else wH T0 ad h σ) w) I L) (xs.map a.eval) rs
 |[],_,rs,hr,_=>by cases hr;exact .nil
 |x::xs,[],rs,hr,_=>hr.elim
 |x::xs,t::ts,rs,hr,ar=>by
  obtain⟨hg,L,ai,M,Z,rfl⟩:=hr;refine .cons (r.qS l M (r.arg t x rfl hg) (fun U=>?_)) (av.Jx r l Z (fun U=>?_))
  ·have:=ar U;simp[XB]at this;exact this.1
  ·have:=ar U;simp[XB]at this;exact this.2
theorem MB{f:FuncId}(A:o.op= .call c)(hc:c.callee= .value (.func f))(hf:Ly P f=true):(execOp a.eval o).run P w= .ok (.enter f (c.args.toList.map a.eval).toArray) w:=by
 unfold Ly at hf;split at hf
 ·rename_i fn g;simp at hf;obtain⟨b,G⟩:=Option.isSome_iff_exists.1 hf.1;obtain⟨p,aA,aC⟩:=c;simp only at hc;subst hc;have hm:(aA.toList.map a.eval).toArray=aA.map a.eval:=by apply Array.toList_inj.1;simp
  rw[hm];simp[execOp,A,resolve,Act.eval,Deferred.ofValue,invoke,callFunc,g,hf.2,G]
 ·cases hf
open Go.RowKit
variable{af:Exit->Act->World->Prop}{K:Act->World->Prop}{g:List (List Value)}
theorem Below.grownBy(G:Below w.heap.size w w'):w.grownBy w' none:=⟨G.os,G.tape,G.output,G.size,fun k hk _=>G.block k hk⟩
theorem Eo{ai:Nat->Nat->Ob}{xs:List At}(hf:xK v I)(aa:Yd (Yk T h ai w) xs I):qR T h ai w (aZ xs) v:=by
 have hl:=aa.length;rcases hf with⟨c,rfl,rfl,M⟩|⟨W,rfl⟩
 ·cases aa with
  |cons O aa=>cases aa;exact O
 ·match xs,aa,hl with
  |[],aa,_=>exact⟨_,rfl,by simpa using aa⟩
  |[x],aa,hl=>exact absurd hl.symm Y
  |x::y::xs,aa,_=>exact⟨_,rfl,by simpa using aa⟩
theorem Ek{ai:Nat->Nat->Ob}{L:List D}(aa:Yd (Rd T w) I L):Yd (Yk T h ai w) (L.map .d) I:=by
 induction aa with
 |nil=>exact .nil
 |cons r _ ih=>exact .cons r ih
theorem ou{ai:Nat->Nat->Ob}(hf:Yd xK vs g)(aa:Yd (fun I L=>Yd (Rd T w) I L) g ag):
  Yd (qR T h ai w) (ag.map fun r=>aZ (r.map .d)) vs:=by
 induction hf generalizing ag with
 |nil=>cases aa;exact .nil
 |cons f _ ih=>cases aa with
  |cons r aa=>exact .cons (Eo f (Ek r)) (ih aa)
theorem Az{ai:Nat->Nat->Ob}(hf:Yd xK vs g)(aa:Yd (fun I L=>Yd (Rd T w) I L) g ag):
  KA T h ai w (SW ag) (pj vs):=by
 have hl:=ou (h:=h) (ai:=ai) hf aa;have M:=hl.length;match ag,vs,hl,M with
 |[r],[v],hl,_=>cases hl with|cons x _=>exact x.up
 |[],[],hl,_=>exact⟨_,rfl,by simpa using hl⟩
 |r::r'::rs,v::U::vs,hl,_=>exact⟨_,rfl,by simpa using hl⟩
 |[],v::vs,_,M=>simp at M
 |[r],[],_,M=>simp at M
 |[r],v::U::vs,_,M=>simp at M
 |r::r'::rs,[],_,M=>simp at M
 |r::r'::rs,[v],_,M=>simp at M
theorem lW{α β:Type}{R S:α->β->Prop}{l:List (List α)}{m:List (List β)}(E:∀(a:α)(b:β)(L:List β),L∈m->b∈L->R a b->S a b)(aa:Yd (fun x y=>Yd R x y) l m):Yd (fun x y=>Yd S x y) l m:=by
 induction aa with
 |nil=>exact .nil
 |@cons x y _ _ o _ ih=>
  refine .cons ?_ (ih (fun a b L hr=>E a b L aC));have n:=fun b G a hr=>E a b y ab G hr
  clear ih E;induction o with
  |nil=>exact .nil
  |cons r _ c=>exact .cons (n _ ab _ r) (c (fun b G=>n b aC))
theorem NM(r:av T0 B σ a w ad h){f:FuncId}{own:Bool}(A:o.op= .call c)(hc:c.callee= .value (.func f))(hd:o.dst=some d)
  (am:Jx P σ c.args.toList c.argTypes.toList Q) (l:Bool) (ar:l=true->XB P σ c.args.toList c.argTypes.toList=true) (aG:l=false->yl own ag) (U:KJ P f own Q ag)
  (hK:∀a' w',yO T0 B (σ.put d (SW ag)) a' w'->Xv B w w'->K a' w'):o.wp P a w K af:=by
 unfold Oper.wp;rw[MB A hc U.1,Oper.upon_enter];refine(U.2 _ w _ (fun b k G=>?_) (r.Jx l am ar)).mono ?_
 ·cases l
  ·exact r.iG G
  ·exact r.Tlt G
 ·rintro e w' ⟨vs,g,p,rfl,y,H,aM,V,F⟩;have s:∀b,_->ad b\/(w.heap.size<=b/\b<w'.heap.size):=fun b G=>G
  have r2:=r.grow (Below.grownBy y) (fun b G=>.inl G) s;have x:Yd (fun I L=>Yd (Rd (al T0 fun b=>ad b\/(w.heap.size<=b/\b<w'.heap.size)) w') I L) g ag:=by
   have n:∀(i:Nat)(c:Value)(d:D),g.flatten[i]?=some c->ag.flatten[i]?=some d->own=true->d.scalar=false->∀b,blk c=some b->w.heap.size<=b/\b<w'.heap.size:=by
    intro i c d M Z ho N b G;have:=(F ho).1 i c d b M Z N G
    exact⟨this.1,this.2.1⟩
   have conv:∀(c:Value)(d:D),(∀b,own=true->d.scalar=false->blk c=some b->w.heap.size<=b/\b<w'.heap.size)->(l=false->if own=true then d.gd else d.scalar=true)->
     R6 own (al (if l then al T0 ad else wH T0 ad h σ) p) w' c d->Rd (al T0 fun b=>ad b\/(w.heap.size<=b/\b<w'.heap.size)) w' c d:=by
    intro c d aP R hr;cases own with
    |true=>
     have aF:z9 (al (if l then al T0 ad else wH T0 ad h σ) p) w' c d:=by simpa[R6]using hr
     cases l with
     |true=>
      refine z9.rd aF (fun b k G=>?_) (fun N b k G=>.inr (.inr (aP b rfl N G)));rcases G with G|G
      ·rcases(show al T0 ad b k from by simpa using G)with G|G
       ·exact .inl G
       ·exact .inr (.inl G)
      ·exact .inr (.inr (H b G))
     |false=>exact z9.rd (z9.flat (T':=fun _ _=>False) (by simpa using R rfl) aF) (fun b k G=>G.elim) (fun N b k G=>.inr (.inr (aP b rfl N G)))
    |false=>
     have aF:Rd (al (if l then al T0 ad else wH T0 ad h σ) p) w' c d:=by simpa[R6]using hr
     cases l with
     |true=>
      refine Rd.mono (fun b k v G hc=>⟨hc,?_⟩) aF;rcases G with G|G
      ·rcases(show al T0 ad b k from by simpa using G)with G|G
       ·exact .inl G
       ·exact .inr (.inl G)
      ·exact .inr (.inr (H b G))
     |false=>exact Rd.scalar (by simpa using R rfl) aF
   have z:∀(g:List (List Value))(ag:List (List D)),Yd (fun I L=>Yd (R6 own (al (if l then al T0 ad else wH T0 ad h σ) p) w') I L) g ag->
     (∀(i:Nat)(c:Value)(d:D),g.flatten[i]?=some c->ag.flatten[i]?=some d->own=true->d.scalar=false->∀b,blk c=some b->w.heap.size<=b/\b<w'.heap.size)->
     (l=false->yl own ag)->Yd (fun I L=>Yd (Rd (al T0 fun b=>ad b\/(w.heap.size<=b/\b<w'.heap.size)) w') I L) g ag:=by
    intro g ag aa;induction aa with
    |nil=>intro _ _;exact .nil
    |@cons I L C j ay _ ih=>
     intro hm hf;have az:=ay.length
     refine .cons (Yd.V8 az (fun i c d hc m=>?_)) (ih (fun i c d M Z=>?_) (fun U r hr=>hf U r (by simp[hr])))
     ·obtain⟨d2,q,hr⟩:=ay.get i c hc;rw[m]at q;cases q;refine conv c d (fun b ho N G=>hm i c d ?_ ?_ ho N b G) (fun U=>hf U L ab d (List.mem_of_getElem? m)) hr
      ·rw[List.flatten_cons,List.getElem?_append_left (List.getElem?_eq_some_iff.1 hc).1];exact hc
      ·rw[List.flatten_cons,List.getElem?_append_left (List.getElem?_eq_some_iff.1 m).1];exact m
     ·refine hm (I.length+i) c d ?_ ?_
      ·rw[List.flatten_cons,List.getElem?_append_right Y];simpa using M
      ·rw[List.flatten_cons,List.getElem?_append_right Y,az];simpa using Z
   exact z g ag V n aG
  rw[hd];exact hK _ _ ⟨_,_,r2.put d _ _ (Az aM x)⟩ (Xv.pq y r.d)
open Go.RowKit
theorem H2:∀(ds:List D)(k:Nat),Y6 (UK ds) k=(match ds[k]? with|some (.sl X Q)=>.arr false X Q|_=>.none)
 |[],k=>by simp[UK,Y6]
 |d::ds,0=>by cases d<;>simp[UK,Y6]
 |d::ds,k+1=>by have:=H2 ds k;cases d<;>simpa[UK,Y6]using this
def NO(T:CS)(w:World)(v:Value):D->Prop
 |.sl X Q=>∃e xs,w.ownsRow 0 e X v Q.length xs
 |d=>Rd T w v d
theorem z9.top{d:D}(r:z9 T w v d):NO T w v d:=by
 cases d with
 |sl X Q=>obtain⟨e,xs,ho,_⟩:=r;exact⟨e,xs,ho⟩
 |int k n=>exact r
 |bool b=>exact r
 |str s=>exact r
 |unk=>exact r
theorem NO.Qo{d:D}(r:NO T w v d):v.oneCell'=true:=by
 cases d with
 |sl X Q=>obtain⟨e,xs,ho⟩:=r;exact qn ho
 |int k n=>exact Rd.Qo r
 |bool b=>exact Rd.Qo r
 |str s=>exact Rd.Qo r
 |unk=>exact Rd.Qo r
theorem N1{T:CS}{ai:Nat->Nat->Ob}{t:Nat}:∀{ds:List D}{I:List Value}{k:Nat},Yd (NO T w) I ds->
  (∀i X Q,ds[i]?=some (.sl X Q)->∃q,ai t (k+i)= .arr q X Q)->(∀i c,I[i]?=some c->(h t (k+i)).v=c)->Yd (Yk T h ai w) (Qz t k ds) I
 |[],_,k,aa,_,_=>by cases aa;exact .nil
 |d::ds,_,k,aa,ho,hh=>by
  cases aa with
  |@cons c _ I _ hc aa=>
   have ih:=N1 aa (fun i X Q hi=>by have:=ho (i+1) X Q aC;rw[show k+1+i=k+(i+1)by omega];exact this)
    (fun i c' z=>by have:=hh (i+1) c' aC;rw[show k+1+i=k+(i+1)by omega];exact this)
   cases d with
   |sl X Q=>
    obtain⟨q0,h0⟩:=ho 0 X Q rfl;have M:=hh 0 c rfl
    rw[Nat.add_zero]at h0 M;refine .cons ⟨NO.Qo hc,fun q' aJ aD p=>?_,fun aJ aD p=>by rw[h0]at p;cases p⟩ ih;rw[h0]at p;cases p;obtain⟨e,xs,aq⟩:=hc;rw[M];exact Hz aq
   |int k' n=>exact .cons hc ih
   |bool b=>exact .cons hc ih
   |str s=>exact .cons hc ih
   |unk=>exact .cons hc ih
theorem tl{ai:Nat->Nat->Ob}(hf:Yd xK vs g):∀{ag:List (List D)}{k:Nat},Yd (fun I L=>Yd (NO T w) I L) g ag->
  (∀i X Q,ag.flatten[i]?=some (.sl X Q)->∃q,ai t (k+i)= .arr q X Q)->(∀i c,g.flatten[i]?=some c->(h t (k+i)).v=c)->Yd (qR T h ai w) (ld t k ag) vs:=by
 induction hf with
 |nil=>intro ag k aa _ _;cases aa;exact .nil
 |@cons v I a C f _ ih=>
  intro ag k aa ho hh;cases aa with
  |@cons _ L _ j r aa=>
   have az:=r.length;refine .cons (Eo f (N1 r (fun i X Q hi=>ho i X Q ?_) (fun i c hc=>hh i c ?_))) (ih aa (fun i X Q hi=>?_) (fun i c hc=>?_))
   ·rw[List.flatten_cons,List.getElem?_append_left (List.getElem?_eq_some_iff.1 hi).1];exact hi
   ·rw[List.flatten_cons,List.getElem?_append_left (List.getElem?_eq_some_iff.1 hc).1];exact hc
   ·have:=ho (L.length+i) X Q aC;grind
   ·have:=hh (L.length+i) c aC;grind
theorem iM{ai:Nat->Nat->Ob}(hf:Yd xK vs g)(aa:Yd (fun I L=>Yd (NO T w) I L) g ag)
  (ho:∀i X Q,ag.flatten[i]?=some (.sl X Q)->∃q,ai t i= .arr q X Q) (hh:∀i c,g.flatten[i]?=some c->(h t i).v=c):KA T h ai w (Mz t ag) (pj vs):=by
 have hl:=tl (k:=0) hf aa (by simpa using ho) (by simpa using hh);have M:ag.length=vs.length:=by rw[hf.length,aa.length]
 match ag,vs,hl,M with
 |[r],[v],hl,_=>cases hl with|cons x _=>exact x.up
 |[],[],hl,_=>exact⟨_,rfl,by simpa using hl⟩
 |r::r'::rs,v::U::vs,hl,_=>exact⟨_,rfl,by simpa using hl⟩
 |[],v::vs,_,M=>simp at M
 |[r],[],_,M=>simp at M
 |[r],v::U::vs,_,M=>simp at M
 |r::r'::rs,[],_,M=>simp at M
 |r::r'::rs,[v],_,M=>simp at M
theorem Rn{α β:Type}{R:α->β->Prop}{l:List (List α)}{m:List (List β)}(aa:Yd (fun x y=>Yd R x y) l m):Yd R l.flatten m.flatten:=by
 induction aa with
 |nil=>exact .nil
 |cons r _ ih=>rw[List.flatten_cons];exact r.append ih
theorem DO(r:av T0 B σ a w ad h){f:FuncId}(A:o.op= .call c)(hc:c.callee= .value (.func f))(hd:o.dst=some d)(E:σ.fresh d=true)
  (am:Jx P σ c.args.toList c.argTypes.toList Q) (l:Bool) (ar:l=true->XB P σ c.args.toList c.argTypes.toList=true) (aG:l=false->yl true ag) (U:KJ P f true Q ag)
  (hK:∀a' w',yO T0 B (σ.new d (Mz d ag) (UK ag.flatten)) a' w'->Xv B w w'->K a' w'):o.wp P a w K af:=by
 have ac:=J.Vo E;unfold Oper.wp;rw[MB A hc U.1];refine(U.2 _ w _ (fun b k G=>?_) (r.Jx l am ar)).mono ?_
 ·cases l
  ·exact r.iG G
  ·exact r.Tlt G
 ·rintro e w' ⟨vs,g,p,rfl,y,H,aM,V,F⟩;have F:=F rfl
  have x:Yd (fun I L=>Yd (z9 (al T0 fun b=>ad b\/p b) w') I L) g ag:=by
   refine lW (fun c d L ay ax hr=>?_) V;have aF:z9 (al (if l then al T0 ad else wH T0 ad h σ) p) w' c d:=by simpa[R6]using hr
   cases l with
   |true=>
    have hT:∀b k,al (if true=true then al T0 ad else wH T0 ad h σ) p b k->al T0 (fun b=>ad b\/p b) b k:=by
     intro b k G;rcases G with G|G
     ·rcases(by simpa using G)with G|G
      ·exact .inl G
      ·exact .inr (.inl G)
     ·exact .inr (.inr G)
    cases d with
    |sl X Q=>obtain⟨e,xs,ho,hz,aa⟩:=aF;exact⟨e,xs,ho,hz,aa.imp fun _ _=>Rd.mono (fun b k v G hc=>⟨hc,hT b k G⟩)⟩
    |int k n=>exact Rd.scalar rfl aF
    |bool b=>exact Rd.scalar rfl aF
    |str s=>exact Rd.scalar rfl aF
    |unk=>exact Rd.scalar rfl aF
   |false=>exact z9.flat (by simpa using aG rfl L ay d ax) aF
  have aX:=Rn x;rw[hd];refine hK _ _ ⟨fun b=>ad b\/p b,fun t j=>if t=d then Hd.of ((g.flatten[j]?).getD undef)else h t j,?_⟩ (Xv.pq y r.d);have ai:∀(j X:Nat)(Q:List _),ag.flatten[j]?=some _->∃c,g.flatten[j]?=some c/\z9 _ w' c (D.sl X Q):=fun j X Q hj=>aX.get' j _ hj;have an:∀j,(σ.new d (Mz d ag) (UK ag.flatten)).ob d j=Y6 (UK ag.flatten) j:=fun j=>by rw[J.qK];simp[ac]
  have ab:∀j,Y6 (UK ag.flatten) j≠ .none->∃X Q,ag.flatten[j]?=some (D.sl X Q):=by
   intro j W;rw[H2]at W;split at W
   ·rename_i X Q hj;exact⟨X,Q,hj⟩
   ·exact absurd rfl W
  refine r.new E (Below.grownBy y) (fun b G=>.inl G) (fun b G=>G.imp id (fun hy=>H b hy)) _ _ _ (fun j=>Hd.of _) ?_ (fun j=>?_) (fun j b _ G=>G) (fun j b W G=>?_) (fun j j' b W aI G aj=>?_)
  ·refine iM aM (lW (fun _ _ _ _ _ hr=>z9.top hr) x) (fun i X Q hi=>⟨false,?_⟩) (fun i c hi=>by simp[hi,Hd.of]);rw[an,H2,hi]
  ·rw[H2];split
   ·rename_i X Q hj;obtain⟨c,z,aq⟩:=ai j X Q hj;obtain⟨e,xs,ho,hz,aa⟩:=aq;exact⟨e,xs,by rw[z];exact ho,hz,aa⟩
   ·trivial
  ·obtain⟨X,Q,hj⟩:=ab j W;obtain⟨c,z,_⟩:=ai j X Q hj;have aj:blk c=some b:=by simpa[Hd.of,z]using G
   have:=F.1 j c _ b z hj rfl aj;refine⟨this.1,?_,this.2.1⟩;rintro(O|hy)
   ·have:=r.e b O;omega
   ·exact this.2.2 hy
  ·obtain⟨X,Q,hj⟩:=ab j W;obtain⟨aJ,aD,aH⟩:=ab j' aI;obtain⟨c,z,_⟩:=ai j X Q hj;obtain⟨c2,C,_⟩:=ai j' aJ aD aH;exact F.2 j j' c c2 _ _ b z hj C aH rfl rfl (by simpa[Hd.of,z]using G) (by simpa[Hd.of,C]using aj)
open Go.RowKit
theorem Xv.HU(hg:w.grownBy w' none)(g:∀b,B b->b<w.heap.size):Xv B w w':=⟨hg.os,hg.tape,hg.output,hg.size,fun k hk=>hg.block k (g k hk) ab⟩
theorem av.ZA9(r:av T0 B σ a w ad h)(hf:σ.fresh d=true)(I:Array Value)(T:TypeId)(xs:List At)(O:U d xs=false)(aa:Yd (Yk (al T0 ad) h σ.ob w) xs I.toList):
  yO T0 B (σ.new d (.one (.O d 0)) [.box xs]) (a.put (some d) (.pointer (some ⟨w.heap.size,0,none⟩))) (w.alloc (.cells I T))/\Xv B w (w.alloc (.cells I T)):=by
 have hg:=World.grownBy_alloc w (.cells I T) none;have ac:=J.Vo hf;have hT:∀b k v,al T0 ad b k->w.cell? ⟨b,k,none⟩=some v->(w.alloc (.cells I T)).cell? ⟨b,k,none⟩=some v/\al T0 ad b k:=by intro b k v G ai;refine⟨?_,G⟩;rw[World.cell?_of_block (hg.block b (r.Tlt G) ab)];exact ai
 refine⟨⟨ad,fun t j=>if t=d then Hd.of (.pointer (some ⟨w.heap.size,0,none⟩))else h t j,?_⟩,Xv.HU hg r.d⟩;have hc:∀t j,t≠d->bz h (fun t j=>if t=d then Hd.of (.pointer (some ⟨w.heap.size,0,none⟩))else h t j) σ.ob (σ.new d (.one (.O d 0)) [.box xs]).ob t j:=by
  intro t j W;have he:(σ.new d (.one (.O d 0)) [.box xs]).ob t j=σ.ob t j:=eY
  exact bz.same aC he
 refine r.new hf hg (fun _ G=>G) (fun _ G=>.inl G) _ _ [.box xs] (fun _=>Hd.of _) ?_ (fun j=>?_) (fun j b _ G=>G) (fun j b _ G=>?_) (fun j j' b W aI _ _=>?_)
 ·exact⟨rfl,fun E _=>⟨w.heap.size,by simp[Hd.of],rfl⟩⟩
 ·cases j with
  |zero=>refine⟨w.heap.size,I,T,rfl,?_,Nw hT hc O aa⟩;exact heap_alloc_new w _
  |succ j=>simp[Y6,zf]
 ·simp[Hd.of,blk]at G;subst G;refine⟨Nat.le_refl _,fun aW=>?_,ab⟩;have:=(r.e _ aW).2;omega
 ·have:∀j,Y6 [Ob.box xs] j≠ .none->j=0:=by
   intro j hj;cases j with
   |zero=>rfl
   |succ j=>simp[Y6]at hj
  grind
theorem av.ZA2(r:av T0 B σ a w ad h)(hf:σ.fresh d=true)(hg:w.grownBy w' none)(v:Value)
  (ho:z9 (al T0 ad) w' v (.sl X Q)) (G:∀b,blk v=some b->w.heap.size<=b/\b<w'.heap.size):
  yO T0 B (σ.new d (.one (.E d 0 0 Q.length)) [.arr false X Q]) (a.put (some d) v) w'/\Xv B w w':=by
 have ac:=J.Vo hf;refine⟨⟨ad,fun t j=>if t=d then Hd.of v else h t j,?_⟩,Xv.HU hg r.d⟩;have ak:(σ.new d (.one (.E d 0 0 Q.length)) [.arr false X Q]).ob d 0= .arr false X Q:=cT;obtain⟨e,xs,aq,hz,aa⟩:=ho;refine r.new hf hg (fun _ G=>G) (fun _ G=>.inl G) _ _ [.arr false X Q] (fun _=>Hd.of v) ?_ (fun j=>?_) (fun j b _ G=>G) (fun j b _ aj=>?_) (fun j j' b W aI _ _=>?_)
 ·refine⟨qn aq,fun q' aJ aD p=>?_,fun aJ aD p=>by rw[ak]at p;cases p⟩;rw[ak]at p;cases p;simp;exact Hz aq
 ·cases j with
  |zero=>exact⟨e,xs,aq,hz,aa⟩
  |succ j=>simp[Y6,zf]
 ·have:=G b aj;refine⟨this.1,fun aW=>?_,this.2⟩;have:=(r.e _ aW).2;omega
 ·have:∀j,Y6 [Ob.arr false X Q] j≠ .none->j=0:=by
   intro j hj;cases j with
   |zero=>rfl
   |succ j=>simp[Y6]at hj
  grind
theorem av.ZC6(r:av T0 B σ a w ad h)(hf:σ.fresh d=true)(hg:w.grownBy w' none)(v:Value){e:TypeId}{xs:List Value}
  (aq:w'.ownsRow 0 e X v Q.length xs) (hz:∀r∈Q,r.length=X) (aa:z6 w' xs Q.flatten (fun _=>False)) (G:∀b,blk v=some b->w.heap.size<=b/\b<w'.heap.size):
  yO T0 B (σ.new d (.one (.E d 0 0 Q.length)) [.arr true X Q]) (a.put (some d) v) w'/\Xv B w w':=by
 have ac:=J.Vo hf;refine⟨⟨ad,fun t j=>if t=d then⟨v,fun k=>(xs[k]?).getD undef,fun b=>blk v=some b⟩else h t j,?_⟩,Xv.HU hg r.d⟩;have ak:(σ.new d (.one (.E d 0 0 Q.length)) [.arr true X Q]).ob d 0= .arr true X Q:=cT;refine r.new hf hg (fun _ G=>G) (fun _ G=>.inl G) _ _ [.arr true X Q] (fun _=>_) ?_ (fun j=>?_) (fun j b _ G=>G) (fun j b _ aj=>?_) (fun j j' b W aI _ _=>?_)
 ·refine⟨qn aq,fun q' aJ aD p=>?_,fun aJ aD p=>by rw[ak]at p;cases p⟩;rw[ak]at p;cases p;simp;exact Hz aq
 ·cases j with
  |zero=>obtain⟨hl,l,M,Z,h3⟩:=aa;exact⟨e,xs,aq,hz,⟨hl,l,M,fun k b hk=>(Z k b hk).elim,h3⟩,fun k x d O _ _=>by simp[O]⟩
  |succ j=>simp[Y6,zf]
 ·have:=G b aj;refine⟨this.1,fun aW=>?_,this.2⟩;have:=(r.e _ aW).2;omega
 ·have:∀j,Y6 [Ob.arr true X Q] j≠ .none->j=0:=by
   intro j hj;cases j with
   |zero=>rfl
   |succ j=>simp[Y6]at hj
  grind
theorem v4(r:av T0 B σ a w ad h){T:TypeId}{L:List At}(A:o.op= .alloc T)(hd:o.dst=some d)(hf:σ.fresh d=true)(hz:JN P T=true)(D:P8 P 12 T=some L)(ay:U d L=false)
  (hK:∀a' w',yO T0 B (σ.new d (.one (.O d 0)) [.box L]) a' w'->Xv B w w'->K a' w'):o.wp P a w K af:=by
 obtain⟨i,z,hi,j,aB,aa⟩:=pU hz D;have aE:(execOp a.eval o).run P w= .ok (.value (.pointer (some ⟨w.heap.size,0,none⟩))) (w.alloc (.cells z.cells T)):=by simp[execOp,A,Instr.alloc,zeroValue,typeInfo,hi,j,newVar,newRow]
 unfold Oper.wp;rw[aE,Oper.upon_value,hd];have:=r.ZA9 hf z.cells T L ay (aa _ _ _ _)
 grind
theorem l3(r:av T0 B σ a w ad h){T:TypeId}(A:o.op= .box T x)(hd:o.dst=some d)(hf:σ.fresh d=true)(hg:ap (look P σ T x)=true)(aG:(unc (look P σ T x)).flat=true)(ay:U d (unc (look P σ T x)).cells=false)
  (hK:∀a' w',yO T0 B (σ.new d (.one (.O d 0)) [.box (unc (look P σ T x)).cells]) a' w'->Xv B w w'->K a' w'):o.wp P a w K af:=by
 have aa:=OH aG (r.arg T x rfl hg);have aE:(execOp a.eval o).run P w= .ok (.value (.pointer (some ⟨w.heap.size,0,none⟩))) (w.alloc (.cells (a.eval x).cells T)):=by simp[execOp,A,Instr.box,newVar,newRow]
 unfold Oper.wp;rw[aE,Oper.upon_value,hd];have:=r.ZA9 hf (a.eval x).cells T _ ay aa
 grind
end Go.Vm
