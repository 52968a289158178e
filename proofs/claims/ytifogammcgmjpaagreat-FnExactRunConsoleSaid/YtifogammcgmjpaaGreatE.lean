/- The models of the program and of the reference agree. No condition. -/
import Derived.Test.YtifogammcgmjpaaGreatL
namespace Go.Mo
open Go.Vm
set_option linter.unusedSimpArgs false
set_option linter.unusedVariables false
variable{F:Nat->List ByteArray->Nat->List YF->List ZS->List Zy->Int->Int->List YE->List Int->List ZD->List Int->List Int->Int->List Int->(List ByteArray)×(List YF)×(List ZS)×(List Zy)×Int×Int×(List YE)×(List Int)×(List ZD)×(List Int)×(List Int)×Int×(List Int)}{L:Nat->Nat->Sum Bool Unit}{i ae k n j z:Nat}{c:Nat->Bool}{l r C:List Int}{a w:ByteArray}{A:List YF}{N:List Int×Bool}{x:ZO}{s d:Int}{E y p:ZK}
theorem cS(x:Int){α:Type}(a b:α):(bif decide (x<0)then a else b)=(bif decide (0<=x)then b else a):=by grind
/-- a loop that looks whether one of the places is bad -/
theorem iz{L:Nat->Nat->Sum Bool Unit}{ae:Nat}{c:Nat->Bool}(h0:∀v,L 0 v= .inr ())(U:∀n v,L (n+1) v=(bif decide ((v:Int)<(ae:Int))then(bif c v then .inl false else L n (v+1))else .inr ())):
  ∀n v,ae<n+v->(L n v= .inr ()/\∀i,v<=i->i<ae->c i=false)\/(L n v= .inl false/\∃i,v<=i/\i<ae/\c i=true)
 |0,v,h=>.inl ⟨h0 v,fun i M Z=>Y⟩
 |n+1,v,h=>by
  rw[U];by_cases hv:v<ae
  ·rw[show decide _=true by simpa using hv];cases hc:c v with
   |true=>exact .inr ⟨rfl,v,Nat.le_refl _,hv,hc⟩
   |false=>
    rcases iz h0 U n (v+1) Y with⟨e,k⟩|⟨e,i,k1,k2,k3⟩
    ·grind
    ·exact .inr ⟨e,i,Y,k2,k3⟩
  ·grind
/-- a loop that looks for the first place -/
theorem Un{β:Type}{L:Nat->Nat->Sum β Unit}{ae:Nat}{c:Nat->Bool}{r:Nat->β}(h0:∀v,L 0 v= .inr ())(U:∀n v,L (n+1) v=(bif decide ((v:Int)<(ae:Int))then(bif c v then .inl (r v)else L n (v+1))else .inr ())):
  ∀n v,ae<n+v->(L n v= .inr ()/\∀i,v<=i->i<ae->c i=false)\/(∃i,L n v= .inl (r i)/\v<=i/\i<ae/\c i=true/\∀k,v<=k->k<i->c k=false)
 |0,v,h=>.inl ⟨h0 v,fun i M Z=>Y⟩
 |n+1,v,h=>by
  rw[U];by_cases hv:v<ae
  ·rw[show decide _=true by simpa using hv];cases hc:c v with
   |true=>exact .inr ⟨v,rfl,Nat.le_refl _,hv,hc,fun k M Z=>Y⟩
   |false=>
    rcases Un h0 U n (v+1) Y with⟨e,k⟩|_
    ·grind
    ·grind
  ·grind
/-- the same, as a Boolean -/
theorem Qk(h0:∀v,L 0 v= .inr ())(U:∀n v,L (n+1) v=(bif decide ((v:Int)<(ae:Int))then(bif c v then .inl false else L n (v+1))else .inr ()))(n v:Nat)(h:ae<n+v)(ad:Bool):
  (match L n v with|.inl r=>r|.inr _=>ad)=true↔(∀i,v<=i->i<ae->c i=false)/\ad=true:=by
 rcases iz h0 U n v h with⟨e,k⟩|_
 ·grind
 ·grind
theorem Ep(h0:∀v,L 0 v= .inr ())(U:∀n v,L (n+1) v=(bif decide ((v:Int)<(ae:Int))then(bif c v then .inl true else L n (v+1))else .inr ()))(n v:Nat)(h:ae<n+v):
  (match L n v with|.inl r=>r|.inr _=>false)=true↔∃i,v<=i/\i<ae/\c i=true:=by
 rcases Un h0 U n v h with⟨e,k⟩|⟨i,e,k1,k2,k3,k4⟩
 ·grind
 ·rw[e];exact⟨fun _=>⟨i,k1,k2,k3⟩,fun _=>rfl⟩
theorem sT{α:Type}[Inhabited α]{l:List α}(h:i<n):I (l.take n) i=I l i:=by unfold I;simp[h]
theorem sH{α β:Type}[Inhabited α][Inhabited β]{f:α->β}{l:List α}(h:i<l.length):I (l.map f) i=f (I l i):=by simp[I,List.getElem?_eq_getElem h]
@[simp] theorem Ff (A C : Int) : VU A C = if C < A then C else A := by
 unfold VU;by_cases h:C<A<;>simp
@[simp] theorem VC (A C E : Int) : Z1 A C E = ZW A C E := rfl
@[simp] theorem ZCo (A : YE) : yw A = zi A := by simp [yw, zi]
@[simp] theorem ZB8 (A : List YF) (C : Int) : ∀ (n : Nat) (z : Nat), S6 A C n z = SS A C n z := by
 intro n;induction n with
 |zero=>intros;rfl
 |succ n ih=>intros;simp[S6,SS,ih,ByteArray.append_assoc]
@[simp] theorem Wf (A : List YF) (C : Int) : Zz A C = YA A C := by simp [Zz, YA]
@[simp] theorem ZEw (A : Int) (C : Int) : fG A C = gy A C := by simp [fG, gy]
@[simp] theorem ZDw (A : List Int) : ∀ (n : Nat) (z : Int) (a : Nat), EO A n z a = Fm A n z a := by
 intro n;induction n with
 |zero=>intros;rfl
 |succ n ih=>intros;simp[EO,Fm,ih,ByteArray.append_assoc]
@[simp] theorem ZEs (A : List Int) : wX A = vH A := by simp [wX, vH]
@[simp] theorem wp (A : Int) (C : List Int) : ki A C = kx A C := by simp [ki, kx]
@[simp] theorem ZCa (A : YF) (C : List Int) : WG A C = Mb A C := by simp [WG, Mb]
@[simp] theorem ZCc (A : YE) : V7 A = VZ A := by simp [V7, VZ]
@[simp] theorem ZDl (A : Int) : W7 A = qI A := rfl
@[simp] theorem LR (A : o) : y7 A = Yy A := by simp [y7, Yy]
@[simp] theorem ZD4 (A : YE) : Im A = I7 A := by simp [Im, I7]
@[simp] theorem ZBg (A : List YF) (C : YE) : ks A C = Sl A C := by
 by_cases h:YA A C.e<0<;>simp[ks,Sl,zC,h]
theorem o7:Ud 4 0 []=PJ:=aL
theorem oL:U3 5 0 []=zh:=aL
@[simp] theorem DP (A : Int) : Yj A = YK A := by
 have hk:kI=KG:=aL;have hm:Pg=Jf:=aL;unfold Yj YK;rw[o7,oL,hm];simp only[zX];by_cases M:A<1
 ·by_cases Z:A>0
  ·omega
  ·simp[Z];first|done|grind|(split<;>simp_all<;>omega)
 ·simp;first|done|grind|(split<;>simp_all<;>omega)
theorem hL(b:UInt8)(l:List UInt8):(ByteArray.mk [b].toArray)++ByteArray.mk l.toArray=ByteArray.mk ((b::l).toArray):=by apply ByteArray.ext;simp
theorem rJ:∀(n:Nat)(x:Int)(l:List UInt8),x≠0->(n=21\/x.natAbs<10^n)->zz (n+1) ⟨l.toArray⟩ x=⟨(JC n x l).toArray⟩
 |0,x,l,O,h=>by
  rcases h with h|h
  ·omega
  ·simp at h;exact absurd h O
 |n+1,x,l,O,h=>by
  have G:(x !=0)=true:=by simpa using O
  have hn:=oG h;have fin:∀w,zz (n+1) w 0=w:=fun w=>rfl;rw[zz,G,JC];cases decide (x.tmod 10<0)<;>simp only[cond_true,cond_false]
  ·by_cases hz:W (x.tdiv 10)=0
   ·rw[hz,show((0:Int)==0)=true from rfl,hL];rfl
   ·rw[show(W _==0)=false by simpa using hz,rJ n _ _ hz (.inr hn)];rfl
  ·by_cases hz:W (x.tdiv 10)=0
   ·rw[hz,show((0:Int)==0)=true from rfl,hL];rfl
   ·rw[show(W _==0)=false by simpa using hz,rJ n _ _ hz (.inr hn)];rfl
@[simp] theorem qC (A : Int) : XK A = Zu A := by
 unfold XK;by_cases h:A=0
 ·subst h;rfl
 ·rw[show(A==0)=false by simpa using h];have:=rJ 21 A [] h (.inl rfl)
  rw[this];rfl
theorem ro(b:ByteArray)(i:Nat):a7 b i<256:=UInt8.toNat_lt _
theorem G0(A:ByteArray):∀n x v,xP A n x v=xL A n x v
 |0,_,_=>rfl
 |n+1,x,v=>by
  have h:(!(Z1 (W ((a7 A v):Int)) 48 57))=((decide (((a7 A v):Int)<48))||(decide (((a7 A v):Int)>57))):=by have G:=ro A v;rw[show W _=((a7 A v):Int)by rw[Xf];omega,VC,Bool.eq_iff_iff];unfold ZW;rw[Bool.not_eq_true',Bool.and_eq_false_iff,Bool.or_eq_true,decide_eq_true_iff,decide_eq_true_iff,decide_eq_false_iff_not,decide_eq_false_iff_not];omega
  simp only[xP,xL,G0 A n,h]
@[simp] theorem Ds (A : ByteArray) : Xh A = XS A := by
 have h:(!(Z1 (A.size:Int) 1 13))=((decide (A=(⟨#[]⟩:ByteArray)))||(decide ((A.size:Int)>13))):=by have e:A=⟨#[]⟩↔A.size=0:=⟨fun h=>by rw[h];rfl,fun h=>ByteArray.ext (Array.eq_empty_of_size_eq_zero h)⟩;rw[VC,Bool.eq_iff_iff];unfold ZW;rw[Bool.not_eq_true',Bool.and_eq_false_iff,Bool.or_eq_true,decide_eq_true_iff,decide_eq_true_iff,decide_eq_false_iff_not,decide_eq_false_iff_not,e];omega
 unfold Xh XS;simp only[h,G0,qC]
@[simp] theorem ZA (A : Int) : U1 A = Wl A := by simp [U1, Wl]
@[simp] theorem Mv (A C : Int) : zX A C = if C > A then C else A := by
 unfold zX;by_cases h:C>A<;>simp
@[simp] theorem Gi (A : ZO) : J6 A = QC A := by
 rw[Bool.eq_iff_iff];have U:J6 A=true↔_:=(Qk (L:=yU A) (fun _=>rfl) (fun _ _=>rfl) (A.b.length+1) 0 Y _).trans (and_congr_right fun _=>Qk (L:=yb A) (fun _=>rfl) (fun _ _=>rfl) (A.d.length+1) 0 Y _)
 rw[U];unfold QC;have hi:∀b:Bool,(bif b then false else _)=true↔b=false/\_:=fun b=>by
  cases b
  ·exact(Qk (L:=RJ A) (fun _=>rfl) (fun _ _=>rfl) (A.b.length+1) 0 Y true).trans (by simp;exact Iff.rfl)
  ·simp
 refine Iff.trans ?_ (hi _).symm;simp;grind
theorem NF(A:Int)(C:List ByteArray)(E:Int):∀n v l,zn A C E n v l=zl A C E n v l
 |0,_,_=>rfl
 |n+1,v,l=>by simp only[zn,zl,NF A C E n,wp,show ∀x y,zX x y=pB x y from fun x y=>by rw[Mv];rfl]
@[simp] theorem B2 (A : Int) (C : List ByteArray) (E : Int) : QM A C E = Xn A C E := by
 unfold QM Xn;simp only[NF,Gi,ZA];cases Wl E with
 |false=>simp
 |true=>
  cases h:QC _ with
  |false=>simp
  |true=>
   have hl:C.length<=6:=by unfold QC at h;simp only[ZW]at h;grind
   rw[decide_eq_false (show ¬(C.length:Int)>6 by omega)];rfl
@[simp] theorem ZCd (A : P) (C : Int) : V5 A C = WE A C := by simp [V5, WE]
@[simp] theorem zat (A : List Zy) (C : Int) : ∀ (n : Nat) (z : Int) (a : Nat), jz A C n z a = kF A C n z a := by
 intro n;induction n with
 |zero=>intros;rfl
 |succ n ih=>intros;simp[jz,kF,ih,ByteArray.append_assoc]
@[simp] theorem Oz (A : List Zy) (C : Int) : Zv A C = Zj A C := by simp [Zv, Zj]
@[simp] theorem Fl (A : P) (C : Int) : J8 A C = Z5 A C := by simp [J8, Z5]
@[simp] theorem v0 (A : Int) (C : List Int) : KB A C = Kg A C := by simp [KB, Kg]
theorem BY(C:ByteArray):∀(n:Nat)(p l:List Int)(v:Nat),C.size<n+v->v<=C.size->VY C n (p++l) v=p++UH C.data.toList n l v:=by
 intro n;induction n with
 |zero=>intro p l v h hv;omega
 |succ n ih=>
  intro p l v h D;have U:C.size=C.data.toList.length:=(Array.length_toList).symm
  rw[VY,UH,<-U];by_cases hv:v<C.size
  ·rw[show decide _=true by simpa using hv];rw[List.append_assoc,ih p _ _ Y Y];rfl
  ·grind
@[simp] theorem Gl (A : Int) (C : ByteArray) (E : Int) : jQ A C E = WJ A C E := by
 have:=BY C (C.size+1) [E] [] 0 ab ab;simp at this;simp only[jQ,this,v0];rfl
@[simp] theorem zaU (A : Int) (C : ZO) : ∀ (n : Nat) (z : List Int) (a : Nat), TM A C n z a = TX A C n z a := by
 intro n;induction n with
 |zero=>intros;rfl
 |succ n ih=>intros;simp[TM,TX,ih,ByteArray.append_assoc]
@[simp] theorem EW (A : Int) (C : ZO) : JG A C = Y0 A C := by simp [JG, Y0]
@[simp] theorem zao (A : G) : Qg A = QH A := by simp [Qg, QH]
@[simp] theorem wT (A : G) : xh A = yK A := by simp [xh, yK]
@[simp] theorem ZAo (A : List YF) (C : G) : xM A C = Xl A C := by
 by_cases h:YA A C.a<0<;>simp[xM,Xl,zC,h]
@[simp] theorem ZCG (A : G) : Xu A = XQ A := by simp [Xu, XQ]
@[simp] theorem ZBK (A : YE) : Sy A = yZ A := by simp [Sy, yZ]
@[simp] theorem Z8 (A : ZD) (C : Int) : ∀ (n : Nat) (z : Nat), Uq A C n z = WK A C n z := by
 intro n;induction n with
 |zero=>intros;rfl
 |succ n ih=>intros;simp[Uq,WK,ih,ByteArray.append_assoc]
@[simp] theorem Du (A : ZD) (C : Int) : XY A C = Z3 A C := by simp [XY, Z3]
@[simp] theorem ZV (A C : List Int) : LN A C = decide (A = C) := g5 (fun i => by simp [bne, Bool.beq_eq_decide_eq]) (fun _ => rfl) (fun _ _ => rfl)
@[simp] theorem ZAy (A C : List Int) : M6 A C = decide (A = C) := g5 (fun i => by simp [bne, Bool.beq_eq_decide_eq]) (fun _ => rfl) (fun _ _ => rfl)
@[simp] theorem A3 (A C : ZK) : jl A C = decide (A = C) := by
 obtain⟨t,p,s⟩:=A;obtain⟨t',p',J⟩:=C;by_cases M:t=t'<;>by_cases Z:p=p'<;>by_cases h3:s=J<;>simp_all[jl]
@[simp] theorem Iq (A C : ZK) : xk A C = decide (A = C) := by
 obtain⟨t,p,s⟩:=A;obtain⟨t',p',J⟩:=C;by_cases M:t=t'<;>by_cases Z:p=p'<;>by_cases h3:s=J<;>simp_all[xk]
theorem G7(A:ZR)(hk:k<A.b.length):decide (xW A (I A.b k)<(k:Int))=Ji (A.b.take k) (I A.b k):=by
 rw[Bool.eq_iff_iff];have hi:Ji (A.b.take k) (I A.b k)=true↔_:=Ep (fun _=>rfl) (fun _ _=>rfl) _ 0 Y
 rw[hi];unfold xW;have hl:(A.b.take k).length=k:=a0
 rw[hl];rcases Un (L:=VH A (I A.b k)) (r:=fun i=>(i:Int)) (fun _=>rfl) (fun _ _=>rfl) (A.b.length+1) 0 Y with⟨e,p⟩|⟨i,e,p1,p2,p3,p4⟩
 ·have:=p k (Nat.zero_le _) hk;simp at this
 ·rw[e];simp only[decide_eq_true_eq];constructor
  ·intro h;exact⟨i,Nat.zero_le _,Y,by rw[sT Y];simpa using p3⟩
  ·rintro⟨j,_,hj,hc⟩;rw[sT hj]at hc;rcases Nat.lt_or_ge j i with h|h
   ·have:=p4 j (Nat.zero_le _) h;simp at this hc;exact absurd hc this
   ·omega
@[simp] theorem ZCj (A : ZR) : Wd A = WR A := by
 rw[Bool.eq_iff_iff];have U:Wd A=true↔_:=(Qk (fun _=>rfl) (fun _ _=>rfl) (A.b.length+1) 0 Y _).trans (and_congr_right fun _=>Qk (fun _=>rfl) (fun _ _=>rfl) (A.a.length+1) 0 Y _)
 rw[U];unfold WR;have hi:∀b:Bool,(bif b then false else _)=true↔b=false/\_:=fun b=>by
  cases b
  ·exact((Qk (L:=NZ A) (fun _=>rfl) (fun _ _=>rfl) (A.b.length+1) 0 Y _).trans (and_congr_right fun _=>Qk (L:=Nd A) (fun _=>rfl) (fun _ _=>rfl) (A.a.length+1) 0 Y true)).trans dR
  ·simp
 refine Iff.trans ?_ (hi _).symm;simp only[VC,Bool.or_eq_false_iff,Bool.not_eq_false',Bool.and_eq_true,Bool.not_false];constructor
 ·rintro⟨M,Z,h3,h4⟩;exact⟨⟨h3,by simpa using h4⟩,fun i hz hi=>by rw[<-G7 A hi];exact M i hz hi,fun i hz hi=>by simpa using Z i hz hi⟩
 ·rintro⟨⟨h3,h4⟩,M,Z⟩;exact⟨fun i hz hi=>by rw[G7 A hi];exact M i hz hi,fun i hz hi=>by simpa using Z i hz hi,h3,by simpa using h4⟩
@[simp] theorem ZEC (A : ZU) : HZ A = Is A := by simp [HZ, Is]
@[simp] theorem ZAJ (A : ZD) : ∀ (n : Nat) (z : Nat), TQ A n z = TP A n z := by
 intro n;induction n with
 |zero=>intros;rfl
 |succ n ih=>intros;simp[TQ,TP,ih,ByteArray.append_assoc]
@[simp] theorem MF (A : ZD) : Jg A = Kj A := by simp [Jg, Kj]
theorem pD{l:List ZU}(h:i<l.length):l.drop i=I l i::l.drop (i+1):=by rw[List.drop_eq_getElem_cons h];simp[I,List.getElem?_eq_getElem h]
theorem iG(A:ZD)(C:ZU):∀(m i:Nat)(l:List ZU),A.a.length<m+i->i<=A.a.length->JY A C m true i l=(true,l++A.a.drop i)
 |0,i,l,h,hi=>Y
 |m+1,i,l,h,hi=>by
  simp only[JY];cases hc:decide ((i:Int)<_)with
  |false=>grind
  |true=>have ac:i<A.a.length:=bE;simp;rw[iG A C m (i+1) _ Y ac,pD ac];simp
theorem hP(A:ZD)(C:ZU)(W:∀k,k<A.a.length->(I A.a k).b≠C.b):∀(m i:Nat)(l:List ZU),A.a.length<m+i->i<=A.a.length->
  i<=QJ A C m i/\QJ A C m i<=A.a.length/\
  JY A C m false i l=(bif decide (QJ A C m i<A.a.length)then(true,l++(A.a.take (QJ A C m i)).drop i++[C]++A.a.drop (QJ A C m i))else(false,l++A.a.drop i))
 |0,i,l,h,hi=>Y
 |m+1,i,l,h,hi=>by
  by_cases ac:i<A.a.length
  ·have hc:decide ((i:Int)<(A.a.length:Int))=true:=by simpa using ac
   have hn:=W i ac;by_cases b:C.b<(I A.a i).b
   ·have H:QJ A C (m+1) i=i:=by simp only[QJ,hc,show decide ((I A.a i).b<C.b)=false by simp;omega,Bool.true_and,cond_false]
    rw[H];refine⟨Nat.le_refl _,Y,?_⟩;simp only[JY,hc,show decide _=true by simpa using b,Bool.not_false,Bool.true_and,cond_true];rw[iG A C m (i+1) _ Y ac,show decide _=true by simpa using ac,pD ac];simp
   ·have Z:(I A.a i).b<C.b:=Y;have H:QJ A C (m+1) i=QJ A C m (i+1):=by simp only[QJ,hc,show decide _=true by simpa using Z,Bool.true_and,cond_true]
    rw[H];obtain⟨k1,k2,k3⟩:=hP A C W m (i+1) _ Y ac;simp only[JY,hc,Bool.not_false,Bool.true_and,cond_true,cond_false];rw[k3];have ht:(A.a.take (QJ A C m (i+1))).drop i=I A.a i::(A.a.take (QJ A C m (i+1))).drop (i+1):=by have aD:i<(A.a.take (QJ A C m (i+1))).length:=a0;rw[pD aD];congr 1;simp only[I,List.getD_eq_getElem?_getD];grind
    grind
  ·have hc:decide ((i:Int)<(A.a.length:Int))=false:=by simpa using ac
   have H:QJ A C (m+1) i=i:=by simp only[QJ,hc,Bool.false_and,cond_false]
   rw[H];simp only[JY,hc,cond_false];grind
theorem tY{A:ZD}(h:Z3 A s<0):∀k,k<A.a.length->(I A.a k).b≠s:=by
 unfold Z3 at h;intro k hk;rcases Un (L:=WK A s) (fun _=>rfl) (fun _ _=>rfl) (A.a.length+1) 0 ab with⟨e,Z⟩|⟨i,e,_,_,hc,_⟩
 ·simpa using Z k (Nat.zero_le _) hk
 ·rw[e]at h;simp at h;omega
@[simp] theorem Cu (A : ZD) (C : ZU) : J7 A C = JS A C := by
 simp only[J7,JS,MF,Du];rw[Bool.or_comm];cases hc:(decide (Z3 A C.b>=0)||!Kj A)with
 |true=>rfl
 |false=>
  have hf:Z3 A C.b<0:=by simp at hc;exact hc.1
  obtain⟨_,k2,k3⟩:=hP A C (tY hf) (A.a.length+1) 0 [] ab (Nat.zero_le _);grind
def cG(A:P)(E:Int)(N:ZO)(T:Int)(v:Nat):G×Bool:=Xl A.b.a (G.mk E (I A.c v).b (Zj A.b.c A.b.d) (Y0 (Zj A.b.c A.b.d) N) 1 T 0 0 0)
def ey(A:P)(E:Int)(N:ZO)(T a5:Int)(v:Nat):ZU:=ZU.mk A.h a5 N (cG A E N T v).1 (ZR.mk ([XQ (cG A E N T v).1,yZ (I A.c v)]:List ZK) ([]:List ZZ))
def fs(A:P)(C:Int)(a:ZU):P:=P.mk A.b A.c A.d (A.a.set C.toNat (JS (I A.a C.toNat) a).1) A.e A.f (W (A.h+1)) A.g
def c6(A:P)(C:Int)(b:Bool)(a:ZU):P×Bool:=bif(!b)||!(JS (I A.a C.toNat) a).2 then(A,false)else(fs A C a,true)
theorem lA(A:P)(C E:Int)(N:ZO)(T a5:Int):
  ∀(m v:Nat),(match Qu A C E N T a5 m v with|.inl r1=>r1|.inr _=>(A,false))=(match yC A E m v with|.inl k=>c6 A C (cG A E N T k.toNat).2 (ey A E N T a5 k.toNat)|.inr _=>(A,false))
 |0,v=>rfl
 |m+1,v=>by
  have ih:=lA A C E N T a5 m (v+1);simp only[Qu,yC];cases decide ((v:Int)<_)with
  |false=>rfl
  |true=>
   simp only[cond_true,bne];cases((I A.c v).a==E)with
   |false=>exact ih
   |true=>
    simp only[cond_true,cond_false];show(match(bif((!(cG A E N T v).2)||!(JS _ (ey A E N T a5 v)).2)then(Sum.inl (A,false):Sum (P×Bool) Unit)else .inl (fs A C (ey A E N T a5 v),true))with|.inl r1=>r1|.inr _=>(A,false))=c6 A C (cG A E N T v).2 _
    unfold c6;grind
theorem k3(A:P)(E:Int):∀(m v:Nat),yC A E m v= .inr ()\/∃k:Nat,yC A E m v= .inl (k:Int)
 |0,v=>.inl rfl
 |m+1,v=>by have ih:=k3 A E m (v+1);simp only[yC];grind
theorem rd(A:P)(C:Int)(E:ZO)(N T:Int):QV A C E N T=bif((decide (Zj A.b.c A.b.d<0))||(decide (QL A C<0)))then(ZU.mk 0 0 (ZO.mk 0 ([]:List ByteArray) ([]:List Int)) (G.mk 0 0 0 0 0 0 0 0 0) (ZR.mk ([]:List ZK) ([]:List ZZ)),false)else(ey A C E N T (QL A C).toNat,(cG A C E N (QL A C).toNat).2):=by unfold QV;simp;rfl
theorem vh(A:P)(C E:Int)(N:ZO)(T a5:Int):XZ A C E N T a5=bif((!(Z5 A C))||(decide (YA A.b.a E<0)))then(A,false)else c6 A C (QV A E N T a5).2 (QV A E N T a5).1:=by
 unfold XZ;cases((!(Z5 A C))||(decide (YA A.b.a E<0)))with
 |true=>rfl
 |false=>
  rw[rd];simp only[Bool.false_or,cond_false];refine Eq.trans (congrArg (fun z=>bif decide _ then(A,false)else z) (lA A C E N T a5 (A.c.length+1) 0)) ?_;cases decide (Zj A.b.c A.b.d<0)with
  |true=>rfl
  |false=>
   rcases k3 A E (A.c.length+1) 0 with h|⟨k,h⟩
   ·rw[h,show QL A E=-1 by unfold QL;rw[h]];rfl
   ·rw[h,show QL A E=(k:Int)by unfold QL;rw[h]];grind
theorem v2(A:P)(C:Int)(b:Bool)(a:ZU):(bif !b then(A,false)else(bif !(JS (I A.a C.toNat) a).2 then(A,false)else(fs A C a,true)))=c6 A C b a:=by cases b<;>rfl
@[simp] theorem ZCf (A : P) (C E : Int) (N : ZO) (T a5 : Int) : UY A C E N T a5 = qQ A C E N T a5 := by
 unfold UY qQ;simp only[Fl,Wf,Cu];rw[vh,<-v2];cases decide (YA A.b.a E<0)<;>cases(Z5 A C)<;>cases decide ((I A.b.a (YA A.b.a E).toNat).a>A.b.d)<;>rfl
@[simp] theorem ZCe (A : P) (C : Int) : ∀ (n : Nat) (z : Nat), SH A C n z = SQ A C n z := by
 intro n;induction n with
 |zero=>intros;rfl
 |succ n ih=>intros;simp[SH,SQ,ih,ByteArray.append_assoc]
@[simp] theorem OI (A : P) (C : Int) : u A C = S A C := by simp [u, S]
@[simp] theorem ZAI (A : ZK) : QE A = YX A := by
 simp only[QE,YX,VC];grind
@[simp] theorem ww (A : ZK) : Zh A = XU A := by simp [Zh, XU]
@[simp] theorem ZAj (A : List YE) (C : Int) : ∀ (n : Nat) (z : Nat), Uj A C n z = WD A C n z := by
 intro n;induction n with
 |zero=>intros;rfl
 |succ n ih=>intros;simp[Uj,WD,ih,ByteArray.append_assoc]
@[simp] theorem De (A : List YE) (C : Int) : YQ A C = Jc A C := by simp [YQ, Jc]
@[simp] theorem ZAf (A : Zn) : yF A = K6 A := by simp [yF, K6]
@[simp] theorem ZCh (A : Zn) : MM A = N6 A := by simp [MM, N6]
@[simp] theorem tn (A : List YF) (C : Zn) : Y8 A C = Xp A C := by
 by_cases h:YA A C.e<0<;>simp[Y8,Xp,zC,h]
theorem MX{C:Zn}(h:(Xp A C).2=true):0<=YA A C.e:=by have:=Zm (C:=C) cx;simpa using this
@[simp] theorem wb (A : Zn) : XO A = Q8 A := by simp [XO, Q8]
@[simp] theorem ZCm (A : ZR) (C : ZK) : Wp A C = qJ A C := by simp [Wp, qJ]
@[simp] theorem oW (A : ZD) (C : Int) (E : ZK) : QD A C E = Qp A C E := by simp [QD, Qp]
theorem gL{α:Type}[Inhabited α](l:List α)(i:Nat):l.set i (I l i)=l:=by
 rcases Nat.lt_or_ge i l.length with h|h
 ·simp[I,List.getElem?_eq_getElem h]
 ·exact List.set_eq_of_length_le h
theorem rW{A:ZD}{C:Int}(h:(Qp A C E).2=false):(Qp A C E).1=A:=by
 unfold Qp at h⊢;cases hf:decide (Z3 A C<0)with
 |true=>rfl
 |false=>
  simp at h⊢;have hp:(qJ (I A.a (Z3 A C).toNat).a E).1=(I A.a (Z3 A C).toNat).a:=by unfold qJ at h⊢;grind
  rw[hp,gL]
theorem lL(A:P)(i id:Int)(l:Zn):(bif(Xp A.b.a l).2 then(P.mk A.b A.c A.d (A.a.set i.toNat (Qp (I A.a i.toNat) id (Q8 (Xp A.b.a l).1)).1) A.e A.f A.h A.g,(Qp (I A.a i.toNat) id (Q8 (Xp A.b.a l).1)).2)else(A,false))=KE A i id l:=by
 unfold KE;cases hm:(Xp A.b.a l).2 with
 |false=>rfl
 |true=>
  cases ha:(Qp _ id _).2 with
  |true=>rfl
  |false=>rw[rW ha,gL];rfl
theorem DK(l:List YE)(s:Int)(h:0<=Jc l s):(I l (Jc l s).toNat).b=s:=by
 unfold Jc at h⊢;rcases Un (L:=WD l s) (fun _=>rfl) (fun _ _=>rfl) (l.length+1) 0 ab with⟨e,_⟩|⟨i,e,_,_,hc,_⟩
 ·rw[e]at h;simp at h
 ·rw[e];simpa using hc
theorem vp{a b c:Bool}:((!(a&&b))||c)=((!a||!b)||c):=by cases a<;>cases b<;>rfl
@[simp] theorem ZAd (A : P) (C : Int) : jX A C = xD A C := by
 unfold jX xD Yr;simp;cases M:(_||_)with
 |true=>rfl
 |false=>
  simp only[cond_false];generalize XU _=p;rw[vp,show(!(decide _))=decide (Jc A.c p.1.b<0)by rw[<-decide_not];simp];cases Z:(_||decide (Jc A.c p.1.b>=_))with
  |true=>rfl
  |false=>
   have hn:0<=Jc A.c p.1.b:=by simp at Z;exact Z.1.2
   rw[DK _ _ hn];have ag:∀(n:Nat)(l:Zn),l.e=(I A.c n).e->
     (bif((!(Xp A.b.a l).2)||(decide ((I A.b.a (YA A.b.a (I A.c n).e).toNat).a>A.b.d)))then(A,false)else(P.mk A.b A.c A.d (A.a.set (S A C).1.toNat (Qp (I A.a (S A C).1.toNat) C (Q8 (Xp A.b.a l).1)).1) A.e A.f A.h A.g,(Qp (I A.a (S A C).1.toNat) C (Q8 (Xp A.b.a l).1)).2))=
     (bif((decide (YA A.b.a (I A.c n).e<0))||(decide ((I A.b.a (YA A.b.a (I A.c n).e).toNat).a>A.b.d)))then(A,false)else((KE A (S A C).1 C l).1,(KE A (S A C).1 C l).2)):=by
    intro n l ar;rw[<-lL];cases G:decide ((I A.b.a (YA A.b.a (I A.c n).e).toNat).a>A.b.d)with
    |true=>simp
    |false=>
     cases hm:(Xp A.b.a l).2 with
     |false=>simp
     |true=>have hp:=MX hm;rw[ar]at hp;rw[show decide _=false by simp;exact hp];rfl
   grind
@[simp] theorem ZAp (A : P) (C : Int) : qz A C = xB A C := by simp [qz, xB]
@[simp] theorem ZP (A : ZX) : yf A = zW A := by simp [yf, zW]
@[simp] theorem zai (C : ZZ) : ∀ (n : Nat) (z : List Int) (a : Nat), qv C n z a = jR C n z a := by
 intro n;induction n with
 |zero=>intros;rfl
 |succ n ih=>intros;simp[qv,jR,ih,ByteArray.append_assoc]
@[simp] theorem zab (C : ZZ) : ∀ (n : Nat) (z : List Int) (a : Nat), yi C n z a = yj C n z a := by
 intro n;induction n with
 |zero=>intros;rfl
 |succ n ih=>intros;simp[yi,yj,ih,ByteArray.append_assoc]
@[simp] theorem CY (A : Int) (C : ZZ) : yv A C = KY A C := by simp [yv, KY]
@[simp] theorem zav (A : Int) (C : List ZK) : ∀ (n : Nat) (z : List Int) (a : Nat), kG A C n z a = kD A C n z a := by
 intro n;induction n with
 |zero=>intros;rfl
 |succ n ih=>intros;simp[kG,kD,ih,ByteArray.append_assoc]
@[simp] theorem zag (A : Int) (C : List ZK) : yY A C = yd A C := by simp [yY, yd]
@[simp] theorem sD (A : Int) (C : Int) (E : List ZK) (N : Int) : Hg A C E N = OO A C E N := by simp [Hg, OO]
theorem Ao(A:ZR)(C:ZO):J2 A C=A.a.map (fun c=>JG c.c C):=by have:=qu (as:=A.a) (fun c=>[JG c.c C]) (F:=fun n i l=>yN A C n l i) (fun _ _ _=>rfl) (A.a.length+1) 0 [] ab (Nat.zero_le _);unfold J2;rw[this,PB];rfl
theorem iB{α:Type}[Inhabited α](l:List α)(x:α):I (l++[x]) l.length=x:=by simp[I]
theorem x9{α:Type}[Inhabited α](l:List α)(x:α)(h:i<l.length):I (l++[x]) i=I l i:=by simp[I,List.getElem?_append_left h]
theorem li(x:ZU)(C:Int)(h:R maxLen x)(r:ZZ)(hr:r=ZZ.mk (x.a.b.length:Int) C 0 [] []):
  TO (ZR.mk x.a.b (x.a.a++[r])) (J2 (ZR.mk x.a.b (x.a.a++[r])) x.c) (W (((x.a.a++[r]).length:Int)-1))=KM x C:=by
 have hl:=Zx (ZR.QK (ZU.YM h));have hm:maxLen=9223372036854775807:=au;have H:W (((x.a.a++[r]).length:Int)-1)=(x.a.a.length:Int):=by rw[List.length_append,List.length_singleton,Xf];omega
 have e2:I (x.a.a++[r]) x.a.a.length=r:=iB _ _;have e3:I ((x.a.a++[r]).map (fun c=>Y0 c.c x.c)) x.a.a.length=Y0 r.c x.c:=by rw[List.map_append];have:=iB (x.a.a.map (fun c=>Y0 c.c x.c)) (Y0 r.c x.c);rw[List.length_map]at this;exact this
 have b:r.d=(x.a.b.length:Int):=by rw[hr]
 have d:r.c=C:=by rw[hr]
 unfold TO KM;rw[H,Ao];simp only[Int.toNat_natCast,H,e2,e3,b,d,VC,ZW,List.length_map,bne_self_eq_false,Int.le_refl,decide_true,Bool.and_true,Int.natCast_nonneg,Bool.not_true,Bool.or_false,cond_false,List.take_length,sD,EW,CY];by_cases hz:0<x.a.a.length
 ·have a:W ((x.a.a.length:Int)-1)=((x.a.a.length-1:Nat):Int):=by rw[GR _ Y];omega
  rw[a,Int.toNat_natCast,x9 _ _ Y]
 ·grind
theorem vR(A:ZD)(C:Int)(h:R maxLen A):∀n l i,yH A C n l i=VN A C n l i
 |0,_,_=>rfl
 |n+1,l,i=>by simp only[yH,VN,vR A C h n,li _ C (ZY (ZD.Z8 h)) _ rfl]
@[simp] theorem Fi (A : ZD) (C : Int) (h : R maxLen A) : Yl A C = JU A C := by
 simp only[Yl,JU,vR A C h]
@[simp] theorem u6 (A : Int) (C : Int) (E : Int) : WH A C E = WV A C E := by simp [WH, WV]
theorem C0(A:Int)(C:List Int):∀n v i,S7 A C n v i=yP A C n v i
 |0,_,_=>rfl
 |n+1,v,i=>by simp only[S7,yP,C0 A C n,u6]
@[simp] theorem ox (A : Int) (C : List Int) : Pp A C = yB A C := by simp only [Pp, yB, C0]
@[simp] theorem ZAc (A : Int) : ∀ (n : Nat) (z : List Int), RI A n z = Rc A n z := by
 intro n;induction n with
 |zero=>intros;rfl
 |succ n ih=>intros;simp[RI,Rc,ih,ByteArray.append_assoc]
@[simp] theorem Lz (A : Int) (C : List Int) : yz A C = PE A C := by simp [yz, PE]
@[simp] theorem vJ (A : ZD) (C : Int) (h : R maxLen A) : kR A C = Kk A C := by
 simp only[kR,Kk,Fi A C h,Lz]
@[simp] theorem zak (A : List ZS) (C : Int) : ∀ (n : Nat) (z : Nat), yo A C n z = K8 A C n z := by
 intro n;induction n with
 |zero=>intros;rfl
 |succ n ih=>intros;simp[yo,K8,ih,ByteArray.append_assoc]
@[simp] theorem Wi (A : List ZS) (C : Int) : Zp A C = Zo A C := by simp [Zp, Zo]
theorem AA(A:List Int)(C:Int):y6 A C=true↔∃i,0<=i/\i<A.length/\(I A i==C)=true:=by
 unfold y6 Kl;rcases Un (L:=Sc A C) (fun _=>rfl) (fun _ _=>rfl) (A.length+1) 0 ab with⟨e,p⟩|_
 ·grind
 ·grind
@[simp] theorem CA (A : List Int) (C : Int) : Tl A C = y6 A C := by
 rw[Bool.eq_iff_iff,AA];exact Ep (fun _=>rfl) (fun _ _=>rfl) _ 0 ab
@[simp] theorem EX (A : List YF) (C : List ZS) (E : ZX) : Qq A C E = QX A C E := by
 simp[Qq,QX,zC];grind
theorem Gr(A:Int):∀n i o l,xE A n i o l=xF A n l i o
 |0,_,_,_=>rfl
 |n+1,i,o,l=>by simp only[xE,xF,Gr A n,ox]
@[simp] theorem nM (A : Int) (C : List Int) (E : Int) : xy A C E = qG A C E := by
 simp only[xy,qG,Gr,VC];grind
@[simp] theorem tR (A : ZR) (C : ZZ) : JP A C = Qr A C := by simp [JP, Qr]
theorem CQ(A:ZD)(C:Int)(E:List ZX)(n v:Nat)(l:List ZU):Qx A C E (n+1) false v l=(false,l):=by simp only[Qx,Bool.and_false,XA]
theorem lb(A:ZD)(C:Int)(E:List ZX)(h:R maxLen A):∀n v l,A.a.length<n+v->v<=A.a.length->(∃z,KW A C E n v l= .inr z/\Qx A C E n true v l=(true,z))\/(KW A C E n v l= .inl (A,false)/\(Qx A C E n true v l).1=false)
 |0,v,l,M,Z=>Y
 |n+1,v,l,M,Z=>by
  simp only[Qx,KW,Bool.and_true,Kk,Fi A C h,Lz,nM,tR];by_cases hi:v<A.a.length
  ·rw[show decide _=true by simpa using hi,XN];cases G:(Qr (I A.a v).a _).2
   ·obtain⟨m,rfl⟩:∃m,n=m+1:=⟨n-1,Y⟩;rw[CQ];simp
   ·exact lb A C E h n _ _ Y hi
  ·grind
@[simp] theorem wU (A : ZD) (C : Int) (E : List ZX) (h : R maxLen A) : Qn A C E = Kz A C E := by
 unfold Qn Kz;simp only[MF];by_cases hl:0<A.a.length
 ·have H:decide ((A.a.length:Int)>0)=true:=decide_eq_true Y;have e2:((A.a.length:Int)==0)=false:=beq_eq_false_iff_ne.2 Y;rw[H,e2];cases Kj A
  ·rw[Bool.false_and,CQ];rfl
  ·rcases lb A C E h (A.a.length+1) 0 A.a ab (Nat.zero_le _)with⟨z,q1,q2⟩|_
   ·rw[Bool.true_and,q1,q2];rfl
   ·grind
 ·have H:decide ((A.a.length:Int)>0)=false:=decide_eq_false Y;have e2:((A.a.length:Int)==0)=true:=beq_iff_eq.2 Y;rw[H,e2,Bool.and_false,CQ];rfl
theorem N3{a:List ZS}(h:0<=Zo a d):(I a (Zo a d).toNat).b=d:=by
 unfold Zo at h⊢;rcases Un (L:=K8 a d) (fun _=>rfl) (fun _ _=>rfl) (a.length+1) 0 ab with⟨e,_⟩|⟨i,e,_,_,k,_⟩
 ·rw[e]at h;simp at h
 ·rw[e];simpa using k
def re(A:P)(d:Int):Bool:=!((decide (Zo A.b.b d<0)||decide (Zo A.b.b d>=(A.e.length:Int)))||(decide (YA A.b.a (I A.b.b (Zo A.b.b d).toNat).a<0)||decide ((I A.b.a (YA A.b.a (I A.b.b (Zo A.b.b d).toNat).a).toNat).a>A.b.d)))
theorem GV(A:P)(C:List Int):kL A C=true↔(∀i,0<=i->i<C.length->re A (I C i)=true/\(0<i->I C (i-1)<I C i))/\0<C.length:=by
 have:=Qk (L:=SR A C) (ae:=C.length) (c:=fun v=>(_||((decide ((v:Int)>0))&&(decide (I C (v-1)>=I C v))))||((decide (Zz A.b.a (I A.b.b (Zp A.b.b (I C v)).toNat).a<0))||_))
  (fun _=>rfl) (fun n v=>by
   simp only[SR];cases(_||((decide ((v:Int)>0))&&(decide (I C (v-1)>=I C v))))<;>rfl) (C.length+1) 0 Y (decide ((C.length:Int)>0))
 unfold kL;refine Iff.trans this ?_;constructor
 ·rintro⟨M,Z⟩;refine⟨fun i h0 hi=>?_,by simpa using Z⟩;have:=M i h0 hi
  simp only[Wi,Wf,Bool.or_eq_false_iff,Bool.and_eq_false_iff,decide_eq_false_iff_not]at this;obtain⟨⟨⟨q1,q2⟩,q3⟩,q4,q5⟩:=this;refine⟨?_,fun h=>?_⟩
  ·simp only[re,Bool.not_eq_true',Bool.or_eq_false_iff,decide_eq_false_iff_not];exact⟨⟨q1,q2⟩,q4,q5⟩
  ·rcases q3 with q3|q3<;>omega
 ·rintro⟨M,Z⟩;refine⟨fun i h0 hi=>?_,by simpa using Z⟩;obtain⟨q,q3⟩:=M i h0 hi;simp only[re,Bool.not_eq_true',Bool.or_eq_false_iff,decide_eq_false_iff_not]at q;simp only[Wi,Wf,Bool.or_eq_false_iff,Bool.and_eq_false_iff,decide_eq_false_iff_not];grind
theorem vd(C:List Int):xj C=true↔∀i,0<i->i<C.length->I C (i-1)<I C i:=by have:=Qk (L:=Pq C) (fun _=>rfl) (fun _ _=>rfl) (C.length+1) 1 Y true;unfold xj;grind
theorem lU{C:List Int}(h:∀i,0<i->i<C.length->I C (i-1)<I C i):∀d v,0<d->v+d<C.length->I C v<I C (v+d)
 |0,_,h0,_=>Y
 |1,v,_,hv=>h _ ab hv
 |d+2,v,_,hv=>by have M:=lU h (d+1) v ab Y;grind
theorem LC(w:Int):VU 10000 (zX 0 w)=(if(if w<10000 then w else 10000)>0 then(if w<10000 then w else 10000)else 0):=by unfold VU zX;grind
theorem pq{α:Type}[Inhabited α](l:List α)(x:α)(h:i≠j):I (l.set i x) j=I l j:=by simp[I,List.getElem?_set_ne h]
theorem w9(A:P)(C:Int)(E:List Int)(N:Int):∀n l v q,E.length<n+v->v<=E.length->(∃k,v<=k/\k<E.length/\re A (I E k)=false)->Ju A C E N n l v q= .inl (A,false)
 |0,_,_,_,M,Z,_=>Y
 |n+1,l,v,q,M,Z,⟨k,k1,k2,k3⟩=>by
  have hv:v<E.length:=Y;simp only[Ju];rw[show decide _=true by simpa using hv];cases b:(_||_)
  ·rw[XA];cases g:(_||_)
   ·rw[XA];have hk:∃k,v+1<=k/\k<E.length/\re A (I E k)=false:=by
     refine⟨k,?_,k2,k3⟩;rcases Nat.eq_or_lt_of_le k1 with rfl|k1
     ·unfold re at k3;rw[b,g]at k3;simp at k3
     ·exact k1
    rw[w9 A C E N n _ _ _ Y hv hk,w9 A C E N n _ _ _ Y hv hk];simp
   ·rfl
  ·rfl
theorem rh(A:P)(C:Int)(E:List Int)(N:Int)(h:R maxLen A)(hr:∀i,0<i->i<E.length->I E (i-1)<I E i)(ao:∀k,k<E.length->re A (I E k)=true):∀n l v q,E.length<n+v->v<=E.length->(∀k,v<=k->k<E.length->I q (Zo A.b.b (I E k)).toNat=I A.e (Zo A.b.b (I E k)).toNat)->
  Ju A C E N n l v q=(match KQ A C E N n l v with|.inl r=>.inl r|.inr z=>.inr (z,VF A E n v q))
 |0,_,_,_,M,Z,_=>Y
 |n+1,l,v,q,M,Z,hq=>by
  simp only[Ju,KQ,VF,CA,EX,Wi,Oz,vJ _ _ (ZY (P.Zs h)),LC];by_cases hv:v<E.length
  ·rw[show decide _=true by simpa using hv,XN];have ho:=ao v hv
   unfold re at ho;rw[Bool.not_eq_true',Bool.or_eq_false_iff]at ho;have ih:=fun l=>rh A C E N h hr ao n l _ (q.set (Zo A.b.b _).toNat (W (I A.e (Zo A.b.b (I E v)).toNat+1))) Y hv (fun k k1 k2=>by
    rw[pq,hq k Y k2];intro e;have p1:0<=Zo A.b.b (I E v):=by grind
    have p2:0<=Zo A.b.b (I E k):=by have:=ao k k2;unfold re at this;simp at this;omega
    have H:=N3 p1;have e2:=N3 p2;rw[e]at H;have:=lU hr (k-v) v Y Y;rw[show v+_=k by omega]at this;omega)
   grind
  ·grind
@[simp] theorem ZF (A : P) (C : Int) (E : List Int) (N : Int) (h : R maxLen A) : WB A C E N = jA A C E N := by
 unfold WB jA;simp;cases hg:Z5 A C
 ·rfl
 cases G:decide (Zj A.b.c A.b.d<0);rotate_left
 ·simp
 cases hi:ZW N _ 10000
 ·simp
 cases hr:xj E
 ·have:kL A E=false:=by
   cases U:kL A E with
   |false=>rfl
   |true=>have:=(GV A E).1 U;have Z:=(vd E).2 (fun i h0 hi=>(this.1 i (Nat.zero_le _) hi).2 h0);grind
  grind
 have a:=(vd E).1 hr;by_cases hl:0<E.length;rotate_left
 ·have:kL A E=false:=by
   cases U:kL A E with
   |false=>rfl
   |true=>exact absurd ((GV A E).1 U).2 hl
  grind
 have e:((E.length:Int)==0)=false:=beq_eq_false_iff_ne.2 Y;rw[e];by_cases ao:∀k,k<E.length->re A (I E k)=true
 ·have U:=(GV A E).2 ⟨fun i _ hi=>⟨ao i hi,fun h0=>a i h0 hi⟩,hl⟩;rw[U,rh A C E N h a ao _ [] 0 A.e ab (Nat.zero_le _) (fun _ _ _=>rfl)];simp;cases KQ A C E N _ [] 0 with
  |inl r=>rfl
  |inr z=>simp only[wU _ _ _ (ZY (P.Zs h))]
 ·have U:kL A E=false:=by
   cases U:kL A E with
   |false=>rfl
   |true=>exact absurd (fun k hk=>(((GV A E).1 U).1 k (Nat.zero_le _) hk).1) ao
  have O:∃k,0<=k/\k<E.length/\re A (I E k)=false:=by grind
  rw[U,w9 A C E N _ [] 0 A.e ab (Nat.zero_le _) O];rfl
@[simp] theorem zaD (A : Int) (C : ZU) : ∀ (n : Nat) (z : List Int) (a : Nat), Vr A C n z a = UX A C n z a := by
 intro n;induction n with
 |zero=>intros;rfl
 |succ n ih=>intros;simp[Vr,UX,ih,ByteArray.append_assoc]
@[simp] theorem tD (A : Int) (C : ZU) : R8 A C = R7 A C := by simp [R8, R7]
theorem FV(A:Int)(C:List ZU):∀n v i,P6 A C n v i=qw A C n v i
 |0,_,_=>rfl
 |n+1,v,i=>by simp only[P6,qw,FV A C n,tD]
@[simp] theorem ZDb (A : Int) (C : List ZU) : Np A C = qg A C := by
 simp only[Np,qg,FV,Lz]
@[simp] theorem zaV (A : ZD) (E : List Int) : ∀ (n : Nat) (z : Nat) (a : List ZU), yg A E n z a = yV A E n z a := by
 intro n;induction n with
 |zero=>intros;rfl
 |succ n ih=>intros;simp[yg,yV,ih,ByteArray.append_assoc]
@[simp] theorem ze (A : ZD) (C : Int) (E : List Int) (N : Int) : Xm A C E N = Xo A C E N := by simp [Xm, Xo]
@[simp] theorem zaz (A : Y7) : ∀ (n : Nat) (z : Nat), za A n z = zc A n z := by
 intro n;induction n with
 |zero=>intros;rfl
 |succ n ih=>intros;simp[za,zc,ih,ByteArray.append_assoc]
@[simp] theorem As (A : Y7) (C : Int) : yA A C = Ky A C := by simp [yA, Ky]
theorem vj(C:Y7)(n v:Nat)(d:Int)(l:List ZU):(JD C (n+1) false v d l).1=false:=by simp only[JD,Bool.and_false,XA]
theorem vu(A:ZD)(C:Y7):∀n v d l,C.a.length<n+v->v<=C.a.length->
  (∃z,Kp A C n v d l= .inr z/\JD C n true v d l=(true,z))\/(Kp A C n v d l= .inl (A,false)/\(JD C n true v d l).1=false)
 |0,v,d,l,M,Z=>Y
 |n+1,v,d,l,M,Z=>by
  simp only[JD,Kp,Bool.and_true,Cu];by_cases hi:v<C.a.length
  ·rw[show decide _=true by simpa using hi,XN];cases G:(JS _ _).2
   ·obtain⟨m,rfl⟩:∃m,n=m+1:=⟨n-1,Y⟩;exact .inr ⟨rfl,vj _ _ _ _ _⟩
   ·exact vu A C n _ _ _ Y hi
  ·grind
@[simp] theorem zaJ (A : ZD) (C : Y7) (E : Int) : X7 A C E = QO A C E := by
 unfold X7 QO;simp only[As];have hc:((!(Ky C E))||(C.c !=A.b))=!(Ky C E&&(C.c==A.b)):=by cases Ky C E<;>simp[bne]
 rw[hc];cases _&&_ with
 |false=>have:=vj C C.a.length 0 A.b A.a;grind
 |true=>
  rcases vu A C (C.a.length+1) 0 A.b A.a ab (Nat.zero_le _)with⟨z,M,Z⟩|_
  ·rw[M,Z]
  ·grind
theorem AM(A:ZD)(C:Int)(k:Nat)(hk:Z3 A C=(k:Int))(f:k<A.a.length):∀n v l,v<=A.a.length->A.a.length<n+v->
  qm A C n v l=l++(if v<=k then(A.a.take k).drop v++A.a.drop (k+1)else A.a.drop v)
 |0,v,l,M,Z=>Y
 |n+1,v,l,M,Z=>by
  rw[qm];simp only[Du,hk];by_cases hv:v<A.a.length
  ·rw[show decide _=true by simpa using hv];by_cases a:v=k
   ·subst a;rw[show(_ !=_)=false by simp,AM A C v hk f n _ l hv Y,if_neg ab];grind
   ·have W:((v:Int)!=(k:Int))=true:=a0;rw[W,AM A C k hk f n _ _ hv Y];by_cases ac:v<k
    ·rw[if_pos Y,if_pos Y];have ht:(A.a.take k).drop v=I A.a v::(A.a.take k).drop (v+1):=by rw[Uk aC];congr 1;simp[I,ac]
     grind
    ·rw[if_neg Y,if_neg Y,Uk hv];simp
  ·grind
theorem nD(A:ZD)(C:Int)(h:R maxLen A):WO A C=qO A C:=by
 unfold WO qO;simp;by_cases hk:Z3 A C<0
 ·rw[decide_eq_true hk,XN,XN]
 ·rw[decide_eq_false hk,XA,XA];have hf:=Kv A C
  have hl:=Zx (ZD.Z8 h);have hm:maxLen=9223372036854775807:=au;have w:W _=Z3 A C+1:=YB Y Y;rw[w,AM A C (Z3 A C).toNat Y Y (A.a.length+1) 0 [] (Nat.zero_le _) Y,show(Z3 A C+1).toNat=(Z3 A C).toNat+1 by omega];simp
theorem my(A C:ZD)(E:List Int)(N:Int)(n v:Nat)(d:Int)(l:List ZU):(Kw A C E N (n+1) false v d l).1=false:=by simp only[Kw,Bool.and_false,XA]
theorem mn(A C:ZD)(E:List Int)(N:Int)(hm:(Xo A C.b E N).2=true):∀n v d l,R maxLen (ZD.mk d l)->E.length<n+v->v<=E.length->
  (∃z,Kx A C E n v d l= .inr z/\Kw A C E N n true v d l=(true,z))\/(Kx A C E n v d l= .inl (A,C,false)/\(Kw A C E N n true v d l).1=false)
 |0,v,d,l,_,M,Z=>Y
 |n+1,v,d,l,U,M,Z=>by
  simp only[Kw,Kx,Bool.and_true,ze,hm,nD _ _ U];by_cases hi:v<E.length
  ·rw[show decide _=true by simpa using hi,XN];cases G:(qO _ _).2
   ·obtain⟨m,rfl⟩:∃m,n=m+1:=⟨n-1,Y⟩;exact .inr ⟨rfl,my _ _ _ _ _ _ _ _⟩
   ·exact mn A C E N hm n _ _ _ (IM au U) Y hi
  ·grind
theorem se(A C:ZD)(E:List Int)(N:Int)(h:R maxLen A):Jm A C E N=X3 A C E N:=by
 unfold Jm X3;simp;cases hm:(Xo A C.b E N).2 with
 |false=>grind
 |true=>
  cases ha:(QO C (Xo A C.b E N).1 N).2 with
  |false=>have:=my A C E N E.length 0 A.b A.a;grind
  |true=>
   rcases mn A C E N hm (E.length+1) 0 A.b A.a h ab (Nat.zero_le _)with⟨z,M,Z⟩|_
   ·rw[M,Z]
   ·grind
theorem no(A C:ZD)(E:List Int)(N:Int)(h:(X3 A C E N).2.2=false):X3 A C E N=(A,C,false):=by
 unfold X3 at h⊢;cases hc:(_||_)with
 |true=>rfl
 |false=>
  have hk:∀n v d l r,Kx A C E n v d l= .inl r->r=(A,C,false):=by
   intro n;induction n with
   |zero=>intro v d l r h;cases h
   |succ n ih=>intro v d l r h;rw[Kx]at h;grind
  grind
theorem oZ{α:Type}[Inhabited α](l:List α)(i:Nat):l.set i (I l i)=l:=by
 by_cases h:i<l.length
 ·have:I l i=l[i]:=by simp[I,List.getElem?_eq_getElem h]
  simp_all
 ·exact List.set_eq_of_length_le Y
@[simp] theorem ZCi (A : P) (C E N : Int) (h : R maxLen A) : UQ A C E N = Wa A C E N := by
 unfold UQ Wa;simp only[Fl,Oz,se _ _ _ _ (ZY (P.Zs h))];cases(_||_)with
 |true=>rfl
 |false=>
  rw[XA,XA];cases G:(X3 _ _ _ _).2.2 with
  |true=>rfl
  |false=>rw[no _ _ _ _ G,XA];simp only[oZ]
theorem lC(A:ZD)(C:Int):∀(m i:Nat)(d:Int)(l:List ZU),(K3 A C m d i l).2=zQ A C m i l
 |0,_,_,_=>rfl
 |m+1,i,d,l=>by
  simp only[K3,zQ];cases decide ((i:Int)<(A.a.length:Int))with
  |false=>rfl
  |true=>rw[show decide ((I A.a i).e>=C)=!decide ((I A.a i).e<C)by rw[<-decide_not];simp];cases decide ((I A.a i).e<C)<;>simp[lC A C m]
theorem UC(A:ZD)(C:Int):(jV A C).1=(jE A C).1:=by
 unfold jV jE;have h:=lC A C (A.a.length+1) 0 0 []
 grind
@[simp] theorem ZAk (A : P) (C : Int) : qk A C = xO A C := by
 simp only[qk,xO,Fl,UC]
@[simp] theorem zaO (A : List Zy) (C : Int) : ∀ (n : Nat) (z : Nat), kQ A C n z = kA A C n z := by
 intro n;induction n with
 |zero=>intros;rfl
 |succ n ih=>intros;simp[kQ,kA,ih,ByteArray.append_assoc]
@[simp] theorem ZAm (A : List Zy) (C : Int) : Qf A C = Qd A C := by simp [Qf, Qd]
@[simp] theorem Br (A : List Zy) (C : Int) : qY A C = kZ A C := by
 unfold qY kZ;rw[cS];simp
@[simp] theorem oz (A : ZI) (C : Int) : SK A C = WT A C := by
 unfold SK WT zO;by_cases h:YA A.a C<0
 ·have:¬0<=YA A.a C:=Y;simp[this]
 ·simp[h]
@[simp] theorem ZCV (A : P) (C E : Int) (N : ZO) : kh A C E N = yW A C E N := by
 unfold kh yW;simp;cases U:WT A.b E with
 |false=>cases Z5 A C<;>rfl
 |true=>
  have hk:decide (YA A.b.a E<0)=false:=by simp only[WT,Bool.and_eq_true,decide_eq_true_eq]at U;grind
  rw[vh,hk];cases(Z5 A C)with
  |false=>rfl
  |true=>
   simp only[c6];cases(QV A E N 0 10000).2 with
   |false=>rfl
   |true=>cases(JS _ (QV A E N 0 10000).1).2<;>rfl
@[simp] theorem zaC (A : P) : ∀ (n : Nat) (z : List Int) (a : Nat), Je A n z a = JV A n z a := by
 intro n;induction n with
 |zero=>intros;rfl
 |succ n ih=>intros;simp[Je,JV,ih,ByteArray.append_assoc]
@[simp] theorem FL (A : P) : Yw A = Yi A := by simp [Yw, Yi]
theorem tL(A:ZD)(C:Int)(h:R maxLen A):Yl A C=A.a.map (fun x=>KM x C):=by have:=qu (as:=A.a) (fun x=>[TO (ZR.mk x.a.b (x.a.a++[ZZ.mk (x.a.b.length:Int) C 0 [] []])) (J2 (ZR.mk x.a.b (x.a.a++[ZZ.mk (x.a.b.length:Int) C 0 [] []])) x.c) (W (((x.a.a++[ZZ.mk (x.a.b.length:Int) C 0 [] []]).length:Int)-1))]) (F:=fun n i l=>yH A C n l i) (fun _ _ _=>rfl) (A.a.length+1) 0 [] ab (Nat.zero_le _);unfold Yl;rw[this,PB];exact List.map_congr_left (fun x O=>li x C ((ZD.Z8 h).2 x O) _ rfl)
theorem p4{α β:Type}[Inhabited α][Inhabited β](f:α->β){l:List α}(h:i<l.length):I (l.map f) i=f (I l i):=by simp[I,List.getElem?_eq_getElem h]
theorem lT(A:P)(C E:Int)(e:I (Yl (I A.a (S A C).1.toNat) (Zj A.b.c A.b.d)) (S A C).2.toNat=KM (I (I A.a (S A C).1.toNat).a (S A C).2.toNat) (Zj A.b.c A.b.d)):
  ∀n z a,Jy A C E n z a=Ko A C E n z a
 |0,_,_=>rfl
 |n+1,z,a=>by simp only[Jy,Ko,lT A C E e n,FL,EX,OI,Oz,e]
@[simp] theorem ZQ (A : P) (C E : Int) (h : R maxLen A) : yL A C E = zG A C E := by
 unfold yL zG;simp;have G:∀p q r s:Bool,(((p||q)||r)||s)=(((r||p)||q)||s):=au
 rw[G];by_cases hi:(S A C).1<0
 ·rw[decide_eq_true hi];simp
 ·obtain⟨M,Z,h3⟩:=Qt A C Y;have e:I (Yl (I A.a (S A C).1.toNat) (Zj A.b.c A.b.d)) (S A C).2.toNat=KM (I (I A.a (S A C).1.toNat).a (S A C).2.toNat) (Zj A.b.c A.b.d):=by rw[tL _ _ (ZY (P.Zs h)),p4 _ h3]
  rw[lT A C E e,e]
@[simp] theorem ZCp (A : P) (C E : Int) : V0 A C E = WZ A C E := by
 unfold V0 WZ Yr;simp only[OI,ww,De,oz,tn,oW,wb];cases M:(_||_)with
 |true=>rfl
 |false=>
  simp only[cond_false];generalize XU _=p;rw[vp,show(!(decide _))=decide (Jc A.c p.1.b<0)by rw[<-decide_not];simp];cases Z:(_||_)with
  |true=>rfl
  |false=>
   have hn:0<=Jc A.c p.1.b:=by simp at Z;exact Z.1.2
   rw[DK _ _ hn,<-lL];grind
@[simp] theorem ua (A : P) (C : YS) (h : R maxLen A) : KV A C = QN A C := by simp [KV, QN, h]
@[simp] theorem zam (A : ZU) : yX A = yQ A := by simp [yX, yQ]
@[simp] theorem zac (A : ZR) (C : ZO) : ∀ (n : Nat) (z : List Int) (a : Nat), yN A C n z a = qN A C n z a := by
 intro n;induction n with
 |zero=>intros;rfl
 |succ n ih=>intros;simp[yN,qN,ih,ByteArray.append_assoc]
@[simp] theorem ZAh (A : ZR) (C : ZO) : J2 A C = jU A C := by simp [J2, jU]
@[simp] theorem zaa (A : Q) (C : ZO) : ∀ (n : Nat) (z : List (List Int)) (a : Nat), zS A C n z a = zE A C n z a := by
 intro n;induction n with
 |zero=>intros;rfl
 |succ n ih=>intros;simp[zS,zE,ih,ByteArray.append_assoc]
@[simp] theorem CP (A : Q) (C : ZO) : yq A C = yr A C := by simp [yq, yr]
@[simp] theorem ZEM (A : YF) : Ct A = BU A := by simp [Ct, BU]
@[simp] theorem ZBz (A : List YF) : ∀ (n : Nat) (z : Nat), OB A n z = OR A n z := by
 intro n;induction n with
 |zero=>intros;rfl
 |succ n ih=>intros;simp[OB,OR,ih,ByteArray.append_assoc]
@[simp] theorem ZG (A : List YF) : HT A = HG A := by simp [HT, HG]
@[simp] theorem zal (A : List ZS) : ∀ (n : Nat) (z : Nat), qF A n z = qB A n z := by
 intro n;induction n with
 |zero=>intros;rfl
 |succ n ih=>intros;simp[qF,qB,ih,ByteArray.append_assoc]
@[simp] theorem zaq (A : List ZS) : ka A = kE A := by simp [ka, kE]
@[simp] theorem ZCb (A : Zy) : Mk A = MT A := by simp [Mk, MT]
@[simp] theorem zaK (A : List Zy) : ∀ (n : Nat) (z : Nat), Vp A n z = US A n z := by
 intro n;induction n with
 |zero=>intros;rfl
 |succ n ih=>intros;simp[Vp,US,ih,ByteArray.append_assoc]
@[simp] theorem ZAZ (A : List Zy) : RW A = Rb A := by simp [RW, Rb]
@[simp] theorem Bq (A : ZI) : PO A = PR A := by simp [PO, PR]
@[simp] theorem oU (A : List YF) (C : Int) (E : List Int) (N : Int) : kv A C E N = KH A C E N := by
 unfold kv KH zC;rw[cS];cases h:decide (0<=YA A C)<;>simp[h]
@[simp] theorem DC (A : List YF) (C : G) : j8 A C = xm A C := by simp [j8, xm]
@[simp] theorem ZAO (A : ZR) (C : ZK) : ∀ (n : Nat) (z : Nat), VH A C n z = Ti A C n z := by
 intro n;induction n with
 |zero=>intros;rfl
 |succ n ih=>intros;simp[VH,Ti,ih,ByteArray.append_assoc]
@[simp] theorem Yh (A : ZR) (C : ZK) : xW A C = Vw A C := by simp [xW, Vw]
@[simp] theorem A7 (A C : Int) : JL A C = y2 A C := by
 have H:zX 0 A=(if 0>A then 0 else A):=by unfold zX;rw[Bool.cond_decide];split<;>split<;>omega
 have e2:VU 10000 C=(if 10000<C then 10000 else C):=by unfold VU;rw[Bool.cond_decide];split<;>split<;>omega
 unfold JL y2;rw[H,e2];have e3:(decide (A>C)||!Yy (o.mk (if 0>A then 0 else A) (if 10000<C then 10000 else C)))=decide ((if 0>A then 0 else A)>(if 10000<C then 10000 else C)):=by rw[Bool.eq_iff_iff];simp only[Yy,qI,ZW,Bool.or_eq_true,decide_eq_true_eq,Bool.not_eq_true',Bool.and_eq_false_iff,decide_eq_false_iff_not];split<;>split<;>omega
 rw[e3]
@[simp] theorem I2 (A : List ZS) (C : ZX) : jO A C = xV A C := by simp [jO, xV]
@[simp] theorem ZCT (A : List o) (C : Int) : ∀ (n : Nat) (z : Int) (a : Nat), Sp A C n z a = kq A C n z a := by
 intro n;induction n with
 |zero=>intros;rfl
 |succ n ih=>intros;simp[Sp,kq,ih,ZW,Bool.and_assoc]
@[simp] theorem ZDM (A : List o) (C : Int) : Ir A C = Pk A C := by simp [Ir, Pk]
@[simp] theorem Ap (A : List o) (C : Int) (E : Int) : jm A C E = YN A C E := by simp [jm, YN]
theorem DS(A:List o)(C:Int):∀(n:Nat)(c:Bool)(v:Nat)(f l:Int),10001<n+v->v<=10001->
  (zH A C n c v f l=(c,f,l)/\∀t:Nat,v<=t->t<=10000->YN A (t:Int) C=false)\/
  ∃x y:Nat,v<=x/\x<=y/\y<=10000/\YN A (x:Int) C=true/\YN A (y:Int) C=true/\(∀t:Nat,v<=t->t<x->YN A (t:Int) C=false)/\(∀t:Nat,y<t->t<=10000->YN A (t:Int) C=false)/\
   zH A C n c v f l=(true,if c then f else(x:Int),(y:Int)):=by
 intro n;induction n with
 |zero=>intro c v f l h h';omega
 |succ n ih=>
  intro c v f l h h';rw[zH];by_cases hv:v<=10000
  ·rw[show decide ((v:Int)<=10000)=true by simp;omega];simp only[cond_true];cases U:YN A (v:Int) C with
   |false=>
    rcases ih c (v+1) f l Y Y with⟨e,k⟩|⟨x,y,p1,p2,p3,p4,L,p6,p7,p8⟩
    ·refine .inl ⟨e,fun t M Z=>?_⟩;rcases Nat.eq_or_lt_of_le M with rfl|M
     ·exact U
     ·exact k t M Z
    ·refine .inr ⟨x,y,Y,p2,p3,p4,L,fun t M Z=>?_,p7,p8⟩;rcases Nat.eq_or_lt_of_le M with rfl|M
     ·exact U
     ·exact p6 t M Z
   |true=>
    simp only[cond_true];have ag:∀g:Int,(∃x y:Nat,v<=x/\x<=y/\y<=10000/\YN A (x:Int) C=true/\YN A (y:Int) C=true/\(∀t:Nat,v<=t->t<x->YN A (t:Int) C=false)/\(∀t:Nat,y<t->t<=10000->YN A (t:Int) C=false)/\
      zH A C n true (v+1) g (v:Int)=(true,g,(y:Int))/\x=v):=by
     intro g;rcases ih true (v+1) g (v:Int) Y Y with⟨e,k⟩|⟨x,y,p1,p2,p3,p4,L,p6,p7,p8⟩
     ·exact⟨v,v,Nat.le_refl _,Nat.le_refl _,hv,U,U,fun t M Z=>Y,fun t M Z=>k t M Z,e,rfl⟩
     ·exact⟨v,y,Nat.le_refl _,Y,p3,U,L,fun t M Z=>Y,p7,by simpa using p8,rfl⟩
    cases c with
    |false=>obtain⟨x,y,q1,q2,q3,q4,q5,q,d,a,rfl⟩:=ag (v:Int);grind
    |true=>obtain⟨x,y,q1,q2,q3,q4,q5,q,d,a,rfl⟩:=ag f;grind
  ·rw[show decide ((v:Int)<=10000)=false by simp;omega];grind
theorem mB(A:List o)(t:Int)(hm:A.length<=maxLen):Pk A t=(A.countP (fun s=>Yy s&&ZW t s.d s.c):Int):=by
 have ag:∀(n:Nat)(c:Nat)(v:Nat),A.length<n+v->v<=A.length->c<=v->kq A t n (c:Int) v=((c+(A.drop v).countP (fun s=>Yy s&&ZW t s.d s.c):Nat):Int):=by
  intro n;induction n with
  |zero=>intro c v M Z;omega
  |succ n ih=>
   intro c v M Z h3;rw[kq];by_cases hv:v<A.length
   ·rw[show decide _=true by simpa using hv,List.drop_eq_getElem_cons hv,<-WY hv];simp only[List.countP_cons];have hw:W ((c:Int)+1)=((c+1:Nat):Int):=by rw[show((c+1:Nat):Int)=(c:Int)+1 by omega];exact YB Y dE
    cases hc:(Yy _&&ZW t (I A v).d (I A v).c)with
    |true=>rw[hw,ih _ _ Y Y Y];simp;omega
    |false=>rw[ih c _ Y Y Y];simp
   ·rw[show decide _=false by simpa using hv,List.drop_eq_nil_of_le Y];simp
 have:=ag (A.length+1) 0 0 ab ab ab;simpa[Pk]using this
theorem fK{α:Type}(p:α->Bool)(g:α->Int):∀{l:List α},(∃x∈l,p x=true)->∃x∈l,p x=true/\∀y∈l,p y=true->g y<=g x
 |[],h=>by obtain⟨x,O,_⟩:=h;cases O
 |a::l,h=>by
  by_cases hl:∃x∈l,p x=true
  ·obtain⟨x,O,c,hm⟩:=fK p g hl;by_cases hc:p a=true/\g x<g a
   ·refine⟨a,ab,hc.1,fun y hy b=>?_⟩;rcases List.mem_cons.1 hy with rfl|hy
    ·exact Int.le_refl _
    ·have:=hm y hy b;omega
   ·refine⟨x,by simp[O],c,fun y hy b=>?_⟩;rcases List.mem_cons.1 hy with rfl|hy
    ·rcases Int.lt_or_le (g x) (g y)with h|h
     ·exact absurd ⟨b,h⟩ hc
     ·exact h
    ·exact hm y hy b
  ·obtain⟨x,O,c⟩:=h;rcases List.mem_cons.1 O with rfl|O
   ·refine⟨x,ab,c,fun y hy b=>?_⟩;rcases List.mem_cons.1 hy with rfl|hy
    ·exact Int.le_refl _
    ·exact absurd ⟨y,hy,b⟩ hl
   ·exact absurd ⟨x,O,c⟩ hl
theorem GX(s:o):Yy s=true↔0<=s.d/\s.d<=s.c/\s.c<=10000:=by simp only[Yy,qI,ZW,Bool.and_eq_true,decide_eq_true_eq];omega
theorem YG(A:List o)(C:Int):∀(n:Nat)(f l:Int)(v:Nat),A.length<n+v->v<=A.length-> -1<=f->
  let r:=Qy A C n f l v
  (r.1=f\/∃k,v<=k/\k<A.length/\Yy (I A k)=true/\YN A (I A k).d C=true/\r.1=(I A k).d)/\
  (∀k,v<=k->k<A.length->Yy (I A k)=true->YN A (I A k).d C=true->0<=r.1/\r.1<=(I A k).d)/\(0<=f->0<=r.1/\r.1<=f)/\
  (r.2=l\/∃k,v<=k/\k<A.length/\Yy (I A k)=true/\YN A (I A k).c C=true/\r.2=(I A k).c)/\
  (∀k,v<=k->k<A.length->Yy (I A k)=true->YN A (I A k).c C=true->(I A k).c<=r.2)/\l<=r.2:=by
 intro n;induction n with
 |zero=>intro f l v M Z;omega
 |succ n ih=>
  intro f l v M Z hf;by_cases hv:v<A.length
  ·have step:∃z a:Int,Qy A C (n+1) f l v=Qy A C n z a (v+1)/\-1<=z/\
     (z=f\/(Yy (I A v)=true/\YN A (I A v).d C=true/\z=(I A v).d))/\(Yy (I A v)=true->YN A (I A v).d C=true->0<=z/\z<=(I A v).d)/\(0<=f->0<=z/\z<=f)/\
     (a=l\/(Yy (I A v)=true/\YN A (I A v).c C=true/\a=(I A v).c))/\(Yy (I A v)=true->YN A (I A v).c C=true->(I A v).c<=a)/\l<=a:=by
    rw[Qy,show decide _=true by simpa using hv];simp only[LR,Ap];have O:=GX (I A v)
    have hM:zX l (I A v).c=if l<(I A v).c then(I A v).c else l:=by unfold zX;rw[Bool.cond_decide]
    cases M:Yy _ with
    |false=>simp only[Bool.false_and];exact⟨f,l,rfl,hf,.inl rfl,ab,fun h=>⟨h,Int.le_refl _⟩,.inl rfl,ab,Int.le_refl _⟩
    |true=>
     have aW:=O.1 M;simp only[Bool.true_and];have b:∃a,(bif YN A (I A v).c C then zX l (I A v).c else l)=a/\(a=l\/(True/\YN A (I A v).c C=true/\a=(I A v).c))/\(True->YN A (I A v).c C=true->(I A v).c<=a)/\l<=a:=by
      cases YN A (I A v).c C with
      |false=>simp
      |true=>simp;split<;>simp<;>omega
     obtain⟨a,H,b⟩:=b;have t:∃z,(bif(YN A (I A v).d C&&(decide (f<0)||decide ((I A v).d<f)))then(I A v).d else f)=z/\-1<=z/\(z=f\/(True/\YN A (I A v).d C=true/\z=(I A v).d))/\(True->YN A (I A v).d C=true->0<=z/\z<=(I A v).d)/\(0<=f->0<=z/\z<=f):=by
      refine⟨_,rfl,?_⟩;cases YN A (I A v).d C with
      |false=>simp;omega
      |true=>
       by_cases hc:f<0\/(I A v).d<f
       ·rw[show(true&&_)=true by simpa using hc];grind
       ·rw[show(true&&_)=false by simp;omega];grind
     obtain⟨z,e2,t⟩:=t;refine⟨z,a,?_,t.1,t.2.1,t.2.2.1,t.2.2.2,b.1,b.2.1,b.2.2⟩;rw[<-H,<-e2];cases(YN A (I A v).d C&&_)<;>cases YN A (I A v).c C<;>rfl
   obtain⟨z,a,e,g1,g2,y,g,d,i,j⟩:=step;rw[e];obtain⟨w,V,i3,i4,i5,i6⟩:=ih z a (v+1) Y Y g1;refine⟨?_,fun k k1 k2 k3 k4=>?_,fun h=>?_,?_,fun k k1 k2 k3 k4=>?_,Y⟩
   ·rcases w with w|⟨k,k1,k2⟩
    ·rcases g2 with g2|⟨q1,q2,q3⟩
     ·left;rw[w,g2]
     ·right;exact⟨v,Nat.le_refl _,hv,q1,q2,by rw[w,q3]⟩
    ·right;exact⟨k,Y,k2⟩
   ·rcases Nat.eq_or_lt_of_le k1 with rfl|k1
    ·have:=y k3 k4;have:=i3 this.1;omega
    ·exact V k k1 k2 k3 k4
   ·have:=g h;have:=i3 this.1;omega
   ·rcases i4 with i4|⟨k,k1,k2⟩
    ·rcases d with d|⟨q1,q2,q3⟩
     ·left;rw[i4,d]
     ·right;exact⟨v,Nat.le_refl _,hv,q1,q2,by rw[i4,q3]⟩
    ·right;exact⟨k,Y,k2⟩
   ·rcases Nat.eq_or_lt_of_le k1 with rfl|k1
    ·have:=i k3 k4;omega
    ·exact i5 k k1 k2 k3 k4
  ·rw[Qy,show decide _=false by simpa using hv];grind
theorem L6(A:List o)(t C:Int)(hm:A.length<=maxLen)(h0:0<=C)(M:C<A.length):YN A t C=true↔(A.length:Int)-C<=(A.countP (fun s=>Yy s&&ZW t s.d s.c):Int):=by have H:W _=(A.length:Int)-1:=YB Y dE;have e2:W _=(A.length:Int)-C:=YB Y dE;unfold YN;rw[mB A t hm,H,e2,show ZW C 0 ((A.length:Int)-1)=true by simp[ZW];omega];simp
theorem ES(A:List o)(t C:Int)(hm:A.length<=maxLen)(h0:0<=C)(M:C<A.length)(U:YN A t C=true):
  (∃k,k<A.length/\Yy (I A k)=true/\(I A k).d<=t/\YN A (I A k).d C=true)/\(∃k,k<A.length/\Yy (I A k)=true/\t<=(I A k).c/\YN A (I A k).c C=true):=by
 have hc:=(L6 A t C hm h0 M).1 U;have aw:∃s∈A,(Yy s&&ZW t s.d s.c)=true:=by have:0<A.countP (fun s=>Yy s&&ZW t s.d s.c):=Y;simp_all
 have a:∀s∈A,∃k,k<A.length/\I A k=s:=by intro s U;obtain⟨k,hk,rfl⟩:=List.getElem_of_mem U;exact⟨k,hk,WY hk⟩
 constructor
 ·obtain⟨s,n,hp,aZ⟩:=fK _ (fun s:o=>s.d) aw;obtain⟨k,hk,rfl⟩:=a s n;simp only[ZW,Bool.and_eq_true,decide_eq_true_eq]at hp aZ;refine⟨k,hk,hp.1,hp.2.1,(L6 A _ C hm h0 M).2 (Int.le_trans hc ?_)⟩;refine Int.ofNat_le.2 (List.countP_mono_left (fun x O y=>?_));simp only[ZW,Bool.and_eq_true,decide_eq_true_eq]at y⊢;have:=aZ x O y
  grind
 ·obtain⟨s,n,hp,aZ⟩:=fK _ (fun s:o=>-s.c) aw;obtain⟨k,hk,rfl⟩:=a s n;simp only[ZW,Bool.and_eq_true,decide_eq_true_eq]at hp aZ;refine⟨k,hk,hp.1,hp.2.2,(L6 A _ C hm h0 M).2 (Int.le_trans hc ?_)⟩;refine Int.ofNat_le.2 (List.countP_mono_left (fun x O y=>?_));simp only[ZW,Bool.and_eq_true,decide_eq_true_eq]at y⊢;have:=aZ x O y
  grind
@[simp] theorem Gt (A : List o) (C : Int) (hm : A.length <= maxLen) : xG A C = WM A C := by
 have H:W ((A.length:Int)-1)=(A.length:Int)-1:=YB Y dE;unfold xG WM;rw[VC,H];by_cases hr:0<=C/\C<A.length
 ·rw[show(!ZW C 0 ((A.length:Int)-1))=false by simp[ZW];omega];obtain⟨a,d,_,c,g,_⟩:=YG A C (A.length+1) (-1) (-1) 0 Y Y Y;generalize Qy A C (A.length+1) (-1) (-1) 0=r at a d c g;obtain⟨f,l⟩:=r;simp only at a d c g⊢;rcases DS A C 10002 false 0 0 0 Y Y with⟨e,k⟩|⟨x,y,p1,p2,p3,p4,L,p6,p7,e⟩
  ·rw[e];simp only;rcases a with a|⟨j,j1,j2,j3,j4,N⟩
   ·rw[a];rfl
   ·have hj:=(GX _).1 j3;have:=k (I A j).d.toNat Y Y;grind
  ·rw[e];obtain⟨⟨j,j1,j2,j3,j4⟩,_⟩:=ES A x C hm hr.1 hr.2 p4;obtain⟨_,⟨i,w,V,i3,i4⟩⟩:=ES A y C hm hr.1 hr.2 L;have hf:=d j Y j1 j2 j4
   have hl:=g i Y w V i4;have m:(x:Int)<=f:=by
    rcases a with a|⟨k,k1,k2,k3,k4,k5⟩
    ·omega
    ·have hk:=(GX _).1 k3;rcases Int.lt_or_le f x with h|h
     ·have:=p6 f.toNat Y Y;grind
     ·exact h
   have aD:l<=(y:Int):=by
    rcases c with c|⟨k,k1,k2,k3,k4,k5⟩
    ·omega
    ·have hk:=(GX _).1 k3;rcases Int.lt_or_le (y:Int) l with h|h
     ·have:=p7 l.toNat Y Y;grind
     ·exact h
   have e3:f=x:=Y;have b:l=y:=Y;grind
 ·rw[show(!ZW C 0 ((A.length:Int)-1))=true by simp[ZW];omega];simp only[cond_true];have hn:∀t,YN A t C=false:=by intro t;unfold YN;rw[H,show ZW C 0 ((A.length:Int)-1)=false by simp[ZW];omega];rfl
  rcases DS A C 10002 false 0 0 0 Y Y with⟨e,k⟩|⟨x,y,p1,p2,p3,p4,L,p6,p7,e⟩
  ·rw[e]
  ·rw[hn]at p4;cases p4
@[simp] theorem Ca (A : List ZS) (C : ZZ) : ∀ (n : Nat) (z : List o) (a : Nat), VA A C n z a = J5 A C.a n z a := by
 intro n;induction n with
 |zero=>intros;rfl
 |succ n ih=>intros;simp[VA,J5,ih]
theorem I0(A:List ZS)(C:List ZX):∀(n:Nat)(l:List o)(v:Nat),l.length<=v->v<=C.length->∀z,J5 A C n l v= .inr z->z.length<=C.length:=by
 intro n;induction n with
 |zero=>intro l v M Z z h;cases h;exact Nat.zero_le _
 |succ n ih=>
  intro l v M Z z h;rw[J5]at h;by_cases hv:v<C.length
  ·rw[show decide _=true by simpa using hv]at h;cases U:(!(xV A _).2)with
   |true=>rw[U]at h;cases h
   |false=>rw[U]at h;exact ih _ _ aC Y z h
  ·rw[show decide _=false by simpa using hv]at h;cases h;omega
@[simp] theorem PS (A : List ZS) (C : ZZ) (E : Int) (h : R maxLen C) : KO A C E = xf A C E := by
 unfold KO xf Kc;rw[Ca];cases hh:J5 A C.a _ [] 0 with
 |inl r=>rfl
 |inr z=>simp only;rw[Gt _ _ (Nat.le_trans (I0 A C.a _ _ 0 ab ab z hh) (Zx (ZZ.Nz h)))]
@[simp] theorem ZEF (A : ZR) (C : List Int) (E : Int) : TO A C E = I3 A C E := by simp [TO, I3]
@[simp] theorem zay (A : Int) (E : List Xy) : ∀ (n : Nat) (z : Int) (a : Nat), kM A E n z a = kd A E n z a := by
 intro n;induction n with
 |zero=>intros;rfl
 |succ n ih=>intros;simp[kM,kd,ih,ByteArray.append_assoc]
@[simp] theorem tC (A : Int) (C : Int) (E : List Xy) : Ra A C E = RK A C E := by simp [Ra, RK]
@[simp] theorem NA (A : List YF) (C : List ZS) (E : ZX) : Wn A C E = xC A C E := by simp [Wn, xC]
@[simp] theorem zan (A : List YF) (C : List ZS) (E : ZZ) (N : Int) : Vt A C E N = jv A C E N := by
 rw[Bool.eq_iff_iff];unfold Vt jv;have U:∀b:Bool,(bif b then false else _)=true↔b=false/\_:=fun b=>by
  cases b
  ·exact(Qk (L:=U6 A C E) (fun _=>rfl) (fun _ _=>rfl) (E.a.length+1) 0 Y true).trans dR
  ·simp
 have hi:∀b:Bool,(bif b then false else _)=true↔b=false/\_:=fun b=>by
  cases b
  ·exact(Qk (L:=Ug A C E) (fun _=>rfl) (fun _ _=>rfl) (E.a.length+1) 0 Y true).trans dR
  ·simp
 have hr:Xw E.a=true↔_:=Qk (fun _=>rfl) (fun _ _=>rfl) (E.a.length+1) 1 Y true;refine(U _).trans (Iff.trans ?_ (hi _).symm);simp only[Bool.or_eq_false_iff,Bool.not_eq_false',VC,tC,NA,hr];constructor
 ·rintro⟨M,Z⟩;refine⟨⟨M,fun i hi hl=>?_,trivial⟩,fun i hz hi=>⟨(Z i hz hi).1.1,(Z i hz hi).2⟩⟩;have:=(Z i (Nat.zero_le _) hl).1.2
  simpa[show(0:Nat)<i by omega]using this
 ·rintro⟨⟨M,Z,_⟩,h3⟩;refine⟨M,fun i hz hi=>⟨⟨(h3 i hz hi).1,?_⟩,(h3 i hz hi).2⟩⟩;by_cases h0:0<i
  ·have:=Z i h0 hi;simpa[h0]using this
  ·simp[h0]
@[simp] theorem p5 (A : List ZS) (C : ZX) : X6 A C = Xs A C := by
 unfold X6 Xs;rw[cS];simp
@[simp] theorem zaT (A : List YF) (C : List ZS) (E : List Zy) (N : ZZ) : ∀ (n : Nat) (z : Int) (a : Nat), kJ A C E N n z a = kB A C E N n z a := by
 intro n;induction n with
 |zero=>intros;rfl
 |succ n ih=>intros;simp[kJ,kB,ih,ByteArray.append_assoc]
@[simp] theorem zaS (A : List YF) (C : List ZS) (E : List Zy) (N : ZZ) : kV A C E N = j9 A C E N := by simp [kV, j9]
@[simp] theorem oM (A : ZI) (C : ZR) (E : Int) (h : R maxLen C) : OJ A C E = Sf A C E := by
 unfold OJ Sf Jn;rw[PS _ _ _ (ZY (ZR.QK h))];simp
theorem wP(A:ZI)(C:ZR)(E:List Int)(U:R maxLen C):∀(n v:Nat),v<=maxLen->VP A C E n v=VB A C E n v:=by
 intro n;induction n with
 |zero=>intros;rfl
 |succ n ih=>
  intro v hv;rw[VP,VB];by_cases h:0<v
  ·have hw:W _=(v:Int)-1:=YB Y (by unfold maxLen at hv;omega);rw[show decide ((v:Int)>0)=true by simpa using h,ih (v-1) Y];unfold Er Jn;rw[hw,show((v:Int)-1).toNat=v-1 by omega];rw[PS _ _ _ (ZY (ZR.QK U)),oM _ _ _ U];simp;cases(xf A.b _ A.e).2<;>cases Sf A C ((v:Int)-1)<;>cases jv A.a A.b _ _<;>rfl
  ·rw[show decide ((v:Int)>0)=false by simpa using h];rfl
@[simp] theorem rX (A : ZI) (C : ZR) (E : List Int) (h : R maxLen C) : jI A C E = ql A C E := by
 unfold jI ql;rw[wP A C E h _ _ (Zx (ZR.QK h))]
theorem ER(A:ZI)(C:ZR)(N:Int)(h:R maxLen C):∀(n:Nat)(z a:Int),Sg A C N n z a=SU A C N n z a
 |0,_,_=>rfl
 |n+1,z,a=>by
  have ih:=ER A C N h n;have hr:KO A.b (I C.a a.toNat) A.e=Jn A (I C.a a.toNat):=by rw[PS _ _ _ (ZY (ZR.QK h))];rfl
  simp only[Sg,SU,Ff,hr,ih]
theorem ly(A:ZI)(C:ZR)(E:List Int)(N:Int)(h:R maxLen C):I8 A C E N=Hj A C E N:=by simp only[I8,Hj,ER A C N h,rX A C E h]
theorem Zq(A:ZI)(C:ZR)(E:List Int)(N:ZK)(h:R maxLen C):Ui A C E N=Us A C E N:=by simp only[Ui,Us,Yh,ly A C E _ h]
theorem hR(A:ZI)(C:Q)(E:List (List Int))(N:ZK):∀(n:Nat)(z:Int)(a:Nat),E.length<=a->C.a.length<n+a->a<=C.a.length->KF A C E N n z a=z
 |0,_,_,_,M,Z=>Y
 |n+1,z,a,h0,M,Z=>by
  simp only[KF];rw[show decide (_<(E.length:Int))=false by simp;omega];by_cases hv:a<C.a.length
  ·rw[show decide _=true by simpa using hv];exact hR A C E N n z _ Y Y hv
  ·rw[show decide _=false by simpa using hv];rfl
theorem P0(A:ZI)(C:Q)(E:List (List Int))(N:ZK)(h:R maxLen C):∀(n:Nat)(z:Int)(a:Nat),C.a.length<n+a->a<=C.a.length->qp A C E N n z a=KF A C E N n z a
 |0,_,_,_,_=>rfl
 |n+1,z,a,M,Z=>by
  simp only[qp,KF,Ff,Zq A _ _ N (ZY (Q.Yo h))];by_cases hv:a<C.a.length
  ·rw[show decide _=true by simpa using hv];by_cases ha:a<E.length
   ·rw[show decide _=true by simpa using ha];exact P0 A C E N h n _ _ Y hv
   ·rw[show decide _=false by simpa using ha];exact(hR A C E N n z _ Y Y hv).symm
  ·rw[show decide _=false by simpa using hv];rfl
theorem ME(A:ZI)(C:Q)(E:List (List Int))(N:ZK)(h:R maxLen C):XT A C E N=XH A C E N:=by simp only[XT,XH,P0 A C E N h (C.a.length+1) A.d 0 ab (Nat.zero_le _)]
@[simp] theorem ZAS (A : ZK) : K2 A = Jv A := by simp [K2, Jv]
@[simp] theorem ZAg (A : ZK) : Uu A = qq A := by simp [Uu, qq]
@[simp] theorem ZAx (A : ZK) : Se A = kz A := by simp [Se, kz]
@[simp] theorem zar (A : ZK) : yM A = KT A := by simp [yM, KT]
@[simp] theorem Gz (A : List YF) (C : ZK) : Ue A C = qx A C := by
 unfold Ue qx H0;simp;have H:YX C≠101->(XU C).2=false:=fun h=>by unfold XU;rw[show(YX C !=101)=true by simpa using h];rfl
 have e2:YX C≠102->(Jv C).2=false:=fun h=>by unfold Jv;rw[show(YX C !=102)=true by simpa using h];rfl
 have e3:YX C≠103->(qq C).2=false:=fun h=>by unfold qq;rw[show(YX C !=103)=true by simpa using h];rfl
 have b:YX C≠104->(kz C).2=false:=fun h=>by unfold kz;rw[show(YX C !=104)=true by simpa using h];rfl
 have d:YX C≠105->(KT C).2=false:=fun h=>by unfold KT;rw[show(YX C !=105)=true by simpa using h];rfl
 by_cases M:YX C=101
 ·rw[e2 Y,e3 Y,b Y,d Y,M];simp
 by_cases Z:YX C=102
 ·rw[H M,e3 Y,b Y,d Y,Z];simp
 by_cases h3:YX C=103
 ·rw[H M,e2 Z,b Y,d Y,h3];simp
 by_cases h4:YX C=104
 ·rw[H M,e2 Z,e3 h3,d Y,h4];simp
 by_cases h5:YX C=105
 ·rw[H M,e2 Z,e3 h3,b h4,h5];simp
 rw[H M,e2 Z,e3 h3,b h4,d h5];simp
@[simp] theorem ZT (A : ZK) (C : ZK) : ∀ (n : Nat) (z : Nat), W6 A C n z = yy A C n z := by
 intro n;induction n with
 |zero=>intros;rfl
 |succ n ih=>intros;simp[W6,yy,ih,ByteArray.append_assoc]
@[simp] theorem Hp (A : ZK) (C : ZK) : TU A C = XW A C := by simp [TU, XW]
def DA:List Int->List Int->Bool->Bool
 |[],[],t=>t
 |[],_::_,_=>true
 |_::_,[],_=>false
 |a::as,b::c,t=>bif a !=b then decide (a<b)else DA as c t
theorem mX:∀a t,DA a a t=t
 |[],_=>rfl
 |x::a,t=>by rw[DA,show(x !=x)=false by simp];exact mX a t
theorem rV:∀{a b c:List Int}{t1 t2 t3:Bool},(t1=true->t2=true->t3=true)->DA a b t1=true->DA b c t2=true->DA a c t3=true
 |[],[],[],_,_,_,h,M,Z=>h M Z
 |[],[],_::_,_,_,_,_,_,_=>rfl
 |[],_::_,[],_,_,_,_,_,Z=>by cases Z
 |[],_::_,_::_,_,_,_,_,_,_=>rfl
 |_::_,[],_,_,_,_,_,M,_=>by cases M
 |_::_,_::_,[],_,_,_,_,_,Z=>by cases Z
 |x::a,y::b,z::c,_,_,_,h,M,Z=>by
  simp only[DA]at M Z⊢;by_cases H:x=y
  ·subst H;rw[show(x !=x)=false by simp]at M;by_cases e2:x=z
   ·subst e2;rw[show(x !=x)=false by simp]at Z⊢;exact rV h M Z
   ·rw[show(x !=z)=true by simpa using e2]at Z⊢;exact Z
  ·rw[show(x !=y)=true by simpa using H,cond_true]at M;by_cases e2:y=z
   ·subst e2;grind
   ·rw[show(y !=z)=true by simpa using e2,cond_true]at Z;simp at M Z;rw[show(x !=z)=true by simp;omega];grind
theorem gW:∀{a b:List Int}{t1 t2:Bool},DA a b t1=false->DA b a t2=false->a=b/\t1=false/\t2=false
 |[],[],_,_,M,Z=>⟨rfl,M,Z⟩
 |[],_::_,_,_,M,_=>by cases M
 |_::_,[],_,_,_,Z=>by cases Z
 |x::a,y::b,_,_,M,Z=>by
  simp only[DA]at M Z;by_cases H:x=y
  ·subst H;rw[show(x !=x)=false by simp]at M Z;obtain⟨e,k1,k2⟩:=gW M Z;grind
  ·rw[show(x !=y)=true by simpa using H,cond_true]at M;rw[show(y !=x)=true by simp;omega,cond_true]at Z;simp at M Z;omega
theorem gP(x y:ZK)(t:Bool):∀(n i:Nat),x.b.length<n+i->i<=x.b.length->i<=y.b.length->
  (match yy x y n i with|.inl r1=>r1|.inr _=>bif((x.b.length:Int)!=(y.b.length:Int))then(decide ((x.b.length:Int)<(y.b.length:Int)))else t)=DA (x.b.drop i) (y.b.drop i) t
 |0,i,h,M,_=>Y
 |n+1,i,h,M,Z=>by
  simp only[yy];by_cases O:i<x.b.length
  ·by_cases hy:i<y.b.length
   ·rw[show decide _=true by simpa using O,show decide _=true by simpa using hy,Uk O,Uk hy];simp only[Bool.and_true,cond_true,DA];cases(I x.b i !=I y.b i)with
    |true=>rfl
    |false=>exact gP x y t n (i+1) Y O hy
   ·rw[show decide ((i:Int)<(y.b.length:Int))=false by simpa using hy,Uk O,List.drop_eq_nil_of_le (as:=y.b) Y];simp only[Bool.and_false,cond_false,DA];rw[show(_ !=(y.b.length:Int))=true by simp;omega,cond_true];simp;omega
  ·rw[show decide _=false by simpa using O,List.drop_eq_nil_of_le (as:=x.b) Y];by_cases hy:i<y.b.length
   ·rw[Uk hy,DA,show((x.b.length:Int)!=(y.b.length:Int))=true by simp;omega,cond_true];simp;omega
   ·rw[List.drop_eq_nil_of_le (as:=y.b) Y,DA,show((x.b.length:Int)!=(y.b.length:Int))=false by simp;omega];rfl
def dD(x y:ZK):Bool:=bif(x.a !=y.a)then(decide (x.a<y.a))else(decide (x.f<y.f))
theorem CJ(x y:ZK):XW x y=DA x.b y.b (dD x y):=by have:=gP x y (dD x y) (x.b.length+1) 0 ab (Nat.zero_le _) (Nat.zero_le _);exact this
theorem vI(x:ZK):XW x x=false:=by rw[CJ,mX];simp[dD]
theorem before_trans{x z:ZK}(M:XW x y=true)(Z:XW y z=true):XW x z=true:=by rw[CJ]at M Z⊢;refine rV (fun k1 k2=>?_) M Z;unfold dD at*;by_cases H:x.a=y.a<;>by_cases e2:y.a=z.a<;>by_cases e3:x.a=z.a<;>simp[e3]at k1 k2⊢<;>(try simp_all)<;>omega
theorem p0{x:ZK}(M:XW x y=false)(Z:XW y x=false):x=y:=by
 rw[CJ]at M Z;obtain⟨e,k1,k2⟩:=gW M Z;unfold dD at k1 k2;cases x;cases y;subst e;rename_i k _ m k' b;by_cases a:k=k'
 ·subst a;simp at k1 k2;congr 1;omega
 ·rw[show(k !=k')=true by simpa using a]at k1;rw[show(k' !=k)=true by simp;omega]at k2;grind
def GN(l:List ZK):Prop:=l.Pairwise (fun a b=>XW a b=true)
theorem mN{l:List ZK}(U:GN l)(d:i<j)(hj:j<l.length):XW (I l i) (I l j)=true:=by have M:=List.pairwise_iff_getElem.1 U i j Y hj d;rw[show I l i=l[i]by simp[I,List.getElem?_eq_getElem (show i<l.length by omega)],show I l j=l[j]by simp[I,List.getElem?_eq_getElem hj]];exact M
theorem gn(l:List ZK)(p:ZK):∀(n v:Nat),l.length<n+v->v<=l.length->v<=zK l p n v/\zK l p n v<=l.length/\(∀k,v<=k->k<zK l p n v->XW (I l k) p=true)/\(zK l p n v<l.length->XW (I l (zK l p n v)) p=false)
 |0,v,h,Z=>Y
 |n+1,v,h,Z=>by
  simp only[zK,Hp];by_cases hv:v<l.length
  ·rw[show decide _=true by simpa using hv,Bool.true_and];cases G:XW _ p with
   |true=>
    obtain⟨k1,k2,k3,k4⟩:=gn l p n (v+1) Y hv;refine⟨by simp;omega,k2,fun k a b=>?_,k4⟩;rcases Nat.eq_or_lt_of_le a with rfl|a
    ·exact G
    ·exact k3 k a b
   |false=>exact⟨Nat.le_refl _,Z,fun k a b=>by simp at b;omega,fun _=>G⟩
  ·rw[show decide _=false by simpa using hv];grind
theorem iI(C:Q)(a:Nat)(l:List ZK)(i:Nat):∀(n v:Nat),kO C a l i n v=zK l (I (I C.a a).b i) n v
 |0,_=>rfl
 |n+1,v=>by simp only[kO,zK,Hp,iI C a l i n]
theorem hg(l:List ZK)(p:ZK):Ji l p=true↔∃k,k<l.length/\I l k=p:=by
 refine Iff.trans (Ep (fun _=>rfl) (fun _ _=>rfl) _ 0 ab) ?_;constructor
 ·rintro⟨i,_,M,Z⟩;exact⟨i,M,by simpa using Z⟩
 ·rintro⟨i,M,Z⟩;exact⟨i,Nat.zero_le _,M,by simpa using Z⟩
theorem XM{l:List ZK}(U:GN l)(p:ZK):Rw l p=(bif Ji l p then l else(l.take (zK l p (l.length+1) 0)++[p])++l.drop (zK l p (l.length+1) 0))/\GN (Rw l p):=by
 obtain⟨_,k2,k3,k4⟩:=gn l p (l.length+1) 0 ab (Nat.zero_le _);unfold Rw;generalize zK l p _ 0=z at k2 k3 k4⊢;simp only[Iq];have hh:(decide ((z:Int)<(l.length:Int))&&decide (I l z=p))=Ji l p:=by
  rw[Bool.eq_iff_iff,hg];simp;constructor
  ·rintro⟨M,Z⟩;exact⟨z,Y,Z⟩
  ·rintro⟨j,M,Z⟩;have f:¬j<z:=fun ac=>by have:=k3 j (Nat.zero_le _) ac;rw[Z,vI]at this;cases this
   rcases Nat.eq_or_lt_of_le (Nat.le_of_not_lt f)with rfl|ac
   ·exact⟨Y,Z⟩
   ·have h5:=mN U ac M;grind
 rw[hh];cases hp:Ji l p with
 |true=>exact⟨rfl,U⟩
 |false=>
  refine⟨rfl,?_⟩;have D:∀k,k<l.length->I l k≠p:=fun k hk he=>by have:=(hg l p).2 ⟨k,hk,he⟩;grind
  have e:GN (l.take z++l.drop z):=by rw[List.take_append_drop];exact U
  obtain⟨q1,q2,q3⟩:=List.pairwise_append.1 e;have q:∀a∈l.take z,XW a p=true:=by
   intro a ha;obtain⟨k,hk,rfl⟩:=List.mem_iff_getElem.1 ha;have g:k<z:=by rw[List.length_take]at hk;omega
   have:=k3 k (Nat.zero_le _) g;rw[List.getElem_take];rwa[show I l k=l[k]by simp[I,List.getElem?_eq_getElem (show k<l.length by omega)]]at this
  have d:∀b∈l.drop z,XW p b=true:=by
   by_cases hz:z<l.length
   ·have c:XW p (I l z)=true:=by
     cases hc:XW p _ with
     |true=>rfl
     |false=>exact absurd (p0 (k4 hz) hc) (D z hz)
    rw[Uk hz]at q2⊢;intro b G;rcases List.mem_cons.1 G with rfl|G
    ·exact c
    ·exact before_trans c ((List.pairwise_cons.1 q2).1 b G)
   ·rw[List.drop_eq_nil_of_le Y];intro b G;cases G
  rw[List.append_assoc];refine List.pairwise_append.2 ⟨q1,List.pairwise_cons.2 ⟨d,q2⟩,fun a ha b G=>?_⟩;rcases List.mem_cons.1 (by simpa using G)with rfl|G
  ·exact q a ha
  ·exact q3 a ha b G
theorem ol(h:qx A p=true):0<=YA A p.a:=by
 rw[<-Gz]at h;simp only[Ue,Bool.and_eq_true,oU]at h;have Z:=h.2
 unfold KH zC at Z;cases hc:decide (YA A p.a<0)with
 |true=>rw[hc]at Z;simp at Z
 |false=>simpa using hc
theorem eM(A:ZI)(C:Q)(E:List (List Int))(a:Nat)(h:R maxLen C):∀(n:Nat)(l:List ZK)(i:Nat),GN l->JE A C E a n l i=Jz A C E a n l i/\GN (JE A C E a n l i)
 |0,_,_,_=>⟨rfl,List.Pairwise.nil⟩
 |n+1,l,i,U=>by
  simp only[JE,Jz];cases decide ((i:Int)<_)with
  |false=>exact⟨rfl,U⟩
  |true=>
   simp only[cond_true,iI];generalize(I (I C.a a).b i)=p;have F:OK A C E p=!((!(qx A.a p))||decide (XH A C E p>=zO A p.a)):=by
    unfold OK zO;simp only[Wf,Gz,Br,ME A C E p h];cases hc:qx A.a p with
    |false=>simp
    |true=>have:=ol hc;rw[show decide _=true by simpa using this,show decide (YA A.a p.a<0)=false by simp;omega];simp;grind
   rw[F];obtain⟨e,K⟩:=XM U p;cases G:(_||decide (XH A C E p>=zO A p.a))with
   |true=>rw[Bool.or_assoc,G,Bool.or_true];exact eM A C E a h n l (i+1) U
   |false=>
    rw[Bool.or_assoc,G,Bool.or_false];simp only[Bool.not_false,cond_true];obtain⟨r1,r2⟩:=eM A C E a h n (Rw l p) (i+1) K;refine⟨?_,r2⟩;rw[r1,e];cases Ji l p with
    |true=>rfl
    |false=>simp only[cond_false];congr 2;simp
theorem hZ(A:ZI)(C:Q)(E:List (List Int))(h:R maxLen C):∀(n:Nat)(l:List ZK)(i:Nat),GN l->zp A C E n l i=zm A C E n l i
 |0,_,_,_=>rfl
 |n+1,l,i,U=>by
  simp only[zp,zm];cases decide ((i:Int)<(C.a.length:Int))with
  |false=>rfl
  |true=>obtain⟨r1,r2⟩:=eM A C E i h _ l 0 U;rw[hZ A C E h n _ _ r2,r1]
theorem Bs(A:ZI)(C:Q)(E:List (List Int))(h:R maxLen C):YJ A C E=YL A C E:=hZ A C E h _ [] 0 List.Pairwise.nil
@[simp] theorem ZL (A : List YF) (C : Int) : Nt A C = Nr A C := by simp [Nt, Nr, cS]
@[simp] theorem pF (A : List YF) (C : YE) : SY A C = SZ A C := by simp [SY, SZ, Bool.beq_comm]
@[simp] theorem ZAq (A : ZI) (C : List ZK) (E : G) : ∀ (n : Nat) (z : Int) (a : Nat) (o : Int) (c : Int) (b : Int) (d : Int) (g : Int) (e : Int) (f : Int), Sb A C E n z a o c b d g e f = S5 A C E n z a o c b d g e f := by
 intro n;induction n with
 |zero=>intros;rfl
 |succ n ih=>intros;simp[Sb,S5,ih,ByteArray.append_assoc]
@[simp] theorem s3 (A : ZI) (C : List ZK) (E : G) : Ki A C E = Kt A C E := by simp [Ki, Kt]
theorem NG(C:List ZX):∀(n:Nat)(l:List Int)(i:Nat),kS C n l i=j6 C n l i
 |0,_,_=>rfl
 |n+1,l,i=>by simp only[kS,j6,NG C n]
@[simp] theorem Cv (A : Int) (C : List ZX) : jx A C = xz A C := by simp [jx, xz, pB, NG]
@[simp] theorem tJ (A : Int) (C : ZX) : We A C = xH A C := by simp [We, xH]
def c2(l:List ZX)(v:Nat):Bool:=decide ((v:Int)>0)&&decide ((I l (v-1)).a>=(I l v).a)
def c8(A:ZI)(C:List ZK)(x:ZX):Bool:=Ji C (xH (Xs A.b x) x)
def pw(A:ZI)(C:List ZK)(l:List ZX):Nat->Nat->Bool
 |0,_=>true
 |n+1,v=>bif decide ((v:Int)<(l.length:Int))then((!c2 l v)&&c8 A C (I l v))&&pw A C l n (v+1)else true
theorem mu(A:ZI)(C:List ZK)(l:List ZX):∀n v,l.length<n+v->(pw A C l n v=true↔∀i,v<=i->i<l.length->c2 l i=false/\c8 A C (I l i)=true)
 |0,v,h=>⟨fun _ i M Z=>Y,fun _=>rfl⟩
 |n+1,v,h=>by
  simp only[pw];by_cases hv:v<l.length
  ·rw[show decide _=true by simpa using hv];simp only[cond_true,Bool.and_eq_true,Bool.not_eq_true',mu A C l n (v+1) Y];constructor
   ·rintro⟨M,Z⟩ i h3 h4;rcases Nat.eq_or_lt_of_le h3 with rfl|h3
    ·exact M
    ·exact Z i h3 h4
   ·intro M;grind
  ·rw[show decide _=false by simpa using hv];grind
theorem I9(C:List ZK)(p:ZK):Fu C p=Ji C p:=by
 have:∀n v,MR C p n v=Rp C p n v:=by
  intro n;induction n with
  |zero=>intro v;rfl
  |succ n ih=>intro v;simp only[MR,Rp,ih,Iq,A3]
 simp only[Fu,Ji,this]
theorem k4(A:ZI)(C:List ZK)(l:List ZX):∀n s v,RT A C l n s v=bif pw A C l n v then(match J5 A.b l n s v with|.inl _=>.inl (0,false)|.inr z=>.inr z)else .inl (0,false)
 |0,s,v=>rfl
 |n+1,s,v=>by
  simp only[RT,J5,pw,I2,tJ,p5,I9];cases decide ((v:Int)<_)with
  |false=>rfl
  |true=>rw[k4 A C l n];rw[show(decide _&&decide _)=c2 l v from rfl,show Ji C _=c8 A C (I l v)from rfl];cases(xV A.b (I l v)).2<;>cases c2 l v<;>cases c8 A C (I l v)<;>cases pw A C l n (v+1)<;>rfl
theorem s1(l:List ZX):Xw l=true↔∀i,1<=i->i<l.length->decide ((I l (i-1)).a>=(I l i).a)=false:=by refine Iff.trans (Qk (fun _=>rfl) (fun _ _=>rfl) _ 1 Y true) ?_;simp
theorem i6(A:ZI)(C:Q)(E:List ZK)(k:Nat):∀n b v,(I C.b k).length<n+v->(KR A C E k n b v=true↔b=true/\∀i,v<=i->i<(I C.b k).length->c8 A E (I (I C.b k) i)=true)\/n=0
 |0,_,_,_=>.inr rfl
 |n+1,b,v,h=>by
  left;simp only[KR];by_cases hv:v<(I C.b k).length
  ·rw[show decide _=true by simpa using hv,cond_true];rcases i6 A C E k n (b&&c8 A E (I (I C.b k) v)) (v+1) Y with e|e
   ·refine Iff.trans e ?_;rw[Bool.and_eq_true];constructor
    ·rintro⟨⟨M,Z⟩,h3⟩;refine⟨M,fun i h4 h5=>?_⟩;rcases Nat.eq_or_lt_of_le h4 with rfl|h4
     ·exact Z
     ·exact h3 i h4 h5
    ·rintro⟨M,Z⟩;grind
   ·omega
  ·rw[show decide ((v:Int)<((I C.b k).length:Int))=false by simpa using hv,cond_false];grind
theorem CN(A:ZI)(C:Q)(E:List ZK)(k:Nat):pw A E (I C.b k) ((I C.b k).length+1) 0=(Xw (I C.b k)&&KR A C E k ((I C.b k).length+1) true 0):=by
 rw[Bool.eq_iff_iff,Bool.and_eq_true,mu _ _ _ _ _ ab,s1];rcases i6 A C E k ((I C.b k).length+1) true 0 ab with e|e
 ·rw[e];constructor
  ·intro h;refine⟨fun i M Z=>?_,rfl,fun i M Z=>(h i M Z).2⟩;have:=(h i (Nat.zero_le _) Z).1
   unfold c2 at this;rwa[show decide _=true by simp;omega]at this
  ·rintro⟨M,_,h3⟩ i _ h5;refine⟨?_,h3 i (Nat.zero_le _) h5⟩;unfold c2;by_cases hi:0<i
   ·rw[M i hi h5,Bool.and_false]
   ·rw[show decide _=false by simp;omega];rfl
 ·omega
theorem sw(A:List ZS)(l:List ZX):∀n s v r,J5 A l n s v= .inl r->r=(o.mk 0 0,false)
 |0,_,_,_,h=>aY
 |n+1,s,v,r,h=>by
  simp only[J5]at h;cases hc:decide ((v:Int)<_)with
  |false=>rw[hc]at h;cases h
  |true=>
   cases G:(!(xV A (I l v)).2)with
   |true=>rw[hc,G]at h;cases h;rfl
   |false=>rw[hc,G]at h;exact sw A l n _ _ r h
theorem Yu(A:ZI)(C:Q)(E:List ZK)(k:Nat)(h:R maxLen C):qP A E (I C.b k)=bif(Xw (I C.b k)&&KR A C E k ((I C.b k).length+1) true 0)then((Kc A.b (I C.b k) A.e).1.d,(Kc A.b (I C.b k) A.e).2)else(0,false):=by
 unfold qP Kc;rw[k4,CN];cases(Xw _&&KR A C E k _ true 0)with
 |false=>rfl
 |true=>
  simp;cases hh:J5 A.b _ _ [] 0 with
  |inl r=>rw[sw _ _ _ _ _ _ hh]
  |inr z=>simp only;rw[Gt _ _ (Nat.le_trans (I0 A.b _ _ _ 0 ab ab z hh) (Zx (ZY (Q.UC h))))]
theorem sf(A:ZI)(C:Q)(E:List ZK)(N:G)(ha:(N.d==0)=true):∀(n:Nat)(x:Int)(v:Nat),C.b.length<n+v->v<=C.b.length->KN A C E N n x v=x
 |0,_,_,M,Z=>Y
 |n+1,x,v,M,Z=>by
  simp only[KN];by_cases hv:v<C.b.length
  ·rw[show decide _=true by simpa using hv,ha];exact sf A C E N ha n x _ Y hv
  ·rw[show decide _=false by simpa using hv];rfl
theorem k1(A:ZI)(C:Q)(E:List ZK)(N:G)(h:R maxLen C):∀(n:Nat)(x:Int)(v:Nat),C.b.length<n+v->v<=C.b.length->K1 A C E N n x v=KN A C E N n x v
 |0,_,_,M,Z=>Y
 |n+1,x,v,M,Z=>by
  cases ha:(N.d==0)with
  |true=>rw[sf A C E N ha _ x v M Z];simp only[K1,bne,ha,Bool.not_true,Bool.and_false,cond_false]
  |false=>
   simp only[K1,KN,Mv,Cv];rw[show(N.d !=0)=true by simp only[bne,ha,Bool.not_false],ha,Bool.and_true];by_cases hv:v<C.b.length
   ·rw[show decide _=true by simpa using hv];have ih:=fun x=>k1 A C E N h n x _ Y hv
    simp only[ih,Yu A C E v h];cases(xz N.c _ !=N.d)with
    |true=>simp
    |false=>
     cases Xw _ with
     |false=>rfl
     |true=>
      cases KR A C E v _ true 0 with
      |false=>rfl
      |true=>rfl
   ·rw[show decide _=false by simpa using hv];rfl
theorem ic(A:ZI)(C:Q)(E:List ZK)(N:G):∀(n:Nat)(x:Int)(v:Nat),jc A C E N n x v=K1 A C E N n x v
 |0,_,_=>rfl
 |n+1,x,v=>by simp only[K1,jc,ic A C E N n]
theorem kk(A:ZI)(C:Q)(E:List ZK)(k:Nat):∀(n:Nat)(x:Bool)(v:Nat),Tf A C E k n x v=KR A C E k n x v
 |0,_,_=>rfl
 |n+1,x,v=>by simp only[Tf,KR,kk A C E k n]
theorem iu(A:ZI)(C:Q)(E:List ZK)(N:G):∀(n:Nat)(x:Int)(v:Nat),jZ A C E N n x v=KN A C E N n x v
 |0,_,_=>rfl
 |n+1,x,v=>by simp only[jZ,KN,kk,iu A C E N n]
theorem r0(A:ZI)(C:Q)(E:List ZK)(N:G)(h:R maxLen C):JX A C E N=Jo A C E N:=by simp only[JX,Jo,Wf,ic,iu,k1 A C E N h (C.b.length+1) _ 0 ab (Nat.zero_le _)]
@[simp] theorem zaN (A : List ZK) (C : YE) : ∀ (n : Nat) (z : List Zn) (a : Nat), yx A C n z a = y1 A C n z a := by
 intro n;induction n with
 |zero=>intros;rfl
 |succ n ih=>intros;simp[yx,y1,ih,ByteArray.append_assoc]
@[simp] theorem wE (A : List ZK) (C : YE) : yJ A C = z4 A C := by simp [yJ, z4]
theorem Ci(A:List Zn)(C:Int):∀(n:Nat)(z a o:Int)(i:Nat),(UN A C n z a o i).2=UA A C n a o i
 |0,_,_,_,_=>rfl
 |n+1,z,a,o,i=>by
  simp only[UN,UA,Mv];cases decide ((i:Int)<(A.length:Int))with
  |false=>rfl
  |true=>
   cases((I A i).b !=C)with
   |true=>exact Ci A C n _ _ _ _
   |false=>
    rw[show decide ((I A i).d>=0)=!decide ((I A i).d<0)by rw[<-decide_not];simp];cases decide ((I A i).d<0)with
    |true=>exact Ci A C n _ _ _ _
    |false=>cases(decide (z<0)||decide ((I A i).d<z))<;>exact Ci A C n _ _ _ _
@[simp] theorem l4 (A : List Zn) (C : Int) : zV A C = JT A C := by
 unfold zV JT Rt;have h:=Ci A C (A.length+1) (-1) (-1) (-1) 0
 rw[<-h];simp
theorem hX(l:List o):∀(n:Nat)(z:List o)(a:Nat)(x y:Int),Sx l n z a x y=kj l n z a x y
 |0,_,_,_,_=>rfl
 |n+1,z,a,x,y=>by simp only[Sx,kj,Ff,Mv,hX l n]
theorem iP(l:List o)(x:Int):∀(n v:Nat),Iz l x n v=P5 l x n v
 |0,_=>rfl
 |n+1,v=>by simp only[Iz,P5,iP l x n]
theorem gO(A:List o):∀(n:Nat)(z:List o)(a:Nat),km A n z a=ke A n z a
 |0,_,_=>rfl
 |n+1,z,a=>by simp only[km,ke,Hr,hX,iP,LR,gO A n];cases decide ((a:Int)<_)<;>cases Yy (I A a)<;>rfl
@[simp] theorem Yg (A : List o) : JB A = Qj A := by simp only [JB, Qj, gO]
theorem l2(a:List o)(b c:Int):X4 a b c=Z4 b c a:=by simp only[X4,Z4,A7];cases(y2 b c).2<;>rfl
@[simp] theorem ZCk (A : YE) (C : List Zn) : SJ A C = SL A C := by
 simp only[SJ,SL,l2,Yg,l4]
@[simp] theorem ZCg (A : o) (C : o) : Ml A C = PV A C := by simp [Ml, PV]
@[simp] theorem zau (A : List o) (C : o) : ∀ (n : Nat) (z : Nat), UD A C n z = Vj A C n z := by
 intro n;induction n with
 |zero=>intros;rfl
 |succ n ih=>intros;simp[UD,Vj,ih,ByteArray.append_assoc]
@[simp] theorem tK (A : List o) (C : o) : WX A C = xN A C := by simp [WX, xN]
@[simp] theorem oo (A : YE) (C : List Zn) (E : o) : MP A C E = MK A C E := by simp [MP, MK]
theorem Ef(A:List Zn)(C:Int):∀(n:Nat)(z a o:Int)(i:Nat),((UN A C n z a o i).1,(UN A C n z a o i).2.2)=xe A C n z o i
 |0,_,_,_,_=>rfl
 |n+1,z,a,o,i=>by
  simp only[UN,xe,Mv];cases decide ((i:Int)<(A.length:Int))with
  |false=>rfl
  |true=>
   cases((I A i).b !=C)with
   |true=>exact Ef A C n _ _ _ _
   |false=>
    cases decide ((I A i).d<0)with
    |true=>exact Ef A C n _ _ _ _
    |false=>cases(decide (z<0)||decide ((I A i).d<z))<;>exact Ef A C n _ _ _ _
@[simp] theorem pP (A : List Zn) (C : Int) : jD A C = V2 A C := by
 unfold jD V2 Rt;have h:=Ef A C (A.length+1) (-1) (-1) (-1) 0
 rw[<-h]
theorem F6(s:o):Yy s=true↔0<=s.d/\s.d<=s.c/\s.c<=10000:=by simp[Yy,qI,ZW];omega
@[simp] theorem ZBE (A C : o) : jB A C = zY A C := by
 unfold jB zY;simp only[LR];cases h0:Yy A with
 |false=>rfl
 |true=>
  cases M:Yy C with
  |false=>rfl
  |true=>
   rw[F6]at h0 M;simp only[Mv,Ff,cond_false];generalize hf:(if C.d>A.d then C.d else A.d)=f;generalize ht:(if C.c<A.c then C.c else A.c)=t;have m:0<=f/\f<=10000:=by split at hf<;>omega
   have K:0<=t/\t<=10000:=by split at ht<;>omega
   unfold JL;simp;rw[show(if f>0 then f else 0)=f by split<;>omega,show(if t<10000 then t else 10000)=t by split<;>omega];by_cases a:f<=t
   ·rw[show decide _=false by simp;omega,show Yy _=true from(F6 _).2 ⟨m.1,a,K.2⟩];rfl
   ·rw[show decide _=true by simp;omega,show Yy _=false by
     cases U:Yy _ with
     |false=>rfl
     |true=>rw[F6]at U;exact absurd U.2.1 a]
    rfl
@[simp] theorem ZBv (A : List o) (C : List o) (U : Nat) : ∀ (n : Nat) (z : List o) (a : Nat), S4 A C U n z a = jK A C U n z a := by
 intro n;induction n with
 |zero=>intros;rfl
 |succ n ih=>intros;simp[S4,jK,ih,ByteArray.append_assoc]
@[simp] theorem ZCL (A : List o) (C : List o) : ∀ (n : Nat) (z : List o) (a : Nat), P9 A C n z a = Su A C n z a := by
 intro n;induction n with
 |zero=>intros;rfl
 |succ n ih=>intros;simp[P9,Su,ih,ByteArray.append_assoc]
@[simp] theorem wZ (A : List o) (C : List o) : Ns A C = Pf A C := by simp [Ns, Pf]
theorem lI(c d:o)(h:Yy d=false):Pf [c] [d]=[]:=by
 have hm:(zY c d).2=false:=by unfold zY;rw[h];cases Yy c<;>rfl
 have Z:jK [c] [d] 0 2 [] 0=[]:=by show(bif true then(bif(zY c d).2 then _ else jK [c] [d] 0 1 [] 1)else[])=[];rw[hm];rfl
 show Qj (Su [c] [d] 1 (jK [c] [d] 0 2 [] 0) 1)=[];rw[Z];rfl
@[simp] theorem ZBj (A : YE) (C : List Zn) : UW A C = V1 A C := by
 simp only[UW,V1,pP,wZ];generalize V2 C A.b=g;unfold JL;simp only[Mv,Ff];by_cases M:g<0
 ·have U:Yy (o.mk 0 g)=false:=by
   cases hc:Yy _ with
   |false=>rfl
   |true=>rw[F6]at hc;simp at hc;omega
  rw[lI _ _ U];rw[show decide _=true by simp;omega];rfl
 ·by_cases Z:g>10000
  ·have U:Yy (o.mk 0 g)=false:=by
    cases hc:Yy _ with
    |false=>rfl
    |true=>rw[F6]at hc;simp at hc;omega
   rw[lI _ _ U,show decide (g>10000)=true by simpa using Z,Bool.or_true];rfl
  ·rw[show decide (g>10000)=false by simpa using Z,show(if g<10000 then g else 10000)=g by split<;>omega,show decide _=false by simp;omega];rfl
@[simp] theorem uz (A : YE) (C : List Zn) (E : o) : PA A C E = RB A C E := by simp [PA, RB]
@[simp] theorem zaF (A : List ZK) : ∀ (n : Nat) (z : List YV) (a : Nat), qM A n z a = qD A n z a := by
 intro n;induction n with
 |zero=>intros;rfl
 |succ n ih=>intros;simp[qM,qD,ih,ByteArray.append_assoc]
@[simp] theorem tu (A : List ZK) : Wg A = Wm A := by simp [Wg, Wm]
@[simp] theorem ZBw (A : YV) : P1 A = OA A := by simp [P1, OA]
@[simp] theorem zah (A : YV) : yI A = z5 A := by simp [yI, z5]
@[simp] theorem zap (A : List YF) (C : YV) : Vl A C = Vg A C := by simp [Vl, Vg]
@[simp] theorem zae (A : List YF) (C : List YV) (E : Int) (N : Int) : ∀ (n : Nat) (z : List o) (a : Nat), xn A C E N n z a = xl A C E N n z a := by
 intro n;induction n with
 |zero=>intros;rfl
 |succ n ih=>intros;simp[xn,xl,ih,ByteArray.append_assoc]
@[simp] theorem BO (A : List YF) (C : List YV) (E : Int) (N : Int) : qL A C E N = qA A C E N := by simp [qL, qA]
theorem mT(l:List o)(s:o)(h:xN l s=true):Yy s=true:=by obtain⟨i,_,_,h3⟩:=(Ep (fun _=>rfl) (fun _ _=>rfl) _ 0 ab).1 h;unfold PV at h3;simp at h3;grind
@[simp] theorem tt (A : List YF) (C : List YV) (E N : Int) (T : o) : RM A C E N T = Rz A C E N T := by
 simp only[RM,Rz,LR,tK,BO];cases(E==0)with
 |false=>rfl
 |true=>
  cases hc:xN _ T with
  |false=>simp
  |true=>rw[mT _ _ hc];rfl
theorem Lc(A:ZI)(C:Q)(E:List (List Int))(N:Int)(T:G)(h:R maxLen C):kP A C E N T=kX A C E N T:=by
 unfold kP kX PG;simp only[Bq,wT,Wf,DC,Bs A C E h,ME A C E _ h,r0 A C _ T h,Br,s3,oo,wE,uz,tt,tu];cases PR A with
 |false=>rfl
 |true=>
  cases yK T with
  |false=>rfl
  |true=>
   cases decide (N<0)with
   |true=>rfl
   |false=>
    cases(N !=T.e)with
    |true=>rfl
    |false=>
     cases hk:decide (YA A.a T.a<0)with
     |true=>rfl
     |false=>
      cases xm A.a T with
      |false=>rfl
      |true=>rw[show zO A T.a=kZ A.c (I A.a (YA A.a T.a).toNat).c by unfold zO;rw[hk];rfl];rfl
theorem nl(A:ZI)(C:Q)(E:ZO)(N:G)(h:R maxLen C):Cz A C E N=B8 A C E N:=by simp only[Cz,B8,CP,EW,Lc A C _ _ N h]
theorem FQ(A:ZI)(C:ZU)(h:R maxLen C):kn A C=ky A C:=by
 refine nl _ _ _ _ ⟨⟨Nat.le_of_ble_eq_true rfl,fun x O=>?_⟩,⟨Nat.zero_le _,fun x O=>by cases O⟩⟩;rcases List.mem_cons.1 O with rfl|O
 ·exact ZU.YM h
 ·cases O
@[simp] theorem Ha (A : P) (C : Int) (h : R maxLen A) : Jq A C = KP A C := by
 simp only[Jq,KP,OI];rw[FQ _ _ (ZY (ZD.Z8 (ZY (P.Zs h))))]
@[simp] theorem ZAF (A : Int) : xU A = xZ A := by simp [xU, xZ]
@[simp] theorem ZAn (A : Int) : jN A = jC A := by simp [jN, jC]
@[simp] theorem SE (A : XE) : Ka A = Jr A := by
 unfold Ka Jr;simp;cases M:(A.a.d==0)<;>cases Z:(A.a.c==0)<;>simp only[bne,M,Z,Bool.not_true,Bool.not_false,Bool.or_true,Bool.or_false,Bool.and_true,Bool.and_false,cond_true,cond_false]
@[simp] theorem uY (A : ZI) (C : ZU) (h : R maxLen C) : jF A C = zx A C := by
 simp only[jF,zx,qC,SE,FQ A C h]
theorem vN(A:ZI)(C:ZD)(h:R maxLen C)(l:List ByteArray)(hl:l=C.a.map (zx A)):∀n v i,yk A C n v i=KC l ⟨#[59,32]⟩ n v i
 |0,_,_=>rfl
 |n+1,v,i=>by
  have e:l.length=C.a.length:=by rw[hl,List.length_map]
  simp only[yk,KC,vN A C h l hl n,e];by_cases hi:i<C.a.length
  ·have hn:I l i=zx A (I C.a i):=by rw[hl];exact sH hi
   rw[hn,uY A _ (ZY (ZD.Z8 h))]
  ·rw[show decide _=false by simpa using hi];rfl
@[simp] theorem YC (A : ZI) (C : ZD) (h : R maxLen C) : Wy A C = qi A C := by
 have hi:=qu (fun x=>[zx A x]) (F:=fun n i l=>VV A C n l i) (fun _ _ _=>rfl) (C.a.length+1) 0 [] ab (Nat.zero_le _);rw[List.drop_zero,PB,List.nil_append]at hi;unfold Wy qi;rw[vN A C h _ rfl];simp only[hi,HA,W3,List.length_map]
theorem hO(l z:List Int)(k:Nat):∀n v,TV l k z n v=Q7 l (I z k) n v
 |0,_=>rfl
 |n+1,v=>by simp only[TV,Q7,hO l z k n]
theorem ir(l:List Int)(x:Int):∀n v,l.length<n+v->v<=l.length->(∀i,i<v->I l i<x)->Q7 l x n v<=l.length/\(∀i,i<Q7 l x n v->I l i<x)/\(Q7 l x n v<l.length->¬I l (Q7 l x n v)<x)
 |0,v,h,hv,_=>Y
 |n+1,v,h,hv,G=>by
  refine YY (p:=fun r=>r<=l.length/\(∀i,i<r->I l i<x)/\(r<l.length->¬I l r<x)) (fun hc=>?_) (fun hc=>⟨hv,G,fun hl O=>?_⟩)
  ·simp at hc;exact ir l x n _ Y Y (fun i hi=>by
    rcases Nat.lt_or_ge i v with M|M
    ·exact G i M
    ·rw[show i=v by omega];exact hc.2)
  ·simp at hc;grind
theorem hf(hr:l.Pairwise (·<·))(x:Int):y6 l x=((decide (((Q7 l x (l.length+1) 0):Int)<(l.length:Int)))&&(I l (Q7 l x (l.length+1) 0)==x)):=by
 obtain⟨M,Z,h3⟩:=ir l x (l.length+1) 0 ab (Nat.zero_le _) (fun i hi=>Y);generalize Q7 l x _ 0=p at M Z h3⊢;rw[Bool.eq_iff_iff,AA];constructor
 ·rintro⟨i,_,hi,he⟩;have he:I l i=x:=by simpa using he
  have hp:=fun h=>by have:=Z i h;omega
  have s:p<l.length:=Y;rcases Nat.lt_or_ge p i with h|h
  ·have h4:I l p<I l i:=by rw[WY s,WY hi];exact List.pairwise_iff_getElem.1 hr p i s hi h
   have:=h3 s;omega
  ·rw[show i=p by omega]at he;grind
 ·intro h;simp at h;grind
theorem p8(hr:l.Pairwise (·<·))(x:Int):(yR l x).Pairwise (·<·):=by
 have hh:=hf hr x;unfold yR;obtain⟨M,Z,h3⟩:=ir l x (l.length+1) 0 ab (Nat.zero_le _) (fun i hi=>Y);generalize Q7 l x _ 0=p at M Z h3 hh⊢;refine YY (fun _=>hr) (fun hc=>?_);have ht:∀a∈l.take p,a<x:=fun a ha=>by
  obtain⟨i,hi,rfl⟩:=List.mem_iff_getElem.1 ha;rw[List.length_take]at hi;have:=Z i Y
  rw[WY Y]at this;rwa[List.getElem_take]
 have hd:∀b∈l.drop p,x<b:=fun b G=>by
  obtain⟨i,hi,rfl⟩:=List.mem_iff_getElem.1 G;rw[List.length_drop]at hi;rw[List.getElem_drop];have h5:I l p≠x:=fun e=>by simp at hc;omega
  have h6:I l p<=l[p+i]:=by
   rw[WY Y];rcases Nat.eq_zero_or_pos i with rfl|h
   ·exact Int.le_refl _
   ·exact Int.le_of_lt (List.pairwise_iff_getElem.1 hr p _ Y Y Y)
  omega
 rw[List.append_assoc,List.pairwise_append];refine⟨hr.sublist (List.take_sublist _ _),List.pairwise_cons.2 ⟨hd,hr.sublist (List.drop_sublist _ _)⟩,fun a ha b G=>?_⟩;rcases List.mem_cons.1 G with rfl|G
 ·exact ht a ha
 ·exact Int.lt_trans (ht a ha) (hd b G)
theorem hd(z:List Int):∀(n:Nat)(l:List Int)(v:Nat),l.Pairwise (·<·)->z.length<n+v->v<=z.length->z7 z n l v=(z.drop v).foldl yR l
 |0,l,v,hr,h,hv=>Y
 |n+1,l,v,hr,h,hv=>by
  rw[z7];by_cases ac:v<z.length
  ·rw[decide_eq_true (show _<_ by omega),XN,List.drop_eq_getElem_cons ac,List.foldl_cons,<-WY ac];have hi:=hd z n (yR l (I z v)) _ (p8 hr _) Y ac
   rw[<-hi,CA,hf hr];simp only[hO];show _=z7 z n (bif _ then l else _) _
   cases(_&&_)with
   |true=>rfl
   |false=>simp only[XA];rw[List.take_of_length_le (l:=l.drop _) ab]
  ·rw[decide_eq_false (show ¬_<_ by omega),List.drop_eq_nil_of_le Y];rfl
theorem gE(A:ZU):∀(n:Nat)(l:List Int)(v:Nat),A.a.a.length<n+v->v<=A.a.a.length->jj A n l v=l++(A.a.a.drop v).map (·.c)
 |0,l,v,h,hv=>Y
 |n+1,l,v,h,hv=>by
  rw[jj];by_cases ac:v<A.a.a.length
  ·rw[decide_eq_true (show _<_ by omega),gE A n _ _ Y ac,List.drop_eq_getElem_cons ac,<-WY ac,List.append_assoc];rfl
  ·rw[decide_eq_false (show ¬_<_ by omega),List.drop_eq_nil_of_le Y];simp
theorem g6(A:ZU):∀(n:Nat)(l:List Int)(v:Nat),A.a.a.length<n+v->v<=A.a.a.length->jf A n l v=((A.a.a.drop v).map (·.c)).foldl yR l
 |0,l,v,h,hv=>Y
 |n+1,l,v,h,hv=>by
  rw[jf];by_cases ac:v<A.a.a.length
  ·rw[decide_eq_true (show _<_ by omega),g6 A n _ _ Y ac,List.drop_eq_getElem_cons ac,<-WY ac];rfl
  ·rw[decide_eq_false (show ¬_<_ by omega),List.drop_eq_nil_of_le Y];rfl
@[simp] theorem ZB9 (A : ZU) : UZ A = Vi A := by
 unfold UZ Vi;rw[gE A _ _ _ ab (Nat.zero_le _),g6 A _ _ _ ab (Nat.zero_le _)];show z7 _ _ _ _=_
 rw[hd _ _ _ _ List.Pairwise.nil ab (Nat.zero_le _)];rfl
@[simp] theorem zaB (A : List Int) (C : ZO) (J : Nat) : ∀ (n : Nat) (z : List Int) (a : Nat), zg A C J n z a = zk A C J n z a := by
 intro n;induction n with
 |zero=>intros;rfl
 |succ n ih=>intros;simp[zg,zk,ih,ByteArray.append_assoc]
@[simp] theorem zaG (A : List Int) (C : ZO) (E : List Int) : ∀ (n : Nat) (z : Nat) (a : List Bool) (o : List ByteArray) (c : List Int) (b : List (List Int)), QR A C E n z a o c b = QT A C E n z a o c b := by
 intro n;induction n with
 |zero=>intros;rfl
 |succ n ih=>intros;simp[QR,QT,ih,ByteArray.append_assoc]
@[simp] theorem zaH (A : List Int) (C : ZO) (E : List Int) : Kn A C E = Kq A C E := by simp [Kn, Kq]
@[simp] theorem uj (A : ZU) (C : List Int) : J1 A C = J3 A C := by simp [J1, J3]
@[simp] theorem zaE (A : t) : ∀ (n : Nat) (z : ByteArray) (a : Nat), QU A n z a = QS A n z a := by
 intro n;induction n with
 |zero=>intros;rfl
 |succ n ih=>intros;simp[QU,QS,ih,ByteArray.append_assoc]
@[simp] theorem E9 (A : t) : xo A = xr A := by simp [xo, xr]
theorem LK(A:t):∀n v p q,Jd A n v p q=Jb A n v p q
 |0,_,_,_=>rfl
 |n+1,v,p,q=>by
  simp only[Jd,Jb,LK A n];cases I A.a v with
  |true=>rw[show(decide (((I A.f v).length:Int)>0))=(((I A.f v).length:Int)!=0)by rw[Bool.eq_iff_iff,decide_eq_true_iff,bne_iff_ne];omega];simp
  |false=>simp[Bool.or_comm,Bool.or_assoc,Bool.or_left_comm]
@[simp] theorem uV (A : t) : WL A = z3 A := by
 unfold WL z3;simp only[LK,VC,Gi]
theorem gA(A:Int)(C:t):∀n v,C.c.length<n+v->v<=C.c.length->(∀i,i<v->I C.c i≠A)->X9 A C n v<=C.c.length/\(∀i,i<X9 A C n v->I C.c i≠A)/\(X9 A C n v<C.c.length->I C.c (X9 A C n v)=A)
 |0,v,h,hv,_=>Y
 |n+1,v,h,hv,G=>by
  refine YY (p:=fun r=>r<=C.c.length/\(∀i,i<r->I C.c i≠A)/\(r<C.c.length->I C.c r=A)) (fun hc=>?_) (fun hc=>⟨hv,G,fun hl=>?_⟩)
  ·simp at hc;exact gA A C n _ Y Y (fun i hi=>by
    rcases Nat.lt_or_ge i v with M|M
    ·exact G i M
    ·rw[show i=v by omega];exact hc.2)
  ·simp at hc;grind
theorem m4(A:Int)(C:t):(X9 A C (C.c.length+1) 0=C.c.length/\Kl C.c A=-1)\/(X9 A C (C.c.length+1) 0<C.c.length/\Kl C.c A=(X9 A C (C.c.length+1) 0:Nat)):=by
 obtain⟨M,Z,h3⟩:=gA A C (C.c.length+1) 0 ab (Nat.zero_le _) (fun i hi=>Y);generalize X9 A C _ 0=z at M Z h3⊢;unfold Kl;rcases Un (L:=Sc C.c A) (fun _=>rfl) (fun _ _=>rfl) (C.c.length+1) 0 ab with⟨e,p⟩|⟨i,e,p1,p2,p3,p4⟩
 ·rw[e];rcases Nat.lt_or_ge z C.c.length with h|h
  ·exact absurd (h3 h) aC
  ·exact .inl ⟨Y,rfl⟩
 ·rw[e];have hi:I C.c i=A:=by simpa using p3
  have hz:z<=i:=by
   rcases Nat.lt_or_ge i z with h|h
   ·exact absurd hi (Z i h)
   ·exact h
  have a:¬z<i:=fun h=>by have:=p4 z (Nat.zero_le _) h;simp at this;grind
  grind
theorem iw(A:Int)(C:t){z:Nat}(hz:z<C.c.length)(hi:Kl C.c A=(z:Nat)):∀n l v,QB A C z n l v= .inr (JZ A C n l v)
 |0,_,_=>rfl
 |n+1,l,v=>by simp only[QB,JZ,iw A C hz hi n,Gl,hi,Int.toNat_natCast];rw[show((z:Int)==_)=false by simp;omega];cases decide ((v:Int)<_)<;>cases I C.a v<;>rfl
theorem jp(A:Int)(C:t):∀n l v,C.a.length<n+v->v<=C.a.length->((∀i,v<=i->i<C.a.length->I C.a i=true)/\QB A C C.c.length n l v= .inr (JZ A C n l v))\/((∃i,v<=i/\i<C.a.length/\I C.a i=false)/\QB A C C.c.length n l v= .inl (-1))
 |0,l,v,h,hv=>Y
 |n+1,l,v,h,hv=>by
  simp only[QB,JZ,Gl];by_cases ac:v<C.a.length
  ·rw[decide_eq_true (show _<_ by omega),XN];cases U:I C.a v with
   |false=>exact .inr ⟨⟨v,Nat.le_refl _,ac,U⟩,ab⟩
   |true=>
    rcases jp A C n _ _ Y ac with⟨M,Z⟩|⟨⟨i,w,V,i3⟩,Z⟩
    ·refine .inl ⟨fun i h3 h4=>?_,Z⟩;rcases Nat.eq_or_lt_of_le h3 with rfl|h5
     ·exact U
     ·exact M i h5 h4
    ·exact .inr ⟨⟨i,Y,V,i3⟩,Z⟩
  ·rw[decide_eq_false (show ¬_<_ by omega),XA];grind
@[simp] theorem DE (A : Int) (C : t) : zu A C = zt A C := by
 unfold zu zt;rw[uV];cases hr:z3 C with
 |false=>rfl
 |true=>
  have hl:C.a.length<=6:=by unfold z3 at hr;simp only[ZW]at hr;grind
  rw[show(!true)=false from rfl,Bool.false_or];show(match QB A C _ _ [C.e] 0 with|.inl r2=>r2|.inr k=>KB A k)=_
  obtain⟨c1,c2⟩:=BD C (C.a.length+1) 0 0 ab (Nat.zero_le _) (Int.le_refl _) Y;have hc:jG C=Ja C _ 0 0:=rfl
  rcases m4 A C with⟨M,Z⟩|⟨M,Z⟩
  ·rw[M,Z,show decide _=true from rfl,Bool.true_and];rcases jp A C (C.a.length+1) [C.e] 0 ab (Nat.zero_le _)with⟨g1,g2⟩|⟨⟨i,w,V,i3⟩,g2⟩
   ·have:=c2.2 g1;rw[g2,decide_eq_false (show ¬jG C<_ by omega)];simp
   ·have:¬Ja C _ 0 0=0+_:=fun e=>by rw[c2.1 e i w V]at i3;cases i3
    grind
  ·rw[iw A C M Z,decide_eq_false (show ¬Kl C.c A<0 by omega),Bool.false_and];simp
@[simp] theorem zad (A : ZR) (C : t) : ∀ (n : Nat) (z : List Int) (a : Nat), J9 A C n z a = KD A C n z a := by
 intro n;induction n with
 |zero=>intros;rfl
 |succ n ih=>intros;simp[J9,KD,ih,ByteArray.append_assoc]
@[simp] theorem zas (A : ZR) (C : t) : zA A C = KL A C := by simp [zA, KL]
@[simp] theorem zaP (A : Q) (C : t) : ∀ (n : Nat) (z : List (List Int)) (a : Nat), Qw A C n z a = Qs A C n z a := by
 intro n;induction n with
 |zero=>intros;rfl
 |succ n ih=>intros;simp[Qw,Qs,ih,ByteArray.append_assoc]
@[simp] theorem HB (A : Q) (C : t) : Jh A C = JW A C := by simp [Jh, JW]
theorem JR(A:ZI)(C:Q)(E:t)(N:G)(h:R maxLen C):W8 A C E N=Wv A C E N:=by simp only[W8,Wv,HB,DE,Lc A C _ _ N h]
theorem AX(A:ZI)(C:ZU)(E:t)(h:R maxLen C):xQ A C E=VJ A C E:=by
 refine JR _ _ _ _ ⟨⟨Nat.le_of_ble_eq_true rfl,fun x O=>?_⟩,⟨Nat.zero_le _,fun x O=>by cases O⟩⟩;rcases List.mem_cons.1 O with rfl|O
 ·exact ZU.YM h
 ·cases O
theorem Gx{A:ZU}(h:A.a.a.length=0):Jw A=(ZZ.mk 0 0 0 [] [],false):=by unfold Jw;rw[h];rfl
theorem G8{A:ZU}(h:0<A.a.a.length):Jw A=(I A.a.a (A.a.a.length-1),true):=by unfold Jw;rw[show((_:Int)==0)=false by simp;intro hh;rw[hh]at h;simp at h];rfl
@[simp] theorem An (A : ZI) (C : Int) : Ul A.c C = NP A C := by
 unfold Ul NP;rw[cS];simp
@[simp] theorem ZCl (A : ZI) (C : ZZ) : ∀ (n : Nat) (z : Int) (a : Nat), Mc A C n z a = MO A C n z a := by
 intro n;induction n with
 |zero=>intros;rfl
 |succ n ih=>intros;simp[Mc,MO,ih]
@[simp] theorem ZDp (A : ZI) (C : ZZ) : Fj A C = Hf A C := by simp [Fj, Hf]
theorem Zs(A:ZI)(C:ZU):HQ A C=bif(Jw C).2 then Hf A (Jw C).1 else 0:=by
 unfold HQ;rcases Nat.eq_zero_or_pos C.a.a.length with h|h
 ·rw[Gx h,h];simp
 ·rw[G8 h,show((_:Int)==0)=false by simp;intro hh;rw[hh]at h;simp at h];simp
@[simp] theorem zaQ (A : ZI) (C : ZU) (E : Int) : Vx A C E = UJ A C E := by
 unfold Vx UJ;rw[Zs];rcases Nat.eq_zero_or_pos C.a.a.length with h|h
 ·rw[Gx h,h];simp
 ·rw[G8 h,show((_:Int)==0)=false by simp;intro hh;rw[hh]at h;simp at h];simp
@[simp] theorem ZAe (A : ZI) (C : ZD) (E : Int) : ∀ (n : Nat) (z : List Int) (a : Nat), WN A C E n z a = Wq A C E n z a := by
 intro n;induction n with
 |zero=>intros;rfl
 |succ n ih=>intros;simp[WN,Wq,ih,ByteArray.append_assoc]
@[simp] theorem nO (A : ZI) (C : ZD) (E : Int) : T7 A C E = UM A C E := by simp [T7, UM]
@[simp] theorem Zg (A : List Zy) (C : Int) (E : Int) : Hk A C E = Hc A C E := by simp [Hk, Hc]
theorem h0(A:ZI):∀n l v,JJ A n l v=JI A n l v
 |0,_,_=>rfl
 |n+1,l,v=>by
  simp only[JJ,JI,h0 A n,Wf,Zg,An,cS,ge_iff_le];cases decide ((v:Int)<_)with
  |false=>rfl
  |true=>cases decide (0<=YA A.a (I A.b v).a)<;>rfl
@[simp] theorem zaA (A : ZI) : jL A = KI A := h0 A _ _ _
theorem hN(A:Q)(v:Nat):∀n l i,jH A v n l i=qj A v n i l
 |0,_,_=>rfl
 |n+1,l,i=>by simp only[jH,qj,gV,hN A v n]
theorem k9(A:Q):∀n l i,jJ A n l i=jT A n i l
 |0,_,_=>rfl
 |n+1,l,i=>by simp only[jJ,jT,hN,k9 A n]
theorem j0(A:Q):∀n l i,Wr A n l i=Wb A n i l
 |0,_,_=>rfl
 |n+1,l,i=>by simp only[Wr,Wb,gV,j0 A n]
@[simp] theorem X0 (A : Q) : UT A = UO A := by simp only [UT, UO, k9, j0]
@[simp] theorem ZBu (A : P) : Sw A = WA A := by
 show UT _=UO _;rw[zT,zU,X0]
@[simp] theorem Ay (A : List YF) (C : List ZS) (E : ZX) (N : ZX) : Tb A C E N = zy A C E N := by
 unfold Tb zy;rw[NA,NA];cases xC A C E with
 |false=>simp
 |true=>
  cases xC A C N with
  |false=>simp
  |true=>
   cases ha:(E.a !=N.a)with
   |true=>simp
   |false=>
    rcases Int.lt_trichotomy E.b N.b with h|h|h
    ·simp[show ¬N.b<E.b by omega]
    ·simp[h]
    ·rw[show(E.b==N.b)=false by simp;omega,show(N.b==E.b)=false by simp;omega];grind
theorem hp(A:List YF)(C:List ZS)(E:List ZX)(id i:Nat):∀n b v,i<n+v->v<=i->(ON A C E id i n b v=true↔b=true\/((I E i).a=(id:Int)/\∃k,v<=k/\k<i/\zy A C (I E i) (I E k)=true))
 |0,b,v,h,hv=>Y
 |n+1,b,v,h,hv=>by
  rw[ON,Ay];refine YY (p:=fun r:Bool=>r=true↔b=true\/_) (fun hc=>?_) (fun hc=>?_)
  ·simp at hc;rw[hp A C E id i n _ _ Y Y,Bool.or_eq_true];constructor
   ·rintro((M|M)|⟨M,k,Z,h3,h4⟩)
    ·exact .inl M
    ·exact .inr ⟨hc.2,v,Nat.le_refl _,hc.1,M⟩
    ·exact .inr ⟨M,k,Y,h3,h4⟩
   ·rintro(M|⟨M,k,Z,h3,h4⟩)
    ·exact .inl (.inl M)
    ·rcases Nat.eq_or_lt_of_le Z with rfl|h5
     ·exact .inl (.inr h4)
     ·exact .inr ⟨M,k,h5,h3,h4⟩
  ·simp at hc;constructor
   ·exact .inl
   ·rintro(M|⟨M,k,Z,h3,h4⟩)
    ·exact M
    ·exact absurd M (hc Y)
def gv(A:List YF)(C:List ZS)(E:List ZX)(id i:Nat):Prop:=(I E i).a=(id:Int)/\∃k,0<=k/\k<i/\zy A C (I E i) (I E k)=true
theorem gz(A:List YF)(C:List ZS)(E:List ZX)(id:Nat):∀n b v,E.length<n+v->v<=E.length->(SX A C E id n b v=true↔b=true\/∃i,v<=i/\i<E.length/\gv A C E id i)
 |0,b,v,h,hv=>Y
 |n+1,b,v,h,hv=>by
  rw[SX];by_cases ac:v<E.length
  ·rw[decide_eq_true (show _<_ by omega),XN];rw[gz A C E id n _ (v+1) Y ac,hp A C E id v _ _ _ Y (Nat.zero_le _)];constructor
   ·rintro((M|M)|⟨i,M,Z,h3⟩)
    ·exact .inl M
    ·exact .inr ⟨v,Nat.le_refl _,ac,M⟩
    ·exact .inr ⟨i,Y,Z,h3⟩
   ·rintro(M|⟨i,M,Z,h3⟩)
    ·exact .inl (.inl M)
    ·rcases Nat.eq_or_lt_of_le M with rfl|h5
     ·exact .inl (.inr h3)
     ·exact .inr ⟨i,h5,Z,h3⟩
  ·rw[decide_eq_false (show ¬(v:Int)<_ by omega),XA];grind
theorem rs{α:Type}[Inhabited α]{l:List α}{x:α}(h:j<l.length):I (l.set i x) j=if i=j then x else I l j:=by
 unfold I;by_cases e:i=j
 ·subst e;simp[h]
 ·simp[e]
theorem fD(A:List YF)(C:List ZS)(E:List ZX){i:Nat}(hi:i<E.length):∀n v c,i<n+v->v<=i->c.length=100->(UR A C E i n v c).length=100/\∀j,j<100->(I (UR A C E i n v c) j=true↔I c j=true\/((I E i).a=(j:Int)/\∃k,v<=k/\k<i/\zy A C (I E i) (I E k)=true))
 |0,v,c,h,hv,_=>Y
 |n+1,v,c,h,hv,G=>by
  rw[UR];have ht:(E.take i).length=i:=dt
  by_cases ac:v<i
  ·rw[decide_eq_true (show _<_ by omega),XN,sT ac];refine YY (p:=fun r:List Bool=>r.length=100/\∀j,j<100->(I r j=true↔I c j=true\/((I E i).a=(j:Int)/\∃k,v<=k/\k<i/\zy A C _ (I E k)=true))) (fun hc=>?_) (fun hc=>?_)
   ·simp only[ZW,Bool.and_eq_true,decide_eq_true_eq]at hc;obtain⟨M,Z⟩:=fD A C E hi n _ (c.set (I E i).a.toNat true) Y ac aC;refine⟨M,fun j hj=>?_⟩;rw[Z j hj,rs Y];constructor
    ·rintro(h3|⟨h3,k,h4,h5,h6⟩)
     ·by_cases e:(I E i).a.toNat=j
      ·exact .inr ⟨Y,v,Nat.le_refl _,ac,hc.2⟩
      ·rw[if_neg e]at h3;exact .inl h3
     ·exact .inr ⟨h3,k,Y,h5,h6⟩
    ·rintro(h3|_)
     ·exact .inl aC
     ·exact .inl aC
   ·obtain⟨M,Z⟩:=fD A C E hi n _ c Y ac G;refine⟨M,fun j hj=>?_⟩;rw[Z j hj];constructor
    ·rintro(h3|⟨h3,k,h4,h5,h6⟩)
     ·exact .inl h3
     ·exact .inr ⟨h3,k,Y,h5,h6⟩
    ·rintro(h3|⟨h3,k,h4,h5,h6⟩)
     ·exact .inl h3
     ·rcases Nat.eq_or_lt_of_le h4 with rfl|h7
      ·simp only[ZW,h6,Bool.and_true,Bool.and_eq_false_iff,decide_eq_false_iff_not]at hc;omega
      ·exact .inr ⟨h3,k,h7,h5,h6⟩
  ·rw[decide_eq_false (show ¬_<_ by omega)];grind
theorem hh(A:List YF)(C:List ZS)(E:List ZX):∀n v c,E.length<n+v->v<=E.length->c.length=100->(WC A C E n v c).length=100/\∀j,j<100->(I (WC A C E n v c) j=true↔I c j=true\/∃i,v<=i/\i<E.length/\gv A C E j i)
 |0,v,c,h,hv,_=>Y
 |n+1,v,c,h,hv,G=>by
  rw[WC];by_cases ac:v<E.length
  ·rw[decide_eq_true (show(v:Int)<_ by omega),XN];have ht:(E.take v).length=v:=dt
   obtain⟨g1,g2⟩:=fD A C E ac ((E.take v).length+1) 0 c Y (Nat.zero_le _) G;obtain⟨M,Z⟩:=hh A C E n (v+1) _ Y ac g1;refine⟨M,fun j hj=>?_⟩;rw[Z j hj,g2 j hj];constructor
   ·rintro((h3|h3)|⟨i,h3,h4,h5⟩)
    ·exact .inl h3
    ·exact .inr ⟨v,Nat.le_refl _,ac,h3⟩
    ·exact .inr ⟨i,Y,h4,h5⟩
   ·rintro(h3|⟨i,h3,h4,h5⟩)
    ·exact .inl (.inl h3)
    ·rcases Nat.eq_or_lt_of_le h3 with rfl|h6
     ·exact .inl (.inr h5)
     ·exact .inr ⟨i,h6,h4,h5⟩
  ·rw[decide_eq_false (show ¬(v:Int)<_ by omega),XA];grind
@[simp] theorem ZDO (A : List YF) (C : List ZS) (E : List ZX) : PM A C E = Sv A C E := by
 obtain⟨o,t⟩:=hh A C E (E.length+1) 0 (zB 100) Y (Nat.zero_le _) au;have hz:∀j,j<100->I (zB 100) j=false:=au
 have ag:∀n l v,UL A C E n l v=Vq (WC A C E (E.length+1) 0 (zB 100)) n l v:=by
  intro n;induction n with
  |zero=>intros;rfl
  |succ n ih=>
   intro l v;rw[UL,Vq];by_cases ac:v<100
   ·rw[decide_eq_true (show(v:Int)<=99 by omega),decide_eq_true (show(v:Int)<100 by omega),XN,XN];have e:SX A C E v (E.length+1) false 0=I (WC A C E (E.length+1) 0 (zB 100)) v:=by rw[Bool.eq_iff_iff,gz A C E v _ _ _ Y (Nat.zero_le _),t v ac,hz v ac]
    rw[e,ih,ih]
   ·rw[decide_eq_false (show ¬(v:Int)<=99 by omega),decide_eq_false (show ¬(v:Int)<100 by omega),XA,XA]
 unfold PM Sv;exact ag _ _ _
@[simp] theorem ZAG (A : ZZ) : TW A = VI A := by simp [TW, VI]
@[simp] theorem ZAl (A : ZR) : Rj A = Rh A := by
 unfold Rj Rh;rw[B4 (F:=Ro A) (x:=fun i=>2+((I A.b i).b.length:Int)) (fun v i=>by rw[sF];congr 1;omega) (fun _ _ _=>rfl) _ 0 0 ab ab au,
  B4 (F:=RP A) (fun v i=>rfl) (fun _ _ _=>rfl) _ 0 0 ab ab au]
 simp only;rw[B4 (F:=Rg A) (x:=fun i=>VI (I A.a i)) (fun v i=>ab) (fun _ _ _=>rfl) _ _ 0 ab ab (gl _),
  B4 (F:=RD A) (x:=fun i=>2+_) (fun v i=>by rw[mp]) (fun _ _ _=>rfl) _ _ 0 ab ab (gl _)]
 rw[sF,sF];congr 1;omega
@[simp] theorem zaI (A : ZD) : ∀ (n : Nat) (z : Int) (a : Nat), Ww A n z a = W1 A n z a := by
 intro n;induction n with
 |zero=>intros;rfl
 |succ n ih=>intros;simp[Ww,W1,ih,ByteArray.append_assoc]
@[simp] theorem AV (A : ZD) : VG A = ji A := by simp [VG, ji]
@[simp] theorem Dz (A : P) (C : Int) (h : R maxLen A) : QG A C = Kb A C := by
 have H:=r5 A;have e2:=TY A;have hn:∀i,i<(Yv A).length->I (qE A) i=(I (Yv A) i).b:=fun i hi=>by rw[Dr,show A.a.flatMap (fun a=>a.a.map (·.b))=(Yv A).map (·.b)by rw[Vh,List.map_flatMap]];exact sH hi
 have hl:∀n v i,yp A C n v i=ym A C n v i:=by
  intro n;induction n with
  |zero=>intros;rfl
  |succ n ih=>
   intro v i;simp only[yp,ym,ih,H,e2];by_cases hi:i<(Yv A).length
   ·rw[hn i hi,Ha A _ h]
   ·rw[show decide _=false by rw[<-e2];simpa using hi];rfl
 simp only[QG,Kb,hl,H,e2]
theorem Hu(A:P)(l:List ByteArray)(hl:l=A.a.map (fun a=>Zu (a.a.length:Int)))(p:ByteArray):∀n v i,A.a.length<n+i->i<=A.a.length->qb A n (p++v) i=p++KC l ⟨#[43]⟩ n v i
 |0,_,_,h,Z=>Y
 |n+1,v,i,h,Z=>by
  have e:l.length=A.a.length:=by rw[hl,List.length_map]
  simp only[qb,KC,e,qC];by_cases hi:i<A.a.length
  ·have hn:I l i=Zu ((I A.a i).a.length:Int):=by rw[hl];exact sH hi
   rw[show decide _=true by simpa using hi,hn];cases decide ((i:Int)>0)
   ·rw[XA,XA,ByteArray.append_assoc];exact Hu A l hl p n _ _ Y hi
   ·rw[XN,XN,ByteArray.append_assoc,ByteArray.append_assoc,<-ByteArray.append_assoc (a:=v)];exact Hu A l hl p n _ _ Y hi
  ·rw[show decide _=false by simpa using hi,XA,XA]
theorem NE(x y z:ByteArray):W3 [x,y,z] ⟨#[47]⟩=x++⟨#[47]⟩++y++⟨#[47]⟩++z:=by have e:∀x:ByteArray,(⟨#[]⟩:ByteArray)++x=x:=fun x=>ByteArray.empty_append;simp[W3,KC,I,e]
@[simp] theorem Nz (A : P) (h : R maxLen A) : Tg A = VM A := by
 have hi:=qu (as:=A.a) (fun x=>[Zu (x.a.length:Int)]) (F:=fun n i l=>Tk A n l i) (fun _ _ _=>rfl) (A.a.length+1) 0 [] ab (Nat.zero_le _);rw[List.drop_zero,PB,List.nil_append]at hi;have h3:Ws A 5 [] 1=[Zu (Kb A 1),Zu (Kb A 2),Zu (Kb A 3)]:=by simp[Ws]
 have hj:=Hu A _ rfl (Zu A.b.d++⟨#[32]⟩) (A.a.length+1) ⟨#[]⟩ 0 ab (Nat.zero_le _);have hz:∀x:ByteArray,x++(⟨#[]⟩:ByteArray)=x:=fun x=>ByteArray.append_empty;rw[hz]at hj;unfold Tg VM;simp only[hi,h3,qC,hj,Dz A _ h,NE];simp only[W3,List.length_map,ByteArray.append_assoc]
theorem lp{β:Type}{L:Nat->Nat->Sum Int Unit}(h0:∀v,L 0 v= .inr ())(U:∀n v,L (n+1) v=(bif decide ((v:Int)<(ae:Int))then(bif c v then .inl (v:Int)else L n (v+1))else .inr ()))(hk:k<ae)(hc:c k=true):
  ∃i:Nat,(match L (ae+1) 0 with|.inl r=>r|.inr _=>-1)=(i:Int)/\i<=k:=by
 rcases Un h0 U (ae+1) 0 ab with⟨e,p⟩|⟨i,e,p1,p2,p3,p4⟩
 ·have:=p k ab hk;rw[hc]at this;cases this
 ·refine⟨i,by rw[e],?_⟩;rcases Nat.lt_or_ge k i with h|h
  ·have:=p4 k ab h;rw[hc]at this;cases this
  ·exact h
theorem C2(l:List YE)(hk:k<l.length):∃i:Nat,Jc l (I l k).b=(i:Int)/\i<=k:=
 lp (β:=Int) (fun _=>rfl) (fun _ _=>rfl) hk ab
@[simp] theorem uF (A : P) (k : Nat) : ∀ (n : Nat) (l : List Int) (v : Nat), R9 A k n l v = kr A k n l v := by
 intro n;induction n with
 |zero=>intros;rfl
 |succ n ih=>intros;simp only[R9,kr,ih,CA]
@[simp] theorem FE (A : P) : ∀ (n : Nat) (l : List Int) (v : Nat), Uw A n l v = V9 A n l v := by
 intro n;induction n with
 |zero=>intros;rfl
 |succ n ih=>intros;simp only[Uw,V9,ih,MF,uF]
theorem Bm(A:P)(k:Nat):∀(n:Nat)(l:List Int)(v:Nat),kr A k n l v≠ .inl true:=by
 intro n;induction n with
 |zero=>intro l v h;cases h
 |succ n ih=>
  intro l v h;rw[kr]at h;generalize decide ((v:Int)<_)=c at h;cases c with
  |false=>cases h
  |true=>
   simp only[cond_true]at h;generalize(y6 l (I (I A.a k).a v).b||decide ((I (I A.a k).a v).b>=A.h))=c at h;cases c with
   |true=>cases h
   |false=>exact ih _ _ h
theorem Lw(A:P):∀(n:Nat)(l:List Int)(v:Nat),V9 A n l v≠ .inl true:=by
 intro n;induction n with
 |zero=>intro l v h;cases h
 |succ n ih=>
  intro l v h;rw[V9]at h;generalize decide ((v:Int)<(A.a.length:Int))=c at h;cases c with
  |false=>cases h
  |true=>
   generalize(!Kj (I A.a v)||(I A.a v).b !=(v:Int))=c at h;cases c with
   |true=>cases h
   |false=>
    cases hh:kr A v _ l 0 with
    |inl r=>rw[hh]at h;simp only at h;cases h;exact Bm _ _ _ _ _ hh
    |inr z=>rw[hh]at h;exact ih _ _ h
theorem lX(s:Sum Bool Unit)(ad:Bool):s≠ .inl true->((match s with|.inl r=>r|.inr _=>ad)=true↔s= .inr ()/\ad=true):=by
 intro h;cases s with
 |inl r=>cases r with
  |true=>exact absurd rfl h
  |false=>simp
 |inr u=>simp
@[simp] theorem ZC5 (A : P) : HK A = HM A := by
 rw[Bool.eq_iff_iff];have U:HK A=true↔_:=(Qk (L:=LQ A) (fun _=>rfl) (fun _ _=>rfl) (A.e.length+1) 0 Y _).trans (and_congr_right fun _=>(Qk (L:=LM A) (fun _=>rfl) (fun _ _=>rfl) (A.f.length+1) 0 Y _).trans (and_congr_right fun _=>Qk (L:=Lk A) (fun _=>rfl) (fun _ _=>rfl) (A.g.length+1) 1 Y _))
 have hc:GZ A=true↔_:=(Qk (fun _=>rfl) (fun _ _=>rfl) (A.c.length+1) 0 Y _).trans (and_congr_right fun _=>Qk (L:=NS A) (fun _=>rfl) (fun _ _=>rfl) (A.d.length+1) 0 Y _);have c:H8 A=true↔_:=lX (Uw A (A.a.length+1) [] 0) _ (by rw[FE];exact Lw _ _ _ _);rw[FE]at c;have hl:xj A.f=true↔_:=Qk (fun _=>rfl) (fun _ _=>rfl) (A.f.length+1) 1 Y true;have hg:xj A.g=true↔_:=Qk (fun _=>rfl) (fun _ _=>rfl) (A.g.length+1) 1 Y true;unfold HM;have hi:∀b:Bool,(bif b then false else _)=true↔b=false/\_:=fun b=>by
  cases b
  ·exact((Qk (L:=Lt A) (fun _=>rfl) (fun _ _=>rfl) (A.c.length+1) 0 Y _).trans (and_congr_right fun _=>(lX _ _ (Lw A (A.a.length+1) [] 0)).trans (and_congr_right fun _=>(Qk (L:=LY A) (fun _=>rfl) (fun _ _=>rfl) (A.e.length+1) 0 Y _).trans (and_congr_right fun _=>Qk (L:=LS A) (fun _=>rfl) (fun _ _=>rfl) (A.f.length+1) 0 Y true)))).trans dR
  ·simp
 refine U.trans (Iff.trans ?_ (hi _).symm);simp only[Bool.or_eq_false_iff,Bool.not_eq_false',Bool.and_eq_true,beq_iff_eq,bne_eq_false_iff_eq,decide_eq_true_eq,decide_eq_false_iff_not,VC,Bq,pF,De,Wi,hc,c,hl,hg];constructor
 ·rintro⟨M,Z,h3,⟨⟨⟨h4,h5,h6,h7⟩,h8,h9,al⟩,ah⟩,ap⟩;refine⟨⟨⟨⟨⟨⟨⟨⟨h4,h7⟩,h9⟩,ah⟩,Y⟩,Y⟩,fun i k1 k2=>?_,trivial⟩,h3,trivial⟩,fun i k1 k2=>⟨⟨(h5 i k1 k2).1,?_⟩,h6 i k1 Y⟩,h8,M,fun i k1 k2=>(Z i k1 k2).1⟩
  ·have:=(Z i (Nat.zero_le _) k2).2;simp only[show decide ((i:Int)>0)=true by simp;omega,Bool.true_and,decide_eq_false_iff_not]at this;exact this
  ·obtain⟨m,e,hm⟩:=C2 A.c k2;have:=(h5 i k1 k2).2
   rw[e]at this⊢;omega
 ·rintro⟨⟨⟨⟨⟨⟨⟨⟨h4,h7⟩,h9⟩,ah⟩,ap⟩,al⟩,Z,_⟩,h3,_⟩,h5,h8,M,h6⟩;refine⟨M,fun i k1 k2=>⟨h6 i k1 k2,?_⟩,h3,⟨⟨⟨h4,fun i k1 k2=>⟨(h5 i k1 k2).1.1,?_⟩,fun i k1 k2=>(h5 i k1 Y).2,h7⟩,h8,h9,Y⟩,ah⟩,Y⟩
  ·by_cases h0:0<i
   ·rw[show decide (I A.f (i-1)>=I A.f i)=false by simpa using Z i h0 k2];simp
   ·simp[h0]
  ·rw[(h5 i k1 k2).1.2];omega
@[simp] theorem Gv (A : P) (h : R maxLen A) : Qe A = QP A := by
 rw[Lm,M9,Vh,List.flatMap_assoc];simp_all
@[simp] theorem wW (A : P) (h : R maxLen A) : TT A = TJ A := by
 have hl:∀n v i,qf A n v i=qc A n v i:=by
  intro n;induction n with
  |zero=>intros;rfl
  |succ n ih=>intro v i;simp[qf,qc,ih,Gv A h]
 simp only[TT,TJ,hl,Gv A h]
@[simp] theorem q2 (A : P) (h : R maxLen A) : Nm A = xu A := by
 simp[Nm,xu,wW A h]
theorem s0(M:i<=j)(Z:j<=k):a.extract i j++a.extract j k=a.extract i k:=by apply ByteArray.ext;simp;grind
theorem Ag(a:ByteArray):∀n acc v,(Zk a 32).length<n+v->v<=(Zk a 32).length->xR a n acc v=acc++((Zk a 32).drop v).filter (fun x=>!decide (x=(⟨#[]⟩:ByteArray)))
 |0,acc,v,h,hv=>Y
 |n+1,acc,v,h,hv=>by
  rw[xR];by_cases ac:v<(Zk a 32).length
  ·rw[decide_eq_true (show(v:Int)<_ by omega),XN,Ag a n _ _ Y ac,Ag a n _ _ Y ac,List.drop_eq_getElem_cons ac,List.filter_cons,<-WY ac];cases !decide (I (Zk a 32) v=(⟨#[]⟩:ByteArray))<;>simp
  ·rw[decide_eq_false (show ¬(v:Int)<_ by omega),XA,List.drop_eq_nil_of_le Y];simp
theorem rl{a:ByteArray}(U:a.size<4611686018427387904):∀n acc b f v,a.size+1<n+v->v<=a.size+1->f<=v->acc=b.filter (fun x=>!decide (x=(⟨#[]⟩:ByteArray)))->zL a n acc (a.extract f v) v=(JH a 32 n b (f:Int) v).filter (fun x=>!decide (x=(⟨#[]⟩:ByteArray)))
 |0,acc,b,f,v,h,hv,hf,ha=>Y
 |n+1,acc,b,f,v,h,hv,hf,ha=>by
  rw[zL,JH];by_cases aA:v<=a.size
  ·rw[decide_eq_true (show(v:Int)<=_ by omega),XN,XN];have hw:W ((v:Int)+1)=((v+1:Nat):Int):=by rw[Xf];omega
   have he:(⟨#[]⟩:ByteArray)=a.extract (v+1) (v+1):=by apply ByteArray.ext;simp
   by_cases hc:v<a.size/\¬a7 a v=32
   ·rw[decide_eq_true (show(v:Int)<_ by omega),Bool.true_and,show(((a7 a v):Int)!=32)=true by simp;omega,XN,show((v:Int)==_)=false by simp;omega,show(((a7 a v):Int)==32)=false by simp;omega,Bool.or_false,XA,hw,Int.toNat_natCast,s0 hf (Nat.le_succ v)];exact rl U n acc b f (v+1) Y Y Y ha
   ·rw[show(_&&_)=false by simp;omega,XA,show(_||_)=true by simp;omega,XN,hw];have hi:=fun c Z=>rl U n c (b++[a.extract f v]) (v+1) (v+1) Y Y (Nat.le_refl _) Z
    rw[<-he]at hi;cases O:!decide (a.extract f v=_)with
    |true=>exact hi _ aC
    |false=>exact hi _ aC
  ·rw[decide_eq_false (show ¬(v:Int)<=_ by omega),XA,XA];exact ha
theorem wu(U:a.size<4611686018427387904):QF a=Zt a:=by have h:=rl U (a.size+2) [] [] 0 0 ab (Nat.zero_le _) (Nat.le_refl _) rfl;rw[show a.extract 0 0=(⟨#[]⟩:ByteArray)by apply ByteArray.ext;simp]at h;have Z:=Ag a ((Zk a 32).length+1) [] 0 ab (Nat.zero_le _);exact h.trans Z.symm
theorem j3(l:List ByteArray):∀n acc v,(∃x,Jp l n acc v= .inl (x,false)/\Jj l n acc v= .inl ([],false))\/(∃x,Jp l n acc v= .inr x/\Jj l n acc v= .inr x)
 |0,acc,v=>.inr ⟨_,rfl,rfl⟩
 |n+1,acc,v=>by
  rw[Jp,Jj,Ds];cases decide ((v:Int)<_)with
  |false=>exact .inr ⟨_,rfl,rfl⟩
  |true=>
   cases(XS (I l v)).2 with
   |false=>exact .inl ⟨_,rfl,rfl⟩
   |true=>exact j3 l n _ _
theorem sN(l:List ByteArray):(Z2 l).2=(Zb l).2/\((Zb l).2=true->Z2 l=Zb l):=by
 unfold Z2 Zb;rcases j3 l _ [] 0 with⟨x,H,e2⟩|⟨x,H,e2⟩
 ·rw[H,e2];exact⟨rfl,fun h=>by cases h⟩
 ·rw[H,e2];exact⟨rfl,fun _=>rfl⟩
theorem e5(l:List Int):∀n v i,l.length<n+i->SV l n v i=KC (l.map Zu) ⟨#[32]⟩ n v i
 |0,v,i,h=>rfl
 |n+1,v,i,h=>by
  rw[SV,KC,List.length_map,qC];by_cases hi:i<l.length
  ·rw[decide_eq_true (show _<_ by omega),XN,XN,sH hi,e5 l n _ _ Y,e5 l n _ _ Y]
  ·rw[decide_eq_false (show ¬_<_ by omega),XA,XA]
@[simp] theorem z0 (l : List Int) : PW l = jd l := by
 have hd:=qu (as:=l) (fun x=>[Zu x]) (F:=fun n i acc=>R5 l n acc i) (fun _ _ _=>rfl) (l.length+1) 0 [] Y (Nat.zero_le _);rw[List.drop_zero,PB,List.nil_append]at hd;have hd:R5 l (l.length+1) [] 0=l.map Zu:=hd;unfold PW jd;rw[hd,e5 l _ _ _ Y];unfold HA W3;dsimp only;rw[List.length_map];cases l with
 |nil=>rfl
 |cons x l=>
  have hp:=EH (l:=(x::l).map Zu) (b:=⟨#[32]⟩) (fun y hy=>by obtain⟨z,_,rfl⟩:=List.mem_map.1 hy;exact us z) ((x::l).length+1) ⟨#[]⟩ 0 (by rw[List.length_map];omega) (Nat.zero_le _) (.inl ab);generalize KC ((x::l).map Zu) ⟨#[32]⟩ ((x::l).length+1) ⟨#[]⟩ 0=r at hp⊢;show(bif decide (r=⟨#[]⟩)then _ else r)=r
  rw[decide_eq_false (fun e=>by rw[e]at hp;exact absurd hp au),XA]
theorem i7(w:P)(e:YS)(h:R maxLen w):Ts w e=YO w e:=by unfold Ts YO;simp_all
theorem sm(hn:n<4611686018427387904)(h:(Zu (n:Int)).size=1):n<10:=by
 refine Nat.lt_of_not_le fun hc=>?_;unfold Zu at h;rw[decide_eq_false (show ¬(n:Int)<0 by omega)]at h;have h:(JC 21 (n:Int) []).length=1:=h
 rw[JC,decide_eq_false (show ¬Int.tmod (n:Int) 10<0 by have:=Int.tmod_nonneg (a:=(n:Int)) 10 Y;omega),XA]at h;have hd:W (Int.tdiv (n:Int) 10)≠0:=by rw[Int.tdiv_eq_ediv_of_nonneg Y,Xf];omega
 rw[show(W (Int.tdiv (n:Int) 10)==0)=false by simpa using hd,XA]at h;obtain⟨d,t,e⟩:=R3 20 (W (Int.tdiv (n:Int) 10)) ([UInt8.ofInt (W (48+Int.tmod (n:Int) 10))]++[]) (.inr (by
  rw[Int.tdiv_eq_ediv_of_nonneg Y,Xf];omega)) au
 rw[e]at h;simp at h
theorem El{p:ByteArray}(hk:k<10)(hl:l.length<4611686018427387904):(decide (((w++(⟨#[32]⟩:ByteArray))++Zu (l.length:Int))=p++⟨#[32]⟩++Zu (k:Int)))=(decide (w=p)&&decide (l.length=k)):=by
 rw[Bool.eq_iff_iff,Bool.and_eq_true,decide_eq_true_iff,decide_eq_true_iff,decide_eq_true_iff];constructor
 ·intro h;have Z:=congrArg (fun b:ByteArray=>b.data.toList.reverse) h
  simp only[ByteArray.data_append,Array.toList_append,List.reverse_append]at Z;have ht:∀(x:Int)(r:List UInt8),((Zu x).data.toList.reverse++((#[32]:Array UInt8).toList.reverse++r)).takeWhile (·!=32)=(Zu x).data.toList.reverse:=fun x r=>by
   rw[List.takeWhile_append_of_pos (fun d hh=>by
    have:=FB x d (List.mem_reverse.1 hh);simp;rintro rfl;exact absurd this.1 au)]
   simp
  have h3:=congrArg (List.takeWhile (·!=32)) Z;rw[ht,ht]at h3;have hf:Zu (l.length:Int)=Zu (k:Int):=by apply ByteArray.ext;exact Array.toList_inj.1 (List.reverse_inj.1 h3)
  have hz:∀j:Nat,j<10->(Zu (j:Int)).size=1:=aL;have hi:∀i j:Nat,i<10->j<10->Zu (i:Int)=Zu (j:Int)->i=j:=by have:∀i:Nat,i<10->∀j:Nat,j<10->Zu (i:Int)=Zu (j:Int)->i=j:=aL;grind
  refine⟨?_,hi _ _ (sm hl aC) hk hf⟩;rw[hf]at Z;have h4:=List.append_cancel_left (List.append_cancel_left Z)
  apply ByteArray.ext;exact Array.toList_inj.1 (List.reverse_inj.1 h4)
 ·rintro⟨rfl,rfl⟩;rfl
theorem ip(w:P)(a b c d:Int)(h:QC x=false):XZ w a b x c d=(w,false):=by
 have hd:∀m,Y0 m x=-1:=fun m=>by unfold Y0;rw[h];rfl
 have U:∀k s m,(Xl w.b.a (G.mk k s m (-1) 1 c 0 0 0)).2=false:=fun k s m=>by unfold Xl yK;simp[ZW]
 have ag:∀n v,Qu w a b x c d n v= .inr ()\/Qu w a b x c d n v= .inl (w,false):=by
  intro n;induction n with
  |zero=>intro v;exact .inl rfl
  |succ n ih=>intro v;rw[Qu];simp only[hd];rw[U];grind
 refine g (p:=fun r:P×Bool=>r=_) rfl ?_;rcases ag _ 0 with e|e<;>rw[e]
theorem iT(w:P)(a b c d:Int)(l:List Int)(h:QC x=false):(QN w (YS.mk 2 a b c d x l)).2=false/\(QN w (YS.mk 8 a b c d x l)).2=false:=by
 constructor
 ·show(qQ w a b x c d).2=false;unfold qQ;rw[ip w a b c d h];simp
 ·show(yW w a b x).2=false;unfold yW;rw[ip w a b 0 10000 h];simp
theorem i8(w:P)(b:List ByteArray){k:Int}(hk:k=3\/k=4)(h:R maxLen w):kH w b k=yu w b k:=by
 have D:W (k+1)=k+1:=by rw[Xf];omega
 have w2:W (k-1)=k-1:=by rw[Xf];omega
 unfold kH yu;rw[D,w2,show(decide ((b.length:Int)<=k))=decide ((b.length:Int)<k+1)by rw[decide_eq_decide];omega];cases hl:decide ((b.length:Int)<k+1)with
 |true=>rfl
 |false=>
  have hl:=of_decide_eq_false hl;obtain⟨K,n2⟩:=sN _;rw[XA,XA,K];cases hn:(Zb _).2 with
  |false=>rfl
  |true=>
   rw[n2 hn];have az:=jk _ hn
   rw[show(k-1).toNat=(Zb _).1.length-1 by rw[az,List.length_take,List.length_tail];omega];simp only[B2,qC,ua w _ h];generalize Zb (b.tail.take ((k+1).toNat-1))=N;cases hm:(Xn (I N.1 (N.1.length-1)) (b.drop (k+1).toNat) 11).2 with
   |true=>rfl
   |false=>
    have hz:(Xn (I N.1 (N.1.length-1)) (b.drop (k+1).toNat) 11).1=ZO.mk 0 [] []:=by
     revert hm;unfold Xn;let p:=fun r:ZO×Bool=>r.2=false->r.1=ZO.mk 0 [] []
     grind
    have G:QC (ZO.mk 0 [] [])=false:=aL;rw[hz,(iT w _ _ 0 _ [] G).1,(iT w _ _ 0 0 [] G).2];cases decide (I b 0=_)<;>rfl
theorem ZE(w:P)(b:List ByteArray)(h:R maxLen w):Wj w b=xT w b:=by
 obtain⟨K,n2⟩:=sN (b.drop 3);unfold Wj xT;simp only[Ds,i7 w _ h,K];cases decide ((b.length:Int)<4)with
 |true=>rw[XN,XN]
 |false=>
  rw[XA,XA];cases hn:(Zb (b.drop 3)).2 with
  |false=>simp only[Bool.not_false,Bool.or_true,XN];cases(_&&(((a7 (I b 2) 0):Int)==45))<;>cases(((a7 (I b 2) 0):Int)==45)<;>simp only[XN,XA]
  |true=>
   rw[n2 hn];rw[Bool.or_comm (!(XS (I b 1)).2),Bool.or_comm (!(XS (I b 1)).2)];cases G:(((a7 (I b 2) 0):Int)==45)with
   |false=>rw[Bool.and_false]
   |true=>
    by_cases U:(I b 2).size>1
    ·rw[decide_eq_true (show((I b 2).size:Int)>1 by omega),Bool.true_and]
    ·have he:I b 2=⟨#[45]⟩:=by
      have M:(I b 2).data.toList.length<=1:=by show(I b 2).size<=1;omega
      have Z:(I b 2).data.toList.getD 0 0=45:=by
       have:a7 (I b 2) 0=45:=by simp at G;omega
       exact UInt8.toNat_inj.1 this
      apply ByteArray.ext;apply Array.toList_inj.1;match e:(I b 2).data.toList,M,Z with
      |[],_,Z=>exact absurd Z au
      |[x],_,Z=>have Z:x=45:=Z;rw[Z]
      |x::y::l,M,_=>exact absurd M ab
     rw[decide_eq_false (show ¬((I b 2).size:Int)>1 by omega),Bool.false_and,XA,XN,he];have p1:(XS ⟨#[45]⟩).2=false:=aL
     have p2:(XS ((⟨#[45]⟩:ByteArray).extract 1 (⟨#[45]⟩:ByteArray).size)).2=false:=aL;grind
theorem E5{lit:ByteArray}(p:ByteArray)(k:Nat)(hl:l.length<4611686018427387904)(h:lit=p++⟨#[32]⟩++Zu (k:Int))(hk:k<10):(decide (((w++(⟨#[32]⟩:ByteArray))++Zu (l.length:Int))=lit))=(decide (w=p)&&decide (l.length=k)):=by rw[h];exact El hk hl
theorem iV(w:P)(s:ByteArray)(l:List Int)(hl:l.length<4611686018427387904):kC w s l=(bif decide (s=⟨#[115,104,111,119]⟩)&&decide (l.length=1)then(bif !Z5 w (I l 0)then⟨#[110,111]⟩else qi w.b (I w.a (I l 0).toNat))else bif decide (s=⟨#[100,117,101]⟩)&&decide (l.length=2)then(bif !Z5 w (I l 0)then⟨#[110,111]⟩else jd (UM w.b (I w.a (I l 0).toNat) (I l 1)))else bif decide (s=⟨#[115,105,122,101]⟩)&&decide (l.length=1)then(bif !Z5 w (I l 0)then⟨#[110,111]⟩else Zu (ji (I w.a (I l 0).toNat)))else bif decide (s=⟨#[106,117,100,103,101]⟩)&&decide (l.length=1)then(bif decide ((S w (I l 0)).1<0)then⟨#[110,111]⟩else Jr (KP w (I l 0)))else bif decide (s=⟨#[104,105,100,101]⟩)&&decide (l.length=2)then H4 w (I l 0) (I l 1)else bif decide (s=⟨#[112,108,97,110]⟩)&&decide (l.length=0)then jd (KI w.b)else bif decide (s=⟨#[108,105,97,114,115]⟩)&&decide (l.length=0)then jd (Sv w.b.a w.b.b (WA w))else bif decide (s=⟨#[119,111,114,108,100]⟩)&&decide (l.length=0)then VM w else bif decide (s=⟨#[97,117,100,105,116]⟩)&&decide (l.length=0)then(bif !decide (xu w=⟨#[]⟩)then xu w else⟨#[111,107]⟩)else⟨#[119,104,97,116]⟩):=by unfold kC;rw[E5 ⟨#[115,104,111,119]⟩ 1 hl aL au,E5 ⟨#[100,117,101]⟩ 2 hl aL au,E5 ⟨#[115,105,122,101]⟩ 1 hl aL au,E5 ⟨#[106,117,100,103,101]⟩ 1 hl aL au,E5 ⟨#[104,105,100,101]⟩ 2 hl aL au,E5 ⟨#[112,108,97,110]⟩ 0 hl aL au,E5 ⟨#[108,105,97,114,115]⟩ 0 hl aL au,E5 ⟨#[119,111,114,108,100]⟩ 0 hl aL au,E5 ⟨#[97,117,100,105,116]⟩ 0 hl aL au]
theorem c5(w:P)(b:List ByteArray)(h:R maxLen w)(hl:(Zb b.tail).1.length<4611686018427387904):Ny w b=bif !(Zb b.tail).2 then⟨#[119,104,97,116]⟩else kC w (I b 0) (Zb b.tail).1:=by
 obtain⟨K,n2⟩:=sN b.tail;unfold Ny;rw[K];cases hn:(Zb b.tail).2 with
 |false=>rfl
 |true=>
  rw[n2 hn,show(!true)=false from rfl,iV _ _ _ hl];have hp:=wN b.tail
  generalize(Zb b.tail).1=l at hp⊢;have hw:=Zx (P.Zs h)
  have g:0<l.length->(!Z5 w (I l 0))=decide (I l 0>=(w.a.length:Int)):=fun h0=>by have M:=hp (I l 0) (by rw[WY h0];exact List.getElem_mem h0);have hm:w.a.length<=9223372036854775807:=Nat.le_trans hw au;unfold Z5 ZW;rw[show W _=(w.a.length:Int)-1 by rw[Xf];omega,Bool.eq_iff_iff];simp;omega
  have hf:(bif decide (xu w=⟨#[]⟩)then(⟨#[111,107]⟩:ByteArray)else xu w)=bif !decide (xu w=⟨#[]⟩)then xu w else⟨#[111,107]⟩:=by cases decide (xu w=⟨#[]⟩)<;>rfl
  simp only[Nz w h,q2 w h];rcases(show l.length=0\/l.length=1\/l.length=2\/2<l.length by omega)with h0|h0|h0|h0
  ·simp[h0]
  ·rw[h0];simp only[Nv,Wc,OI,SE,Ha w _ h,YC _ _ (ZY (P.Zs h)),qC,AV,g Y];by_cases g1:I b 0=⟨#[106,117,100,103,101]⟩
   ·rw[g1];rfl
   ·by_cases g2:I b 0=⟨#[115,104,111,119]⟩
    ·rw[g2];rfl
    ·by_cases y:I b 0=⟨#[115,105,122,101]⟩
     ·rw[y];rfl
     ·simp[g2,y]
  ·rw[h0];simp only[Nv,Wc,OI,SE,uj,E9,nO,z0,g Y];by_cases g1:I b 0=⟨#[104,105,100,101]⟩
   ·rw[g1];have hj:xQ w.b=xQ w.b:=rfl
    simp only[AX _ _ _ (ZY (ZD.Z8 (ZY (P.Zs h))))];rfl
   ·by_cases g2:I b 0=⟨#[100,117,101]⟩
    ·rw[g2];rfl
    ·simp[g1,g2]
  ·rw[decide_eq_false (show ¬l.length=0 by omega),decide_eq_false (show ¬l.length=1 by omega),decide_eq_false (show ¬l.length=2 by omega),show((l.length:Int)==0)=false by rw[beq_eq_false_iff_ne];omega,show((l.length:Int)==1)=false by rw[beq_eq_false_iff_ne];omega,show((l.length:Int)==2)=false by rw[beq_eq_false_iff_ne];omega];simp
/-- what a line of an event does -/
def aM(w:P)(N:List Int×Bool)(k:Int)(c:Nat):P×ByteArray×Bool:=bif(!N.2)||!decide (N.1.length=c)then(w,⟨#[119,104,97,116]⟩,true)else((YO w (YS.mk k (I (N.1++[0,0]) 0) (I (N.1++[0,0]) 1) (I (N.1++[0,0]) 2) 0 (ZO.mk 0 [] []) [])).1,(YO w (YS.mk k (I (N.1++[0,0]) 0) (I (N.1++[0,0]) 1) (I (N.1++[0,0]) 2) 0 (ZO.mk 0 [] []) [])).2,true)
theorem SD(w:P)(b:List ByteArray)(h:R maxLen w)(n v:Nat)(p:ByteArray)(k:Int)(c:Nat)(hv:v<7)(M:I ([1,3,4,7,6,9,10]:List Int) v=k)(Z:I ([1,1,1,1,3,2,2]:List Int) v=c)(h3:ya k=p):z8 w b (n+1) v=bif decide (I b 0=p)then .inl (aM w (Zb b.tail) k c)else z8 w b n (v+1):=by
 obtain⟨K,n2⟩:=sN b.tail;rw[z8,decide_eq_true (show(v:Int)<7 by omega),XN,M,Z,h3,K,show decide (p=I b 0)=decide (I b 0=p)by rw[decide_eq_decide];exact eq_comm];cases decide (I b 0=p)with
 |false=>rfl
 |true=>
  rw[show(!true)=false from rfl,XA,XN];unfold aM;cases hn:(Zb b.tail).2 with
  |false=>rfl
  |true=>
   rw[n2 hn,show(((Zb b.tail).1.length:Int)!=(c:Int))=!decide ((Zb b.tail).1.length=c)by rw[Bool.eq_iff_iff];simp;omega];cases decide ((Zb b.tail).1.length=c)with
   |false=>rfl
   |true=>rw[i7 w _ h];rfl
theorem sR(w:P)(b:List ByteArray)(h:R maxLen w):K7 w b=(bif decide (I b 0=⟨#[116,105,99,107]⟩)then aM w (Zb b.tail) 1 1 else bif decide (I b 0=⟨#[97,110,115,119,101,114]⟩)then aM w (Zb b.tail) 3 1 else bif decide (I b 0=⟨#[114,101,118,111,107,101]⟩)then aM w (Zb b.tail) 4 1 else bif decide (I b 0=⟨#[102,111,114,103,101,116]⟩)then aM w (Zb b.tail) 7 1 else bif decide (I b 0=⟨#[109,111,118,101]⟩)then aM w (Zb b.tail) 6 3 else bif decide (I b 0=⟨#[98,97,99,107,100,97,116,101]⟩)then aM w (Zb b.tail) 9 2 else bif decide (I b 0=⟨#[102,97,107,101]⟩)then aM w (Zb b.tail) 10 2 else(w,⟨#[]⟩,false)):=by
 unfold K7;have a:z8 w b 1 7= .inr ():=rfl
 rw[SD w b h 7 0 _ 1 1 au rfl rfl (by decide+kernel:ya 1=⟨#[116,105,99,107]⟩),
  SD w b h 6 1 _ 3 1 au rfl rfl (by decide+kernel:ya 3=⟨#[97,110,115,119,101,114]⟩),
  SD w b h 5 2 _ 4 1 au rfl rfl (by decide+kernel:ya 4=⟨#[114,101,118,111,107,101]⟩),
  SD w b h 4 3 _ 7 1 au rfl rfl (by decide+kernel:ya 7=⟨#[102,111,114,103,101,116]⟩),
  SD w b h 3 4 _ 6 3 au rfl rfl (by decide+kernel:ya 6=⟨#[109,111,118,101]⟩),
  SD w b h 2 5 _ 9 2 au rfl rfl (by decide+kernel:ya 9=⟨#[98,97,99,107,100,97,116,101]⟩),
  SD w b h 1 6 _ 10 2 au rfl rfl (by decide+kernel:ya 10=⟨#[102,97,107,101]⟩)]
 cases decide (I b 0=_)with
 |true=>rfl
 |false=>
 cases decide (I b 0=_)with
 |true=>rfl
 |false=>
 cases decide (I b 0=_)with
 |true=>rfl
 |false=>
 cases decide (I b 0=_)with
 |true=>rfl
 |false=>
 cases decide (I b 0=_)with
 |true=>rfl
 |false=>
 cases decide (I b 0=_)with
 |true=>rfl
 |false=>cases decide (I b 0=_)<;>rfl
/-- the same line, as the program has it -/
def fn(w:P)(N:List Int×Bool)(s:ByteArray):P×ByteArray:=bif !N.2 then(w,⟨#[119,104,97,116]⟩)else(bif decide (s=⟨#[116,105,99,107]⟩)&&decide (N.1.length=1)then((YO w (YS.mk 1 (I N.1 0) 0 0 0 (ZO.mk 0 [] []) [])).1,(YO w (YS.mk 1 (I N.1 0) 0 0 0 (ZO.mk 0 [] []) [])).2)else bif decide (s=⟨#[97,110,115,119,101,114]⟩)&&decide (N.1.length=1)then((YO w (YS.mk 3 (I N.1 0) 0 0 0 (ZO.mk 0 [] []) [])).1,(YO w (YS.mk 3 (I N.1 0) 0 0 0 (ZO.mk 0 [] []) [])).2)else bif decide (s=⟨#[114,101,118,111,107,101]⟩)&&decide (N.1.length=1)then((YO w (YS.mk 4 (I N.1 0) 0 0 0 (ZO.mk 0 [] []) [])).1,(YO w (YS.mk 4 (I N.1 0) 0 0 0 (ZO.mk 0 [] []) [])).2)else bif decide (s=⟨#[102,111,114,103,101,116]⟩)&&decide (N.1.length=1)then((YO w (YS.mk 7 (I N.1 0) 0 0 0 (ZO.mk 0 [] []) [])).1,(YO w (YS.mk 7 (I N.1 0) 0 0 0 (ZO.mk 0 [] []) [])).2)else bif decide (s=⟨#[109,111,118,101]⟩)&&decide (N.1.length=3)then((YO w (YS.mk 6 (I N.1 0) (I N.1 1) (I N.1 2) 0 (ZO.mk 0 [] []) [])).1,(YO w (YS.mk 6 (I N.1 0) (I N.1 1) (I N.1 2) 0 (ZO.mk 0 [] []) [])).2)else bif decide (s=⟨#[98,97,99,107,100,97,116,101]⟩)&&decide (N.1.length=2)then((YO w (YS.mk 9 (I N.1 0) (I N.1 1) 0 0 (ZO.mk 0 [] []) [])).1,(YO w (YS.mk 9 (I N.1 0) (I N.1 1) 0 0 (ZO.mk 0 [] []) [])).2)else bif decide (s=⟨#[102,97,107,101]⟩)&&decide (N.1.length=2)then((YO w (YS.mk 10 (I N.1 0) (I N.1 1) 0 0 (ZO.mk 0 [] []) [])).1,(YO w (YS.mk 10 (I N.1 0) (I N.1 1) 0 0 (ZO.mk 0 [] []) [])).2)else(w,kC w s N.1))
theorem Em(h:i<l.length):I (l++r) i=I l i:=by rw[WY h,WY aC,List.getElem_append_left h]
theorem lk(h:l.length<=i):I (l++r) i=I r (i-l.length):=by simp[I,List.getElem?_append_right h]
theorem Mf(w:P)(s:ByteArray)(l:List Int)(hl:l.length<4611686018427387904)(h:[⟨#[115,104,111,119]⟩,⟨#[100,117,101]⟩,⟨#[115,105,122,101]⟩,⟨#[106,117,100,103,101]⟩,⟨#[104,105,100,101]⟩,⟨#[112,108,97,110]⟩,⟨#[108,105,97,114,115]⟩,⟨#[119,111,114,108,100]⟩,⟨#[97,117,100,105,116]⟩].all (fun x=>!decide (s=x))=true):kC w s l=⟨#[119,104,97,116]⟩:=by simp only[List.all_cons,List.all_nil,Bool.and_true,Bool.and_eq_true,Bool.not_eq_true']at h;obtain⟨M,Z,h3,h4,h5,h6,h7,h8,h9⟩:=h;rw[iV w s l hl,M,Z,h3,h4,h5,h6,h7,h8,h9];simp
theorem ig(w:P)(N:List Int×Bool)(k:Int)(h:N.1.length=1)(hn:N.2=true):((aM w N k 1).1,(aM w N k 1).2.1)=((YO w (YS.mk k (I N.1 0) 0 0 0 (ZO.mk 0 [] []) [])).1,(YO w (YS.mk k (I N.1 0) 0 0 0 (ZO.mk 0 [] []) [])).2):=by unfold aM;rw[hn,decide_eq_true h,show((!true)||!true)=false from rfl,XA,Em Y,lk Y,lk Y,h];rfl
theorem iY(w:P)(N:List Int×Bool)(k:Int)(h:N.1.length=2)(hn:N.2=true):((aM w N k 2).1,(aM w N k 2).2.1)=((YO w (YS.mk k (I N.1 0) (I N.1 1) 0 0 (ZO.mk 0 [] []) [])).1,(YO w (YS.mk k (I N.1 0) (I N.1 1) 0 0 (ZO.mk 0 [] []) [])).2):=by unfold aM;rw[hn,decide_eq_true h,show((!true)||!true)=false from rfl,XA,Em Y,Em Y,lk Y,h];rfl
theorem l0(w:P)(N:List Int×Bool)(k:Int)(h:N.1.length=3)(hn:N.2=true):((aM w N k 3).1,(aM w N k 3).2.1)=((YO w (YS.mk k (I N.1 0) (I N.1 1) (I N.1 2) 0 (ZO.mk 0 [] []) [])).1,(YO w (YS.mk k (I N.1 0) (I N.1 1) (I N.1 2) 0 (ZO.mk 0 [] []) [])).2):=by unfold aM;rw[hn,decide_eq_true h,show((!true)||!true)=false from rfl,XA,Em Y,Em Y,Em Y]
theorem hF{w:P}{k:Int}{c:Nat}(h:N.2=false\/¬N.1.length=c):((aM w N k c).1,(aM w N k c).2.1)=(w,⟨#[119,104,97,116]⟩):=by unfold aM;rw[show((!N.2)||!decide (N.1.length=c))=true by rcases h with h|h<;>simp[h],XN]
theorem pp(w:P)(N:List Int×Bool)(k:Int)(c:Nat):(aM w N k c).2.2=true:=by unfold aM;exact g (p:=fun r:P×ByteArray×Bool=>r.2.2=true) rfl rfl
theorem A4(w:P)(b:List ByteArray)(h:R maxLen w)(hl:(Zb b.tail).1.length<4611686018427387904):(bif(K7 w b).2.2 then((K7 w b).1,(K7 w b).2.1)else(w,Ny w b))=fn w (Zb b.tail) (I b 0):=by
 rw[sR w b h,c5 w b h hl];generalize Zb b.tail=N at hl⊢;generalize I b 0=s;have a:∀(k:Int)(c:Nat)(x:P×ByteArray),(N.2=true->N.1.length=c->((aM w N k c).1,(aM w N k c).2.1)=x)->kC w s N.1=⟨#[119,104,97,116]⟩->(bif(aM w N k c).2.2 then((aM w N k c).1,(aM w N k c).2.1)else(w,bif !N.2 then⟨#[119,104,97,116]⟩else kC w s N.1))=bif !N.2 then(w,⟨#[119,104,97,116]⟩)else bif decide (N.1.length=c)then x else(w,kC w s N.1):=fun k c x O ha=>by
  rw[pp,XN];cases hn:N.2 with
  |false=>rw[hF (.inl hn)];rfl
  |true=>
   by_cases hc:N.1.length=c
   ·rw[decide_eq_true hc,O hn hc];rfl
   ·rw[decide_eq_false hc,hF (.inr hc),ha];rfl
 by_cases g1:s=⟨#[116,105,99,107]⟩
 ·subst g1;exact a 1 1 _ (fun hn hc=>ig w N 1 hc hn) (Mf w _ _ hl aL)
 ·by_cases g2:s=⟨#[97,110,115,119,101,114]⟩
  ·subst g2;exact a 3 1 _ (fun hn hc=>ig w N 3 hc hn) (Mf w _ _ hl aL)
  ·by_cases y:s=⟨#[114,101,118,111,107,101]⟩
   ·subst y;exact a 4 1 _ (fun hn hc=>ig w N 4 hc hn) (Mf w _ _ hl aL)
   ·by_cases g:s=⟨#[102,111,114,103,101,116]⟩
    ·subst g;exact a 7 1 _ (fun hn hc=>ig w N 7 hc hn) (Mf w _ _ hl aL)
    ·by_cases d:s=⟨#[109,111,118,101]⟩
     ·subst d;exact a 6 3 _ (fun hn hc=>l0 w N 6 hc hn) (Mf w _ _ hl aL)
     ·by_cases i:s=⟨#[98,97,99,107,100,97,116,101]⟩
      ·subst i;exact a 9 2 _ (fun hn hc=>iY w N 9 hc hn) (Mf w _ _ hl aL)
      ·by_cases j:s=⟨#[102,97,107,101]⟩
       ·subst j;exact a 10 2 _ (fun hn hc=>iY w N 10 hc hn) (Mf w _ _ hl aL)
       ·unfold fn;rw[decide_eq_false g1,decide_eq_false g2,decide_eq_false y,decide_eq_false g,decide_eq_false d,decide_eq_false i,decide_eq_false j];cases N.2<;>rfl
theorem Ik(w:P)(a:ByteArray)(h:R maxLen w)(U:a.size<4611686018427387904)(hl:(Zb (Zt a).tail).1.length<4611686018427387904):XX w a=Z9 w a:=by have e:Z9 w a=qd w a:=rfl;rw[e];unfold XX qd;rw[wu U,Bool.or_comm,i8 w _ (.inr rfl) h,i8 w _ (.inl rfl) h,ZE w _ h,A4 w _ h hl];unfold fn;rw[E5 ⟨#[116,105,99,107]⟩ 1 hl aL au,E5 ⟨#[97,110,115,119,101,114]⟩ 1 hl aL au,E5 ⟨#[114,101,118,111,107,101]⟩ 1 hl aL au,E5 ⟨#[102,111,114,103,101,116]⟩ 1 hl aL au,E5 ⟨#[109,111,118,101]⟩ 3 hl aL au,E5 ⟨#[98,97,99,107,100,97,116,101]⟩ 2 hl aL au,E5 ⟨#[102,97,107,101]⟩ 2 hl aL au]
theorem Aa{a:ByteArray}(U:a.size<2305843009213693952):∀n acc f v,a.size+1<n+v->v<=a.size->f<=v->∃m e,JH a 10 n acc (f:Int) v=m++[e]/\zI a n acc (f:Int) v=if e=⟨#[]⟩then m else m++[e]
 |0,acc,f,v,h,hv,hf=>Y
 |n+1,acc,f,v,h,hv,hf=>by
  rw[JH,zI,decide_eq_true (show(v:Int)<=_ by omega),XN,XN];have hw:W ((v:Int)+1)=((v+1:Nat):Int):=by rw[Xf];omega
  by_cases ac:v<a.size
  ·rw[show((v:Int)==_)=false by simp;omega,Bool.false_and,XA,hw];cases(((a7 a v):Int)==10)with
   |true=>exact Aa U n _ (v+1) (v+1) Y ac (Nat.le_refl _)
   |false=>exact Aa U n acc f (v+1) Y ac Y
  ·have aB:v=a.size:=Y;subst aB;rw[show(_==(a.size:Int))=true by simp,Bool.true_and,Bool.true_or,XN,XN];cases n with
   |zero=>omega
   |succ n=>
    have M:∀b,JH a 10 (n+1) b (W ((a.size:Int)+1)) (a.size+1)=b:=fun b=>by rw[JH,decide_eq_false (show ¬_ by omega),XA]
    have Z:∀b,zI a (n+1) b (W ((a.size:Int)+1)) (a.size+1)=b:=fun b=>by rw[zI,decide_eq_false (show ¬_ by omega),XA]
    rw[M,Z];refine⟨acc,_,rfl,?_⟩;rw[Int.toNat_natCast];have hz:(a.extract f a.size).size=a.size-f:=by rw[ByteArray.size_extract];omega
    by_cases c:f=a.size
    ·have he:a.extract f a.size=⟨#[]⟩:=ByteArray.ext (Array.eq_empty_of_size_eq_zero (show(a.extract f a.size).size=0 by omega));grind
    ·have he:a.extract f a.size≠⟨#[]⟩:=fun e=>by
      have:(a.extract f a.size).size=0:=by rw[e];rfl
      omega
     grind
theorem pt(L:List ByteArray)(hL:R 1048577 L)(hl:L.length<=60){F:Nat->List ByteArray->Nat->List YF->List ZS->List Zy->Int->Int->List YE->List Int->List ZD->List Int->List Int->Int->List Int->(List ByteArray)×(List YF)×(List ZS)×(List Zy)×Int×Int×(List YE)×(List Int)×(List ZD)×(List Int)×(List Int)×Int×(List Int)}(h0:∀acc v k u m l w c e r q y x g,F 0 acc v k u m l w c e r q y x g=default)(U:∀n acc v k u m l w c e r q y x g,F (n+1) acc v k u m l w c e r q y x g=(bif(decide ((v:Int)<(L.length:Int)))then F n (acc++([(Z9 (P.mk (ZI.mk k u m l w) c e r q y x g) (I L v)).2]:List ByteArray)) (v+1) (Z9 (P.mk (ZI.mk k u m l w) c e r q y x g) (I L v)).1.b.a (Z9 (P.mk (ZI.mk k u m l w) c e r q y x g) (I L v)).1.b.b (Z9 (P.mk (ZI.mk k u m l w) c e r q y x g) (I L v)).1.b.c (Z9 (P.mk (ZI.mk k u m l w) c e r q y x g) (I L v)).1.b.e (Z9 (P.mk (ZI.mk k u m l w) c e r q y x g) (I L v)).1.b.d (Z9 (P.mk (ZI.mk k u m l w) c e r q y x g) (I L v)).1.c (Z9 (P.mk (ZI.mk k u m l w) c e r q y x g) (I L v)).1.d (Z9 (P.mk (ZI.mk k u m l w) c e r q y x g) (I L v)).1.a (Z9 (P.mk (ZI.mk k u m l w) c e r q y x g) (I L v)).1.e (Z9 (P.mk (ZI.mk k u m l w) c e r q y x g) (I L v)).1.f (Z9 (P.mk (ZI.mk k u m l w) c e r q y x g) (I L v)).1.h (Z9 (P.mk (ZI.mk k u m l w) c e r q y x g) (I L v)).1.g else((acc,k,u,m,l,w,c,e,r,q,y,x,g)))):∀n acc v (w:P),R (210+v) w->v<=L.length->kT L n acc v w.b.a w.b.b w.b.c w.b.e w.b.d w.c w.d w.a w.e w.f w.h w.g=F n acc v w.b.a w.b.b w.b.c w.b.e w.b.d w.c w.d w.a w.e w.f w.h w.g
 |0,acc,v,w,h,hv=>by rw[h0];rfl
 |n+1,acc,v,w,h,hv=>by
  rw[kT,U];by_cases ac:v<L.length
  ·rw[decide_eq_true (show _<_ by omega),XN];have hz:(I L v).size<=1048577:=XR (ZY hL)
   have hn:(Zb (Zt (I L v)).tail).1.length<4611686018427387904:=by have M:(Zt (I L v)).length<=1048578:=Zx (QZ Y);have Z:=Zx (jM (n:=1048578) (A:=(Zt (I L v)).tail) aC);omega
   have e:=Ik _ _ (ZJ (Nat.le_trans (show 210+v<=1060 by omega) au) h) Y hn;rw[e];exact pt L hL hl h0 U n _ _ (Z9 w _).1 (PX (n:=210+v) Y h ab) ac
  ·rw[decide_eq_false (show ¬_<_ by omega),XA,XA]
theorem NH{w:P}{l:ByteArray}(h:R n w)(hn:n<=1048576)(hl:R 1048577 l):(XX w l).1.a.length=w.a.length:=by
 have hz:=XR hl;have hn:(Zb (Zt l).tail).1.length<4611686018427387904:=by have M:(Zt l).length<=1048578:=Zx (QZ Y);have Z:=Zx (jM (n:=1048578) (A:=(Zt l).tail) aC);omega
 rw[Ik w l (ZJ (Nat.le_trans e7 (show 1048576<=maxLen by decide)) h) Y hn];exact TG w l
theorem tX(a:ByteArray)(U:a.size<=1048576):zF a=Y9 a:=by
 obtain⟨m,e,M,Z⟩:=Aa (a:=a) Y (a.size+2) [] 0 0 ab (Nat.zero_le _) (Nat.le_refl _);have M:Zk a 10=m++[e]:=M
 have Z:zI a _ [] 0 0=if e=⟨#[]⟩then m else m++[e]:=Z;have y:R 1048577 (Zk a 10):=Nh Y;have hl:(Zk a 10).length=m.length+1:=by rw[M,List.length_append];rfl
 have ht:(Zk a 10).take ((Zk a 10).length-1)=m:=by rw[hl,M,Nat.add_sub_cancel,List.take_left]
 have hn:I (Zk a 10) ((Zk a 10).length-1)=e:=by rw[M,WY ab];simp
 have hw:R (210+0) _:=L3 1 au;unfold zF Y9;rw[Z,hn];by_cases he:e=⟨#[]⟩
 ·rw[if_pos he,decide_eq_true he,XN];by_cases hc:60<m.length
  ·rw[decide_eq_true (show(((Zk a 10).take _).length:Int)>60 by rw[ht];omega),XN];show(bif decide _ then _ else _)=_
   grind
  ·rw[decide_eq_false (show ¬(((Zk a 10).take _).length:Int)>60 by rw[ht];omega)];show(bif decide _ then _ else _)=_
   rw[decide_eq_false (show ¬(m.length:Int)>60 by omega),DP];have hk:=pt _ (BX y) aC (F:=UF a) (fun _ _ _ _ _ _ _ _ _ _ _ _ _ _=>rfl) (fun _ _ _ _ _ _ _ _ _ _ _ _ _ _ _=>rfl) (m.length+1) [] 0 _ hw (Nat.zero_le _)
   rw[ht]at hk⊢;grind
 ·rw[if_neg he,decide_eq_false he,XA,<-M];by_cases hc:60<(Zk a 10).length
  ·rw[decide_eq_true (show((Zk a 10).length:Int)>60 by omega),XN];show(bif decide _ then _ else _)=_
   grind
  ·rw[decide_eq_false (show ¬((Zk a 10).length:Int)>60 by omega)];show(bif decide _ then _ else _)=_
   rw[decide_eq_false (show ¬((Zk a 10).length:Int)>60 by omega),DP];have hk:=pt _ y Y (F:=Ub a) (fun _ _ _ _ _ _ _ _ _ _ _ _ _ _=>rfl) (fun _ _ _ _ _ _ _ _ _ _ _ _ _ _ _=>rfl) ((Zk a 10).length+1) [] 0 _ hw (Nat.zero_le _)
   grind
theorem k0(A:ByteArray):∀(n:Nat)(acc:List ByteArray)(v:Nat)(V:List YF)(b2:List ZS)(t:List Zy)(D Q:Int)(Z:List YE)(U:List Int)(G:List ZD)(b9 ah:List Int)(aj:Int)(ai:List Int),(UF A n acc v V b2 t D Q Z U G b9 ah aj ai).1.length<=acc.length+n
 |0,acc,v,V,b2,t,D,Q,Z,U,G,b9,ah,aj,ai=>Nat.zero_le _
 |n+1,acc,v,V,b2,t,D,Q,Z,U,G,b9,ah,aj,ai=>by refine g (p:=fun r:(List ByteArray)×_=>r.1.length<=acc.length+_) ?_ (Nat.le_add_right _ _);refine Nat.le_trans (k0 A n _ _ _ _ _ _ _ _ _ _ _ _ _ _) ?_;rw[List.length_append,List.length_singleton];omega
theorem i2(A:ByteArray):∀(n:Nat)(acc:List ByteArray)(v:Nat)(V:List YF)(b2:List ZS)(t:List Zy)(D Q:Int)(Z:List YE)(U:List Int)(G:List ZD)(b9 ah:List Int)(aj:Int)(ai:List Int),(Ub A n acc v V b2 t D Q Z U G b9 ah aj ai).1.length<=acc.length+n
 |0,acc,v,V,b2,t,D,Q,Z,U,G,b9,ah,aj,ai=>Nat.zero_le _
 |n+1,acc,v,V,b2,t,D,Q,Z,U,G,b9,ah,aj,ai=>by refine g (p:=fun r:(List ByteArray)×_=>r.1.length<=acc.length+_) ?_ (Nat.le_add_right _ _);refine Nat.le_trans (i2 A n _ _ _ _ _ _ _ _ _ _ _ _ _ _) ?_;rw[List.length_append,List.length_singleton];omega
theorem ug(A:ByteArray)(h:A.size<=1048576):cn (Y9 A).1<=1152921504606846976:=by
 have ag:(Y9 A).1.length<=61:=by
  refine g (p:=fun r:List ByteArray×Bool=>r.1.length<=61) ?_ ?_
  ·by_cases hl:((Zk A 10).take ((Zk A 10).length-1)).length<=60
   ·rw[decide_eq_false Y,XA];exact Nat.le_trans (k0 A _ [] 0 _ _ _ _ _ _ _ _ _ _ _ _) aC
   ·rw[decide_eq_true Y];simp
  ·by_cases hl:(Zk A 10).length<=60
   ·rw[decide_eq_false Y,XA];exact Nat.le_trans (i2 A _ [] 0 _ _ _ _ _ _ _ _ _ _ _ _) aC
   ·rw[decide_eq_true Y];simp
 rw[show cn (Y9 A).1=af cn (Y9 A).1 from rfl,gZ (c:=(cn:ByteArray->Nat)) (m:=1) (fun _=>rfl)];omega
end Go.Mo
