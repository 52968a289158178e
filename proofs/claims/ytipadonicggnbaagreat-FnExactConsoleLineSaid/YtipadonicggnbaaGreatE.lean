/- The models of the program and of the reference agree. No condition. -/
import Derived.Test.YtipadonicggnbaaGreatL
namespace Go.Mo
open Go.Vm
set_option linter.unusedSimpArgs false
set_option linter.unusedVariables false
variable{L:Nat->Nat->Sum Bool Unit}{i ae k j n z:Nat}{c:Nat->Bool}{a w:ByteArray}{A:List YZ}{N:List Int×Bool}{E:O}{x:ZV}{r:List Int}{s d:Int}{G y p:ZS}{e:YT}
theorem ds(x:Int){α:Type}(a b:α):(bif decide (x<0)then a else b)=(bif decide (0<=x)then b else a):=by grind
/-- a loop that looks whether one of the places is bad -/
theorem lF{L:Nat->Nat->Sum Bool Unit}{ae:Nat}{c:Nat->Bool}(h0:∀v,L 0 v= .inr ())(hs:∀n v,L (n+1) v=(bif decide ((v:Int)<(ae:Int))then(bif c v then .inl false else L n (v+1))else .inr ())):
  ∀n v,ae<n+v->(L n v= .inr ()/\∀i,v<=i->i<ae->c i=false)\/(L n v= .inl false/\∃i,v<=i/\i<ae/\c i=true)
 |0,v,h=>.inl ⟨h0 v,fun i I X=>Y⟩
 |n+1,v,h=>by
  rw[hs];by_cases hv:v<ae
  ·rw[show decide _=true by simpa using hv];cases Z:c v with
   |true=>exact .inr ⟨rfl,v,Nat.le_refl _,hv,Z⟩
   |false=>
    rcases lF h0 hs n (v+1) Y with⟨e,k⟩|⟨e,i,k1,k2,k3⟩
    ·grind
    ·exact .inr ⟨e,i,Y,k2,k3⟩
  ·grind
/-- a loop that looks for the first place -/
theorem Wg{β:Type}{L:Nat->Nat->Sum β Unit}{ae:Nat}{c:Nat->Bool}{r:Nat->β}(h0:∀v,L 0 v= .inr ())(hs:∀n v,L (n+1) v=(bif decide ((v:Int)<(ae:Int))then(bif c v then .inl (r v)else L n (v+1))else .inr ())):
  ∀n v,ae<n+v->(L n v= .inr ()/\∀i,v<=i->i<ae->c i=false)\/(∃i,L n v= .inl (r i)/\v<=i/\i<ae/\c i=true/\∀k,v<=k->k<i->c k=false)
 |0,v,h=>.inl ⟨h0 v,fun i I X=>Y⟩
 |n+1,v,h=>by
  rw[hs];by_cases hv:v<ae
  ·rw[show decide _=true by simpa using hv];cases Z:c v with
   |true=>exact .inr ⟨v,rfl,Nat.le_refl _,hv,Z,fun k I X=>Y⟩
   |false=>
    rcases Wg h0 hs n (v+1) Y with⟨e,k⟩|_
    ·grind
    ·grind
  ·grind
/-- the same, as a Boolean -/
theorem Qj(h0:∀v,L 0 v= .inr ())(hs:∀n v,L (n+1) v=(bif decide ((v:Int)<(ae:Int))then(bif c v then .inl false else L n (v+1))else .inr ()))(n v:Nat)(h:ae<n+v)(ad:Bool):
  (match L n v with|.inl r=>r|.inr _=>ad)=true↔(∀i,v<=i->i<ae->c i=false)/\ad=true:=by
 rcases lF h0 hs n v h with⟨e,k⟩|_
 ·grind
 ·grind
theorem HH(h0:∀v,L 0 v= .inr ())(hs:∀n v,L (n+1) v=(bif decide ((v:Int)<(ae:Int))then(bif c v then .inl true else L n (v+1))else .inr ()))(n v:Nat)(h:ae<n+v):
  (match L n v with|.inl r=>r|.inr _=>false)=true↔∃i,v<=i/\i<ae/\c i=true:=by
 rcases Wg h0 hs n v h with⟨e,k⟩|⟨i,e,k1,k2,k3,k4⟩
 ·grind
 ·rw[e];exact⟨fun _=>⟨i,k1,k2,k3⟩,fun _=>rfl⟩
theorem vo{α:Type}[Inhabited α]{l:List α}(h:i<n):C (l.take n) i=C l i:=by unfold C;simp[h]
theorem Ar{α β:Type}[Inhabited α][Inhabited β]{f:α->β}{l:List α}(h:i<l.length):C (l.map f) i=f (C l i):=by simp[C,List.getElem?_eq_getElem h]
@[local simp] theorem xy(A E G:Int):g5 A E G=ZJ A E G:=rfl
@[local simp] theorem F4(A E:Int):VD A E=if E<A then E else A:=by unfold VD;by_cases h:E<A<;>simp
theorem g9(b:UInt8)(l:List UInt8):(ByteArray.mk [b].toArray)++ByteArray.mk l.toArray=ByteArray.mk ((b::l).toArray):=by apply ByteArray.ext;simp
theorem vH:∀(n:Nat)(x:Int)(l:List UInt8),x≠0->(n=21\/x.natAbs<10^n)->qG (n+1) ⟨l.toArray⟩ x=⟨(JE n x l).toArray⟩
 |0,x,l,O,h=>by
  rcases h with h|h
  ·omega
  ·simp at h;exact absurd h O
 |n+1,x,l,O,h=>by
  have J:(x !=0)=true:=by simpa using O
  have hn:=uG h;have fin:∀w,qG (n+1) w 0=w:=fun w=>rfl;rw[qG,J,JE];cases decide (x.tmod 10<0)<;>simp only[cond_true,cond_false]
  ·by_cases hz:W (x.tdiv 10)=0
   ·rw[hz,show((0:Int)==0)=true from rfl,g9];rfl
   ·rw[show(W _==0)=false by simpa using hz,vH n _ _ hz (.inr hn)];rfl
  ·by_cases hz:W (x.tdiv 10)=0
   ·rw[hz,show((0:Int)==0)=true from rfl,g9];rfl
   ·rw[show(W _==0)=false by simpa using hz,vH n _ _ hz (.inr hn)];rfl
@[local simp] theorem x1(A:Int):IE A=Zr A:=by
 unfold IE;by_cases h:A=0
 ·subst h;rfl
 ·rw[show(A==0)=false by simpa using h];have:=vH 21 A [] h (.inl rfl)
  rw[this];rfl
theorem i9(b:ByteArray)(i:Nat):bk b i<256:=UInt8.toNat_lt _
theorem LY(A:ByteArray):∀n x v,Un A n x v=yd A n x v
 |0,_,_=>rfl
 |n+1,x,v=>by
  have h:(!(ZJ (W ((bk A v):Int)) 48 57))=((decide (((bk A v):Int)<48))||(decide (((bk A v):Int)>57))):=by have J:=i9 A v;rw[show W _=((bk A v):Int)by rw[X8];omega,Bool.eq_iff_iff];unfold ZJ;rw[Bool.not_eq_true',Bool.and_eq_false_iff,Bool.or_eq_true,decide_eq_true_iff,decide_eq_true_iff,decide_eq_false_iff_not,decide_eq_false_iff_not];omega
  simp only[Un,yd,LY A n,h]
@[local simp] theorem sa(A:ByteArray):G1 A=YY A:=by
 have h:(!(ZJ (A.size:Int) 1 13))=((decide (A=(⟨#[]⟩:ByteArray)))||(decide ((A.size:Int)>13))):=by have e:A=⟨#[]⟩↔A.size=0:=⟨fun h=>by rw[h];rfl,fun h=>ByteArray.ext (Array.eq_empty_of_size_eq_zero h)⟩;rw[Bool.eq_iff_iff];unfold ZJ;rw[Bool.not_eq_true',Bool.and_eq_false_iff,Bool.or_eq_true,decide_eq_true_iff,decide_eq_true_iff,decide_eq_false_iff_not,decide_eq_false_iff_not,e];omega
 unfold G1 YY;simp only[h,LY]
@[local simp] theorem N3(A E:Int):yz A E=if E>A then E else A:=by unfold yz;by_cases h:E>A<;>simp
@[local simp] theorem AN(A:ZV):Mj A=Xm A:=by
 rw[Bool.eq_iff_iff];have hs:Mj A=true↔_:=(Qj (L:=U2 A) (fun _=>rfl) (fun _ _=>rfl) (A.a.length+1) 0 Y _).trans (and_congr_right fun _=>Qj (L:=Uk A) (fun _=>rfl) (fun _ _=>rfl) (A.d.length+1) 0 Y _)
 rw[hs];unfold Xm;have hi:∀b:Bool,(bif b then false else _)=true↔b=false/\_:=fun b=>by
  cases b
  ·exact(Qj (L:=Uf A) (fun _=>rfl) (fun _ _=>rfl) (A.a.length+1) 0 Y true).trans (by simp;exact Iff.rfl)
  ·simp
 refine Iff.trans ?_ (hi _).symm;simp;grind
theorem RF(A:Int)(E:List ByteArray)(G:Int):∀n v l,qq A E G n v l=zc A E G n v l
 |0,_,_=>rfl
 |n+1,v,l=>by simp only[qq,zc,RF A E G n,show ∀x y,yz x y=we x y from fun x y=>by rw[N3];rfl]
@[local simp] theorem FE(A:Int)(E:List ByteArray)(G:Int):R1 A E G=Y0 A E G:=by
 unfold R1 Y0;simp only[RF];cases xw G with
 |false=>simp
 |true=>
  cases h:Xm _ with
  |false=>simp
  |true=>
   have hl:E.length<=6:=by unfold Xm at h;simp only[ZJ]at h;grind
   rw[decide_eq_false (show ¬(E.length:Int)>6 by omega)];rfl
theorem sC(A:ZF)(E:Int)(h:cn A<=33554464):cn (zV A E).1<=1152921504606846976:=by have e:cn (zV A E).1=cn A:=g (p:=fun(r:ZF×Bool)=>cn r.1=cn A) rfl rfl;omega
@[local simp] theorem Zk(A:List Z8)(E:Int):∀(n:Nat)(v0:Int)(a:Nat),qS A E n v0 a=qX A E n v0 a:=by
 intro n;induction n with
 |zero=>intros;rfl
 |succ n ih=>intros;simp[qS,qX,ih,ByteArray.append_assoc]
@[local simp] theorem Br(A:List Z8)(E:Int):Ms A E=ZL A E:=by simp[Ms,ZL]
theorem ER(E:ByteArray):∀(n:Nat)(p l:List Int)(v:Nat),E.size<n+v->v<=E.size->km E n (p++l) v=p++WJ E.data.toList n l v:=by
 intro n;induction n with
 |zero=>intro p l v h hv;omega
 |succ n ih=>
  intro p l v h al;have hs:E.size=E.data.toList.length:=(Array.length_toList).symm
  rw[km,WJ,<-hs];by_cases hv:v<E.size
  ·rw[show decide _=true by simpa using hv];rw[List.append_assoc,ih p _ _ Y Y];rfl
  ·grind
@[local simp] theorem Bd(A:Int)(E:ByteArray)(G:Int):Md A E G=yb A E G:=by have:=ER E (E.size+1) [G] [] 0 ab ab;simp at this;simp only[Md,this];rfl
@[local simp] theorem Qs(A:List YZ)(E:Zu):MT A E=XJ A E:=by by_cases h:Zi A E.c<0<;>simp[MT,XJ,yX,h]
@[local simp] theorem zaf(A E:List Int):UC A E=decide (A=E):=mN (fun i=>by simp[bne,Bool.beq_eq_decide_eq]) (fun _=>rfl) (fun _ _=>rfl)
@[local simp] theorem Tp(A E:ZS):Kx A E=decide (A=E):=by obtain⟨t,p,s⟩:=A;obtain⟨t',R,s'⟩:=E;by_cases I:t=t'<;>by_cases X:p=R<;>by_cases h3:s=s'<;>simp_all[Kx]
theorem LR(A:ZY)(hk:k<A.a.length):decide (Kh A (C A.a k)<(k:Int))=QF (A.a.take k) (C A.a k):=by
 rw[Bool.eq_iff_iff];have hi:QF (A.a.take k) (C A.a k)=true↔_:=HH (fun _=>rfl) (fun _ _=>rfl) _ 0 Y
 rw[hi];unfold Kh;have hl:(A.a.take k).length=k:=a0
 rw[hl];rcases Wg (L:=VA A (C A.a k)) (r:=fun i=>(i:Int)) (fun _=>rfl) (fun _ _=>rfl) (A.a.length+1) 0 Y with⟨e,p⟩|⟨i,e,p1,p2,p3,p4⟩
 ·have:=p k (Nat.zero_le _) hk;simp at this
 ·rw[e];simp only[decide_eq_true_eq];constructor
  ·intro h;exact⟨i,Nat.zero_le _,Y,by rw[vo Y];simpa using p3⟩
  ·rintro⟨j,_,hj,Z⟩;rw[vo hj]at Z;rcases Nat.lt_or_ge j i with h|h
   ·have:=p4 j (Nat.zero_le _) h;simp at this Z;exact absurd Z this
   ·omega
@[local simp] theorem sM(A:ZY):G6 A=qF A:=by
 rw[Bool.eq_iff_iff];have hs:G6 A=true↔_:=(Qj (fun _=>rfl) (fun _ _=>rfl) (A.a.length+1) 0 Y _).trans (and_congr_right fun _=>Qj (fun _=>rfl) (fun _ _=>rfl) (A.b.length+1) 0 Y _)
 rw[hs];unfold qF;have hi:∀b:Bool,(bif b then false else _)=true↔b=false/\_:=fun b=>by
  cases b
  ·exact((Qj (L:=Ro A) (fun _=>rfl) (fun _ _=>rfl) (A.a.length+1) 0 Y _).trans (and_congr_right fun _=>Qj (L:=Rm A) (fun _=>rfl) (fun _ _=>rfl) (A.b.length+1) 0 Y true)).trans eY
  ·simp
 refine Iff.trans ?_ (hi _).symm;simp only[Bool.or_eq_false_iff,Bool.not_eq_false',Bool.and_eq_true,Bool.not_false];constructor
 ·rintro⟨I,X,h3,h4⟩;exact⟨⟨h3,by simpa using h4⟩,fun i hz hi=>by rw[<-LR A hi];exact I i hz hi,fun i hz hi=>by simpa using X i hz hi⟩
 ·rintro⟨⟨h3,h4⟩,I,X⟩;exact⟨fun i hz hi=>by rw[LR A hi];exact I i hz hi,fun i hz hi=>by simpa using X i hz hi,h3,by simpa using h4⟩
theorem vW{l:List ZU}(h:i<l.length):l.drop i=C l i::l.drop (i+1):=by rw[List.drop_eq_getElem_cons h];simp[C,List.getElem?_eq_getElem h]
theorem i8(A:ZE)(E:ZU):∀(m i:Nat)(l:List ZU),A.a.length<m+i->i<=A.a.length->yr A E m true i l=(true,l++A.a.drop i)
 |0,i,l,h,hi=>Y
 |m+1,i,l,h,hi=>by
  simp only[yr];cases Z:decide ((i:Int)<_)with
  |false=>grind
  |true=>have ag:i<A.a.length:=bU;simp;rw[i8 A E m (i+1) _ Y ag,vW ag];simp
theorem gB(A:ZE)(E:ZU)(W:∀k,k<A.a.length->(C A.a k).b≠E.b):∀(m i:Nat)(l:List ZU),A.a.length<m+i->i<=A.a.length->
  i<=X3 A E m i/\X3 A E m i<=A.a.length/\
  yr A E m false i l=(bif decide (X3 A E m i<A.a.length)then(true,l++(A.a.take (X3 A E m i)).drop i++[E]++A.a.drop (X3 A E m i))else(false,l++A.a.drop i))
 |0,i,l,h,hi=>Y
 |m+1,i,l,h,hi=>by
  by_cases ag:i<A.a.length
  ·have Z:decide ((i:Int)<(A.a.length:Int))=true:=by simpa using ag
   have hn:=W i ag;by_cases b:E.b<(C A.a i).b
   ·have H:X3 A E (m+1) i=i:=by simp only[X3,Z,show decide ((C A.a i).b<E.b)=false by simp;omega,Bool.true_and,cond_false]
    rw[H];refine⟨Nat.le_refl _,Y,?_⟩;simp only[yr,Z,show decide _=true by simpa using b,Bool.not_false,Bool.true_and,cond_true];rw[i8 A E m (i+1) _ Y ag,show decide _=true by simpa using ag,vW ag];simp
   ·have X:(C A.a i).b<E.b:=Y;have H:X3 A E (m+1) i=X3 A E m (i+1):=by simp only[X3,Z,show decide _=true by simpa using X,Bool.true_and,cond_true]
    rw[H];obtain⟨k1,k2,k3⟩:=gB A E W m (i+1) _ Y ag;simp only[yr,Z,Bool.not_false,Bool.true_and,cond_true,cond_false];rw[k3];have ht:(A.a.take (X3 A E m (i+1))).drop i=C A.a i::(A.a.take (X3 A E m (i+1))).drop (i+1):=by have ay:i<(A.a.take (X3 A E m (i+1))).length:=a0;rw[vW ay];congr 1;simp only[C,List.getD_eq_getElem?_getD];grind
    grind
  ·have Z:decide ((i:Int)<(A.a.length:Int))=false:=by simpa using ag
   have H:X3 A E (m+1) i=i:=by simp only[X3,Z,Bool.false_and,cond_false]
   rw[H];simp only[yr,Z,cond_false];grind
theorem AG{A:ZE}(h:B A s<0):∀k,k<A.a.length->(C A.a k).b≠s:=by
 unfold B at h;intro k hk;rcases Wg (L:=WZ A s) (fun _=>rfl) (fun _ _=>rfl) (A.a.length+1) 0 ab with⟨e,X⟩|⟨i,e,_,_,Z,_⟩
 ·simpa using X k (Nat.zero_le _) hk
 ·rw[e]at h;simp at h;omega
@[local simp] theorem p7(A:ZE)(E:ZU):Da A E=XE A E:=by
 simp only[Da,XE];rw[Bool.or_comm];cases Z:(decide (B A E.b>=0)||!QC A)with
 |true=>rfl
 |false=>
  have hf:B A E.b<0:=by simp at Z;exact Z.1
  obtain⟨_,k2,k3⟩:=gB A E (AG hf) (A.a.length+1) 0 [] ab (Nat.zero_le _);grind
def e9(A:ZF)(G:Int)(V:ZV)(a4:Int)(v:Nat):Zu×Bool:=XJ A.b.a (Zu.mk G (C A.c v).a (ZL A.b.c A.b.d) (Yh (ZL A.b.c A.b.d) V) 1 a4 0 0 0)
def ea(A:ZF)(G:Int)(V:ZV)(a4 a5:Int)(v:Nat):ZU:=ZU.mk A.h a5 V (e9 A G V a4 v).1 (ZY.mk ([Yf (e9 A G V a4 v).1,Kk (C A.c v)]:List ZS) ([]:List Zc))
def nA(A:ZF)(E:Int)(a:ZU):ZF:=ZF.mk A.b A.c A.d (A.a.set E.toNat (XE (C A.a E.toNat) a).1) A.e A.f (W (A.h+1)) A.g
def fP(A:ZF)(E:Int)(b:Bool)(a:ZU):ZF×Bool:=bif(!b)||!(XE (C A.a E.toNat) a).2 then(A,false)else(nA A E a,true)
theorem pL(A:ZF)(E G:Int)(V:ZV)(a4 a5:Int):
  ∀(m v:Nat),(match J5 A E G V a4 a5 m v with|.inl r1=>r1|.inr _=>(A,false))=(match zk A G m v with|.inl k=>fP A E (e9 A G V a4 k.toNat).2 (ea A G V a4 a5 k.toNat)|.inr _=>(A,false))
 |0,v=>rfl
 |m+1,v=>by
  have ih:=pL A E G V a4 a5 m (v+1);simp only[J5,zk];cases decide ((v:Int)<_)with
  |false=>rfl
  |true=>
   simp only[cond_true,bne];cases((C A.c v).c==G)with
   |false=>exact ih
   |true=>
    simp only[cond_true,cond_false];show(match(bif((!(e9 A G V a4 v).2)||!(XE _ (ea A G V a4 a5 v)).2)then(Sum.inl (A,false):Sum (ZF×Bool) Unit)else .inl (nA A E (ea A G V a4 a5 v),true))with|.inl r1=>r1|.inr _=>(A,false))=fP A E (e9 A G V a4 v).2 _
    unfold fP;grind
theorem hq(A:ZF)(G:Int):∀(m v:Nat),zk A G m v= .inr ()\/∃k:Nat,zk A G m v= .inl (k:Int)
 |0,v=>.inl rfl
 |m+1,v=>by have ih:=hq A G m (v+1);simp only[zk];grind
theorem EU(A:ZF)(E:Int)(G:ZV)(V a4:Int):Xq A E G V a4=bif((decide (ZL A.b.c A.b.d<0))||(decide (QQ A E<0)))then(ZU.mk 0 0 (ZV.mk 0 ([]:List ByteArray) ([]:List Int)) (Zu.mk 0 0 0 0 0 0 0 0 0) (ZY.mk ([]:List ZS) ([]:List Zc)),false)else(ea A E G V a4 (QQ A E).toNat,(e9 A E G V (QQ A E).toNat).2):=by unfold Xq;rfl
theorem HA(A:ZF)(E G:Int)(V:ZV)(a4 a5:Int):Xc A E G V a4 a5=bif((!(Zw A E))||(decide (Zi A.b.a G<0)))then(A,false)else fP A E (Xq A G V a4 a5).2 (Xq A G V a4 a5).1:=by
 unfold Xc;cases((!(Zw A E))||(decide (Zi A.b.a G<0)))with
 |true=>rfl
 |false=>
  rw[EU];simp only[Bool.false_or,cond_false];refine Eq.trans (congrArg (fun z=>bif decide _ then(A,false)else z) (pL A E G V a4 a5 (A.c.length+1) 0)) ?_;cases decide (ZL A.b.c A.b.d<0)with
  |true=>rfl
  |false=>
   rcases hq A G (A.c.length+1) 0 with h|⟨k,h⟩
   ·rw[h,show QQ A G=-1 by unfold QQ;rw[h]];rfl
   ·rw[h,show QQ A G=(k:Int)by unfold QQ;rw[h]];grind
theorem rp(A:ZF)(E:Int)(b:Bool)(a:ZU):(bif !b then(A,false)else(bif !(XE (C A.a E.toNat) a).2 then(A,false)else(nA A E a,true)))=fP A E b a:=by cases b<;>rfl
theorem rj(A:ZE)(E:ZU):cn (XE A E).1<=cn A+cn E:=by
 refine g (p:=fun(r:ZE×Bool)=>cn r.1<=cn A+cn E) bx ?_;refine g (p:=fun(r:ZE×Bool)=>cn r.1<=cn A+cn E) bx ?_;generalize X3 A E _ 0=z;have h:=Ke (cn:ZU->Nat) (A.a.take z) (A.a.drop z)
 rw[List.take_append_drop]at h;simp only[ZE.XI,QV,Ke,af]at h⊢;omega
theorem O6(A:ZF)(E:Int)(b:Bool)(a:ZU):cn (fP A E b a).1<=3*cn A+cn a+1000:=by
 refine g (p:=fun(r:ZF×Bool)=>cn r.1<=3*cn A+cn a+1000) bx ?_;have I:=Mz A E.toNat (XE (C A.a E.toNat) a).1 true
 have X:=rj (C A.a E.toNat) a;have h3:=My A E.toNat;simp only[ZF.XI,Tb,nA]at I X h3⊢;omega
theorem mY(A:ZF)(E:Int)(G:ZV)(V a4:Int):cn (Xq A E G V a4).1<=cn G+1000:=by
 rw[EU];refine g (p:=fun(r:ZU×Bool)=>cn r.1<=cn G+1000) (Nat.le_trans (Nat.le_of_ble_eq_true rfl) (Nat.le_add_left 1000 _)) ?_;have I:∀x:Zu,cn x=9:=fun _=>rfl
 have X:∀x:Zu,cn (Yf x)=11:=fun _=>rfl;have h3:∀x:Yv,cn (Kk x)=9:=fun _=>rfl;simp only[ea,ZU.XI,ZY.XI,QV,af,Tb,I,X,h3];omega
theorem H4(A:ZF)(E G:Int)(V:ZV)(a4 a5:Int):cn (Xc A E G V a4 a5).1<=3*cn A+cn V+2000:=by
 rw[HA];refine g (p:=fun(r:ZF×Bool)=>cn r.1<=3*cn A+cn V+2000) bx ?_;have I:=O6 A E (Xq A G V a4 a5).2 (Xq A G V a4 a5).1
 have X:=mY A G V a4 a5;grind
@[local simp] theorem rW(A:ZF)(E G:Int)(V:ZV)(a4 a5:Int):GN A E G V a4 a5=Kc A E G V a4 a5:=by unfold GN Kc;rw[HA,<-rp];cases decide (Zi A.b.a G<0)<;>cases(Zw A E)<;>cases decide ((C A.b.a (Zi A.b.a G).toNat).a>A.b.d)<;>rfl
theorem rR(A:ZF)(E G:Int)(V:ZV)(a4 a5:Int)(h:cn A<=33554464)(h3:cn V<=33554464):cn (Kc A E G V a4 a5).1<=1152921504606846976:=by
 refine g (p:=fun(r:ZF×Bool)=>cn r.1<=1152921504606846976) bx ?_;have:=H4 A E G V a4 a5
 grind
@[local simp] theorem Dq(A:ZS):ND A=Yc A:=by simp only[ND,Yc];grind
@[local simp] theorem LF(A:List YZ)(E:O):Uj A E=Zv A E:=by by_cases h:Zi A E.e<0<;>simp[Uj,Zv,yX,h]
theorem Di(h:(Zv A E).2=true):0<=Zi A E.e:=by have:=NL (E:=E) c3;simpa using this
theorem gC{α:Type}[Inhabited α](l:List α)(i:Nat):l.set i (C l i)=l:=by
 rcases Nat.lt_or_ge i l.length with h|h
 ·simp[C,List.getElem?_eq_getElem h]
 ·exact List.set_eq_of_length_le h
theorem wU{A:ZE}{E:Int}(h:(YP A E G).2=false):(YP A E G).1=A:=by
 unfold YP at h⊢;cases hf:decide (B A E<0)with
 |true=>rfl
 |false=>
  simp at h⊢;have hp:(Jb (C A.a (B A E).toNat).a G).1=(C A.a (B A E).toNat).a:=by unfold Jb at h⊢;grind
  rw[hp,gC]
theorem pC(A:ZF)(i id:Int)(l:O):(bif(Zv A.b.a l).2 then(ZF.mk A.b A.c A.d (A.a.set i.toNat (YP (C A.a i.toNat) id (Z1 (Zv A.b.a l).1)).1) A.e A.f A.h A.g,(YP (C A.a i.toNat) id (Z1 (Zv A.b.a l).1)).2)else(A,false))=Kd A i id l:=by
 unfold Kd;cases hm:(Zv A.b.a l).2 with
 |false=>rfl
 |true=>
  cases ha:(YP _ id _).2 with
  |true=>rfl
  |false=>rw[wU ha,gC];rfl
theorem GF(l:List Yv)(s:Int)(h:0<=Zj l s):(C l (Zj l s).toNat).a=s:=by
 unfold Zj at h⊢;rcases Wg (L:=Wm l s) (fun _=>rfl) (fun _ _=>rfl) (l.length+1) 0 ab with⟨e,_⟩|⟨i,e,_,_,Z,_⟩
 ·rw[e]at h;simp at h
 ·rw[e];simpa using Z
theorem Ca{a b c:Bool}:((!(a&&b))||c)=((!a||!b)||c):=by cases a<;>cases b<;>rfl
theorem Bl(A:ZE)(E:Int)(G:ZS):cn (YP A E G).1<=2*cn A+cn G+1000:=by
 unfold YP;cases decide (B A E<0)with
 |true=>simp;omega
 |false=>
  simp;have I:=Of (cn:ZU->Nat) A.a (B A E).toNat
  have hd:cn (default:ZU)<=900:=Nat.le_of_ble_eq_true rfl;have X:=RV (cn:ZU->Nat) A.a (B A E).toNat (ZU.mk (C A.a (B A E).toNat).b (C A.a (B A E).toNat).e (C A.a (B A E).toNat).c (C A.a (B A E).toNat).d (Jb (C A.a (B A E).toNat).a G).1);have h3:cn (Jb (C A.a (B A E).toNat).a G).1<=cn (C A.a (B A E).toNat).a+cn G:=by refine g (p:=fun(r:ZY×Bool)=>cn r.1<=cn (C A.a (B A E).toNat).a+cn G) (Nat.le_add_right _ _) ?_;simp only[ZY.XI,QV,Ke,af];omega
  simp only[ZE.XI,ZU.XI,QV]at I X hd⊢;omega
theorem Ia(A:ZF)(E G:Int)(V:O):cn (Kd A E G V).1<=3*cn A+2000:=by
 refine g (p:=fun(r:ZF×Bool)=>cn r.1<=3*cn A+2000) bx ?_;have I:=Mz A E.toNat (YP (C A.a E.toNat) G (Z1 (Zv A.b.a V).1)).1 true
 have X:=Bl (C A.a E.toNat) G (Z1 (Zv A.b.a V).1);have h3:=My A E.toNat;have h4:cn (Z1 (Zv A.b.a V).1)=7:=rfl;omega
@[local simp] theorem Qe(A:ZF)(E:Int):M4 A E=Jy A E:=by
 unfold M4 Jy Ye;simp;cases I:(_||_)with
 |true=>rfl
 |false=>
  simp only[cond_false];generalize v _=p;rw[Ca,show(!(decide _))=decide (Zj A.c p.1.a<0)by rw[<-decide_not];simp];cases X:(_||decide (Zj A.c p.1.a>=_))with
  |true=>rfl
  |false=>
   have hn:0<=Zj A.c p.1.a:=by simp at X;exact X.1.2
   rw[GF _ _ hn];have ai:∀(n:Nat)(l:O),l.e=(C A.c n).e->
     (bif((!(Zv A.b.a l).2)||(decide ((C A.b.a (Zi A.b.a (C A.c n).e).toNat).a>A.b.d)))then(A,false)else(ZF.mk A.b A.c A.d (A.a.set (u A E).1.toNat (YP (C A.a (u A E).1.toNat) E (Z1 (Zv A.b.a l).1)).1) A.e A.f A.h A.g,(YP (C A.a (u A E).1.toNat) E (Z1 (Zv A.b.a l).1)).2))=
     (bif((decide (Zi A.b.a (C A.c n).e<0))||(decide ((C A.b.a (Zi A.b.a (C A.c n).e).toNat).a>A.b.d)))then(A,false)else((Kd A (u A E).1 E l).1,(Kd A (u A E).1 E l).2)):=by
    intro n l au;rw[<-pC];cases J:decide ((C A.b.a (Zi A.b.a (C A.c n).e).toNat).a>A.b.d)with
    |true=>simp
    |false=>
     cases hm:(Zv A.b.a l).2 with
     |false=>simp
     |true=>have hp:=Di hm;rw[au]at hp;rw[show decide _=false by simp;exact hp];rfl
   grind
theorem Bw(A:ZF)(E:Int)(h:cn A<=33554464):cn (Jy A E).1<=1152921504606846976:=by refine g (p:=fun(r:ZF×Bool)=>cn r.1<=1152921504606846976) bx ?_;refine g (p:=fun(r:ZF×Bool)=>cn r.1<=1152921504606846976) bx ?_;refine g (p:=fun(r:ZF×Bool)=>cn r.1<=1152921504606846976) ?_ ?_<;>exact Nat.le_trans (Ia _ _ _ _) Y
theorem AF(A:ZF)(E:Int)(h:cn A<=33554464):cn (J3 A E).1<=1152921504606846976:=by have e:cn (J3 A E).1=cn A:=g (p:=fun(r:ZF×Bool)=>cn r.1=cn A) rfl (by simp[ZF.XI,HO]);omega
@[local simp] theorem zab(E:Zc):∀(n:Nat)(v0:List Int)(a:Nat),xz E n v0 a=xl E n v0 a:=by
 intro n;induction n with
 |zero=>intros;rfl
 |succ n ih=>intros;simp[xz,xl,ih,ByteArray.append_assoc]
@[local simp] theorem Y7(E:Zc):∀(n:Nat)(v0:List Int)(a:Nat),yO E n v0 a=yJ E n v0 a:=by
 intro n;induction n with
 |zero=>intros;rfl
 |succ n ih=>intros;simp[yO,yJ,ih,ByteArray.append_assoc]
@[local simp] theorem G7(A:Int)(E:Zc):RD A E=Qz A E:=by simp[RD,Qz]
theorem Nh(A:ZY)(E:ZV):JP A E=A.b.map (fun c=>Yh c.b E):=by have:=xk (as:=A.b) (fun c=>[Yh c.b E]) (F:=fun n i l=>y5 A E n l i) (fun _ _ _=>rfl) (A.b.length+1) 0 [] ab (Nat.zero_le _);unfold JP;rw[this,Us];rfl
theorem lj{α:Type}[Inhabited α](l:List α)(x:α):C (l++[x]) l.length=x:=by simp[C]
theorem ll{α:Type}[Inhabited α](l:List α)(x:α)(h:i<l.length):C (l++[x]) i=C l i:=by simp[C,List.getElem?_append_left h]
theorem m9(x:ZU)(E:Int)(h:R maxLen x)(r:Zc)(hr:r=Zc.mk (x.a.a.length:Int) E 0 [] []):
  jt (ZY.mk x.a.a (x.a.b++[r])) (JP (ZY.mk x.a.a (x.a.b++[r])) x.c) (W (((x.a.b++[r]).length:Int)-1))=JR x E:=by
 have hl:=Z7 (ZY.Qf (ZU.YU h));have hm:maxLen=9223372036854775807:=aq;have H:W (((x.a.b++[r]).length:Int)-1)=(x.a.b.length:Int):=by rw[List.length_append,List.length_singleton,X8];omega
 have e2:C (x.a.b++[r]) x.a.b.length=r:=lj _ _;have e3:C ((x.a.b++[r]).map (fun c=>Yh c.b x.c)) x.a.b.length=Yh r.b x.c:=by rw[List.map_append];have:=lj (x.a.b.map (fun c=>Yh c.b x.c)) (Yh r.b x.c);rw[List.length_map]at this;exact this
 have a:r.d=(x.a.a.length:Int):=by rw[hr]
 have i:r.b=E:=by rw[hr]
 unfold jt JR;rw[H,Nh];simp only[Int.toNat_natCast,H,e2,e3,a,i,ZJ,List.length_map,bne_self_eq_false,Int.le_refl,decide_true,Bool.and_true,Int.natCast_nonneg,Bool.not_true,Bool.or_false,cond_false,List.take_length];by_cases hz:0<x.a.b.length
 ·have e:W ((x.a.b.length:Int)-1)=((x.a.b.length-1:Nat):Int):=by rw[IZ _ Y];omega
  rw[e,Int.toNat_natCast,ll _ _ Y]
 ·grind
theorem CZ(A:ZE)(E:Int)(h:R maxLen A):∀n l i,zn A E n l i=kA A E n l i
 |0,_,_=>rfl
 |n+1,l,i=>by simp only[zn,kA,CZ A E h n,m9 _ E (Zh (ZE.YO h)) _ rfl]
@[local simp] theorem Ly(A:ZE)(E:Int)(h:R maxLen A):Yu A E=QZ A E:=by simp only[Yu,QZ,CZ A E h]
@[local simp] theorem om(A:ZE)(E:Int)(h:R maxLen A):qw A E=JK A E:=by simp only[qw,JK,Ly A E h]
theorem F3(A:List Int)(E:Int):J6 A E=true↔∃i,0<=i/\i<A.length/\(C A i==E)=true:=by
 unfold J6 Kf;rcases Wg (L:=UJ A E) (fun _=>rfl) (fun _ _=>rfl) (A.length+1) 0 ab with⟨e,p⟩|_
 ·grind
 ·grind
@[local simp] theorem zr(A:List Int)(E:Int):iL A E=J6 A E:=by rw[Bool.eq_iff_iff,F3];exact HH (fun _=>rfl) (fun _ _=>rfl) _ 0 ab
@[local simp] theorem ua(A:List YZ)(E:List ZX)(G:ZW):IJ A E G=XU A E G:=by simp[IJ,XU,yX];grind
theorem LL(A:Int):∀n i o l,jY A n i o l=zI A n l i o
 |0,_,_,_=>rfl
 |n+1,i,o,l=>by simp only[jY,zI,LL A n]
@[local simp] theorem sT(A:Int)(E:List Int)(G:Int):Gv A E G=QU A E G:=by simp only[Gv,QU,LL];grind
theorem GM(A:ZE)(E:Int)(G:List ZW)(n v:Nat)(l:List ZU):zN A E G (n+1) false v l=(false,l):=by simp only[zN,Bool.and_false,XK]
theorem oL(A:ZE)(E:Int)(G:List ZW)(h:R maxLen A):∀n v l,A.a.length<n+v->v<=A.a.length->(∃z,QL A E G n v l= .inr z/\zN A E G n true v l=(true,z))\/(QL A E G n v l= .inl (A,false)/\(zN A E G n true v l).1=false)
 |0,v,l,I,X=>Y
 |n+1,v,l,I,X=>by
  simp only[zN,QL,Bool.and_true,JK,Ly A E h];by_cases hi:v<A.a.length
  ·rw[show decide _=true by simpa using hi,Xe];cases J:(XH (C A.a v).a _).2
   ·obtain⟨m,rfl⟩:∃m,n=m+1:=⟨n-1,Y⟩;rw[GM];simp
   ·exact oL A E G h n _ _ Y hi
  ·grind
@[local simp] theorem Qf(A:ZE)(E:Int)(G:List ZW)(h:R maxLen A):Jk A E G=Jl A E G:=by
 unfold Jk Jl;by_cases hl:0<A.a.length
 ·have H:decide ((A.a.length:Int)>0)=true:=decide_eq_true Y;have e2:((A.a.length:Int)==0)=false:=beq_eq_false_iff_ne.2 Y;rw[H,e2];cases QC A
  ·rw[Bool.false_and,GM];rfl
  ·rcases oL A E G h (A.a.length+1) 0 A.a ab (Nat.zero_le _)with⟨z,q1,q2⟩|_
   ·rw[Bool.true_and,q1,q2];rfl
   ·grind
 ·have H:decide ((A.a.length:Int)>0)=false:=decide_eq_false Y;have e2:((A.a.length:Int)==0)=true:=beq_iff_eq.2 Y;rw[H,e2,Bool.and_false,GM];rfl
theorem Pn{a:List ZX}(h:0<=ZN a d):(C a (ZN a d).toNat).b=d:=by
 unfold ZN at h⊢;rcases Wg (L:=yN a d) (fun _=>rfl) (fun _ _=>rfl) (a.length+1) 0 ab with⟨e,_⟩|⟨i,e,_,_,k,_⟩
 ·rw[e]at h;simp at h
 ·rw[e];simpa using k
def uF(A:ZF)(d:Int):Bool:=!((decide (ZN A.b.b d<0)||decide (ZN A.b.b d>=(A.e.length:Int)))||(decide (Zi A.b.a (C A.b.b (ZN A.b.b d).toNat).c<0)||decide ((C A.b.a (Zi A.b.a (C A.b.b (ZN A.b.b d).toNat).c).toNat).a>A.b.d)))
theorem Mg(A:ZF)(E:List Int):qm A E=true↔(∀i,0<=i->i<E.length->uF A (C E i)=true/\(0<i->C E (i-1)<C E i))/\0<E.length:=by
 have:=Qj (L:=Vo A E) (ae:=E.length) (c:=fun v=>(_||((decide ((v:Int)>0))&&(decide (C E (v-1)>=C E v))))||((decide (Zi A.b.a (C A.b.b (ZN A.b.b (C E v)).toNat).c<0))||_))
  (fun _=>rfl) (fun n v=>by
   simp only[Vo];cases(_||((decide ((v:Int)>0))&&(decide (C E (v-1)>=C E v))))<;>rfl) (E.length+1) 0 Y (decide ((E.length:Int)>0))
 unfold qm;refine Iff.trans this ?_;constructor
 ·rintro⟨I,X⟩;refine⟨fun i h0 hi=>?_,by simpa using X⟩;have:=I i h0 hi
  simp only[Bool.or_eq_false_iff,Bool.and_eq_false_iff,decide_eq_false_iff_not]at this;obtain⟨⟨⟨q1,q2⟩,q3⟩,q4,r⟩:=this;refine⟨?_,fun h=>?_⟩
  ·simp only[uF,Bool.not_eq_true',Bool.or_eq_false_iff,decide_eq_false_iff_not];exact⟨⟨q1,q2⟩,q4,r⟩
  ·rcases q3 with q3|q3<;>omega
 ·rintro⟨I,X⟩;refine⟨fun i h0 hi=>?_,by simpa using X⟩;obtain⟨q,q3⟩:=I i h0 hi;simp only[uF,Bool.not_eq_true',Bool.or_eq_false_iff,decide_eq_false_iff_not]at q;simp only[Bool.or_eq_false_iff,Bool.and_eq_false_iff,decide_eq_false_iff_not];grind
theorem Ch(E:List Int):yn E=true↔∀i,0<i->i<E.length->C E (i-1)<C E i:=by have:=Qj (L:=T4 E) (fun _=>rfl) (fun _ _=>rfl) (E.length+1) 1 Y true;unfold yn;grind
theorem oK{E:List Int}(h:∀i,0<i->i<E.length->C E (i-1)<C E i):∀d v,0<d->v+d<E.length->C E v<C E (v+d)
 |0,_,h0,_=>Y
 |1,v,_,hv=>h _ ab hv
 |d+2,v,_,hv=>by have I:=oK h (d+1) v ab Y;grind
theorem DN(w:Int):VD 10000 (yz 0 w)=(if(if w<10000 then w else 10000)>0 then(if w<10000 then w else 10000)else 0):=by unfold VD yz;grind
theorem wq{α:Type}[Inhabited α](l:List α)(x:α)(h:i≠j):C (l.set i x) j=C l j:=by simp[C,List.getElem?_set_ne h]
theorem Du(A:ZF)(E:Int)(G:List Int)(V:Int):∀n l v q,G.length<n+v->v<=G.length->(∃k,v<=k/\k<G.length/\uF A (C G k)=false)->QE A E G V n l v q= .inl (A,false)
 |0,_,_,_,I,X,_=>Y
 |n+1,l,v,q,I,X,⟨k,k1,k2,k3⟩=>by
  have hv:v<G.length:=Y;simp only[QE];rw[show decide _=true by simpa using hv];cases f:(_||_)
  ·rw[XK];cases hB:(_||_)
   ·rw[XK];have hk:∃k,v+1<=k/\k<G.length/\uF A (C G k)=false:=by
     refine⟨k,?_,k2,k3⟩;rcases Nat.eq_or_lt_of_le k1 with rfl|k1
     ·unfold uF at k3;rw[f,hB]at k3;simp at k3
     ·exact k1
    rw[Du A E G V n _ _ _ Y hv hk,Du A E G V n _ _ _ Y hv hk];simp
   ·rfl
  ·rfl
theorem uU(A:ZF)(E:Int)(G:List Int)(V:Int)(h:R maxLen A)(hr:∀i,0<i->i<G.length->C G (i-1)<C G i)(ap:∀k,k<G.length->uF A (C G k)=true):∀n l v q,G.length<n+v->v<=G.length->(∀k,v<=k->k<G.length->C q (ZN A.b.b (C G k)).toNat=C A.e (ZN A.b.b (C G k)).toNat)->
  QE A E G V n l v q=(match qA A E G V n l v with|.inl r=>.inl r|.inr z=>.inr (z,VN A G n v q))
 |0,_,_,_,I,X,_=>Y
 |n+1,l,v,q,I,X,hq=>by
  simp only[QE,qA,VN,om _ _ (Zh (ZF.Zz h)),DN];by_cases hv:v<G.length
  ·rw[show decide _=true by simpa using hv,Xe];have ho:=ap v hv
   unfold uF at ho;rw[Bool.not_eq_true',Bool.or_eq_false_iff]at ho;have ih:=fun l=>uU A E G V h hr ap n l _ (q.set (ZN A.b.b _).toNat (W (C A.e (ZN A.b.b (C G v)).toNat+1))) Y hv (fun k k1 k2=>by
    rw[wq,hq k Y k2];intro e;have p1:0<=ZN A.b.b (C G v):=by grind
    have p2:0<=ZN A.b.b (C G k):=by have:=ap k k2;unfold uF at this;simp at this;omega
    have H:=Pn p1;have e2:=Pn p2;rw[e]at H;have:=oK hr (k-v) v Y Y;rw[show v+_=k by omega]at this;omega)
   grind
  ·grind
@[local simp] theorem Zx(A:ZF)(E:Int)(G:List Int)(V:Int)(h:R maxLen A):kX A E G V=xd A E G V:=by
 unfold kX xd;simp;cases hg:Zw A E
 ·rfl
 cases J:decide (ZL A.b.c A.b.d<0);rotate_left
 ·simp
 cases hi:ZJ V _ 10000
 ·simp
 cases hr:yn G
 ·have:qm A G=false:=by
   cases hs:qm A G with
   |false=>rfl
   |true=>have:=(Mg A G).1 hs;have X:=(Ch G).2 (fun i h0 hi=>(this.1 i (Nat.zero_le _) hi).2 h0);grind
  grind
 have a:=(Ch G).1 hr;by_cases hl:0<G.length;rotate_left
 ·have:qm A G=false:=by
   cases hs:qm A G with
   |false=>rfl
   |true=>exact absurd ((Mg A G).1 hs).2 hl
  grind
 have e:((G.length:Int)==0)=false:=beq_eq_false_iff_ne.2 Y;rw[e];by_cases ap:∀k,k<G.length->uF A (C G k)=true
 ·have hs:=(Mg A G).2 ⟨fun i _ hi=>⟨ap i hi,fun h0=>a i h0 hi⟩,hl⟩;rw[hs,uU A E G V h a ap _ [] 0 A.e ab (Nat.zero_le _) (fun _ _ _=>rfl)];simp;cases qA A E G V _ [] 0 with
  |inl r=>rfl
  |inr z=>simp only[Qf _ _ _ (Zh (ZF.Zz h))]
 ·have hs:qm A G=false:=by
   cases hs:qm A G with
   |false=>rfl
   |true=>exact absurd (fun k hk=>(((Mg A G).1 hs).1 k (Nat.zero_le _) hk).1) ap
  have O:∃k,0<=k/\k<G.length/\uF A (C G k)=false:=by grind
  rw[hs,Du A E G V _ [] 0 A.e ab (Nat.zero_le _) O];rfl
theorem l9(A:Int):∀(n:Nat)(l:List Int)(i:Int)(o:List Y9),(zI A n l i o).length<=o.length+n
 |0,_,_,_=>Nat.zero_le _
 |n+1,l,i,o=>by have ih:=l9 A n;simp only[zI];grind
theorem rf(A:Int)(E:List Int)(G:Int):cn (QU A E G)<=34:=by
 have h:∀l:List Y9,cn l=2*l.length:=fun l=>by rw[QV];exact Pg (m:=2) (fun _=>rfl) l
 rw[h];unfold QU;by_cases hl:decide ((E.length:Int)>16)=true
 ·rw[hl,Bool.or_true,Xe];exact Nat.zero_le _
 ·refine g (p:=fun r:List Y9=>2*r.length<=34) (Nat.zero_le _) ?_;have:=l9 A (E.length+1) E G []
  grind
theorem iB(A:ZE)(E:Int)(G:List ZW):∀(n v:Nat)(l:List ZU),v<=A.a.length->(∀k,v<=k->C l k=C A.a k)->∀z,QL A E G n v l= .inr z->af cn z<=af cn l+2*af cn (A.a.drop v)+(A.a.length-v)*(37+cn G)
 |0,v,l,_,_,z,h=>dQ
 |n+1,v,l,hv,hk,z,h=>by
  revert h;refine Y2 (p:=fun r=>r=Sum.inr z->_) (fun Z=>?_) (fun _ h=>by cases h;omega);have ag:v<A.a.length:=bU
  refine g (p:=fun r=>r=Sum.inr z->_) (fun h=>by cases h) (fun h=>?_);have ih:=iB A E G n (v+1) _ ag (fun k I=>by rw[wq _ _ Y];exact hk k Y) z h
  refine Nat.le_trans ih ?_;rw[UH cn ag,hk v (Nat.le_refl _)];have hs:=RV (cn:ZU->Nat) l v (ZU.mk (C A.a v).b (C A.a v).e (C A.a v).c (C A.a v).d (XH (C A.a v).a (Zc.mk ((C A.a v).a.a.length:Int) E (JK A E) (QU E (QZ A E) (v:Int)) G)).1)
  have ha:∀(s:ZY)(r:Zc),cn (XH s r).1<=cn s+cn r:=fun s r=>by refine g (p:=fun q:ZY×Bool=>cn q.1<=cn s+cn r) (Nat.le_add_right _ _) ?_;simp only[ZY.XI,QV,Ke,af];omega
  have J:=ha (C A.a v).a (Zc.mk ((C A.a v).a.a.length:Int) E (JK A E) (QU E (QZ A E) (v:Int)) G);have hp:=rf E (QZ A E) (v:Int);have hd:(A.a.length-v)*(37+cn G)=(A.a.length-(v+1))*(37+cn G)+(37+cn G):=by rw[show A.a.length-v=(A.a.length-(v+1))+1 by omega,Nat.add_mul,Nat.one_mul]
  simp only[ZU.XI,Zc.XI,Tb]at hs J⊢;omega
theorem uM(A:ZF)(E:Int)(G:List Int)(V:Int):∀(n:Nat)(l:List ZW)(v:Nat)(q:List Int),
  (∀r,QE A E G V n l v q= .inl r->r=(A,false))/\∀z,QE A E G V n l v q= .inr z->cn z.1<=cn l+5*n/\z.2.length<=q.length
 |0,_,_,_=>⟨fun r h=>aX,fun z h=>(by cases h;exact⟨Nat.zero_le _,Nat.zero_le _⟩)⟩
 |n+1,l,v,q=>by
  have ih:=uM A E G V n;simp only[QE];have O:∀x:ZW,cn (l++[x])=cn l+5:=fun x=>by simp only[QV,Ke];rfl
  grind
theorem v4(A:ZF)(E:Int)(G:List Int)(V:Int)(h:cn A<=33554464)(X:cn G<=33554464):cn (xd A E G V).1<=1152921504606846976:=by
 refine g (p:=fun r:ZF×Bool=>cn r.1<=1152921504606846976) bx ?_;obtain⟨k1,k2⟩:=uM A E G V _ [] 0 A.e;cases hs:QE A E G V _ [] 0 A.e with
 |inl r=>rw[k1 r hs];show cn A<=_;omega
 |inr z=>
  obtain⟨q1,q2⟩:=k2 z hs;obtain⟨d,z1⟩:=z;simp only at q1 q2⊢;refine g (p:=fun r:ZF×Bool=>cn r.1<=1152921504606846976) bx ?_;have e0:cn ([]:List ZW)=0:=rfl
  have e2:=HO G;have h3:cn (C A.a E.toNat)<=cn A+1:=by have:=Of (cn:ZE->Nat) A.a E.toNat;have hd:cn (default:ZE)=1:=rfl;rw[ZF.XI,QV (x:=A.a)];omega
  have h4:cn (Jl (C A.a E.toNat) (ZL A.b.c A.b.d) d).1<=1+3*cn (C A.a E.toNat)+(C A.a E.toNat).a.length*(37+cn d):=by
   generalize C A.a E.toNat=ai;generalize ZL A.b.c A.b.d=m;let p:=fun r:ZE×Bool=>cn r.1<=1+3*cn ai+ai.a.length*(37+cn d)
   refine g (p:=p) (by show cn ai<=_;omega) ?_;cases ht:QL ai m d _ 0 ai.a with
   |inl r=>
    have:∀n v l r,QL ai m d n v l= .inl r->r=(ai,false):=by
     intro n;induction n with
     |zero=>intro v l r h;cases h
     |succ n ih=>intro v l r h;simp only[QL]at h;grind
    grind
   |inr w=>
    have hz:=iB ai m d _ 0 ai.a (Nat.zero_le _) (fun _ _=>rfl) w ht;simp only[List.drop_zero,Nat.sub_zero]at hz⊢;have f:cn ai=1+af cn ai.a:=rfl;refine g (by show cn ai<=_;omega) ?_;show cn (ZE.mk ai.b w)<=_
    have hB:cn (ZE.mk ai.b w)=1+af cn w:=rfl;omega
  have h5:(C A.a E.toNat).a.length<=cn (C A.a E.toNat):=by have:=Dd (c:=(cn:ZU->Nat)) (fun x=>by rw[ZU.XI];simp only[Tb];omega) (C A.a E.toNat).a;rw[ZE.XI,QV];omega
  have h6:(C A.a E.toNat).a.length*(37+cn d)<=33554465*167772400:=Nat.mul_le_mul Y Y;have h7:=RV (cn:ZE->Nat) A.a E.toNat (Jl (C A.a E.toNat) (ZL A.b.c A.b.d) d).1;have h8:cn z1<=cn A.e:=by rw[HO,HO];exact q2
  simp only[ZF.XI,QV (x:=A.a),QV (x:=A.a.set E.toNat _)]at h h3⊢;omega
theorem C7(E:XY)(n v:Nat)(d:Int)(l:List ZU):(Km E (n+1) false v d l).1=false:=by simp only[Km,Bool.and_false,XK]
theorem BA(A:ZE)(E:XY):∀n v d l,E.a.length<n+v->v<=E.a.length->
  (∃z,Qh A E n v d l= .inr z/\Km E n true v d l=(true,z))\/(Qh A E n v d l= .inl (A,false)/\(Km E n true v d l).1=false)
 |0,v,d,l,I,X=>Y
 |n+1,v,d,l,I,X=>by
  simp only[Km,Qh,Bool.and_true];by_cases hi:v<E.a.length
  ·rw[show decide _=true by simpa using hi,Xe];cases J:(XE _ _).2
   ·obtain⟨m,rfl⟩:∃m,n=m+1:=⟨n-1,Y⟩;exact .inr ⟨rfl,C7 _ _ _ _ _⟩
   ·exact BA A E n _ _ _ Y hi
  ·grind
@[local simp] theorem Fh(A:ZE)(E:XY)(G:Int):PM A E G=XC A E G:=by
 unfold PM XC;have Z:((!(Jj E G))||(E.b !=A.b))=!(Jj E G&&(E.b==A.b)):=by cases Jj E G<;>simp[bne]
 rw[Z];cases _&&_ with
 |false=>have:=C7 E E.a.length 0 A.b A.a;grind
 |true=>
  rcases BA A E (E.a.length+1) 0 A.b A.a ab (Nat.zero_le _)with⟨z,I,X⟩|_
  ·rw[I,X]
  ·grind
theorem Df(A:ZE)(E:Int)(k:Nat)(hk:B A E=(k:Int))(f:k<A.a.length):∀n v l,v<=A.a.length->A.a.length<n+v->
  xm A E n v l=l++(if v<=k then(A.a.take k).drop v++A.a.drop (k+1)else A.a.drop v)
 |0,v,l,I,X=>Y
 |n+1,v,l,I,X=>by
  rw[xm];simp only[hk];by_cases hv:v<A.a.length
  ·rw[show decide _=true by simpa using hv];by_cases a:v=k
   ·subst a;rw[show(_ !=_)=false by simp,Df A E v hk f n _ l hv Y,if_neg ab];grind
   ·have W:((v:Int)!=(k:Int))=true:=a0;rw[W,Df A E k hk f n _ _ hv Y];by_cases ag:v<k
    ·rw[if_pos Y,if_pos Y];have ht:(A.a.take k).drop v=C A.a v::(A.a.take k).drop (v+1):=by rw[yI aD];congr 1;simp[C,ag]
     grind
    ·rw[if_neg Y,if_neg Y,yI hv];simp
  ·grind
theorem tT(A:ZE)(E:Int)(h:R maxLen A):jS A E=KZ A E:=by
 unfold jS KZ;simp;by_cases hk:B A E<0
 ·rw[decide_eq_true hk,Xe,Xe]
 ·rw[decide_eq_false hk,XK,XK];have hf:=JM A E
  have hl:=Z7 (ZE.YO h);have hm:maxLen=9223372036854775807:=aq;have w:W _=B A E+1:=YF Y Y;rw[w,Df A E (B A E).toNat Y Y (A.a.length+1) 0 [] (Nat.zero_le _) Y,show(B A E+1).toNat=(B A E).toNat+1 by omega];simp
theorem pU(A E:ZE)(G:List Int)(V:Int)(n v:Nat)(d:Int)(l:List ZU):(yx A E G V (n+1) false v d l).1=false:=by simp only[yx,Bool.and_false,XK]
theorem pF(A E:ZE)(G:List Int)(V:Int)(hm:(Yx A E.b G V).2=true):∀n v d l,R maxLen (ZE.mk d l)->G.length<n+v->v<=G.length->
  (∃z,JH A E G n v d l= .inr z/\yx A E G V n true v d l=(true,z))\/(JH A E G n v d l= .inl (A,E,false)/\(yx A E G V n true v d l).1=false)
 |0,v,d,l,_,I,X=>Y
 |n+1,v,d,l,hs,I,X=>by
  simp only[yx,JH,Bool.and_true,hm,tT _ _ hs];by_cases hi:v<G.length
  ·rw[show decide _=true by simpa using hi,Xe];cases J:(KZ _ _).2
   ·obtain⟨m,rfl⟩:∃m,n=m+1:=⟨n-1,Y⟩;exact .inr ⟨rfl,pU _ _ _ _ _ _ _ _⟩
   ·exact pF A E G V hm n _ _ _ (NF aq hs) Y hi
  ·grind
theorem wL(A E:ZE)(G:List Int)(V:Int)(h:R maxLen A):KB A E G V=XT A E G V:=by
 unfold KB XT;simp;cases hm:(Yx A E.b G V).2 with
 |false=>grind
 |true=>
  cases ha:(XC E (Yx A E.b G V).1 V).2 with
  |false=>have:=pU A E G V G.length 0 A.b A.a;grind
  |true=>
   rcases pF A E G V hm (G.length+1) 0 A.b A.a h ab (Nat.zero_le _)with⟨z,I,X⟩|_
   ·rw[I,X]
   ·grind
theorem se(A E:ZE)(G:List Int)(V:Int)(h:(XT A E G V).2.2=false):XT A E G V=(A,E,false):=by
 unfold XT at h⊢;cases Z:(_||_)with
 |true=>rfl
 |false=>
  have hk:∀n v d l r,JH A E G n v d l= .inl r->r=(A,E,false):=by
   intro n;induction n with
   |zero=>intro v d l r h;cases h
   |succ n ih=>intro v d l r h;rw[JH]at h;grind
  grind
theorem ou{α:Type}[Inhabited α](l:List α)(i:Nat):l.set i (C l i)=l:=by
 by_cases h:i<l.length
 ·have:C l i=l[i]:=by simp[C,List.getElem?_eq_getElem h]
  simp_all
 ·exact List.set_eq_of_length_le Y
@[local simp] theorem YU(A:ZF)(E G V:Int)(h:R maxLen A):Vv A E G V=je A E G V:=by
 unfold Vv je;simp only[wL _ _ _ _ (Zh (ZF.Zz h))];cases(_||_)with
 |true=>rfl
 |false=>
  rw[XK,XK];cases J:(XT _ _ _ _).2.2 with
  |true=>rfl
  |false=>rw[se _ _ _ _ J,XK];simp only[ou]
theorem kk(A:ZF)(i k:Nat)(x y:ZE):cn (ZF.mk A.b A.c A.d ((A.a.set i x).set k y) A.e A.f A.h A.g)<=cn A+cn x+cn y:=by have I:=RV (cn:ZE->Nat) A.a i x;have X:=RV (cn:ZE->Nat) (A.a.set i x) k y;simp only[ZF.XI,QV,QV];omega
theorem sX(A:ZE)(E:ZU):cn (XE A E).1<=cn A+cn E:=by
 refine g (p:=fun(r:ZE×Bool)=>cn r.1<=cn A+cn E) bx ?_;refine g (p:=fun(r:ZE×Bool)=>cn r.1<=cn A+cn E) bx ?_;generalize X3 A E _ 0=z;have h:=Ke (cn:ZU->Nat) (A.a.take z) (A.a.drop z)
 rw[List.take_append_drop]at h;simp only[ZE.XI,QV,Ke,af]at h⊢;omega
theorem Iw(A:ZE):cn A=1+af cn A.a:=rfl
theorem q7(A:ZE):A.a.length<=cn A:=by have:=Dd (c:=(cn:ZU->Nat)) (fun x=>by rw[ZU.XI];simp only[Tb];omega) A.a;rw[Iw];omega
theorem GU(A:ZE)(E:Int)(J:cn A<=1152921504606846976):cn (KZ A E).1<=cn A:=by
 unfold KZ;by_cases hk:B A E<0
 ·rw[decide_eq_true hk];exact Nat.le_refl _
 ·rw[decide_eq_false hk,XK];have hf:=JM A E
  have hl:=q7 A;have w:W _=B A E+1:=YF Y Y;rw[w,show(B A E+1).toNat=(B A E).toNat+1 by omega];have I:=Ke (cn:ZU->Nat) (A.a.take (B A E).toNat) (A.a.drop (B A E).toNat);rw[List.take_append_drop,UH cn (l:=A.a) Y]at I;show 1+af cn _<=1+af cn A.a
  rw[Ke];omega
theorem pg(A:ZE)(G:List Int):∀n v l,(∀r,KK A G n v l= .inl r->r=(XY.mk 0 0 [] 0,false))/\∀z,KK A G n v l= .inr z->af cn z<=af cn l+(G.length-v)*(cn A+200)
 |0,v,l=>⟨fun r h=>aX,fun z h=>dQ⟩
 |n+1,v,l=>by
  let p:=fun w:Sum _ (List ZU)=>(∀r,w= .inl r->r=(XY.mk 0 0 [] 0,false))/\∀z,w= .inr z->af cn z<=af cn l+(G.length-v)*(cn A+200)
  refine Y2 (p:=p) (fun Z=>?_) (fun _=>⟨fun r h=>aX,fun z h=>ft⟩);have Z:v<G.length:=bU
  refine g ⟨fun r h=>cA,fun z h=>aX⟩ ?_;obtain⟨k1,k2⟩:=pg A G n _ _;refine⟨k1,fun z hz=>?_⟩;have:=k2 z hz
  have hn:=Of (cn:ZU->Nat) A.a (B A (C G v)).toNat;have hd:cn (default:ZU)<=200:=Nat.le_of_ble_eq_true rfl;have hi:=Iw A;have hm:(G.length-v)*(cn A+200)=(G.length-(v+1))*(cn A+200)+(cn A+200):=by rw[show G.length-v=(G.length-(v+1))+1 by omega,Nat.add_mul,Nat.one_mul]
  rw[Ke]at this;simp only[af]at this;omega
theorem o8(A:ZE)(E:Int)(G:List Int)(V:Int):af cn (Yx A E G V).1.a<=G.length*(cn A+200):=by
 unfold Yx;obtain⟨k1,k2⟩:=pg A G _ 0 [];cases hs:KK A G _ 0 []with
 |inl r=>rw[k1 r hs];exact Nat.zero_le _
 |inr z=>
  have:=k2 z hs;rw[Nat.sub_zero]at this;simp only[af]at this;refine g (p:=fun w:XY×Bool=>af cn w.1.a<=G.length*_) (Nat.zero_le _) ?_;show af cn z<=_
  omega
theorem BC(A:ZE)(E:XY):∀n v d l,(∀r,Qh A E n v d l= .inl r->r=(A,false))/\∀z,Qh A E n v d l= .inr z->af cn z.2<=af cn l+af cn (E.a.drop v)
 |0,v,d,l=>⟨fun r h=>aX,fun z h=>dQ⟩
 |n+1,v,d,l=>by
  let p:=fun w:Sum _ (Int×List ZU)=>(∀r,w= .inl r->r=(A,false))/\∀z,w= .inr z->af cn z.2<=af cn l+af cn (E.a.drop v)
  refine Y2 (p:=p) (fun Z=>?_) (fun _=>⟨fun r h=>aX,fun z h=>ft⟩);have Z:v<E.a.length:=bU
  refine g ⟨fun r h=>cA,fun z h=>aX⟩ ?_;obtain⟨k1,k2⟩:=BC A E n _ (XE _ _).1.b (XE _ _).1.a;refine⟨k1,fun z hz=>?_⟩;have:=k2 z hz
  have ha:=sX (ZE.mk d l) (C E.a v);rw[Iw,Iw]at ha;rw[UH cn Z];simp only at ha;omega
theorem LD(A:ZE)(E:XY)(G:Int):cn (XC A E G).1<=cn A+af cn E.a:=by
 refine g (p:=fun w:ZE×Bool=>cn w.1<=cn A+af cn E.a) (Nat.le_add_right _ _) ?_;obtain⟨k1,k2⟩:=BC A E _ 0 A.b A.a;cases hs:Qh A E _ 0 A.b A.a with
 |inl r=>rw[k1 r hs];exact Nat.le_add_right _ _
 |inr z=>
  have:=k2 z hs;obtain⟨z1,t⟩:=z;rw[List.drop_zero]at this;show 1+af cn t<=_
  rw[Iw];simp only at this;omega
theorem pH(A E:ZE)(G:List Int):∀n v d l,cn (ZE.mk d l)<=1152921504606846976->(∀r,JH A E G n v d l= .inl r->r=(A,E,false))/\∀z,JH A E G n v d l= .inr z->cn (ZE.mk z.1 z.2)<=cn (ZE.mk d l)
 |0,v,d,l,J=>⟨fun r h=>aX,fun z h=>(by cases h;show 1+0<=1+af cn l;omega)⟩
 |n+1,v,d,l,J=>by
  let p:=fun w:Sum _ (Int×List ZU)=>(∀r,w= .inl r->r=(A,E,false))/\∀z,w= .inr z->cn (ZE.mk z.1 z.2)<=cn (ZE.mk d l)
  have hd:=GU _ (C G v) J;obtain⟨k1,k2⟩:=pH A E G n (v+1) (KZ _ (C G v)).1.b (KZ _ (C G v)).1.a (Nat.le_trans hd J);exact g (p:=p) (g (p:=p) ⟨fun r h=>cA,fun z h=>aX⟩ ⟨k1,fun z hz=>Nat.le_trans (k2 z hz) hd⟩) ⟨fun r h=>aX,fun z h=>(by cases h;exact Nat.le_refl _)⟩
theorem lc(A E:ZE)(G:List Int)(V:Int)(J:cn A<=1152921504606846976):cn (XT A E G V).1<=cn A/\cn (XT A E G V).2.1<=cn E+G.length*(cn A+200):=by
 have a:cn (XC E (Yx A E.b G V).1 V).1<=cn E+G.length*_:=
  Nat.le_trans (LD _ _ _) (Nat.add_le_add_left (o8 _ _ _ _) _)
 let p:=fun(r:ZE×ZE×Bool)=>cn r.1<=cn A/\cn r.2.1<=cn E+G.length*(cn A+200)
 refine g (p:=p) ⟨Nat.le_refl _,Nat.le_add_right _ _⟩ ?_;obtain⟨k1,k2⟩:=pH A E G _ 0 A.b A.a J;cases hs:JH A E G _ 0 A.b A.a with
 |inl r=>rw[k1 r hs];exact⟨Nat.le_refl _,Nat.le_add_right _ _⟩
 |inr z=>exact⟨k2 z hs,a⟩
theorem vQ(A:ZF)(E G V:Int)(h:cn A<=33554464):cn (je A E G V).1<=1152921504606846976:=by
 refine g (p:=fun r:ZF×Bool=>cn r.1<=1152921504606846976) bx ?_;have f:∀i,cn (C A.a i)<=cn A+1:=fun i=>by have:=Of (cn:ZE->Nat) A.a i;have hd:cn (default:ZE)=1:=rfl;rw[ZF.XI,QV (x:=A.a)];omega
 have I:=f E.toNat;have hm:=lc (C A.a E.toNat) (C A.a G.toNat) [V] (ZL A.b.c A.b.d) Y;have hs:=kk A E.toNat G.toNat (XT (C A.a E.toNat) (C A.a G.toNat) ([V]:List Int) (ZL A.b.c A.b.d)).1 (XT (C A.a E.toNat) (C A.a G.toNat) ([V]:List Int) (ZL A.b.c A.b.d)).2.1;grind
theorem pV(A:ZE)(E:Int):∀(m i:Nat)(d:Int)(l:List ZU),(qz A E m d i l).2=Q0 A E m i l
 |0,_,_,_=>rfl
 |m+1,i,d,l=>by
  simp only[qz,Q0];cases decide ((i:Int)<(A.a.length:Int))with
  |false=>rfl
  |true=>rw[show decide ((C A.a i).e>=E)=!decide ((C A.a i).e<E)by rw[<-decide_not];simp];cases decide ((C A.a i).e<E)<;>simp[pV A E m]
theorem DK(A:ZE)(E:Int):(jU A E).1=(zA A E).1:=by
 unfold jU zA;have h:=pV A E (A.a.length+1) 0 0 []
 grind
theorem Ez(A:ZE)(E:Int):∀(m i:Nat)(l:List ZU),af cn (Q0 A E m i l)<=af cn l+af cn (A.a.drop i)
 |0,_,_=>by show af cn (default:List ZU)<=_;exact Nat.zero_le _
 |m+1,i,l=>by
  simp only[Q0];cases Z:decide ((i:Int)<_)with
  |false=>simp only[cond_false];omega
  |true=>
   have ag:i<A.a.length:=bU;have hd:A.a.drop i=C A.a i::A.a.drop (i+1):=by rw[List.drop_eq_getElem_cons ag];simp[C,List.getElem?_eq_getElem ag]
   rw[hd];simp only[cond_true,af];cases decide ((C A.a i).e>=E)with
   |true=>have:=Ez A E m (i+1) (l++[C A.a i]);simp only[Ke,af]at this;simp only[cond_true];omega
   |false=>have:=Ez A E m (i+1) l;grind
@[local simp] theorem BY(A:ZF)(E:Int):Mn A E=Jz A E:=by simp only[Mn,Jz,DK]
theorem BU(A:ZF)(E:Int)(h:cn A<=33554464):cn (Jz A E).1<=1152921504606846976:=by
 refine g (p:=fun(r:ZF×Bool)=>cn r.1<=1152921504606846976) bx ?_;have I:=Mz A E.toNat (zA (C A.a E.toNat) A.b.d).1 true
 have X:=Ez (C A.a E.toNat) A.b.d ((C A.a E.toNat).a.length+1) 0 [];have h3:=My A E.toNat;have h4:cn (zA _ A.b.d).1=1+af cn (Q0 (C A.a E.toNat) A.b.d _ 0 []):=rfl;simp only[List.drop_zero,af,ZE.XI,QV,Tb]at I X h3 h4⊢;omega
@[local simp] theorem uq(A:List Z8)(E:Int):E0 A E=JQ A E:=by unfold E0 JQ;rw[ds]
@[local simp] theorem sV(A:ZP)(E:Int):FA A E=yR A E:=by
 unfold FA yR zC;by_cases h:Zi A.a E<0
 ·have:¬0<=Zi A.a E:=Y;simp[this]
 ·simp[h]
@[local simp] theorem MN(A:ZF)(E G:Int)(V:ZV):I0 A E G V=JU A E G V:=by
 unfold I0 JU;simp;cases hs:yR A.b G with
 |false=>cases Zw A E<;>rfl
 |true=>
  have hk:decide (Zi A.b.a G<0)=false:=by simp only[yR,Bool.and_eq_true,decide_eq_true_eq]at hs;grind
  rw[HA,hk];cases(Zw A E)with
  |false=>rfl
  |true=>
   simp only[fP];cases(Xq A G V 0 10000).2 with
   |false=>rfl
   |true=>cases(XE _ (Xq A G V 0 10000).1).2<;>rfl
theorem tC(A:ZF)(E G:Int)(V:ZV)(h:cn A<=33554464)(h3:cn V<=33554464):cn (JU A E G V).1<=1152921504606846976:=by have h4:=H4 A E G V 0 10000;refine g (p:=fun(r:ZF×Bool)=>cn r.1<=1152921504606846976) bx ?_;refine g (p:=fun(r:ZF×Bool)=>cn r.1<=1152921504606846976) ?_ aD;simp only[ZF.XI,QV,Ke,af,Tb]at h4 h⊢;omega
theorem Ln(A:ZF)(h:cn A<=33554464):cn (YB A)<=1152921504606846976:=by have e:=Iv (F:=JW A) (fun _ _=>rfl) (fun _ _ _=>rfl) (A.b.b.length+1) [] 0;have k:=Dd (c:=(cn:ZX->Nat)) (fun _=>Nat.le_of_ble_eq_true rfl) A.b.b;rw[HO];simp only[ZF.XI,ZP.XI,QV]at h;have:(YB A).length<=0+_:=e;omega
theorem j1(A:ZE)(E:Int)(h:R maxLen A):Yu A E=A.a.map (fun x=>JR x E):=by have:=xk (as:=A.a) (fun x=>[jt (ZY.mk x.a.a (x.a.b++[Zc.mk (x.a.a.length:Int) E 0 [] []])) (JP (ZY.mk x.a.a (x.a.b++[Zc.mk (x.a.a.length:Int) E 0 [] []])) x.c) (W (((x.a.b++[Zc.mk (x.a.a.length:Int) E 0 [] []]).length:Int)-1))]) (F:=fun n i l=>zn A E n l i) (fun _ _ _=>rfl) (A.a.length+1) 0 [] ab (Nat.zero_le _);unfold Yu;rw[this,Us];exact List.map_congr_left (fun x O=>m9 x E ((ZE.YO h).2 x O) _ rfl)
theorem lm{α β:Type}[Inhabited α][Inhabited β](f:α->β){l:List α}(h:i<l.length):C (l.map f) i=f (C l i):=by simp[C,List.getElem?_eq_getElem h]
theorem oD(A:ZF)(E G:Int)(e:C (Yu (C A.a (u A E).1.toNat) (ZL A.b.c A.b.d)) (u A E).2.toNat=JR (C (C A.a (u A E).1.toNat).a (u A E).2.toNat) (ZL A.b.c A.b.d)):
  ∀n v0 a,qj A E G n v0 a=QH A E G n v0 a
 |0,_,_=>rfl
 |n+1,v0,a=>by simp only[qj,QH,oD A E G e n,e]
@[local simp] theorem YM(A:ZF)(E G:Int)(h:R maxLen A):xH A E G=KI A E G:=by
 unfold xH KI;have J:∀p q r s:Bool,(((p||q)||r)||s)=(((r||p)||q)||s):=aq
 rw[J];by_cases hi:(u A E).1<0
 ·rw[decide_eq_true hi];simp
 ·obtain⟨I,X,h3⟩:=YA A E Y;have e:C (Yu (C A.a (u A E).1.toNat) (ZL A.b.c A.b.d)) (u A E).2.toNat=JR (C (C A.a (u A E).1.toNat).a (u A E).2.toNat) (ZL A.b.c A.b.d):=by rw[j1 _ _ (Zh (ZF.Zz h)),lm _ h3]
  rw[oD A E G e,e]
theorem hE(A:ZF)(E G:Int):∀n v0 a,(∀r,QH A E G n v0 a= .inl r->r=(A,false))/\∀z,QH A E G n v0 a= .inr z->z.length<=a.length+n
 |0,_,_=>⟨fun r h=>aX,fun z h=>dQ⟩
 |n+1,v0,a=>by
  simp only[QH];let p:=fun w:Sum (ZF×Bool) (List ZW)=>(∀r,w= .inl r->r=(A,false))/\∀z,w= .inr z->z.length<=a.length+(n+1)
  obtain⟨I,X⟩:=hE A E G n (v0+1) (a++[(XU A.b.a A.b.b (ZW.mk (C (YB A) v0) 0 G (JR (C (C A.a (u A E).1.toNat).a (u A E).2.toNat) (ZL A.b.c A.b.d)) 0)).1]);grind
theorem EG(A:ZF)(E G:Int)(h:cn A<=33554464):cn (KI A E G).1<=1152921504606846976:=by
 unfold KI;refine g (p:=fun r:ZF×Bool=>cn r.1<=1152921504606846976) bx ?_;obtain⟨k1,k2⟩:=hE A E G _ 0 [];cases hs:QH A E G _ 0 []with
 |inl r=>rw[k1 r hs];show cn A<=_;omega
 |inr z=>
  have hz:=k2 z hs;have hf:=Ln A h;rw[HO]at hf;have aJ:=QN A;have d:=Dd (c:=(cn:ZX->Nat)) (fun _=>Nat.le_of_ble_eq_true rfl) A.b.b;have f:=Of (cn:ZE->Nat) A.a (u A E).1.toNat;have v:=Of (cn:ZU->Nat) (C A.a (u A E).1.toNat).a (u A E).2.toNat;have hd:cn (default:ZE)=1:=rfl;have ae:cn (default:ZU)<=100:=Nat.le_of_ble_eq_true rfl;rw[hd]at f;replace v:=Nat.le_trans v (Nat.add_le_add_left ae _);simp only[List.length_nil]at hz;dsimp only;have ha:∀(s:ZY)(r:Zc),cn (XH s r).1<=cn s+cn r:=fun s r=>by refine g (p:=fun q:ZY×Bool=>cn q.1<=cn s+cn r) (Nat.le_add_right _ _) ?_;simp only[ZY.XI,QV,Ke,af];omega
  have J:=ha (C (C A.a (u A E).1.toNat).a (u A E).2.toNat).a (Zc.mk ((C (C A.a (u A E).1.toNat).a (u A E).2.toNat).a.a.length:Int) (ZL A.b.c A.b.d) (JR (C (C A.a (u A E).1.toNat).a (u A E).2.toNat) (ZL A.b.c A.b.d)) [] z);have e0:cn ([]:List Y9)=0:=rfl;have b:cn z=5*z.length:=by rw[QV];exact Pg (m:=5) (fun _=>rfl) z
  generalize(XH (C (C A.a (u A E).1.toNat).a (u A E).2.toNat).a _).1=S at J⊢;have a:=RV (cn:ZU->Nat) (C A.a (u A E).1.toNat).a (u A E).2.toNat (ZU.mk (C (C A.a (u A E).1.toNat).a (u A E).2.toNat).b (C (C A.a (u A E).1.toNat).a (u A E).2.toNat).e (C (C A.a (u A E).1.toNat).a (u A E).2.toNat).c (C (C A.a (u A E).1.toNat).a (u A E).2.toNat).d S)
  generalize C (C A.a (u A E).1.toNat).a (u A E).2.toNat=ad at v J a⊢;have hK:=RV (cn:ZE->Nat) A.a (u A E).1.toNat (ZE.mk (C A.a (u A E).1.toNat).b ((C A.a (u A E).1.toNat).a.set (u A E).2.toNat (ZU.mk ad.b ad.e ad.c ad.d S)))
  generalize C A.a (u A E).1.toNat=y at f v a hK⊢;simp only[ZF.XI,ZP.XI,ZE.XI,ZU.XI,Zc.XI,QV (x:=y.a),QV (x:=A.b.b),QV (x:=A.a),QV (x:=y.a.set _ _),QV (x:=A.a.set _ _),Tb,List.length_nil,e0]at h f v a hK J⊢;omega
@[local simp] theorem tr(A:ZF)(E G:Int):Gz A E G=zY A E G:=by
 unfold Gz zY Ye;cases I:(_||_)with
 |true=>rfl
 |false=>
  simp only[cond_false];generalize v _=p;rw[Ca,show(!(decide _))=decide (Zj A.c p.1.a<0)by rw[<-decide_not];simp];cases X:(_||_)with
  |true=>rfl
  |false=>
   have hn:0<=Zj A.c p.1.a:=by simp at X;exact X.1.2
   rw[GF _ _ hn,<-pC];grind
theorem ru(A:ZF)(E G:Int)(h:cn A<=33554464):cn (zY A E G).1<=1152921504606846976:=by refine g (p:=fun(r:ZF×Bool)=>cn r.1<=1152921504606846976) bx ?_;exact Nat.le_trans (Ia _ _ _ _) Y
@[local simp] theorem BJ(A:ZF)(E:YT)(h:R maxLen A):K3 A E=Qw A E:=by simp[K3,Qw,h]
theorem LA(A:ZF)(E:YT)(h:cn A<=33554464)(X:cn E<=33554464):cn (Qw A E).1<=1152921504606846976:=by
 have h3:cn E.c<=33554464:=by rw[YT.XI]at X;omega
 have h4:cn E.a<=33554464:=by rw[YT.XI]at X;omega
 let p:=fun r:ZF×Bool=>cn r.1<=1152921504606846976
 refine g (p:=p) (sC _ _ h) (g (rR _ _ _ _ _ _ h h3) (g (Bw _ _ h) (g (AF _ _ h) (g (v4 _ _ _ _ h h4) (g (vQ _ _ _ _ h) (g (BU _ _ h)
  (g (tC _ _ _ _ h h3) (g (EG _ _ _ h) (g (ru _ _ _ h) ?_)))))))))
 show cn A<=_;omega
@[local simp] theorem uD(A:List YZ)(E:Int)(G:List Int)(V:Int):I6 A E G V=Qo A E G V:=by unfold I6 Qo yX;rw[ds];cases h:decide (0<=Zi A E)<;>simp[h]
@[local simp] theorem w1(A E:Int):GR A E=Xt A E:=by
 have H:yz 0 A=(if 0>A then 0 else A):=by unfold yz;rw[Bool.cond_decide];split<;>split<;>omega
 have e2:VD 10000 E=(if 10000<E then 10000 else E):=by unfold VD;rw[Bool.cond_decide];split<;>split<;>omega
 unfold GR Xt;rw[H,e2];have e3:(decide (A>E)||!Yr (o.mk (if 0>A then 0 else A) (if 10000<E then 10000 else E)))=decide ((if 0>A then 0 else A)>(if 10000<E then 10000 else E)):=by rw[Bool.eq_iff_iff];simp only[Yr,yF,ZJ,Bool.or_eq_true,decide_eq_true_eq,Bool.not_eq_true',Bool.and_eq_false_iff,decide_eq_false_iff_not];split<;>split<;>omega
 rw[e3]
@[local simp] theorem Zn(A:List o)(E:Int):∀(n:Nat)(v0:Int)(a:Nat),UP A E n v0 a=jF A E n v0 a:=by
 intro n;induction n with
 |zero=>intros;rfl
 |succ n ih=>intros;simp[UP,jF,ih,ZJ,Bool.and_assoc]
@[local simp] theorem r3(A:List o)(E:Int):DB A E=UI A E:=by simp[DB,UI]
theorem Ht(A:List o)(E:Int):∀(n:Nat)(c:Bool)(v:Nat)(f l:Int),10001<n+v->v<=10001->
  (zH A E n c v f l=(c,f,l)/\∀t:Nat,v<=t->t<=10000->YN A (t:Int) E=false)\/
  ∃x y:Nat,v<=x/\x<=y/\y<=10000/\YN A (x:Int) E=true/\YN A (y:Int) E=true/\(∀t:Nat,v<=t->t<x->YN A (t:Int) E=false)/\(∀t:Nat,y<t->t<=10000->YN A (t:Int) E=false)/\
   zH A E n c v f l=(true,if c then f else(x:Int),(y:Int)):=by
 intro n;induction n with
 |zero=>intro c v f l h h';omega
 |succ n ih=>
  intro c v f l h h';rw[zH];by_cases hv:v<=10000
  ·rw[show decide ((v:Int)<=10000)=true by simp;omega];simp only[cond_true];cases hs:YN A (v:Int) E with
   |false=>
    rcases ih c (v+1) f l Y Y with⟨e,k⟩|⟨x,y,p1,p2,p3,p4,L,p6,p7,p8⟩
    ·refine .inl ⟨e,fun t I X=>?_⟩;rcases Nat.eq_or_lt_of_le I with rfl|I
     ·exact hs
     ·exact k t I X
    ·refine .inr ⟨x,y,Y,p2,p3,p4,L,fun t I X=>?_,p7,p8⟩;rcases Nat.eq_or_lt_of_le I with rfl|I
     ·exact hs
     ·exact p6 t I X
   |true=>
    simp only[cond_true];have ai:∀g:Int,(∃x y:Nat,v<=x/\x<=y/\y<=10000/\YN A (x:Int) E=true/\YN A (y:Int) E=true/\(∀t:Nat,v<=t->t<x->YN A (t:Int) E=false)/\(∀t:Nat,y<t->t<=10000->YN A (t:Int) E=false)/\
      zH A E n true (v+1) g (v:Int)=(true,g,(y:Int))/\x=v):=by
     intro g;rcases ih true (v+1) g (v:Int) Y Y with⟨e,k⟩|⟨x,y,p1,p2,p3,p4,L,p6,p7,p8⟩
     ·exact⟨v,v,Nat.le_refl _,Nat.le_refl _,hv,hs,hs,fun t I X=>Y,fun t I X=>k t I X,e,rfl⟩
     ·exact⟨v,y,Nat.le_refl _,Y,p3,hs,L,fun t I X=>Y,p7,by simpa using p8,rfl⟩
    cases c with
    |false=>obtain⟨x,y,q1,q2,q3,q4,r,O,b,a,rfl⟩:=ai (v:Int);grind
    |true=>obtain⟨x,y,q1,q2,q3,q4,r,O,b,a,rfl⟩:=ai f;grind
  ·rw[show decide ((v:Int)<=10000)=false by simp;omega];grind
theorem pp(A:List o)(t:Int)(hm:A.length<=maxLen):UI A t=(A.countP (fun s=>Yr s&&ZJ t s.d s.b):Int):=by
 have ai:∀(n:Nat)(c:Nat)(v:Nat),A.length<n+v->v<=A.length->c<=v->jF A t n (c:Int) v=((c+(A.drop v).countP (fun s=>Yr s&&ZJ t s.d s.b):Nat):Int):=by
  intro n;induction n with
  |zero=>intro c v I X;omega
  |succ n ih=>
   intro c v I X h3;rw[jF];by_cases hv:v<A.length
   ·rw[show decide _=true by simpa using hv,List.drop_eq_getElem_cons hv,<-qU hv];simp only[List.countP_cons];have hw:W ((c:Int)+1)=((c+1:Nat):Int):=by rw[show((c+1:Nat):Int)=(c:Int)+1 by omega];exact YF Y eh
    cases Z:(Yr _&&ZJ t (C A v).d (C A v).b)with
    |true=>rw[hw,ih _ _ Y Y Y];simp;omega
    |false=>rw[ih c _ Y Y Y];simp
   ·rw[show decide _=false by simpa using hv,List.drop_eq_nil_of_le Y];simp
 have:=ai (A.length+1) 0 0 ab ab ab;simpa[UI]using this
theorem gf{α:Type}(p:α->Bool)(g:α->Int):∀{l:List α},(∃x∈l,p x=true)->∃x∈l,p x=true/\∀y∈l,p y=true->g y<=g x
 |[],h=>by obtain⟨x,O,_⟩:=h;cases O
 |a::l,h=>by
  by_cases hl:∃x∈l,p x=true
  ·obtain⟨x,O,c,hm⟩:=gf p g hl;by_cases Z:p a=true/\g x<g a
   ·refine⟨a,ab,Z.1,fun y hy b=>?_⟩;rcases List.mem_cons.1 hy with rfl|hy
    ·exact Int.le_refl _
    ·have:=hm y hy b;omega
   ·refine⟨x,by simp[O],c,fun y hy b=>?_⟩;rcases List.mem_cons.1 hy with rfl|hy
    ·rcases Int.lt_or_le (g x) (g y)with h|h
     ·exact absurd ⟨b,h⟩ Z
     ·exact h
    ·exact hm y hy b
  ·obtain⟨x,O,c⟩:=h;rcases List.mem_cons.1 O with rfl|O
   ·refine⟨x,ab,c,fun y hy b=>?_⟩;rcases List.mem_cons.1 hy with rfl|hy
    ·exact Int.le_refl _
    ·exact absurd ⟨y,hy,b⟩ hl
   ·exact absurd ⟨x,O,c⟩ hl
theorem MQ(s:o):Yr s=true↔0<=s.d/\s.d<=s.b/\s.b<=10000:=by simp only[Yr,yF,ZJ,Bool.and_eq_true,decide_eq_true_eq];omega
theorem sx(A:List o)(E:Int):∀(n:Nat)(f l:Int)(v:Nat),A.length<n+v->v<=A.length-> -1<=f->
  let r:=Qy A E n f l v
  (r.1=f\/∃k,v<=k/\k<A.length/\Yr (C A k)=true/\YN A (C A k).d E=true/\r.1=(C A k).d)/\
  (∀k,v<=k->k<A.length->Yr (C A k)=true->YN A (C A k).d E=true->0<=r.1/\r.1<=(C A k).d)/\(0<=f->0<=r.1/\r.1<=f)/\
  (r.2=l\/∃k,v<=k/\k<A.length/\Yr (C A k)=true/\YN A (C A k).b E=true/\r.2=(C A k).b)/\
  (∀k,v<=k->k<A.length->Yr (C A k)=true->YN A (C A k).b E=true->(C A k).b<=r.2)/\l<=r.2:=by
 intro n;induction n with
 |zero=>intro f l v I X;omega
 |succ n ih=>
  intro f l v I X hf;by_cases hv:v<A.length
  ·have step:∃D g:Int,Qy A E (n+1) f l v=Qy A E n D g (v+1)/\-1<=D/\
     (D=f\/(Yr (C A v)=true/\YN A (C A v).d E=true/\D=(C A v).d))/\(Yr (C A v)=true->YN A (C A v).d E=true->0<=D/\D<=(C A v).d)/\(0<=f->0<=D/\D<=f)/\
     (g=l\/(Yr (C A v)=true/\YN A (C A v).b E=true/\g=(C A v).b))/\(Yr (C A v)=true->YN A (C A v).b E=true->(C A v).b<=g)/\l<=g:=by
    rw[Qy,show decide _=true by simpa using hv];have O:=MQ (C A v)
    have hM:yz l (C A v).b=if l<(C A v).b then(C A v).b else l:=by unfold yz;rw[Bool.cond_decide]
    cases I:Yr _ with
    |false=>simp only[Bool.false_and];exact⟨f,l,rfl,hf,.inl rfl,ab,fun h=>⟨h,Int.le_refl _⟩,.inl rfl,ab,Int.le_refl _⟩
    |true=>
     have ai:=O.1 I;simp only[Bool.true_and];have b:∃g,(bif YN A (C A v).b E then yz l (C A v).b else l)=g/\(g=l\/(True/\YN A (C A v).b E=true/\g=(C A v).b))/\(True->YN A (C A v).b E=true->(C A v).b<=g)/\l<=g:=by
      cases YN A (C A v).b E with
      |false=>simp
      |true=>simp;split<;>simp<;>omega
     obtain⟨g,H,b⟩:=b;have a:∃D,(bif(YN A (C A v).d E&&(decide (f<0)||decide ((C A v).d<f)))then(C A v).d else f)=D/\-1<=D/\(D=f\/(True/\YN A (C A v).d E=true/\D=(C A v).d))/\(True->YN A (C A v).d E=true->0<=D/\D<=(C A v).d)/\(0<=f->0<=D/\D<=f):=by
      refine⟨_,rfl,?_⟩;cases YN A (C A v).d E with
      |false=>simp;omega
      |true=>
       by_cases Z:f<0\/(C A v).d<f
       ·rw[show(true&&_)=true by simpa using Z];grind
       ·rw[show(true&&_)=false by simp;omega];grind
     obtain⟨D,e2,a⟩:=a;refine⟨D,g,?_,a.1,a.2.1,a.2.2.1,a.2.2.2,b.1,b.2.1,b.2.2⟩;rw[<-H,<-e2];cases(YN A (C A v).d E&&_)<;>cases YN A (C A v).b E<;>rfl
   obtain⟨D,g,e,g1,V,p,F,G,i,j⟩:=step;rw[e];obtain⟨N,i2,i3,i4,d,i6⟩:=ih D g (v+1) Y Y g1;refine⟨?_,fun k k1 k2 k3 k4=>?_,fun h=>?_,?_,fun k k1 k2 k3 k4=>?_,Y⟩
   ·rcases N with N|⟨k,k1,k2⟩
    ·rcases V with V|⟨q1,q2,q3⟩
     ·left;rw[N,V]
     ·right;exact⟨v,Nat.le_refl _,hv,q1,q2,by rw[N,q3]⟩
    ·right;exact⟨k,Y,k2⟩
   ·rcases Nat.eq_or_lt_of_le k1 with rfl|k1
    ·have:=p k3 k4;have:=i3 this.1;omega
    ·exact i2 k k1 k2 k3 k4
   ·have:=F h;have:=i3 this.1;omega
   ·rcases i4 with i4|⟨k,k1,k2⟩
    ·rcases G with G|⟨q1,q2,q3⟩
     ·left;rw[i4,G]
     ·right;exact⟨v,Nat.le_refl _,hv,q1,q2,by rw[i4,q3]⟩
    ·right;exact⟨k,Y,k2⟩
   ·rcases Nat.eq_or_lt_of_le k1 with rfl|k1
    ·have:=i k3 k4;omega
    ·exact d k k1 k2 k3 k4
  ·rw[Qy,show decide _=false by simpa using hv];grind
theorem Oz(A:List o)(t E:Int)(hm:A.length<=maxLen)(h0:0<=E)(I:E<A.length):YN A t E=true↔(A.length:Int)-E<=(A.countP (fun s=>Yr s&&ZJ t s.d s.b):Int):=by have H:W _=(A.length:Int)-1:=YF Y eh;have e2:W _=(A.length:Int)-E:=YF Y eh;unfold YN;rw[pp A t hm,H,e2,show ZJ E 0 ((A.length:Int)-1)=true by simp[ZJ];omega];simp
theorem L4(A:List o)(t E:Int)(hm:A.length<=maxLen)(h0:0<=E)(I:E<A.length)(hs:YN A t E=true):
  (∃k,k<A.length/\Yr (C A k)=true/\(C A k).d<=t/\YN A (C A k).d E=true)/\(∃k,k<A.length/\Yr (C A k)=true/\t<=(C A k).b/\YN A (C A k).b E=true):=by
 have Z:=(Oz A t E hm h0 I).1 hs;have V:∃s∈A,(Yr s&&ZJ t s.d s.b)=true:=by have:0<A.countP (fun s=>Yr s&&ZJ t s.d s.b):=Y;simp_all
 have a:∀s∈A,∃k,k<A.length/\C A k=s:=by intro s hs;obtain⟨k,hk,rfl⟩:=List.getElem_of_mem hs;exact⟨k,hk,qU hk⟩
 constructor
 ·obtain⟨s,n,hp,a2⟩:=gf _ (fun s:o=>s.d) V;obtain⟨k,hk,rfl⟩:=a s n;simp only[ZJ,Bool.and_eq_true,decide_eq_true_eq]at hp a2;refine⟨k,hk,hp.1,hp.2.1,(Oz A _ E hm h0 I).2 (Int.le_trans Z ?_)⟩;refine Int.ofNat_le.2 (List.countP_mono_left (fun x O R=>?_));simp only[ZJ,Bool.and_eq_true,decide_eq_true_eq]at R⊢;have:=a2 x O R
  grind
 ·obtain⟨s,n,hp,a2⟩:=gf _ (fun s:o=>-s.b) V;obtain⟨k,hk,rfl⟩:=a s n;simp only[ZJ,Bool.and_eq_true,decide_eq_true_eq]at hp a2;refine⟨k,hk,hp.1,hp.2.2,(Oz A _ E hm h0 I).2 (Int.le_trans Z ?_)⟩;refine Int.ofNat_le.2 (List.countP_mono_left (fun x O R=>?_));simp only[ZJ,Bool.and_eq_true,decide_eq_true_eq]at R⊢;have:=a2 x O R
  grind
@[local simp] theorem Ld(A:List o)(E:Int)(hm:A.length<=maxLen):ya A E=jc A E:=by
 have H:W ((A.length:Int)-1)=(A.length:Int)-1:=YF Y eh;unfold ya jc;rw[H];by_cases hr:0<=E/\E<A.length
 ·rw[show(!ZJ E 0 ((A.length:Int)-1))=false by simp[ZJ];omega];obtain⟨c,d,_,g,m,_⟩:=sx A E (A.length+1) (-1) (-1) 0 Y Y Y;generalize Qy A E (A.length+1) (-1) (-1) 0=r at c d g m;obtain⟨f,l⟩:=r;simp only at c d g m⊢;rcases Ht A E 10002 false 0 0 0 Y Y with⟨e,k⟩|⟨x,y,p1,p2,p3,p4,L,p6,p7,e⟩
  ·rw[e];simp only;rcases c with c|⟨j,T,j2,b,j4,G⟩
   ·rw[c];rfl
   ·have hj:=(MQ _).1 b;have:=k (C A j).d.toNat Y Y;grind
  ·rw[e];obtain⟨⟨j,T,j2,b,j4⟩,_⟩:=L4 A x E hm hr.1 hr.2 p4;obtain⟨_,⟨i,N,i2,i3,i4⟩⟩:=L4 A y E hm hr.1 hr.2 L;have hf:=d j Y T j2 j4
   have hl:=m i Y N i2 i4;have n:(x:Int)<=f:=by
    rcases c with c|⟨k,k1,k2,k3,k4,k5⟩
    ·omega
    ·have hk:=(MQ _).1 k3;rcases Int.lt_or_le f x with h|h
     ·have:=p6 f.toNat Y Y;grind
     ·exact h
   have ay:l<=(y:Int):=by
    rcases g with g|⟨k,k1,k2,k3,k4,k5⟩
    ·omega
    ·have hk:=(MQ _).1 k3;rcases Int.lt_or_le (y:Int) l with h|h
     ·have:=p7 l.toNat Y Y;grind
     ·exact h
   have e3:f=x:=Y;have a:l=y:=Y;grind
 ·rw[show(!ZJ E 0 ((A.length:Int)-1))=true by simp[ZJ];omega];simp only[cond_true];have hn:∀t,YN A t E=false:=by intro t;unfold YN;rw[H,show ZJ E 0 ((A.length:Int)-1)=false by simp[ZJ];omega];rfl
  rcases Ht A E 10002 false 0 0 0 Y Y with⟨e,k⟩|⟨x,y,p1,p2,p3,p4,L,p6,p7,e⟩
  ·rw[e]
  ·rw[hn]at p4;cases p4
@[local simp] theorem GO(A:List ZX)(E:Zc):∀(n:Nat)(v0:List o)(a:Nat),jo A E n v0 a=J4 A E.a n v0 a:=by
 intro n;induction n with
 |zero=>intros;rfl
 |succ n ih=>intros;simp[jo,J4,ih]
theorem Nc(A:List ZX)(E:List ZW):∀(n:Nat)(l:List o)(v:Nat),l.length<=v->v<=E.length->∀z,J4 A E n l v= .inr z->z.length<=E.length:=by
 intro n;induction n with
 |zero=>intro l v I X z h;cases h;exact Nat.zero_le _
 |succ n ih=>
  intro l v I X z h;rw[J4]at h;by_cases hv:v<E.length
  ·rw[show decide _=true by simpa using hv]at h;cases hs:(!(Jc A _).2)with
   |true=>rw[hs]at h;cases h
   |false=>rw[hs]at h;exact ih _ _ aD Y z h
  ·rw[show decide _=false by simpa using hv]at h;cases h;omega
@[local simp] theorem TP(A:List ZX)(E:Zc)(G:Int)(h:R maxLen E):KF A E G=yk A E G:=by
 unfold KF yk Kb;rw[GO];cases hh:J4 A E.a _ [] 0 with
 |inl r=>rfl
 |inr z=>simp only;rw[Ld _ _ (Nat.le_trans (Nc A E.a _ _ 0 ab ab z hh) (Z7 (Zc.Tk h)))]
@[local simp] theorem Fy(A:List YZ)(E:List ZX)(G:Zc)(V:Int):PS A E G V=z4 A E G V:=by
 rw[Bool.eq_iff_iff];unfold PS z4;have hs:∀b:Bool,(bif b then false else _)=true↔b=false/\_:=fun b=>by
  cases b
  ·exact(Qj (L:=Wv A E G) (fun _=>rfl) (fun _ _=>rfl) (G.a.length+1) 0 Y true).trans eY
  ·simp
 have hi:∀b:Bool,(bif b then false else _)=true↔b=false/\_:=fun b=>by
  cases b
  ·exact(Qj (L:=WW A E G) (fun _=>rfl) (fun _ _=>rfl) (G.a.length+1) 0 Y true).trans eY
  ·simp
 have hr:Xx G.a=true↔_:=Qj (fun _=>rfl) (fun _ _=>rfl) (G.a.length+1) 1 Y true;refine(hs _).trans (Iff.trans ?_ (hi _).symm);simp only[Bool.or_eq_false_iff,Bool.not_eq_false',hr];constructor
 ·rintro⟨I,X⟩;refine⟨⟨I,fun i hi hl=>?_,trivial⟩,fun i hz hi=>⟨(X i hz hi).1.1,(X i hz hi).2⟩⟩;have:=(X i (Nat.zero_le _) hl).1.2
  simpa[show(0:Nat)<i by omega]using this
 ·rintro⟨⟨I,X,_⟩,h3⟩;refine⟨I,fun i hz hi=>⟨⟨(h3 i hz hi).1,?_⟩,(h3 i hz hi).2⟩⟩;by_cases h0:0<i
  ·have:=X i h0 hi;simpa[h0]using this
  ·simp[h0]
@[local simp] theorem ws(A:List ZX)(E:ZW):Ge A E=Yq A E:=by unfold Ge Yq;rw[ds]
@[local simp] theorem zae(A:List YZ)(E:List ZX)(G:List Z8)(V:Zc):∀(n:Nat)(v0:Int)(a:Nat),qV A E G V n v0 a=qu A E G V n v0 a:=by
 intro n;induction n with
 |zero=>intros;rfl
 |succ n ih=>intros;simp[qV,qu,ih,ByteArray.append_assoc]
@[local simp] theorem FF(A:List YZ)(E:List ZX)(G:List Z8)(V:Zc):R5 A E G V=K4 A E G V:=by simp[R5,K4]
@[local simp] theorem wo(A:ZP)(E:ZY)(G:Int)(h:R maxLen E):SG A E G=V8 A E G:=by unfold SG V8 JZ;rw[TP _ _ _ (Zh (ZY.Qf h))]
theorem Eu(A:ZP)(E:ZY)(G:List Int)(hs:R maxLen E):∀(n v:Nat),v<=maxLen->kG A E G n v=j9 A E G n v:=by
 intro n;induction n with
 |zero=>intros;rfl
 |succ n ih=>
  intro v hv;rw[kG,j9];by_cases h:0<v
  ·have hw:W _=(v:Int)-1:=YF Y (by unfold maxLen at hv;omega);rw[show decide ((v:Int)>0)=true by simpa using h,ih (v-1) Y];unfold HG JZ;rw[hw,show((v:Int)-1).toNat=v-1 by omega];rw[TP _ _ _ (Zh (ZY.Qf hs)),wo _ _ _ hs];simp;cases(yk A.b _ A.e).2<;>cases V8 A E ((v:Int)-1)<;>cases z4 A.a A.b _ _<;>rfl
  ·rw[show decide ((v:Int)>0)=false by simpa using h];rfl
@[local simp] theorem wk(A:ZP)(E:ZY)(G:List Int)(h:R maxLen E):xf A E G=xa A E G:=by unfold xf xa;rw[Eu A E G h _ _ (Z7 (ZY.Qf h))]
theorem Iz(A:ZP)(E:ZY)(V:Int)(h:R maxLen E):∀(n:Nat)(v0 a:Int),UQ A E V n v0 a=UE A E V n v0 a
 |0,_,_=>rfl
 |n+1,v0,a=>by
  have ih:=Iz A E V h n;have hr:KF A.b (C E.b a.toNat) A.e=JZ A (C E.b a.toNat):=by rw[TP _ _ _ (Zh (ZY.Qf h))];rfl
  simp only[UQ,UE,F4,hr,ih]
theorem ti(A:ZP)(E:ZY)(G:List Int)(V:Int)(h:R maxLen E):Nw A E G V=Nr A E G V:=by simp only[Nw,Nr,Iz A E V h,wk A E G h]
theorem Af(A:ZP)(E:ZY)(G:List Int)(V:ZS)(h:R maxLen E):Wt A E G V=Wn A E G V:=by simp only[Wt,Wn,ti A E G _ h]
theorem hV(A:ZP)(E:M)(G:List (List Int))(V:ZS):∀(n:Nat)(v0:Int)(a:Nat),G.length<=a->E.a.length<n+a->a<=E.a.length->KD A E G V n v0 a=v0
 |0,_,_,_,I,X=>Y
 |n+1,v0,a,h0,I,X=>by
  simp only[KD];rw[show decide (_<(G.length:Int))=false by simp;omega];by_cases hv:a<E.a.length
  ·rw[show decide _=true by simpa using hv];exact hV A E G V n v0 _ Y Y hv
  ·rw[show decide _=false by simpa using hv];rfl
theorem Sc(A:ZP)(E:M)(G:List (List Int))(V:ZS)(h:R maxLen E):∀(n:Nat)(v0:Int)(a:Nat),E.a.length<n+a->a<=E.a.length->xo A E G V n v0 a=KD A E G V n v0 a
 |0,_,_,_,_=>rfl
 |n+1,v0,a,I,X=>by
  simp only[xo,KD,F4,Af A _ _ V (Zh (M.Y8 h))];by_cases hv:a<E.a.length
  ·rw[show decide _=true by simpa using hv];by_cases ha:a<G.length
   ·rw[show decide _=true by simpa using ha];exact Sc A E G V h n _ _ Y hv
   ·rw[show decide _=false by simpa using ha];exact(hV A E G V n v0 _ Y Y hv).symm
  ·rw[show decide _=false by simpa using hv];rfl
theorem Pd(A:ZP)(E:M)(G:List (List Int))(V:ZS)(h:R maxLen E):XW A E G V=XP A E G V:=by simp only[XW,XP,Sc A E G V h (E.a.length+1) A.d 0 ab (Nat.zero_le _)]
@[local simp] theorem Lh(A:List YZ)(E:ZS):Rk A E=zw A E:=by
 unfold Rk zw MD;simp;have H:Yc E≠101->(v E).2=false:=fun h=>by unfold v;rw[show(Yc E !=101)=true by simpa using h];rfl
 have e2:Yc E≠102->(Ql E).2=false:=fun h=>by unfold Ql;rw[show(Yc E !=102)=true by simpa using h];rfl
 have e3:Yc E≠103->(zi E).2=false:=fun h=>by unfold zi;rw[show(Yc E !=103)=true by simpa using h];rfl
 have a:Yc E≠104->(yw E).2=false:=fun h=>by unfold yw;rw[show(Yc E !=104)=true by simpa using h];rfl
 have i:Yc E≠105->(JC E).2=false:=fun h=>by unfold JC;rw[show(Yc E !=105)=true by simpa using h];rfl
 by_cases I:Yc E=101
 ·rw[e2 Y,e3 Y,a Y,i Y,I];simp
 by_cases X:Yc E=102
 ·rw[H I,e3 Y,a Y,i Y,X];simp
 by_cases h3:Yc E=103
 ·rw[H I,e2 X,a Y,i Y,h3];simp
 by_cases h4:Yc E=104
 ·rw[H I,e2 X,e3 h3,i Y,h4];simp
 by_cases h5:Yc E=105
 ·rw[H I,e2 X,e3 h3,a h4,h5];simp
 rw[H I,e2 X,e3 h3,a h4,i h5];simp
def HU:List Int->List Int->Bool->Bool
 |[],[],t=>t
 |[],_::_,_=>true
 |_::_,[],_=>false
 |a::as,b::c,t=>bif a !=b then decide (a<b)else HU as c t
theorem pB:∀a t,HU a a t=t
 |[],_=>rfl
 |x::a,t=>by rw[HU,show(x !=x)=false by simp];exact pB a t
theorem vU:∀{a b c:List Int}{t1 t2 t3:Bool},(t1=true->t2=true->t3=true)->HU a b t1=true->HU b c t2=true->HU a c t3=true
 |[],[],[],_,_,_,h,I,X=>h I X
 |[],[],_::_,_,_,_,_,_,_=>rfl
 |[],_::_,[],_,_,_,_,_,X=>by cases X
 |[],_::_,_::_,_,_,_,_,_,_=>rfl
 |_::_,[],_,_,_,_,_,I,_=>by cases I
 |_::_,_::_,[],_,_,_,_,_,X=>by cases X
 |x::a,y::b,z::c,_,_,_,h,I,X=>by
  simp only[HU]at I X⊢;by_cases H:x=y
  ·subst H;rw[show(x !=x)=false by simp]at I;by_cases e2:x=z
   ·subst e2;rw[show(x !=x)=false by simp]at X⊢;exact vU h I X
   ·rw[show(x !=z)=true by simpa using e2]at X⊢;exact X
  ·rw[show(x !=y)=true by simpa using H,cond_true]at I;by_cases e2:y=z
   ·subst e2;grind
   ·rw[show(y !=z)=true by simpa using e2,cond_true]at X;simp at I X;rw[show(x !=z)=true by simp;omega];grind
theorem l3:∀{a b:List Int}{t1 t2:Bool},HU a b t1=false->HU b a t2=false->a=b/\t1=false/\t2=false
 |[],[],_,_,I,X=>⟨rfl,I,X⟩
 |[],_::_,_,_,I,_=>by cases I
 |_::_,[],_,_,_,X=>by cases X
 |x::a,y::b,_,_,I,X=>by
  simp only[HU]at I X;by_cases H:x=y
  ·subst H;rw[show(x !=x)=false by simp]at I X;obtain⟨e,k1,k2⟩:=l3 I X;grind
  ·rw[show(x !=y)=true by simpa using H,cond_true]at I;rw[show(y !=x)=true by simp;omega,cond_true]at X;simp at I X;omega
theorem iJ(x y:ZS)(t:Bool):∀(n i:Nat),x.a.length<n+i->i<=x.a.length->i<=y.a.length->
  (match xZ x y n i with|.inl r1=>r1|.inr _=>bif((x.a.length:Int)!=(y.a.length:Int))then(decide ((x.a.length:Int)<(y.a.length:Int)))else t)=HU (x.a.drop i) (y.a.drop i) t
 |0,i,h,I,_=>Y
 |n+1,i,h,I,X=>by
  simp only[xZ];by_cases O:i<x.a.length
  ·by_cases hy:i<y.a.length
   ·rw[show decide _=true by simpa using O,show decide _=true by simpa using hy,yI O,yI hy];simp only[Bool.and_true,cond_true,HU];cases(C x.a i !=C y.a i)with
    |true=>rfl
    |false=>exact iJ x y t n (i+1) Y O hy
   ·rw[show decide ((i:Int)<(y.a.length:Int))=false by simpa using hy,yI O,List.drop_eq_nil_of_le (as:=y.a) Y];simp only[Bool.and_false,cond_false,HU];rw[show(_ !=(y.a.length:Int))=true by simp;omega,cond_true];simp;omega
  ·rw[show decide _=false by simpa using O,List.drop_eq_nil_of_le (as:=x.a) Y];by_cases hy:i<y.a.length
   ·rw[yI hy,HU,show((x.a.length:Int)!=(y.a.length:Int))=true by simp;omega,cond_true];simp;omega
   ·rw[List.drop_eq_nil_of_le (as:=y.a) Y,HU,show((x.a.length:Int)!=(y.a.length:Int))=false by simp;omega];rfl
def iF(x y:ZS):Bool:=bif(x.c !=y.c)then(decide (x.c<y.c))else(decide (x.f<y.f))
theorem Gl(x y:ZS):XS x y=HU x.a y.a (iF x y):=by have:=iJ x y (iF x y) (x.a.length+1) 0 ab (Nat.zero_le _) (Nat.zero_le _);exact this
theorem vx(x:ZS):XS x x=false:=by rw[Gl,pB];simp[iF]
theorem before_trans{x z:ZS}(I:XS x y=true)(X:XS y z=true):XS x z=true:=by rw[Gl]at I X⊢;refine vU (fun k1 k2=>?_) I X;unfold iF at*;by_cases H:x.c=y.c<;>by_cases e2:y.c=z.c<;>by_cases e3:x.c=z.c<;>simp[e3]at k1 k2⊢<;>(try simp_all)<;>omega
theorem w3{x:ZS}(I:XS x y=false)(X:XS y x=false):x=y:=by
 rw[Gl]at I X;obtain⟨e,k1,k2⟩:=l3 I X;unfold iF at k1 k2;cases x;cases y;subst e;rename_i k _ m k' q;by_cases a:k=k'
 ·subst a;simp at k1 k2;congr 1;omega
 ·rw[show(k !=k')=true by simpa using a]at k1;rw[show(k' !=k)=true by simp;omega]at k2;grind
def ML(l:List ZS):Prop:=l.Pairwise (fun a b=>XS a b=true)
theorem nn{l:List ZS}(hs:ML l)(d:i<j)(hj:j<l.length):XS (C l i) (C l j)=true:=by have I:=List.pairwise_iff_getElem.1 hs i j Y hj d;rw[show C l i=l[i]by simp[C,List.getElem?_eq_getElem (show i<l.length by omega)],show C l j=l[j]by simp[C,List.getElem?_eq_getElem hj]];exact I
theorem hU(l:List ZS)(p:ZS):∀(n v:Nat),l.length<n+v->v<=l.length->v<=zF l p n v/\zF l p n v<=l.length/\(∀k,v<=k->k<zF l p n v->XS (C l k) p=true)/\(zF l p n v<l.length->XS (C l (zF l p n v)) p=false)
 |0,v,h,X=>Y
 |n+1,v,h,X=>by
  simp only[zF];by_cases hv:v<l.length
  ·rw[show decide _=true by simpa using hv,Bool.true_and];cases J:XS _ p with
   |true=>
    obtain⟨k1,k2,k3,k4⟩:=hU l p n (v+1) Y hv;refine⟨by simp;omega,k2,fun k a b=>?_,k4⟩;rcases Nat.eq_or_lt_of_le a with rfl|a
    ·exact J
    ·exact k3 k a b
   |false=>exact⟨Nat.le_refl _,X,fun k a b=>by simp at b;omega,fun _=>J⟩
  ·rw[show decide _=false by simpa using hv];grind
theorem g4(E:M)(a:Nat)(l:List ZS)(i:Nat):∀(n v:Nat),qy E a l i n v=zF l (C (C E.a a).a i) n v
 |0,_=>rfl
 |n+1,v=>by simp only[qy,zF,g4 E a l i n]
theorem h9(l:List ZS)(p:ZS):QF l p=true↔∃k,k<l.length/\C l k=p:=by
 refine Iff.trans (HH (fun _=>rfl) (fun _ _=>rfl) _ 0 ab) ?_;constructor
 ·rintro⟨i,_,I,X⟩;exact⟨i,I,by simpa using X⟩
 ·rintro⟨i,I,X⟩;exact⟨i,Nat.zero_le _,I,by simpa using X⟩
theorem p6{l:List ZS}(hs:ML l)(p:ZS):Uq l p=(bif QF l p then l else(l.take (zF l p (l.length+1) 0)++[p])++l.drop (zF l p (l.length+1) 0))/\ML (Uq l p):=by
 obtain⟨_,k2,k3,k4⟩:=hU l p (l.length+1) 0 ab (Nat.zero_le _);unfold Uq;generalize zF l p _ 0=z at k2 k3 k4⊢;simp only[Tp];have hh:(decide ((z:Int)<(l.length:Int))&&decide (C l z=p))=QF l p:=by
  rw[Bool.eq_iff_iff,h9];simp;constructor
  ·rintro⟨I,X⟩;exact⟨z,Y,X⟩
  ·rintro⟨j,I,X⟩;have g:¬j<z:=fun ag=>by have:=k3 j (Nat.zero_le _) ag;rw[X,vx]at this;cases this
   rcases Nat.eq_or_lt_of_le (Nat.le_of_not_lt g)with rfl|ag
   ·exact⟨Y,X⟩
   ·have h5:=nn hs ag I;grind
 rw[hh];cases hp:QF l p with
 |true=>exact⟨rfl,hs⟩
 |false=>
  refine⟨rfl,?_⟩;have n:∀k,k<l.length->C l k≠p:=fun k hk he=>by have:=(h9 l p).2 ⟨k,hk,he⟩;grind
  have c:ML (l.take z++l.drop z):=by rw[List.take_append_drop];exact hs
  obtain⟨q1,q2,q3⟩:=List.pairwise_append.1 c;have q:∀a∈l.take z,XS a p=true:=by
   intro a ha;obtain⟨k,hk,rfl⟩:=List.mem_iff_getElem.1 ha;have e:k<z:=by rw[List.length_take]at hk;omega
   have:=k3 k (Nat.zero_le _) e;rw[List.getElem_take];rwa[show C l k=l[k]by simp[C,List.getElem?_eq_getElem (show k<l.length by omega)]]at this
  have f:∀b∈l.drop z,XS p b=true:=by
   by_cases hz:z<l.length
   ·have d:XS p (C l z)=true:=by
     cases Z:XS p _ with
     |true=>rfl
     |false=>exact absurd (w3 (k4 hz) Z) (n z hz)
    rw[yI hz]at q2⊢;intro b J;rcases List.mem_cons.1 J with rfl|J
    ·exact d
    ·exact before_trans d ((List.pairwise_cons.1 q2).1 b J)
   ·rw[List.drop_eq_nil_of_le Y];intro b J;cases J
  rw[List.append_assoc];refine List.pairwise_append.2 ⟨q1,List.pairwise_cons.2 ⟨f,q2⟩,fun a ha b J=>?_⟩;rcases List.mem_cons.1 (by simpa using J)with rfl|J
  ·exact q a ha
  ·exact q3 a ha b J
theorem tq(h:zw A p=true):0<=Zi A p.c:=by
 rw[<-Lh]at h;simp only[Rk,Bool.and_eq_true]at h;have X:=h.2
 unfold Qo yX at X;cases Z:decide (Zi A p.c<0)with
 |true=>rw[Z]at X;simp at X
 |false=>simpa using Z
theorem gd(A:ZP)(E:M)(G:List (List Int))(a:Nat)(h:R maxLen E):∀(n:Nat)(l:List ZS)(i:Nat),ML l->JN A E G a n l i=Js A E G a n l i/\ML (JN A E G a n l i)
 |0,_,_,_=>⟨rfl,List.Pairwise.nil⟩
 |n+1,l,i,hs=>by
  simp only[JN,Js];cases decide ((i:Int)<_)with
  |false=>exact⟨rfl,hs⟩
  |true=>
   simp only[cond_true,g4];generalize(C (C E.a a).a i)=p;have F:Sh A E G p=!((!(zw A.a p))||decide (XP A E G p>=zC A p.c)):=by
    unfold Sh zC;simp only[Pd A E G p h];cases Z:zw A.a p with
    |false=>simp
    |true=>have:=tq Z;rw[show decide _=true by simpa using this,show decide (Zi A.a p.c<0)=false by simp;omega];simp;grind
   rw[F];obtain⟨e,ac⟩:=p6 hs p;cases J:(_||decide (XP A E G p>=zC A p.c))with
   |true=>rw[Bool.or_assoc,J,Bool.or_true];exact gd A E G a h n l (i+1) hs
   |false=>
    rw[Bool.or_assoc,J,Bool.or_false];simp only[Bool.not_false,cond_true];obtain⟨r1,r2⟩:=gd A E G a h n (Uq l p) (i+1) ac;refine⟨?_,r2⟩;rw[r1,e];cases QF l p with
    |true=>rfl
    |false=>simp only[cond_false];congr 2;simp
theorem hl(A:ZP)(E:M)(G:List (List Int))(h:R maxLen E):∀(n:Nat)(l:List ZS)(i:Nat),ML l->zU A E G n l i=zd A E G n l i
 |0,_,_,_=>rfl
 |n+1,l,i,hs=>by
  simp only[zU,zd];cases decide ((i:Int)<(E.a.length:Int))with
  |false=>rfl
  |true=>obtain⟨r1,r2⟩:=gd A E G i h _ l 0 hs;rw[hl A E G h n _ _ r2,r1]
theorem EK(A:ZP)(E:M)(G:List (List Int))(h:R maxLen E):YS A E G=YR A E G:=hl A E G h _ [] 0 List.Pairwise.nil
@[local simp] theorem mS(A:List YZ)(E:Int):DJ A E=UA A E:=by simp[DJ,UA,ds]
@[local simp] theorem um(A:List YZ)(E:Yv):IA A E=jG A E:=by simp[IA,jG,Bool.beq_comm]
theorem RM(E:List ZW):∀(n:Nat)(l:List Int)(i:Nat),qQ E n l i=qo E n l i
 |0,_,_=>rfl
 |n+1,l,i=>by simp only[qQ,qo,RM E n]
@[local simp] theorem EA(A:Int)(E:List ZW):Pv A E=KE A E:=by simp[Pv,KE,we,RM]
def dO(l:List ZW)(v:Nat):Bool:=decide ((v:Int)>0)&&decide ((C l (v-1)).a>=(C l v).a)
def dX(A:ZP)(E:List ZS)(x:ZW):Bool:=QF E (KV (Yq A.b x) x)
def uj(A:ZP)(E:List ZS)(l:List ZW):Nat->Nat->Bool
 |0,_=>true
 |n+1,v=>bif decide ((v:Int)<(l.length:Int))then((!dO l v)&&dX A E (C l v))&&uj A E l n (v+1)else true
theorem pR(A:ZP)(E:List ZS)(l:List ZW):∀n v,l.length<n+v->(uj A E l n v=true↔∀i,v<=i->i<l.length->dO l i=false/\dX A E (C l i)=true)
 |0,v,h=>⟨fun _ i I X=>Y,fun _=>rfl⟩
 |n+1,v,h=>by
  simp only[uj];by_cases hv:v<l.length
  ·rw[show decide _=true by simpa using hv];simp only[cond_true,Bool.and_eq_true,Bool.not_eq_true',pR A E l n (v+1) Y];constructor
   ·rintro⟨I,X⟩ i h3 h4;rcases Nat.eq_or_lt_of_le h3 with rfl|h3
    ·exact I
    ·exact X i h3 h4
   ·intro I;grind
  ·rw[show decide _=false by simpa using hv];grind
theorem nu(E:List ZS)(p:ZS):QF E p=QF E p:=by
 have:∀n v,xe E p n v=xe E p n v:=by
  intro n;induction n with
  |zero=>intro v;rfl
  |succ n ih=>intro v;simp only[xe,xe,ih,Tp,Tp]
 simp only[QF,QF,this]
theorem hY(A:ZP)(E:List ZS)(l:List ZW):∀n s v,U7 A E l n s v=bif uj A E l n v then(match J4 A.b l n s v with|.inl _=>.inl (0,false)|.inr z=>.inr z)else .inl (0,false)
 |0,s,v=>rfl
 |n+1,s,v=>by
  simp only[U7,J4,uj,nu];cases decide ((v:Int)<_)with
  |false=>rfl
  |true=>rw[hY A E l n];rw[show(decide _&&decide _)=dO l v from rfl,show QF E _=dX A E (C l v)from rfl];cases(Jc A.b (C l v)).2<;>cases dO l v<;>cases dX A E (C l v)<;>cases uj A E l n (v+1)<;>rfl
theorem mf(l:List ZW):Xx l=true↔∀i,1<=i->i<l.length->decide ((C l (i-1)).a>=(C l i).a)=false:=by refine Iff.trans (Qj (fun _=>rfl) (fun _ _=>rfl) _ 1 Y true) ?_;simp
theorem g3(A:ZP)(E:M)(G:List ZS)(k:Nat):∀n b v,(C E.b k).length<n+v->(KN A E G k n b v=true↔b=true/\∀i,v<=i->i<(C E.b k).length->dX A G (C (C E.b k) i)=true)\/n=0
 |0,_,_,_=>.inr rfl
 |n+1,b,v,h=>by
  left;simp only[KN];by_cases hv:v<(C E.b k).length
  ·rw[show decide _=true by simpa using hv,cond_true];rcases g3 A E G k n (b&&dX A G (C (C E.b k) v)) (v+1) Y with e|e
   ·refine Iff.trans e ?_;rw[Bool.and_eq_true];constructor
    ·rintro⟨⟨I,X⟩,h3⟩;refine⟨I,fun i h4 h5=>?_⟩;rcases Nat.eq_or_lt_of_le h4 with rfl|h4
     ·exact X
     ·exact h3 i h4 h5
    ·rintro⟨I,X⟩;grind
   ·omega
  ·rw[show decide ((v:Int)<((C E.b k).length:Int))=false by simpa using hv,cond_false];grind
theorem Kg(A:ZP)(E:M)(G:List ZS)(k:Nat):uj A G (C E.b k) ((C E.b k).length+1) 0=(Xx (C E.b k)&&KN A E G k ((C E.b k).length+1) true 0):=by
 rw[Bool.eq_iff_iff,Bool.and_eq_true,pR _ _ _ _ _ ab,mf];rcases g3 A E G k ((C E.b k).length+1) true 0 ab with e|e
 ·rw[e];constructor
  ·intro h;refine⟨fun i I X=>?_,rfl,fun i I X=>(h i I X).2⟩;have:=(h i (Nat.zero_le _) X).1
   unfold dO at this;rwa[show decide _=true by simp;omega]at this
  ·rintro⟨I,_,h3⟩ i _ h5;refine⟨?_,h3 i (Nat.zero_le _) h5⟩;unfold dO;by_cases hi:0<i
   ·rw[I i hi h5,Bool.and_false]
   ·rw[show decide _=false by simp;omega];rfl
 ·omega
theorem wX(A:List ZX)(l:List ZW):∀n s v r,J4 A l n s v= .inl r->r=(o.mk 0 0,false)
 |0,_,_,_,h=>aX
 |n+1,s,v,r,h=>by
  simp only[J4]at h;cases Z:decide ((v:Int)<_)with
  |false=>rw[Z]at h;cases h
  |true=>
   cases J:(!(Jc A (C l v)).2)with
   |true=>rw[Z,J]at h;cases h;rfl
   |false=>rw[Z,J]at h;exact wX A l n _ _ r h
theorem n0(A:ZP)(E:M)(G:List ZS)(k:Nat)(h:R maxLen E):y6 A G (C E.b k)=bif(Xx (C E.b k)&&KN A E G k ((C E.b k).length+1) true 0)then((Kb A.b (C E.b k) A.e).1.d,(Kb A.b (C E.b k) A.e).2)else(0,false):=by
 unfold y6 Kb;rw[hY,Kg];cases(Xx _&&KN A E G k _ true 0)with
 |false=>rfl
 |true=>
  simp;cases hh:J4 A.b _ _ [] 0 with
  |inl r=>rw[wX _ _ _ _ _ _ hh]
  |inr z=>simp only;rw[Ld _ _ (Nat.le_trans (Nc A.b _ _ _ 0 ab ab z hh) (Z7 (Zh (M.ki h))))]
theorem vT(A:ZP)(E:M)(G:List ZS)(V:Zu)(ha:(V.d==0)=true):∀(n:Nat)(x:Int)(v:Nat),E.b.length<n+v->v<=E.b.length->KM A E G V n x v=x
 |0,_,_,I,X=>Y
 |n+1,x,v,I,X=>by
  simp only[KM];by_cases hv:v<E.b.length
  ·rw[show decide _=true by simpa using hv,ha];exact vT A E G V ha n x _ Y hv
  ·rw[show decide _=false by simpa using hv];rfl
theorem gy(A:ZP)(E:M)(G:List ZS)(V:Zu)(h:R maxLen E):∀(n:Nat)(x:Int)(v:Nat),E.b.length<n+v->v<=E.b.length->Kt A E G V n x v=KM A E G V n x v
 |0,_,_,I,X=>Y
 |n+1,x,v,I,X=>by
  cases ha:(V.d==0)with
  |true=>rw[vT A E G V ha _ x v I X];simp only[Kt,bne,ha,Bool.not_true,Bool.and_false,cond_false]
  |false=>
   simp only[Kt,KM,N3];rw[show(V.d !=0)=true by simp only[bne,ha,Bool.not_false],ha,Bool.and_true];by_cases hv:v<E.b.length
   ·rw[show decide _=true by simpa using hv];have ih:=fun x=>gy A E G V h n x _ Y hv
    simp only[ih,n0 A E G v h];cases(KE V.b _ !=V.d)with
    |true=>simp
    |false=>
     cases Xx _ with
     |false=>rfl
     |true=>
      cases KN A E G v _ true 0 with
      |false=>rfl
      |true=>rfl
   ·rw[show decide _=false by simpa using hv];rfl
theorem hm(A:ZP)(E:M)(G:List ZS)(V:Zu):∀(n:Nat)(x:Int)(v:Nat),qH A E G V n x v=Kt A E G V n x v
 |0,_,_=>rfl
 |n+1,x,v=>by simp only[Kt,qH,hm A E G V n]
theorem gT(A:ZP)(E:M)(G:List ZS)(k:Nat):∀(n:Nat)(x:Bool)(v:Nat),VL A E G k n x v=KN A E G k n x v
 |0,_,_=>rfl
 |n+1,x,v=>by simp only[VL,KN,gT A E G k n]
theorem h3(A:ZP)(E:M)(G:List ZS)(V:Zu):∀(n:Nat)(x:Int)(v:Nat),qE A E G V n x v=KM A E G V n x v
 |0,_,_=>rfl
 |n+1,x,v=>by simp only[qE,KM,gT,h3 A E G V n]
theorem wD(A:ZP)(E:M)(G:List ZS)(V:Zu)(h:R maxLen E):Jh A E G V=Je A E G V:=by simp only[Jh,Je,hm,h3,gy A E G V h (E.b.length+1) _ 0 ab (Nat.zero_le _)]
theorem FM(A:List O)(E:Int):∀(n:Nat)(v0 a V:Int)(i:Nat),(WL A E n v0 a V i).2=ky A E n a V i
 |0,_,_,_,_=>rfl
 |n+1,v0,a,V,i=>by
  simp only[WL,ky,N3];cases decide ((i:Int)<(A.length:Int))with
  |false=>rfl
  |true=>
   cases((C A i).a !=E)with
   |true=>exact FM A E n _ _ _ _
   |false=>
    rw[show decide ((C A i).d>=0)=!decide ((C A i).d<0)by rw[<-decide_not];simp];cases decide ((C A i).d<0)with
    |true=>exact FM A E n _ _ _ _
    |false=>cases(decide (v0<0)||decide ((C A i).d<v0))<;>exact FM A E n _ _ _ _
@[local simp] theorem v0(A:List O)(E:Int):DO A E=Xd A E:=by
 unfold DO Xd UX;have h:=FM A E (A.length+1) (-1) (-1) (-1) 0
 rw[<-h];simp
theorem hf(l:List o):∀(n:Nat)(v0:List o)(a:Nat)(x y:Int),UO l n v0 a x y=jO l n v0 a x y
 |0,_,_,_,_=>rfl
 |n+1,v0,a,x,y=>by simp only[UO,jO,F4,N3,hf l n]
theorem ir(l:List o)(x:Int):∀(n v:Nat),NO l x n v=SK l x n v
 |0,_=>rfl
 |n+1,v=>by simp only[NO,SK,ir l x n]
theorem hh(A:List o):∀(n:Nat)(v0:List o)(a:Nat),UK A n v0 a=jL A n v0 a
 |0,_,_=>rfl
 |n+1,v0,a=>by simp only[UK,jL,HT,hf,ir,hh A n];cases decide ((a:Int)<_)<;>cases Yr (C A a)<;>rfl
@[local simp] theorem nE(A:List o):CT A=XX A:=by simp only[CT,XX,hh]
theorem k7(a:List o)(b c:Int):Xz a b c=YE b c a:=by simp only[Xz,YE];cases(Xt b c).2<;>rfl
@[local simp] theorem th(A:Yv)(E:List O):GQ A E=ja A E:=by simp only[GQ,ja,k7]
theorem HI(A:List O)(E:Int):∀(n:Nat)(v0 a V:Int)(i:Nat),((WL A E n v0 a V i).1,(WL A E n v0 a V i).2.2)=yj A E n v0 V i
 |0,_,_,_,_=>rfl
 |n+1,v0,a,V,i=>by
  simp only[WL,yj,N3];cases decide ((i:Int)<(A.length:Int))with
  |false=>rfl
  |true=>
   cases((C A i).a !=E)with
   |true=>exact HI A E n _ _ _ _
   |false=>
    cases decide ((C A i).d<0)with
    |true=>exact HI A E n _ _ _ _
    |false=>cases(decide (v0<0)||decide ((C A i).d<v0))<;>exact HI A E n _ _ _ _
@[local simp] theorem v3(A:List O)(E:Int):IS A E=Kj A E:=by
 unfold IS Kj UX;have h:=HI A E (A.length+1) (-1) (-1) (-1) 0
 rw[<-h]
theorem Nk(s:o):Yr s=true↔0<=s.d/\s.d<=s.b/\s.b<=10000:=by simp[Yr,yF,ZJ];omega
@[local simp] theorem wG(A E:o):Ip A E=KA A E:=by
 unfold Ip KA;cases h0:Yr A with
 |false=>rfl
 |true=>
  cases I:Yr E with
  |false=>rfl
  |true=>
   rw[Nk]at h0 I;simp only[N3,F4,cond_false];generalize hf:(if E.d>A.d then E.d else A.d)=f;generalize ht:(if E.b<A.b then E.b else A.b)=t;have g:0<=f/\f<=10000:=by split at hf<;>omega
   have B:0<=t/\t<=10000:=by split at ht<;>omega
   unfold Xt;simp;rw[show(if f<0 then 0 else f)=f by split<;>omega,show(if 10000<t then 10000 else t)=t by split<;>omega];by_cases a:f<=t
   ·rw[show decide _=false by simp;omega,show Yr _=true from(Nk _).2 ⟨g.1,a,B.2⟩];rfl
   ·rw[show decide _=true by simp;omega,show Yr _=false by
     cases hs:Yr _ with
     |false=>rfl
     |true=>rw[Nk]at hs;exact absurd hs.2.1 a]
    rfl
theorem pf(c d:o)(h:Yr d=false):UF [c] [d]=[]:=by
 have hm:(KA c d).2=false:=by unfold KA;rw[h];cases Yr c<;>rfl
 have X:jK [c] [d] 0 2 [] 0=[]:=by show(bif true then(bif(KA c d).2 then _ else jK [c] [d] 0 1 [] 1)else[])=[];rw[hm];rfl
 show XX (SJ [c] [d] 1 (jK [c] [d] 0 2 [] 0) 1)=[];rw[X];rfl
@[local simp] theorem uA(A:Yv)(E:List O):L8 A E=xx A E:=by
 simp only[L8,xx];generalize Kj E A.a=g;unfold Xt;by_cases I:g<0
 ·have hs:Yr (o.mk 0 g)=false:=by
   cases Z:Yr _ with
   |false=>rfl
   |true=>rw[Nk]at Z;simp at Z;omega
  rw[pf _ _ hs];rw[show decide _=true by simp;omega];rfl
 ·by_cases X:g>10000
  ·have hs:Yr (o.mk 0 g)=false:=by
    cases Z:Yr _ with
    |false=>rfl
    |true=>rw[Nk]at Z;simp at Z;omega
   rw[pf _ _ hs,show decide (g>10000)=true by simpa using X,Bool.or_true];rfl
  ·rw[show decide (g>10000)=false by simpa using X,show(if 10000<g then 10000 else g)=g by split<;>omega,show decide _=false by simp;omega,show Yr _=true from(Nk _).2 ⟨ab,by simp;omega,by simp;omega⟩];rfl
theorem r2(l:List o)(s:o)(h:zo l s=true):Yr s=true:=by obtain⟨i,_,_,h3⟩:=(HH (fun _=>rfl) (fun _ _=>rfl) _ 0 ab).1 h;unfold TL at h3;simp at h3;grind
@[local simp] theorem B5(A:List YZ)(E:List XD)(G V:Int)(a4:o):Mb A E G V a4=jT A E G V a4:=by
 simp only[Mb,jT];cases(G==0)with
 |false=>rfl
 |true=>
  cases Z:zo _ a4 with
  |false=>simp
  |true=>rw[r2 _ _ Z];rfl
theorem OS(A:ZP)(E:M)(G:List (List Int))(V:Int)(a4:Zu)(h:R maxLen E):qc A E G V a4=qh A E G V a4:=by
 unfold qc qh TS;simp only[EK A E G h,Pd A E G _ h,wD A E _ a4 h];cases kF A with
 |false=>rfl
 |true=>
  cases Jp a4 with
  |false=>rfl
  |true=>
   cases decide (V<0)with
   |true=>rfl
   |false=>
    cases(V !=a4.e)with
    |true=>rfl
    |false=>
     cases hk:decide (Zi A.a a4.c<0)with
     |true=>rfl
     |false=>
      cases zT A.a a4 with
      |false=>rfl
      |true=>rw[show zC A a4.c=JQ A.c (C A.a (Zi A.a a4.c).toNat).b by unfold zC;rw[hk];rfl];rfl
theorem z7(A:ZP)(E:M)(G:ZV)(V:Zu)(h:R maxLen E):EP A E G V=EN A E G V:=by simp only[EP,EN,OS A E _ _ V h]
theorem It(A:ZP)(E:ZU)(h:R maxLen E):jM A E=jH A E:=by
 refine z7 _ _ _ _ ⟨⟨Nat.le_of_ble_eq_true rfl,fun x O=>?_⟩,⟨Nat.zero_le _,fun x O=>by cases O⟩⟩;rcases List.mem_cons.1 O with rfl|O
 ·exact ZU.YU h
 ·cases O
@[local simp] theorem Nt(A:ZF)(E:Int)(h:R maxLen A):Jn A E=KO A E:=by simp only[Jn,KO];rw[It _ _ (Zh (ZE.YO (Zh (ZF.Zz h))))]
@[local simp] theorem Gj(A:XR):Sy A=X6 A:=by unfold Sy X6;cases I:(A.b.d==0)<;>cases X:(A.b.b==0)<;>simp only[bne,I,X,Bool.not_true,Bool.not_false,Bool.or_true,Bool.or_false,Bool.and_true,Bool.and_false,cond_true,cond_false]
@[local simp] theorem AD(A:ZP)(E:ZU)(h:R maxLen E):xu A E=zp A E:=by simp only[xu,zp,It A E h]
theorem Cv(A:ZP)(E:ZE)(h:R maxLen E)(l:List ByteArray)(hl:l=E.a.map (zp A)):∀n v i,yP A E n v i=J9 l ⟨#[59,32]⟩ n v i
 |0,_,_=>rfl
 |n+1,v,i=>by
  have e:l.length=E.a.length:=by rw[hl,List.length_map]
  simp only[yP,J9,Cv A E h l hl n,e];by_cases hi:i<E.a.length
  ·have hn:C l i=zp A (C E.a i):=by rw[hl];exact Ar hi
   rw[hn,AD A _ (Zh (ZE.YO h))]
  ·rw[show decide _=false by simpa using hi];rfl
@[local simp] theorem GZ(A:ZP)(E:ZE)(h:R maxLen E):jx A E=xU A E:=by have hi:=xk (fun x=>[zp A x]) (F:=fun n i l=>kS A E n l i) (fun _ _ _=>rfl) (E.a.length+1) 0 [] ab (Nat.zero_le _);rw[List.drop_zero,Us,List.nil_append]at hi;unfold jx xU;rw[Cv A E h _ rfl];simp only[hi,N7,js,List.length_map]
theorem gY(l z:List Int)(k:Nat):∀n v,W9 l k z n v=JJ l (C z k) n v
 |0,_=>rfl
 |n+1,v=>by simp only[W9,JJ,gY l z k n]
theorem n8(l:List Int)(x:Int):∀n v,l.length<n+v->v<=l.length->(∀i,i<v->C l i<x)->JJ l x n v<=l.length/\(∀i,i<JJ l x n v->C l i<x)/\(JJ l x n v<l.length->¬C l (JJ l x n v)<x)
 |0,v,h,hv,_=>Y
 |n+1,v,h,hv,J=>by
  refine Y2 (p:=fun r=>r<=l.length/\(∀i,i<r->C l i<x)/\(r<l.length->¬C l r<x)) (fun Z=>?_) (fun Z=>⟨hv,J,fun hl O=>?_⟩)
  ·simp at Z;exact n8 l x n _ Y Y (fun i hi=>by
    rcases Nat.lt_or_ge i v with I|I
    ·exact J i I
    ·rw[show i=v by omega];exact Z.2)
  ·simp at Z;grind
theorem hI{l:List Int}(hr:l.Pairwise (·<·))(x:Int):J6 l x=((decide (((JJ l x (l.length+1) 0):Int)<(l.length:Int)))&&(C l (JJ l x (l.length+1) 0)==x)):=by
 obtain⟨I,X,h3⟩:=n8 l x (l.length+1) 0 ab (Nat.zero_le _) (fun i hi=>Y);generalize JJ l x _ 0=p at I X h3⊢;rw[Bool.eq_iff_iff,F3];constructor
 ·rintro⟨i,_,hi,he⟩;have he:C l i=x:=by simpa using he
  have hp:=fun h=>by have:=X i h;omega
  have L:p<l.length:=Y;rcases Nat.lt_or_ge p i with h|h
  ·have h4:C l p<C l i:=by rw[qU L,qU hi];exact List.pairwise_iff_getElem.1 hr p i L hi h
   have:=h3 L;omega
  ·rw[show i=p by omega]at he;grind
 ·intro h;simp at h;grind
theorem ri{l:List Int}(hr:l.Pairwise (·<·))(x:Int):(yD l x).Pairwise (·<·):=by
 have hh:=hI hr x;unfold yD;obtain⟨I,X,h3⟩:=n8 l x (l.length+1) 0 ab (Nat.zero_le _) (fun i hi=>Y);generalize JJ l x _ 0=p at I X h3 hh⊢;refine Y2 (fun _=>hr) (fun Z=>?_);have ht:∀a∈l.take p,a<x:=fun a ha=>by
  obtain⟨i,hi,rfl⟩:=List.mem_iff_getElem.1 ha;rw[List.length_take]at hi;have:=X i Y
  rw[qU Y]at this;rwa[List.getElem_take]
 have hd:∀b∈l.drop p,x<b:=fun b J=>by
  obtain⟨i,hi,rfl⟩:=List.mem_iff_getElem.1 J;rw[List.length_drop]at hi;rw[List.getElem_drop];have h5:C l p≠x:=fun e=>by simp at Z;omega
  have h6:C l p<=l[p+i]:=by
   rw[qU Y];rcases Nat.eq_zero_or_pos i with rfl|h
   ·exact Int.le_refl _
   ·exact Int.le_of_lt (List.pairwise_iff_getElem.1 hr p _ Y Y Y)
  omega
 rw[List.append_assoc,List.pairwise_append];refine⟨hr.sublist (List.take_sublist _ _),List.pairwise_cons.2 ⟨hd,hr.sublist (List.drop_sublist _ _)⟩,fun a ha b J=>?_⟩;rcases List.mem_cons.1 J with rfl|J
 ·exact ht a ha
 ·exact Int.lt_trans (ht a ha) (hd b J)
theorem i3(z:List Int):∀(n:Nat)(l:List Int)(v:Nat),l.Pairwise (·<·)->z.length<n+v->v<=z.length->yv z n l v=(z.drop v).foldl yD l
 |0,l,v,hr,h,hv=>Y
 |n+1,l,v,hr,h,hv=>by
  rw[yv];by_cases ag:v<z.length
  ·rw[decide_eq_true (show _<_ by omega),Xe,List.drop_eq_getElem_cons ag,List.foldl_cons,<-qU ag];have hi:=i3 z n (yD l (C z v)) _ (ri hr _) Y ag
   rw[<-hi,hI hr];simp only[gY];show _=yv z n (bif _ then l else _) _
   cases(_&&_)with
   |true=>rfl
   |false=>simp only[XK];rw[List.take_of_length_le (l:=l.drop _) ab]
  ·rw[decide_eq_false (show ¬_<_ by omega),List.drop_eq_nil_of_le Y];rfl
theorem i1(A:ZU):∀(n:Nat)(l:List Int)(v:Nat),A.a.b.length<n+v->v<=A.a.b.length->VG A n l v=l++(A.a.b.drop v).map (·.b)
 |0,l,v,h,hv=>Y
 |n+1,l,v,h,hv=>by
  rw[VG];by_cases ag:v<A.a.b.length
  ·rw[decide_eq_true (show _<_ by omega),i1 A n _ _ Y ag,List.drop_eq_getElem_cons ag,<-qU ag,List.append_assoc];rfl
  ·rw[decide_eq_false (show ¬_<_ by omega),List.drop_eq_nil_of_le Y];simp
theorem io(A:ZU):∀(n:Nat)(l:List Int)(v:Nat),A.a.b.length<n+v->v<=A.a.b.length->qL A n l v=((A.a.b.drop v).map (·.b)).foldl yD l
 |0,l,v,h,hv=>Y
 |n+1,l,v,h,hv=>by
  rw[qL];by_cases ag:v<A.a.b.length
  ·rw[decide_eq_true (show _<_ by omega),io A n _ _ Y ag,List.drop_eq_getElem_cons ag,<-qU ag];rfl
  ·rw[decide_eq_false (show ¬_<_ by omega),List.drop_eq_nil_of_le Y];rfl
@[local simp] theorem uy(A:ZU):I7 A=z8 A:=by
 unfold I7 z8;rw[i1 A _ _ _ ab (Nat.zero_le _),io A _ _ _ ab (Nat.zero_le _)];show yv _ _ _ _=_
 rw[i3 _ _ _ _ List.Pairwise.nil ab (Nat.zero_le _)];rfl
@[local simp] theorem zaa(A:t):∀(n:Nat)(v0:ByteArray)(a:Nat),KY A n v0 a=QT A n v0 a:=by
 intro n;induction n with
 |zero=>intros;rfl
 |succ n ih=>intros;simp[KY,QT,ih,ByteArray.append_assoc]
@[local simp] theorem Hj(A:t):Tr A=Kl A:=by simp[Tr,Kl]
theorem OA(A:t):∀n v p q,qT A n v p q=JX A n v p q
 |0,_,_,_=>rfl
 |n+1,v,p,q=>by
  simp only[qT,JX,OA A n];cases C A.b v with
  |true=>rw[show(decide (((C A.f v).length:Int)>0))=(((C A.f v).length:Int)!=0)by rw[Bool.eq_iff_iff,decide_eq_true_iff,bne_iff_ne];omega];simp
  |false=>simp[Bool.or_comm,Bool.or_assoc,Bool.or_left_comm]
@[local simp] theorem Ae(A:t):Mr A=KW A:=by unfold Mr KW;simp only[OA]
theorem hG(A:Int)(E:t):∀n v,E.c.length<n+v->v<=E.c.length->(∀i,i<v->C E.c i≠A)->X7 A E n v<=E.c.length/\(∀i,i<X7 A E n v->C E.c i≠A)/\(X7 A E n v<E.c.length->C E.c (X7 A E n v)=A)
 |0,v,h,hv,_=>Y
 |n+1,v,h,hv,J=>by
  refine Y2 (p:=fun r=>r<=E.c.length/\(∀i,i<r->C E.c i≠A)/\(r<E.c.length->C E.c r=A)) (fun Z=>?_) (fun Z=>⟨hv,J,fun hl=>?_⟩)
  ·simp at Z;exact hG A E n _ Y Y (fun i hi=>by
    rcases Nat.lt_or_ge i v with I|I
    ·exact J i I
    ·rw[show i=v by omega];exact Z.2)
  ·simp at Z;grind
theorem ub(A:Int)(E:t):(X7 A E (E.c.length+1) 0=E.c.length/\Kf E.c A=-1)\/(X7 A E (E.c.length+1) 0<E.c.length/\Kf E.c A=(X7 A E (E.c.length+1) 0:Nat)):=by
 obtain⟨I,X,h3⟩:=hG A E (E.c.length+1) 0 ab (Nat.zero_le _) (fun i hi=>Y);generalize X7 A E _ 0=z at I X h3⊢;unfold Kf;rcases Wg (L:=UJ E.c A) (fun _=>rfl) (fun _ _=>rfl) (E.c.length+1) 0 ab with⟨e,p⟩|⟨i,e,p1,p2,p3,p4⟩
 ·rw[e];rcases Nat.lt_or_ge z E.c.length with h|h
  ·exact absurd (h3 h) aD
  ·exact .inl ⟨Y,rfl⟩
 ·rw[e];have hi:C E.c i=A:=by simpa using p3
  have hz:z<=i:=by
   rcases Nat.lt_or_ge i z with h|h
   ·exact absurd hi (X i h)
   ·exact h
  have a:¬z<i:=fun h=>by have:=p4 z (Nat.zero_le _) h;simp at this;grind
  grind
theorem hT(A:Int)(E:t){z:Nat}(hz:z<E.c.length)(hi:Kf E.c A=(z:Nat)):∀n l v,X9 A E z n l v= .inr (Jg A E n l v)
 |0,_,_=>rfl
 |n+1,l,v=>by simp only[X9,Jg,hT A E hz hi n,hi,Int.toNat_natCast];rw[show((z:Int)==_)=false by simp;omega];cases decide ((v:Int)<_)<;>cases C E.b v<;>rfl
theorem iy(A:Int)(E:t):∀n l v,E.b.length<n+v->v<=E.b.length->((∀i,v<=i->i<E.b.length->C E.b i=true)/\X9 A E E.c.length n l v= .inr (Jg A E n l v))\/((∃i,v<=i/\i<E.b.length/\C E.b i=false)/\X9 A E E.c.length n l v= .inl (-1))
 |0,l,v,h,hv=>Y
 |n+1,l,v,h,hv=>by
  simp only[X9,Jg];by_cases ag:v<E.b.length
  ·rw[decide_eq_true (show _<_ by omega),Xe];cases hs:C E.b v with
   |false=>exact .inr ⟨⟨v,Nat.le_refl _,ag,hs⟩,ab⟩
   |true=>
    rcases iy A E n _ _ Y ag with⟨I,X⟩|⟨⟨i,N,i2,i3⟩,X⟩
    ·refine .inl ⟨fun i h3 h4=>?_,X⟩;rcases Nat.eq_or_lt_of_le h3 with rfl|h5
     ·exact hs
     ·exact I i h5 h4
    ·exact .inr ⟨⟨i,Y,i2,i3⟩,X⟩
  ·rw[decide_eq_false (show ¬_<_ by omega),XK];grind
@[local simp] theorem HV(A:Int)(E:t):Th A E=JL A E:=by
 unfold Th JL;cases hr:KW E with
 |false=>rfl
 |true=>
  have hl:E.b.length<=6:=by unfold KW at hr;simp only[ZJ]at hr;grind
  rw[show(!true)=false from rfl,Bool.false_or];show(match X9 A E _ _ [E.e] 0 with|.inl r2=>r2|.inr f=>QS A f)=_
  obtain⟨c1,c2⟩:=F8 E (E.b.length+1) 0 0 ab (Nat.zero_le _) (Int.le_refl _) Y;have Z:xq E=JY E _ 0 0:=rfl
  rcases ub A E with⟨I,X⟩|⟨I,X⟩
  ·rw[I,X,show decide _=true from rfl,Bool.true_and];rcases iy A E (E.b.length+1) [E.e] 0 ab (Nat.zero_le _)with⟨g1,V⟩|⟨⟨i,N,i2,i3⟩,V⟩
   ·have:=c2.2 g1;rw[V,decide_eq_false (show ¬xq E<_ by omega)];simp
   ·have:¬JY E _ 0 0=0+_:=fun e=>by rw[c2.1 e i N i2]at i3;cases i3
    grind
  ·rw[hT A E I X,decide_eq_false (show ¬Kf E.c A<0 by omega),Bool.false_and];simp
theorem GW(A:ZP)(E:M)(G:t)(V:Zu)(h:R maxLen E):j6 A E G V=jr A E G V:=by simp only[j6,jr,OS A E _ _ V h]
theorem CK(A:ZP)(E:ZU)(G:t)(h:R maxLen E):ym A E G=kM A E G:=by
 refine GW _ _ _ _ ⟨⟨Nat.le_of_ble_eq_true rfl,fun x O=>?_⟩,⟨Nat.zero_le _,fun x O=>by cases O⟩⟩;rcases List.mem_cons.1 O with rfl|O
 ·exact ZU.YU h
 ·cases O
theorem LH{A:ZU}(h:A.a.b.length=0):Jm A=(Zc.mk 0 0 0 [] [],false):=by unfold Jm;rw[h];rfl
theorem Lb{A:ZU}(h:0<A.a.b.length):Jm A=(C A.a.b (A.a.b.length-1),true):=by unfold Jm;rw[show((_:Int)==0)=false by simp;intro hh;rw[hh]at h;simp at h];rfl
@[local simp] theorem z2(A:ZP)(E:Int):Wi A.c E=RX A E:=by unfold Wi RX;rw[ds]
@[local simp] theorem ZZ(A:ZP)(E:Zc):∀(n:Nat)(v0:Int)(a:Nat),Pe A E n v0 a=Pb A E n v0 a:=by
 intro n;induction n with
 |zero=>intros;rfl
 |succ n ih=>intros;simp[Pe,Pb,ih]
@[local simp] theorem S3(A:ZP)(E:Zc):vC A E=SN A E:=by simp[vC,SN]
theorem ni(A:ZP)(E:ZU):N2 A E=bif(Jm E).2 then SN A (Jm E).1 else 0:=by
 unfold N2;rcases Nat.eq_zero_or_pos E.a.b.length with h|h
 ·rw[LH h,h];simp
 ·rw[Lb h,show((_:Int)==0)=false by simp;intro hh;rw[hh]at h;simp at h];simp
@[local simp] theorem F5(A:ZP)(E:ZU)(G:Int):Pr A E G=qk A E G:=by
 unfold Pr qk;rw[ni];rcases Nat.eq_zero_or_pos E.a.b.length with h|h
 ·rw[LH h,h];simp
 ·rw[Lb h,show((_:Int)==0)=false by simp;intro hh;rw[hh]at h;simp at h];simp
@[local simp] theorem mA(A:List Z8)(E G:Int):Dz A E G=Tf A E G:=by simp[Dz,Tf]
theorem iD(A:ZP):∀n l v,zK A n l v=JO A n l v
 |0,_,_=>rfl
 |n+1,l,v=>by
  simp only[zK,JO,iD A n,z2,ds,ge_iff_le];cases decide ((v:Int)<_)with
  |false=>rfl
  |true=>cases decide (0<=Zi A.a (C A.b v).c)<;>rfl
@[local simp] theorem Im(A:ZP):Oe A=Qk A:=iD A _ _ _
theorem hz(A:M)(v:Nat):∀n l i,TB A v n l i=xv A v n i l
 |0,_,_=>rfl
 |n+1,l,i=>by simp only[TB,xv,hW,hz A v n]
theorem gW(A:M):∀n l i,Ua A n l i=xt A n i l
 |0,_,_=>rfl
 |n+1,l,i=>by simp only[Ua,xt,hz,gW A n]
theorem gD(A:M):∀n l i,Uw A n l i=jh A n i l
 |0,_,_=>rfl
 |n+1,l,i=>by simp only[Uw,jh,hW,gD A n]
@[local simp] theorem rP(A:M):Gk A=y7 A:=by simp only[Gk,y7,gW,gD]
@[local simp] theorem vN(A:ZF):C6 A=z6 A:=by show y7 _=y7 _;rw[yW,zL]
@[local simp] theorem CB(A:List YZ)(E:List ZX)(G V:ZW):O8 A E G V=KL A E G V:=by
 unfold O8 KL;cases KT A E G with
 |false=>simp
 |true=>
  cases KT A E V with
  |false=>simp
  |true=>
   cases ha:(G.a !=V.a)with
   |true=>simp
   |false=>
    rcases Int.lt_trichotomy G.c V.c with h|h|h
    ·simp[show ¬V.c<G.c by omega]
    ·simp[h]
    ·rw[show(G.c==V.c)=false by simp;omega,show(V.c==G.c)=false by simp;omega];grind
theorem iU(A:List YZ)(E:List ZX)(G:List ZW)(id i:Nat):∀n b v,i<n+v->v<=i->(Se A E G id i n b v=true↔b=true\/((C G i).a=(id:Int)/\∃k,v<=k/\k<i/\KL A E (C G i) (C G k)=true))
 |0,b,v,h,hv=>Y
 |n+1,b,v,h,hv=>by
  rw[Se];refine Y2 (p:=fun r:Bool=>r=true↔b=true\/_) (fun Z=>?_) (fun Z=>?_)
  ·simp at Z;rw[iU A E G id i n _ _ Y Y,Bool.or_eq_true];constructor
   ·rintro((I|I)|⟨I,k,X,h3,h4⟩)
    ·exact .inl I
    ·exact .inr ⟨Z.2,v,Nat.le_refl _,Z.1,I⟩
    ·exact .inr ⟨I,k,Y,h3,h4⟩
   ·rintro(I|⟨I,k,X,h3,h4⟩)
    ·exact .inl (.inl I)
    ·rcases Nat.eq_or_lt_of_le X with rfl|h5
     ·exact .inl (.inr h4)
     ·exact .inr ⟨I,k,h5,h3,h4⟩
  ·simp at Z;constructor
   ·exact .inl
   ·rintro(I|⟨I,k,X,h3,h4⟩)
    ·exact I
    ·exact absurd I (Z Y)
def gq(A:List YZ)(E:List ZX)(G:List ZW)(id i:Nat):Prop:=(C G i).a=(id:Int)/\∃k,0<=k/\k<i/\KL A E (C G i) (C G k)=true
theorem gl(A:List YZ)(E:List ZX)(G:List ZW)(id:Nat):∀n b v,G.length<n+v->v<=G.length->(UM A E G id n b v=true↔b=true\/∃i,v<=i/\i<G.length/\gq A E G id i)
 |0,b,v,h,hv=>Y
 |n+1,b,v,h,hv=>by
  rw[UM];by_cases ag:v<G.length
  ·rw[decide_eq_true (show _<_ by omega),Xe];rw[gl A E G id n _ (v+1) Y ag,iU A E G id v _ _ _ Y (Nat.zero_le _)];constructor
   ·rintro((I|I)|⟨i,I,X,h3⟩)
    ·exact .inl I
    ·exact .inr ⟨v,Nat.le_refl _,ag,I⟩
    ·exact .inr ⟨i,Y,X,h3⟩
   ·rintro(I|⟨i,I,X,h3⟩)
    ·exact .inl (.inl I)
    ·rcases Nat.eq_or_lt_of_le I with rfl|h5
     ·exact .inl (.inr h3)
     ·exact .inr ⟨i,h5,X,h3⟩
  ·rw[decide_eq_false (show ¬(v:Int)<_ by omega),XK];grind
theorem qr{α:Type}[Inhabited α]{l:List α}{x:α}(h:j<l.length):C (l.set i x) j=if i=j then x else C l j:=by
 unfold C;by_cases e:i=j
 ·subst e;simp[h]
 ·simp[e]
theorem fD(A:List YZ)(E:List ZX)(G:List ZW){i:Nat}(hi:i<G.length):∀n v c,i<n+v->v<=i->c.length=100->(WM A E G i n v c).length=100/\∀j,j<100->(C (WM A E G i n v c) j=true↔C c j=true\/((C G i).a=(j:Int)/\∃k,v<=k/\k<i/\KL A E (C G i) (C G k)=true))
 |0,v,c,h,hv,_=>Y
 |n+1,v,c,h,hv,J=>by
  rw[WM];have ht:(G.take i).length=i:=dH
  by_cases ag:v<i
  ·rw[decide_eq_true (show _<_ by omega),Xe,vo ag];refine Y2 (p:=fun r:List Bool=>r.length=100/\∀j,j<100->(C r j=true↔C c j=true\/((C G i).a=(j:Int)/\∃k,v<=k/\k<i/\KL A E _ (C G k)=true))) (fun Z=>?_) (fun Z=>?_)
   ·simp only[ZJ,Bool.and_eq_true,decide_eq_true_eq]at Z;obtain⟨I,X⟩:=fD A E G hi n _ (c.set (C G i).a.toNat true) Y ag aD;refine⟨I,fun j hj=>?_⟩;rw[X j hj,qr Y];constructor
    ·rintro(h3|⟨h3,k,h4,h5,h6⟩)
     ·by_cases e:(C G i).a.toNat=j
      ·exact .inr ⟨Y,v,Nat.le_refl _,ag,Z.2⟩
      ·rw[if_neg e]at h3;exact .inl h3
     ·exact .inr ⟨h3,k,Y,h5,h6⟩
    ·rintro(h3|_)
     ·exact .inl aD
     ·exact .inl aD
   ·obtain⟨I,X⟩:=fD A E G hi n _ c Y ag J;refine⟨I,fun j hj=>?_⟩;rw[X j hj];constructor
    ·rintro(h3|⟨h3,k,h4,h5,h6⟩)
     ·exact .inl h3
     ·exact .inr ⟨h3,k,Y,h5,h6⟩
    ·rintro(h3|⟨h3,k,h4,h5,h6⟩)
     ·exact .inl h3
     ·rcases Nat.eq_or_lt_of_le h4 with rfl|h7
      ·simp only[ZJ,h6,Bool.and_true,Bool.and_eq_false_iff,decide_eq_false_iff_not]at Z;omega
      ·exact .inr ⟨h3,k,h7,h5,h6⟩
  ·rw[decide_eq_false (show ¬_<_ by omega)];grind
theorem ii(A:List YZ)(E:List ZX)(G:List ZW):∀n v c,G.length<n+v->v<=G.length->c.length=100->(jI A E G n v c).length=100/\∀j,j<100->(C (jI A E G n v c) j=true↔C c j=true\/∃i,v<=i/\i<G.length/\gq A E G j i)
 |0,v,c,h,hv,_=>Y
 |n+1,v,c,h,hv,J=>by
  rw[jI];by_cases ag:v<G.length
  ·rw[decide_eq_true (show(v:Int)<_ by omega),Xe];have ht:(G.take v).length=v:=dH
   obtain⟨g1,V⟩:=fD A E G ag ((G.take v).length+1) 0 c Y (Nat.zero_le _) J;obtain⟨I,X⟩:=ii A E G n (v+1) _ Y ag g1;refine⟨I,fun j hj=>?_⟩;rw[X j hj,V j hj];constructor
   ·rintro((h3|h3)|⟨i,h3,h4,h5⟩)
    ·exact .inl h3
    ·exact .inr ⟨v,Nat.le_refl _,ag,h3⟩
    ·exact .inr ⟨i,Y,h4,h5⟩
   ·rintro(h3|⟨i,h3,h4,h5⟩)
    ·exact .inl (.inl h3)
    ·rcases Nat.eq_or_lt_of_le h3 with rfl|h6
     ·exact .inl (.inr h5)
     ·exact .inr ⟨i,h6,h4,h5⟩
  ·rw[decide_eq_false (show ¬(v:Int)<_ by omega),XK];grind
@[local simp] theorem tJ(A:List YZ)(E:List ZX)(G:List ZW):CW A E G=qg A E G:=by
 obtain⟨z1,t⟩:=ii A E G (G.length+1) 0 (zB 100) Y (Nat.zero_le _) aq;have hz:∀j,j<100->C (zB 100) j=false:=aq
 have ai:∀n l v,V7 A E G n l v=ko (jI A E G (G.length+1) 0 (zB 100)) n l v:=by
  intro n;induction n with
  |zero=>intros;rfl
  |succ n ih=>
   intro l v;rw[V7,ko];by_cases ag:v<100
   ·rw[decide_eq_true (show(v:Int)<=99 by omega),decide_eq_true (show(v:Int)<100 by omega),Xe,Xe];have e:UM A E G v (G.length+1) false 0=C (jI A E G (G.length+1) 0 (zB 100)) v:=by rw[Bool.eq_iff_iff,gl A E G v _ _ _ Y (Nat.zero_le _),t v ag,hz v ag]
    rw[e,ih,ih]
   ·rw[decide_eq_false (show ¬(v:Int)<=99 by omega),decide_eq_false (show ¬(v:Int)<100 by omega),XK,XK]
 unfold CW qg;exact ai _ _ _
@[local simp] theorem BH(A:ZY):MB A=Wh A:=by
 unfold MB Wh;rw[EL (F:=U9 A) (x:=fun i=>2+((C A.a i).a.length:Int)) (fun v i=>by rw[Ax];congr 1;omega) (fun _ _ _=>rfl) _ 0 0 ab ab aq,
  EL (F:=Ut A) (fun v i=>rfl) (fun _ _ _=>rfl) _ 0 0 ab ab aq]
 simp only;rw[EL (F:=Ud A) (x:=fun i=>qK (C A.b i)) (fun v i=>ab) (fun _ _ _=>rfl) _ _ 0 ab ab (fu _),
  EL (F:=UU A) (x:=fun i=>2+_) (fun v i=>by rw[rE]) (fun _ _ _=>rfl) _ _ 0 ab ab (fu _)]
 rw[Ax,Ax];congr 1;omega
@[local simp] theorem GY(A:ZF)(E:Int)(h:R maxLen A):QM A E=KS A E:=by
 have H:=sG A;have e2:=W7 A;have hn:∀i,i<(Y3 A).length->C (y4 A) i=(C (Y3 A) i).b:=fun i hi=>by rw[H5,show A.a.flatMap (fun a=>a.a.map (·.b))=(Y3 A).map (·.b)by rw[kV,List.map_flatMap]];exact Ar hi
 have hl:∀n v i,yM A E n v i=yH A E n v i:=by
  intro n;induction n with
  |zero=>intros;rfl
  |succ n ih=>
   intro v i;simp only[yM,yH,ih,H,e2];by_cases hi:i<(Y3 A).length
   ·rw[hn i hi,Nt A _ h]
   ·rw[show decide _=false by rw[<-e2];simpa using hi];rfl
 simp only[QM,KS,hl,H,e2]
theorem Mv(A:ZF)(l:List ByteArray)(hl:l=A.a.map (fun a=>Zr (a.a.length:Int)))(p:ByteArray):∀n v i,A.a.length<n+i->i<=A.a.length->xS A n (p++v) i=p++J9 l ⟨#[43]⟩ n v i
 |0,_,_,h,X=>Y
 |n+1,v,i,h,X=>by
  have e:l.length=A.a.length:=by rw[hl,List.length_map]
  simp only[xS,J9,e];by_cases hi:i<A.a.length
  ·have hn:C l i=Zr ((C A.a i).a.length:Int):=by rw[hl];exact Ar hi
   rw[show decide _=true by simpa using hi,hn];cases decide ((i:Int)>0)
   ·rw[XK,XK,ByteArray.append_assoc];exact Mv A l hl p n _ _ Y hi
   ·rw[Xe,Xe,ByteArray.append_assoc,ByteArray.append_assoc,<-ByteArray.append_assoc (a:=v)];exact Mv A l hl p n _ _ Y hi
  ·rw[show decide _=false by simpa using hi,XK,XK]
theorem mk(x y z:ByteArray):js [x,y,z] ⟨#[47]⟩=x++⟨#[47]⟩++y++⟨#[47]⟩++z:=by have e:∀x:ByteArray,(⟨#[]⟩:ByteArray)++x=x:=fun x=>ByteArray.empty_append;simp[js,J9,C,e]
@[local simp] theorem Ex(A:ZF)(h:R maxLen A):VP A=j7 A:=by
 have hi:=xk (as:=A.a) (fun x=>[Zr (x.a.length:Int)]) (F:=fun n i l=>VX A n l i) (fun _ _ _=>rfl) (A.a.length+1) 0 [] ab (Nat.zero_le _);rw[List.drop_zero,Us,List.nil_append]at hi;have h3:jn A 5 [] 1=[Zr (KS A 1),Zr (KS A 2),Zr (KS A 3)]:=by simp[jn]
 have hj:=Mv A _ rfl (Zr A.b.d++⟨#[32]⟩) (A.a.length+1) ⟨#[]⟩ 0 ab (Nat.zero_le _);have hz:∀x:ByteArray,x++(⟨#[]⟩:ByteArray)=x:=fun x=>ByteArray.append_empty;rw[hz]at hj;unfold VP j7;simp only[hi,h3,hj,GY A _ h,mk];simp only[js,List.length_map,ByteArray.append_assoc]
theorem v1{β:Type}{L:Nat->Nat->Sum Int Unit}(h0:∀v,L 0 v= .inr ())(hs:∀n v,L (n+1) v=(bif decide ((v:Int)<(ae:Int))then(bif c v then .inl (v:Int)else L n (v+1))else .inr ()))(hk:k<ae)(Z:c k=true):
  ∃i:Nat,(match L (ae+1) 0 with|.inl r=>r|.inr _=>-1)=(i:Int)/\i<=k:=by
 rcases Wg h0 hs (ae+1) 0 ab with⟨e,p⟩|⟨i,e,p1,p2,p3,p4⟩
 ·have:=p k ab hk;rw[Z]at this;cases this
 ·refine⟨i,by rw[e],?_⟩;rcases Nat.lt_or_ge k i with h|h
  ·have:=p4 k ab h;rw[Z]at this;cases this
  ·exact h
theorem Va(l:List Yv)(hk:k<l.length):∃i:Nat,Zj l (C l k).a=(i:Int)/\i<=k:=
 v1 (β:=Int) (fun _=>rfl) (fun _ _=>rfl) hk ab
@[local simp] theorem BV(A:ZF)(k:Nat):∀(n:Nat)(l:List Int)(v:Nat),TE A k n l v=jC A k n l v:=by
 intro n;induction n with
 |zero=>intros;rfl
 |succ n ih=>intros;simp only[TE,jC,ih]
@[local simp] theorem LB(A:ZF):∀(n:Nat)(l:List Int)(v:Nat),WV A n l v=kb A n l v:=by
 intro n;induction n with
 |zero=>intros;rfl
 |succ n ih=>intros;simp only[WV,kb,ih,BV]
theorem FY(A:ZF)(k:Nat):∀(n:Nat)(l:List Int)(v:Nat),jC A k n l v≠ .inl true:=by
 intro n;induction n with
 |zero=>intro l v h;cases h
 |succ n ih=>
  intro l v h;rw[jC]at h;generalize decide ((v:Int)<_)=c at h;cases c with
  |false=>cases h
  |true=>
   simp only[cond_true]at h;generalize(J6 l (C (C A.a k).a v).b||decide ((C (C A.a k).a v).b>=A.h))=c at h;cases c with
   |true=>cases h
   |false=>exact ih _ _ h
theorem OH(A:ZF):∀(n:Nat)(l:List Int)(v:Nat),kb A n l v≠ .inl true:=by
 intro n;induction n with
 |zero=>intro l v h;cases h
 |succ n ih=>
  intro l v h;rw[kb]at h;generalize decide ((v:Int)<(A.a.length:Int))=c at h;cases c with
  |false=>cases h
  |true=>
   generalize(!QC (C A.a v)||(C A.a v).b !=(v:Int))=c at h;cases c with
   |true=>cases h
   |false=>
    cases hh:jC A v _ l 0 with
    |inl r=>rw[hh]at h;simp only at h;cases h;exact FY _ _ _ _ _ hh
    |inr z=>rw[hh]at h;exact ih _ _ h
theorem pz(s:Sum Bool Unit)(ad:Bool):s≠ .inl true->((match s with|.inl r=>r|.inr _=>ad)=true↔s= .inr ()/\ad=true):=by
 intro h;cases s with
 |inl r=>cases r with
  |true=>exact absurd rfl h
  |false=>simp
 |inr u=>simp
@[local simp] theorem nS(A:ZF):DV A=Tg A:=by
 rw[Bool.eq_iff_iff];have hs:DV A=true↔_:=(Qj (L:=Oh A) (fun _=>rfl) (fun _ _=>rfl) (A.e.length+1) 0 Y _).trans (and_congr_right fun _=>(Qj (L:=OG A) (fun _=>rfl) (fun _ _=>rfl) (A.f.length+1) 0 Y _).trans (and_congr_right fun _=>Qj (L:=Od A) (fun _=>rfl) (fun _ _=>rfl) (A.g.length+1) 1 Y _))
 have Z:MO A=true↔_:=(Qj (fun _=>rfl) (fun _ _=>rfl) (A.c.length+1) 0 Y _).trans (and_congr_right fun _=>Qj (L:=RQ A) (fun _=>rfl) (fun _ _=>rfl) (A.d.length+1) 0 Y _);have c:MK A=true↔_:=pz (WV A (A.a.length+1) [] 0) _ (by rw[LB];exact OH _ _ _ _);rw[LB]at c;have hl:yn A.f=true↔_:=Qj (fun _=>rfl) (fun _ _=>rfl) (A.f.length+1) 1 Y true;have hg:yn A.g=true↔_:=Qj (fun _=>rfl) (fun _ _=>rfl) (A.g.length+1) 1 Y true;unfold Tg;have hi:∀b:Bool,(bif b then false else _)=true↔b=false/\_:=fun b=>by
  cases b
  ·exact((Qj (L:=P8 A) (fun _=>rfl) (fun _ _=>rfl) (A.c.length+1) 0 Y _).trans (and_congr_right fun _=>(pz _ _ (OH A (A.a.length+1) [] 0)).trans (and_congr_right fun _=>(Qj (L:=Pz A) (fun _=>rfl) (fun _ _=>rfl) (A.e.length+1) 0 Y _).trans (and_congr_right fun _=>Qj (L:=OX A) (fun _=>rfl) (fun _ _=>rfl) (A.f.length+1) 0 Y true)))).trans eY
  ·simp
 refine hs.trans (Iff.trans ?_ (hi _).symm);simp only[Bool.or_eq_false_iff,Bool.not_eq_false',Bool.and_eq_true,beq_iff_eq,bne_eq_false_iff_eq,decide_eq_true_eq,decide_eq_false_iff_not,Z,c,hl,hg];constructor
 ·rintro⟨I,X,h3,⟨⟨⟨h4,h5,h6,h7⟩,h8,h9,ak⟩,am⟩,az⟩;refine⟨⟨⟨⟨⟨⟨⟨⟨h4,h7⟩,h9⟩,am⟩,Y⟩,Y⟩,fun i k1 k2=>?_,trivial⟩,h3,trivial⟩,fun i k1 k2=>⟨⟨(h5 i k1 k2).1,?_⟩,h6 i k1 Y⟩,h8,I,fun i k1 k2=>(X i k1 k2).1⟩
  ·have:=(X i (Nat.zero_le _) k2).2;simp only[show decide ((i:Int)>0)=true by simp;omega,Bool.true_and,decide_eq_false_iff_not]at this;exact this
  ·obtain⟨m,e,hm⟩:=Va A.c k2;have:=(h5 i k1 k2).2
   rw[e]at this⊢;omega
 ·rintro⟨⟨⟨⟨⟨⟨⟨⟨h4,h7⟩,h9⟩,am⟩,az⟩,ak⟩,X,_⟩,h3,_⟩,h5,h8,I,h6⟩;refine⟨I,fun i k1 k2=>⟨h6 i k1 k2,?_⟩,h3,⟨⟨⟨h4,fun i k1 k2=>⟨(h5 i k1 k2).1.1,?_⟩,fun i k1 k2=>(h5 i k1 Y).2,h7⟩,h8,h9,Y⟩,am⟩,Y⟩
  ·by_cases h0:0<i
   ·rw[show decide (C A.f (i-1)>=C A.f i)=false by simpa using X i h0 k2];simp
   ·simp[h0]
  ·rw[(h5 i k1 k2).1.2];omega
@[local simp] theorem Lg(A:ZF)(h:R maxLen A):Qb A=QR A:=by rw[P6,P4,kV,List.flatMap_assoc];simp_all
@[local simp] theorem DC(A:ZF)(h:R maxLen A):VE A=VB A:=by
 have hl:∀n v i,xV A n v i=xX A n v i:=by
  intro n;induction n with
  |zero=>intros;rfl
  |succ n ih=>intro v i;simp[xV,xX,ih,Lg A h]
 simp only[VE,VB,hl,Lg A h]
@[local simp] theorem oR(A:ZF)(h:R maxLen A):Rs A=y1 A:=by simp[Rs,y1,DC A h]
theorem lX(I:i<=j)(X:j<=k):a.extract i j++a.extract j k=a.extract i k:=by apply ByteArray.ext;simp;grind
theorem CR(a:ByteArray):∀n acc v,(QJ a 32).length<n+v->v<=(QJ a 32).length->yy a n acc v=acc++((QJ a 32).drop v).filter (fun x=>!decide (x=(⟨#[]⟩:ByteArray)))
 |0,acc,v,h,hv=>Y
 |n+1,acc,v,h,hv=>by
  rw[yy];by_cases ag:v<(QJ a 32).length
  ·rw[decide_eq_true (show(v:Int)<_ by omega),Xe,CR a n _ _ Y ag,CR a n _ _ Y ag,List.drop_eq_getElem_cons ag,List.filter_cons,<-qU ag];cases !decide (C (QJ a 32) v=(⟨#[]⟩:ByteArray))<;>simp
  ·rw[decide_eq_false (show ¬(v:Int)<_ by omega),XK,List.drop_eq_nil_of_le Y];simp
theorem vu{a:ByteArray}(hs:a.size<4611686018427387904):∀n acc b f v,a.size+1<n+v->v<=a.size+1->f<=v->acc=b.filter (fun x=>!decide (x=(⟨#[]⟩:ByteArray)))->Kz a n acc (a.extract f v) v=(jA a 32 n b (f:Int) v).filter (fun x=>!decide (x=(⟨#[]⟩:ByteArray)))
 |0,acc,b,f,v,h,hv,hf,ha=>Y
 |n+1,acc,b,f,v,h,hv,hf,ha=>by
  rw[Kz,jA];by_cases aF:v<=a.size
  ·rw[decide_eq_true (show(v:Int)<=_ by omega),Xe,Xe];have hw:W ((v:Int)+1)=((v+1:Nat):Int):=by rw[X8];omega
   have he:(⟨#[]⟩:ByteArray)=a.extract (v+1) (v+1):=by apply ByteArray.ext;simp
   by_cases Z:v<a.size/\¬bk a v=32
   ·rw[decide_eq_true (show(v:Int)<_ by omega),Bool.true_and,show(((bk a v):Int)!=32)=true by simp;omega,Xe,show((v:Int)==_)=false by simp;omega,show(((bk a v):Int)==32)=false by simp;omega,Bool.or_false,XK,hw,Int.toNat_natCast,lX hf (Nat.le_succ v)];exact vu hs n acc b f (v+1) Y Y Y ha
   ·rw[show(_&&_)=false by simp;omega,XK,show(_||_)=true by simp;omega,Xe,hw];have hi:=fun c X=>vu hs n c (b++[a.extract f v]) (v+1) (v+1) Y Y (Nat.le_refl _) X
    rw[<-he]at hi;cases O:!decide (a.extract f v=_)with
    |true=>exact hi _ aD
    |false=>exact hi _ aD
  ·rw[decide_eq_false (show ¬(v:Int)<=_ by omega),XK,XK];exact ha
theorem nH(hs:a.size<4611686018427387904):Xs a=Z0 a:=by have h:=vu hs (a.size+2) [] [] 0 0 ab (Nat.zero_le _) (Nat.le_refl _) rfl;rw[show a.extract 0 0=(⟨#[]⟩:ByteArray)by apply ByteArray.ext;simp]at h;have X:=CR a ((QJ a 32).length+1) [] 0 ab (Nat.zero_le _);exact h.trans X.symm
theorem iQ(l:List ByteArray):∀n acc v,(∃x,Ja l n acc v= .inl (x,false)/\JV l n acc v= .inl ([],false))\/(∃x,Ja l n acc v= .inr x/\JV l n acc v= .inr x)
 |0,acc,v=>.inr ⟨_,rfl,rfl⟩
 |n+1,acc,v=>by
  rw[Ja,JV];cases decide ((v:Int)<_)with
  |false=>exact .inr ⟨_,rfl,rfl⟩
  |true=>
   cases(YY (C l v)).2 with
   |false=>exact .inl ⟨_,rfl,rfl⟩
   |true=>exact iQ l n _ _
theorem Au(l:List ByteArray):(Z5 l).2=(Zl l).2/\((Zl l).2=true->Z5 l=Zl l):=by
 unfold Z5 Zl;rcases iQ l _ [] 0 with⟨x,H,e2⟩|⟨x,H,e2⟩
 ·rw[H,e2];exact⟨rfl,fun h=>by cases h⟩
 ·rw[H,e2];exact⟨rfl,fun _=>rfl⟩
theorem fp(l:List Int):∀n v i,l.length<n+i->UB l n v i=J9 (l.map Zr) ⟨#[32]⟩ n v i
 |0,v,i,h=>rfl
 |n+1,v,i,h=>by
  rw[UB,J9,List.length_map];by_cases hi:i<l.length
  ·rw[decide_eq_true (show _<_ by omega),Xe,Xe,Ar hi,fp l n _ _ Y,fp l n _ _ Y]
  ·rw[decide_eq_false (show ¬_<_ by omega),XK,XK]
@[local simp] theorem nR(l:List Int):CJ l=zG l:=by
 have hd:=xk (as:=l) (fun x=>[Zr x]) (F:=fun n i acc=>Uo l n acc i) (fun _ _ _=>rfl) (l.length+1) 0 [] Y (Nat.zero_le _);rw[List.drop_zero,Us,List.nil_append]at hd;have hd:Uo l (l.length+1) [] 0=l.map Zr:=hd;unfold CJ zG;rw[hd,fp l _ _ _ Y];unfold N7 js;dsimp only;rw[List.length_map];cases l with
 |nil=>rfl
 |cons x l=>
  have hp:=Ie (l:=(x::l).map Zr) (b:=⟨#[32]⟩) (fun y hy=>by obtain⟨z,_,rfl⟩:=List.mem_map.1 hy;exact Bc z) ((x::l).length+1) ⟨#[]⟩ 0 (by rw[List.length_map];omega) (Nat.zero_le _) (.inl ab);generalize J9 ((x::l).map Zr) ⟨#[32]⟩ ((x::l).length+1) ⟨#[]⟩ 0=r at hp⊢;show(bif decide (r=⟨#[]⟩)then _ else r)=r
  rw[decide_eq_false (fun e=>by rw[e]at hp;exact absurd hp aq),XK]
theorem h5(w:ZF)(e:YT)(h:R maxLen w):TC w e=YV w e:=by unfold TC YV;simp_all
theorem rc(hn:n<4611686018427387904)(h:(Zr (n:Int)).size=1):n<10:=by
 refine Nat.lt_of_not_le fun Z=>?_;unfold Zr at h;rw[decide_eq_false (show ¬(n:Int)<0 by omega)]at h;have h:(JE 21 (n:Int) []).length=1:=h
 rw[JE,decide_eq_false (show ¬Int.tmod (n:Int) 10<0 by have:=Int.tmod_nonneg (a:=(n:Int)) 10 Y;omega),XK]at h;have hd:W (Int.tdiv (n:Int) 10)≠0:=by rw[Int.tdiv_eq_ediv_of_nonneg Y,X8];omega
 rw[show(W (Int.tdiv (n:Int) 10)==0)=false by simpa using hd,XK]at h;obtain⟨d,t,e⟩:=UR 20 (W (Int.tdiv (n:Int) 10)) ([UInt8.ofInt (W (48+Int.tmod (n:Int) 10))]++[]) (.inr (by
  rw[Int.tdiv_eq_ediv_of_nonneg Y,X8];omega)) aq
 rw[e]at h;simp at h
theorem o5{p:ByteArray}{l:List Int}(hk:k<10)(hl:l.length<4611686018427387904):(decide (((w++(⟨#[32]⟩:ByteArray))++Zr (l.length:Int))=p++⟨#[32]⟩++Zr (k:Int)))=(decide (w=p)&&decide (l.length=k)):=by
 rw[Bool.eq_iff_iff,Bool.and_eq_true,decide_eq_true_iff,decide_eq_true_iff,decide_eq_true_iff];constructor
 ·intro h;have X:=congrArg (fun b:ByteArray=>b.data.toList.reverse) h
  simp only[ByteArray.data_append,Array.toList_append,List.reverse_append]at X;have ht:∀(x:Int)(r:List UInt8),((Zr x).data.toList.reverse++((#[32]:Array UInt8).toList.reverse++r)).takeWhile (·!=32)=(Zr x).data.toList.reverse:=fun x r=>by
   rw[List.takeWhile_append_of_pos (fun d hh=>by
    have:=LN x d (List.mem_reverse.1 hh);simp;rintro rfl;exact absurd this.1 aq)]
   simp
  have h3:=congrArg (List.takeWhile (·!=32)) X;rw[ht,ht]at h3;have hf:Zr (l.length:Int)=Zr (k:Int):=by apply ByteArray.ext;exact Array.toList_inj.1 (List.reverse_inj.1 h3)
  have hz:∀j:Nat,j<10->(Zr (j:Int)).size=1:=a8;have hi:∀i j:Nat,i<10->j<10->Zr (i:Int)=Zr (j:Int)->i=j:=by have:∀i:Nat,i<10->∀j:Nat,j<10->Zr (i:Int)=Zr (j:Int)->i=j:=a8;grind
  refine⟨?_,hi _ _ (rc hl aD) hk hf⟩;rw[hf]at X;have h4:=List.append_cancel_left (List.append_cancel_left X)
  apply ByteArray.ext;exact Array.toList_inj.1 (List.reverse_inj.1 h4)
 ·rintro⟨rfl,rfl⟩;rfl
theorem l5(w:ZF)(a b c d:Int)(h:Xm x=false):Xc w a b x c d=(w,false):=by
 have hd:∀m,Yh m x=-1:=fun m=>by unfold Yh;rw[h];rfl
 have hs:∀k s m,(XJ w.b.a (Zu.mk k s m (-1) 1 c 0 0 0)).2=false:=fun k s m=>by unfold XJ Jp;simp[ZJ]
 have ai:∀n v,J5 w a b x c d n v= .inr ()\/J5 w a b x c d n v= .inl (w,false):=by
  intro n;induction n with
  |zero=>intro v;exact .inl rfl
  |succ n ih=>intro v;rw[J5];simp only[hd];rw[hs];grind
 refine g (p:=fun r:ZF×Bool=>r=_) rfl ?_;rcases ai _ 0 with e|e<;>rw[e]
theorem ld(w:ZF)(a b c d:Int)(l:List Int)(h:Xm x=false):(Qw w (YT.mk 2 a b c d x l)).2=false/\(Qw w (YT.mk 8 a b c d x l)).2=false:=by
 constructor
 ·show(Kc w a b x c d).2=false;unfold Kc;rw[l5 w a b c d h];simp
 ·show(JU w a b x).2=false;unfold JU;rw[l5 w a b 0 10000 h];simp
theorem i0(w:ZF)(b:List ByteArray){k:Int}(hk:k=3\/k=4)(h:R maxLen w):WT w b k=zb w b k:=by
 have K:W (k+1)=k+1:=by rw[X8];omega
 have w2:W (k-1)=k-1:=by rw[X8];omega
 unfold WT zb;rw[K,w2,show(decide ((b.length:Int)<=k))=decide ((b.length:Int)<k+1)by rw[decide_eq_decide];omega];cases hl:decide ((b.length:Int)<k+1)with
 |true=>rfl
 |false=>
  have hl:=of_decide_eq_false hl;obtain⟨D,n2⟩:=Au _;rw[XK,XK,D];cases hn:(Zl _).2 with
  |false=>rfl
  |true=>
   rw[n2 hn];have aC:=qI _ hn
   rw[show(k-1).toNat=(Zl _).1.length-1 by rw[aC,List.length_take,List.length_tail];omega];simp only[BJ w _ h];generalize Zl (b.tail.take ((k+1).toNat-1))=N;cases hm:(Y0 (C N.1 (N.1.length-1)) (b.drop (k+1).toNat) 11).2 with
   |true=>rfl
   |false=>
    have hz:(Y0 (C N.1 (N.1.length-1)) (b.drop (k+1).toNat) 11).1=ZV.mk 0 [] []:=by
     revert hm;unfold Y0;let p:=fun r:ZV×Bool=>r.2=false->r.1=ZV.mk 0 [] []
     grind
    have J:Xm (ZV.mk 0 [] [])=false:=a8;rw[hz,(ld w _ _ 0 _ [] J).1,(ld w _ _ 0 0 [] J).2];cases decide (C b 0=_)<;>rfl
theorem m1(w:ZF)(b:List ByteArray)(h:R maxLen w):Vp w b=z9 w b:=by
 obtain⟨D,n2⟩:=Au (b.drop 3);unfold Vp z9;simp only[h5 w _ h,D];cases decide ((b.length:Int)<4)with
 |true=>rw[Xe,Xe]
 |false=>
  rw[XK,XK];cases hn:(Zl (b.drop 3)).2 with
  |false=>simp only[Bool.not_false,Bool.or_true,Xe];cases(_&&(((bk (C b 2) 0):Int)==45))<;>cases(((bk (C b 2) 0):Int)==45)<;>simp only[Xe,XK]
  |true=>
   rw[n2 hn];rw[Bool.or_comm (!(YY (C b 1)).2),Bool.or_comm (!(YY (C b 1)).2)];cases J:(((bk (C b 2) 0):Int)==45)with
   |false=>rw[Bool.and_false]
   |true=>
    by_cases hs:(C b 2).size>1
    ·rw[decide_eq_true (show((C b 2).size:Int)>1 by omega),Bool.true_and]
    ·have he:C b 2=⟨#[45]⟩:=by
      have I:(C b 2).data.toList.length<=1:=by show(C b 2).size<=1;omega
      have X:(C b 2).data.toList.getD 0 0=45:=by
       have:bk (C b 2) 0=45:=by simp at J;omega
       exact UInt8.toNat_inj.1 this
      apply ByteArray.ext;apply Array.toList_inj.1;match e:(C b 2).data.toList,I,X with
      |[],_,X=>exact absurd X aq
      |[x],_,X=>have X:x=45:=X;rw[X]
      |x::y::l,I,_=>exact absurd I ab
     rw[decide_eq_false (show ¬((C b 2).size:Int)>1 by omega),Bool.false_and,XK,Xe,he];have p1:(YY ⟨#[45]⟩).2=false:=a8
     have p2:(YY ((⟨#[45]⟩:ByteArray).extract 1 (⟨#[45]⟩:ByteArray).size)).2=false:=a8;grind
theorem Hk{lit:ByteArray}{l:List Int}(p:ByteArray)(k:Nat)(hl:l.length<4611686018427387904)(h:lit=p++⟨#[32]⟩++Zr (k:Int))(hk:k<10):(decide (((w++(⟨#[32]⟩:ByteArray))++Zr (l.length:Int))=lit))=(decide (w=p)&&decide (l.length=k)):=by rw[h];exact o5 hk hl
theorem h2(w:ZF)(s:ByteArray)(l:List Int)(hl:l.length<4611686018427387904):qt w s l=(bif decide (s=⟨#[115,104,111,119]⟩)&&decide (l.length=1)then(bif !Zw w (C l 0)then⟨#[110,111]⟩else xU w.b (C w.a (C l 0).toNat))else bif decide (s=⟨#[100,117,101]⟩)&&decide (l.length=2)then(bif !Zw w (C l 0)then⟨#[110,111]⟩else zG (qC w.b (C w.a (C l 0).toNat) (C l 1)))else bif decide (s=⟨#[115,105,122,101]⟩)&&decide (l.length=1)then(bif !Zw w (C l 0)then⟨#[110,111]⟩else Zr (zz (C w.a (C l 0).toNat)))else bif decide (s=⟨#[106,117,100,103,101]⟩)&&decide (l.length=1)then(bif decide ((u w (C l 0)).1<0)then⟨#[110,111]⟩else X6 (KO w (C l 0)))else bif decide (s=⟨#[104,105,100,101]⟩)&&decide (l.length=2)then MH w (C l 0) (C l 1)else bif decide (s=⟨#[112,108,97,110]⟩)&&decide (l.length=0)then zG (Qk w.b)else bif decide (s=⟨#[108,105,97,114,115]⟩)&&decide (l.length=0)then zG (qg w.b.a w.b.b (z6 w))else bif decide (s=⟨#[119,111,114,108,100]⟩)&&decide (l.length=0)then j7 w else bif decide (s=⟨#[97,117,100,105,116]⟩)&&decide (l.length=0)then(bif !decide (y1 w=⟨#[]⟩)then y1 w else⟨#[111,107]⟩)else⟨#[119,104,97,116]⟩):=by unfold qt;rw[Hk ⟨#[115,104,111,119]⟩ 1 hl a8 aq,Hk ⟨#[100,117,101]⟩ 2 hl a8 aq,Hk ⟨#[115,105,122,101]⟩ 1 hl a8 aq,Hk ⟨#[106,117,100,103,101]⟩ 1 hl a8 aq,Hk ⟨#[104,105,100,101]⟩ 2 hl a8 aq,Hk ⟨#[112,108,97,110]⟩ 0 hl a8 aq,Hk ⟨#[108,105,97,114,115]⟩ 0 hl a8 aq,Hk ⟨#[119,111,114,108,100]⟩ 0 hl a8 aq,Hk ⟨#[97,117,100,105,116]⟩ 0 hl a8 aq]
theorem dn(w:ZF)(b:List ByteArray)(h:R maxLen w)(hl:(Zl b.tail).1.length<4611686018427387904):Rr w b=bif !(Zl b.tail).2 then⟨#[119,104,97,116]⟩else qt w (C b 0) (Zl b.tail).1:=by
 obtain⟨D,n2⟩:=Au b.tail;unfold Rr;rw[D];cases hn:(Zl b.tail).2 with
 |false=>rfl
 |true=>
  rw[n2 hn,show(!true)=false from rfl,h2 _ _ _ hl];have hp:=Dl b.tail
  generalize(Zl b.tail).1=l at hp⊢;have hw:=Z7 (ZF.Zz h)
  have ay:0<l.length->(!Zw w (C l 0))=decide (C l 0>=(w.a.length:Int)):=fun h0=>by have I:=hp (C l 0) (by rw[qU h0];exact List.getElem_mem h0);have hm:w.a.length<=9223372036854775807:=Nat.le_trans hw aq;unfold Zw ZJ;rw[show W _=(w.a.length:Int)-1 by rw[X8];omega,Bool.eq_iff_iff];simp;omega
  have hf:(bif decide (y1 w=⟨#[]⟩)then(⟨#[111,107]⟩:ByteArray)else y1 w)=bif !decide (y1 w=⟨#[]⟩)then y1 w else⟨#[111,107]⟩:=by cases decide (y1 w=⟨#[]⟩)<;>rfl
  simp only[Ex w h,oR w h];rcases(show l.length=0\/l.length=1\/l.length=2\/2<l.length by omega)with h0|h0|h0|h0
  ·simp[h0]
  ·rw[h0];simp only[Rx,ji,Nt w _ h,GZ _ _ (Zh (ZF.Zz h)),ay Y];by_cases g1:C b 0=⟨#[106,117,100,103,101]⟩
   ·rw[g1];rfl
   ·by_cases V:C b 0=⟨#[115,104,111,119]⟩
    ·rw[V];rfl
    ·by_cases p:C b 0=⟨#[115,105,122,101]⟩
     ·rw[p];rfl
     ·simp[V,p]
  ·rw[h0];simp only[Rx,ji,ay Y];by_cases g1:C b 0=⟨#[104,105,100,101]⟩
   ·rw[g1];have hj:ym w.b=ym w.b:=rfl
    simp only[CK _ _ _ (Zh (ZE.YO (Zh (ZF.Zz h))))];rfl
   ·by_cases V:C b 0=⟨#[100,117,101]⟩
    ·rw[V];rfl
    ·simp[g1,V]
  ·rw[decide_eq_false (show ¬l.length=0 by omega),decide_eq_false (show ¬l.length=1 by omega),decide_eq_false (show ¬l.length=2 by omega),show((l.length:Int)==0)=false by rw[beq_eq_false_iff_ne];omega,show((l.length:Int)==1)=false by rw[beq_eq_false_iff_ne];omega,show((l.length:Int)==2)=false by rw[beq_eq_false_iff_ne];omega];simp
/-- what a line of an event does -/
def a9(w:ZF)(N:List Int×Bool)(k:Int)(c:Nat):ZF×ByteArray×Bool:=bif(!N.2)||!decide (N.1.length=c)then(w,⟨#[119,104,97,116]⟩,true)else((YV w (YT.mk k (C (N.1++[0,0]) 0) (C (N.1++[0,0]) 1) (C (N.1++[0,0]) 2) 0 (ZV.mk 0 [] []) [])).1,(YV w (YT.mk k (C (N.1++[0,0]) 0) (C (N.1++[0,0]) 1) (C (N.1++[0,0]) 2) 0 (ZV.mk 0 [] []) [])).2,true)
theorem Vn(w:ZF)(b:List ByteArray)(h:R maxLen w)(n v:Nat)(p:ByteArray)(k:Int)(c:Nat)(hv:v<7)(I:C ([1,3,4,7,6,9,10]:List Int) v=k)(X:C ([1,1,1,1,3,2,2]:List Int) v=c)(h3:z3 k=p):jP w b (n+1) v=bif decide (C b 0=p)then .inl (a9 w (Zl b.tail) k c)else jP w b n (v+1):=by
 obtain⟨D,n2⟩:=Au b.tail;rw[jP,decide_eq_true (show(v:Int)<7 by omega),Xe,I,X,h3,D,show decide (p=C b 0)=decide (C b 0=p)by rw[decide_eq_decide];exact eq_comm];cases decide (C b 0=p)with
 |false=>rfl
 |true=>
  rw[show(!true)=false from rfl,XK,Xe];unfold a9;cases hn:(Zl b.tail).2 with
  |false=>rfl
  |true=>
   rw[n2 hn,show(((Zl b.tail).1.length:Int)!=(c:Int))=!decide ((Zl b.tail).1.length=c)by rw[Bool.eq_iff_iff];simp;omega];cases decide ((Zl b.tail).1.length=c)with
   |false=>rfl
   |true=>rw[h5 w _ h];rfl
theorem ul(w:ZF)(b:List ByteArray)(h:R maxLen w):yV w b=(bif decide (C b 0=⟨#[116,105,99,107]⟩)then a9 w (Zl b.tail) 1 1 else bif decide (C b 0=⟨#[97,110,115,119,101,114]⟩)then a9 w (Zl b.tail) 3 1 else bif decide (C b 0=⟨#[114,101,118,111,107,101]⟩)then a9 w (Zl b.tail) 4 1 else bif decide (C b 0=⟨#[102,111,114,103,101,116]⟩)then a9 w (Zl b.tail) 7 1 else bif decide (C b 0=⟨#[109,111,118,101]⟩)then a9 w (Zl b.tail) 6 3 else bif decide (C b 0=⟨#[98,97,99,107,100,97,116,101]⟩)then a9 w (Zl b.tail) 9 2 else bif decide (C b 0=⟨#[102,97,107,101]⟩)then a9 w (Zl b.tail) 10 2 else(w,⟨#[]⟩,false)):=by
 unfold yV;have f:jP w b 1 7= .inr ():=rfl
 rw[Vn w b h 7 0 _ 1 1 aq rfl rfl (by decide+kernel:z3 1=⟨#[116,105,99,107]⟩),
  Vn w b h 6 1 _ 3 1 aq rfl rfl (by decide+kernel:z3 3=⟨#[97,110,115,119,101,114]⟩),
  Vn w b h 5 2 _ 4 1 aq rfl rfl (by decide+kernel:z3 4=⟨#[114,101,118,111,107,101]⟩),
  Vn w b h 4 3 _ 7 1 aq rfl rfl (by decide+kernel:z3 7=⟨#[102,111,114,103,101,116]⟩),
  Vn w b h 3 4 _ 6 3 aq rfl rfl (by decide+kernel:z3 6=⟨#[109,111,118,101]⟩),
  Vn w b h 2 5 _ 9 2 aq rfl rfl (by decide+kernel:z3 9=⟨#[98,97,99,107,100,97,116,101]⟩),
  Vn w b h 1 6 _ 10 2 aq rfl rfl (by decide+kernel:z3 10=⟨#[102,97,107,101]⟩)]
 cases decide (C b 0=_)with
 |true=>rfl
 |false=>
 cases decide (C b 0=_)with
 |true=>rfl
 |false=>
 cases decide (C b 0=_)with
 |true=>rfl
 |false=>
 cases decide (C b 0=_)with
 |true=>rfl
 |false=>
 cases decide (C b 0=_)with
 |true=>rfl
 |false=>
 cases decide (C b 0=_)with
 |true=>rfl
 |false=>cases decide (C b 0=_)<;>rfl
/-- the same line, as the program has it -/
def e7(w:ZF)(N:List Int×Bool)(s:ByteArray):ZF×ByteArray:=bif !N.2 then(w,⟨#[119,104,97,116]⟩)else(bif decide (s=⟨#[116,105,99,107]⟩)&&decide (N.1.length=1)then((YV w (YT.mk 1 (C N.1 0) 0 0 0 (ZV.mk 0 [] []) [])).1,(YV w (YT.mk 1 (C N.1 0) 0 0 0 (ZV.mk 0 [] []) [])).2)else bif decide (s=⟨#[97,110,115,119,101,114]⟩)&&decide (N.1.length=1)then((YV w (YT.mk 3 (C N.1 0) 0 0 0 (ZV.mk 0 [] []) [])).1,(YV w (YT.mk 3 (C N.1 0) 0 0 0 (ZV.mk 0 [] []) [])).2)else bif decide (s=⟨#[114,101,118,111,107,101]⟩)&&decide (N.1.length=1)then((YV w (YT.mk 4 (C N.1 0) 0 0 0 (ZV.mk 0 [] []) [])).1,(YV w (YT.mk 4 (C N.1 0) 0 0 0 (ZV.mk 0 [] []) [])).2)else bif decide (s=⟨#[102,111,114,103,101,116]⟩)&&decide (N.1.length=1)then((YV w (YT.mk 7 (C N.1 0) 0 0 0 (ZV.mk 0 [] []) [])).1,(YV w (YT.mk 7 (C N.1 0) 0 0 0 (ZV.mk 0 [] []) [])).2)else bif decide (s=⟨#[109,111,118,101]⟩)&&decide (N.1.length=3)then((YV w (YT.mk 6 (C N.1 0) (C N.1 1) (C N.1 2) 0 (ZV.mk 0 [] []) [])).1,(YV w (YT.mk 6 (C N.1 0) (C N.1 1) (C N.1 2) 0 (ZV.mk 0 [] []) [])).2)else bif decide (s=⟨#[98,97,99,107,100,97,116,101]⟩)&&decide (N.1.length=2)then((YV w (YT.mk 9 (C N.1 0) (C N.1 1) 0 0 (ZV.mk 0 [] []) [])).1,(YV w (YT.mk 9 (C N.1 0) (C N.1 1) 0 0 (ZV.mk 0 [] []) [])).2)else bif decide (s=⟨#[102,97,107,101]⟩)&&decide (N.1.length=2)then((YV w (YT.mk 10 (C N.1 0) (C N.1 1) 0 0 (ZV.mk 0 [] []) [])).1,(YV w (YT.mk 10 (C N.1 0) (C N.1 1) 0 0 (ZV.mk 0 [] []) [])).2)else(w,qt w s N.1))
theorem HL{l:List Int}(h:i<l.length):C (l++r) i=C l i:=by rw[qU h,qU aD,List.getElem_append_left h]
theorem oO{l:List Int}(h:l.length<=i):C (l++r) i=C r (i-l.length):=by simp[C,List.getElem?_append_right h]
theorem R0(w:ZF)(s:ByteArray)(l:List Int)(hl:l.length<4611686018427387904)(h:[⟨#[115,104,111,119]⟩,⟨#[100,117,101]⟩,⟨#[115,105,122,101]⟩,⟨#[106,117,100,103,101]⟩,⟨#[104,105,100,101]⟩,⟨#[112,108,97,110]⟩,⟨#[108,105,97,114,115]⟩,⟨#[119,111,114,108,100]⟩,⟨#[97,117,100,105,116]⟩].all (fun x=>!decide (s=x))=true):qt w s l=⟨#[119,104,97,116]⟩:=by simp only[List.all_cons,List.all_nil,Bool.and_true,Bool.and_eq_true,Bool.not_eq_true']at h;obtain⟨I,X,h3,h4,h5,h6,h7,h8,h9⟩:=h;rw[h2 w s l hl,I,X,h3,h4,h5,h6,h7,h8,h9];simp
theorem mK(w:ZF)(N:List Int×Bool)(k:Int)(h:N.1.length=1)(hn:N.2=true):((a9 w N k 1).1,(a9 w N k 1).2.1)=((YV w (YT.mk k (C N.1 0) 0 0 0 (ZV.mk 0 [] []) [])).1,(YV w (YT.mk k (C N.1 0) 0 0 0 (ZV.mk 0 [] []) [])).2):=by unfold a9;rw[hn,decide_eq_true h,show((!true)||!true)=false from rfl,XK,HL Y,oO Y,oO Y,h];rfl
theorem iX(w:ZF)(N:List Int×Bool)(k:Int)(h:N.1.length=2)(hn:N.2=true):((a9 w N k 2).1,(a9 w N k 2).2.1)=((YV w (YT.mk k (C N.1 0) (C N.1 1) 0 0 (ZV.mk 0 [] []) [])).1,(YV w (YT.mk k (C N.1 0) (C N.1 1) 0 0 (ZV.mk 0 [] []) [])).2):=by unfold a9;rw[hn,decide_eq_true h,show((!true)||!true)=false from rfl,XK,HL Y,HL Y,oO Y,h];rfl
theorem k2(w:ZF)(N:List Int×Bool)(k:Int)(h:N.1.length=3)(hn:N.2=true):((a9 w N k 3).1,(a9 w N k 3).2.1)=((YV w (YT.mk k (C N.1 0) (C N.1 1) (C N.1 2) 0 (ZV.mk 0 [] []) [])).1,(YV w (YT.mk k (C N.1 0) (C N.1 1) (C N.1 2) 0 (ZV.mk 0 [] []) [])).2):=by unfold a9;rw[hn,decide_eq_true h,show((!true)||!true)=false from rfl,XK,HL Y,HL Y,HL Y]
theorem ia{w:ZF}{k:Int}{c:Nat}(h:N.2=false\/¬N.1.length=c):((a9 w N k c).1,(a9 w N k c).2.1)=(w,⟨#[119,104,97,116]⟩):=by unfold a9;rw[show((!N.2)||!decide (N.1.length=c))=true by rcases h with h|h<;>simp[h],Xe]
theorem op(w:ZF)(N:List Int×Bool)(k:Int)(c:Nat):(a9 w N k c).2.2=true:=by unfold a9;exact g (p:=fun r:ZF×ByteArray×Bool=>r.2.2=true) rfl rfl
theorem li(w:ZF)(b:List ByteArray)(h:R maxLen w)(hl:(Zl b.tail).1.length<4611686018427387904):(bif(yV w b).2.2 then((yV w b).1,(yV w b).2.1)else(w,Rr w b))=e7 w (Zl b.tail) (C b 0):=by
 rw[ul w b h,dn w b h hl];generalize Zl b.tail=N at hl⊢;generalize C b 0=s;have a:∀(k:Int)(c:Nat)(x:ZF×ByteArray),(N.2=true->N.1.length=c->((a9 w N k c).1,(a9 w N k c).2.1)=x)->qt w s N.1=⟨#[119,104,97,116]⟩->(bif(a9 w N k c).2.2 then((a9 w N k c).1,(a9 w N k c).2.1)else(w,bif !N.2 then⟨#[119,104,97,116]⟩else qt w s N.1))=bif !N.2 then(w,⟨#[119,104,97,116]⟩)else bif decide (N.1.length=c)then x else(w,qt w s N.1):=fun k c x O ha=>by
  rw[op,Xe];cases hn:N.2 with
  |false=>rw[ia (.inl hn)];rfl
  |true=>
   by_cases Z:N.1.length=c
   ·rw[decide_eq_true Z,O hn Z];rfl
   ·rw[decide_eq_false Z,ia (.inr Z),ha];rfl
 by_cases g1:s=⟨#[116,105,99,107]⟩
 ·subst g1;exact a 1 1 _ (fun hn Z=>mK w N 1 Z hn) (R0 w _ _ hl a8)
 ·by_cases V:s=⟨#[97,110,115,119,101,114]⟩
  ·subst V;exact a 3 1 _ (fun hn Z=>mK w N 3 Z hn) (R0 w _ _ hl a8)
  ·by_cases p:s=⟨#[114,101,118,111,107,101]⟩
   ·subst p;exact a 4 1 _ (fun hn Z=>mK w N 4 Z hn) (R0 w _ _ hl a8)
   ·by_cases F:s=⟨#[102,111,114,103,101,116]⟩
    ·subst F;exact a 7 1 _ (fun hn Z=>mK w N 7 Z hn) (R0 w _ _ hl a8)
    ·by_cases G:s=⟨#[109,111,118,101]⟩
     ·subst G;exact a 6 3 _ (fun hn Z=>k2 w N 6 Z hn) (R0 w _ _ hl a8)
     ·by_cases i:s=⟨#[98,97,99,107,100,97,116,101]⟩
      ·subst i;exact a 9 2 _ (fun hn Z=>iX w N 9 Z hn) (R0 w _ _ hl a8)
      ·by_cases j:s=⟨#[102,97,107,101]⟩
       ·subst j;exact a 10 2 _ (fun hn Z=>iX w N 10 Z hn) (R0 w _ _ hl a8)
       ·unfold e7;rw[decide_eq_false g1,decide_eq_false V,decide_eq_false p,decide_eq_false F,decide_eq_false G,decide_eq_false i,decide_eq_false j];cases N.2<;>rfl
theorem E1(w:ZF)(a:ByteArray)(h:R maxLen w)(hs:a.size<4611686018427387904)(hl:(Zl (Z0 a).tail).1.length<4611686018427387904):kB w a=yq w a:=by have e:yq w a=xW w a:=rfl;rw[e];unfold kB xW;rw[nH hs,Bool.or_comm,i0 w _ (.inr rfl) h,i0 w _ (.inl rfl) h,m1 w _ h,li w _ h hl];unfold e7;rw[Hk ⟨#[116,105,99,107]⟩ 1 hl a8 aq,Hk ⟨#[97,110,115,119,101,114]⟩ 1 hl a8 aq,Hk ⟨#[114,101,118,111,107,101]⟩ 1 hl a8 aq,Hk ⟨#[102,111,114,103,101,116]⟩ 1 hl a8 aq,Hk ⟨#[109,111,118,101]⟩ 3 hl a8 aq,Hk ⟨#[98,97,99,107,100,97,116,101]⟩ 2 hl a8 aq,Hk ⟨#[102,97,107,101]⟩ 2 hl a8 aq]
theorem IU{w:ZF}(h:cn w<=33554464)(he:cn e<=33554464):cn (YV w e).1<=1152921504606846976:=g (p:=fun r:ZF×ByteArray=>cn r.1<=1152921504606846976) (by show cn w<=_;omega) (LA _ _ h he)
theorem DH(w:ZF)(a:ByteArray)(h:cn w<=33554464):cn (yq w a).1<=1152921504606846976:=by
 show cn (xW w a).1<=_;have I:cn w<=1152921504606846976:=Y
 unfold xW;let p:=fun r:ZF×ByteArray=>cn r.1<=1152921504606846976
 refine Y2 (p:=p) (fun _=>I) (fun Z=>?_);have hs:a.size<=200:=by have:=of_decide_eq_false (Bool.or_eq_false_iff.1 Z).1;omega
 have hw:R 201 (Z0 a):=Qd Y;generalize Z0 a=b at hw;have hl:=Z7 hw;have v:∀l:List Int,cn l=1*l.length:=fun l=>Pg (c:=(cn:Int->Nat)) (fun _=>rfl) l;have hB:∀l:List ByteArray,cn l=1*l.length:=fun l=>Pg (c:=(cn:ByteArray->Nat)) (fun _=>rfl) l;have e:∀(k x y z u:Int)(d:ZV)(l:List Int),R 1000 d->l.length<=1000->cn (YT.mk k x y z u d l)<=33554464:=fun k x y z u d l hd hl=>by have X:=Z7 (ZV.xy hd);have h3:=Z7 (ZV.L3 hd);simp only[YT.XI,ZV.XI,Tb,v,hB];omega
 have hd:R 1000 (ZV.mk 0 [] []):=⟨Sz.zero _,Sz.zero _⟩;have hm:∀(t:Int)(k:Nat),R 1000 (Y0 t (b.drop k) 11).1:=fun t k=>by
  have s:(b.drop k).length<=201:=by rw[List.length_drop];omega
  exact Qm ⟨Y,fun x O=>Nat.le_trans (hw.2 x (List.mem_of_mem_drop O)) Y⟩ Y
 have hg:∀k,p (zb w b k):=fun k=>by unfold zb;refine g (p:=p) I (g (p:=p) I (g (p:=p) ?_ ?_))<;>exact g (p:=p) I (LA _ _ h (e _ _ _ _ _ _ _ (hm _ _) ab))
 have hr:p (z9 w b):=by
  unfold z9;have hi:=Z7 (xi (n:=1000) (A:=b.drop 3) (by rw[List.length_drop];omega))
  refine g (p:=p) I (g (p:=p) ?_ ?_)<;>exact g (p:=p) I (IU h (e _ _ _ _ _ _ _ hd hi))
 have he:∀k x y z u,p (YV w (YT.mk k x y z u (ZV.mk 0 [] []) [])):=fun k x y z u=>IU h (e _ _ _ _ _ _ _ hd ab);refine g (p:=p) (hg 4) (g (p:=p) (hg 3) (g (p:=p) hr (g (p:=p) I ?_)));exact g (p:=p) (he _ _ _ _ _) (g (p:=p) (he _ _ _ _ _) (g (p:=p) (he _ _ _ _ _) (g (p:=p) (he _ _ _ _ _) (g (p:=p) (he _ _ _ _ _) (g (p:=p) (he _ _ _ _ _) (g (p:=p) (he _ _ _ _ _) I))))))
theorem FO(w:ZF)(a:ByteArray)(h:R 1048576 w)(hs:a.size<=1048577):kB w a=yq w a:=by have I:(Z0 a).length<=1048578:=Z7 (Qd Y);have X:=Z7 (xi (n:=1048578) (A:=(Z0 a).tail) aD);exact E1 w a (ZT aq h) Y Y
theorem ZM(h:(Zv A E).2=true):0<=Zi A E.e:=NL (by rw[LF];exact h)
end Go.Mo
