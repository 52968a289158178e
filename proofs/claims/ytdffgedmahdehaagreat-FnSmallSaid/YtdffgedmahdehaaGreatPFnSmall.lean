/- The plain law of FnSmall: sealing an archive adds one renewal to each item, whose path is as long as the tree is high at most. No condition. -/
import Derived.Test.YtdffgedmahdehaaGreatE
namespace Go.Mo
open Go.Vm
set_option linter.unusedSimpArgs false
set_option linter.unusedVariables false
variable{k n j b c:Nat}{a:ZF}{l:List ZO}{m x:Int}{s:ZH}{r:ZE}
theorem NI{α:Type}[Inhabited α](l:List α)(i j:Nat)(x:α):nth (l.set i x) j=if i=j/\j<l.length then x else nth l j:=by simp only[nth,List.getD_eq_getElem?_getD,List.getElem?_set];grind
theorem SC(h:(Z2 s r).2=true):(Z2 s r).1=ZH.mk s.ZG (s.ZK++[r])/\JD (ZH.mk s.ZG (s.ZK++[r]))=true:=by unfold Z2 at h⊢;grind
def R8(a:ZF)(m:Int)(l:List ZO)(v:Nat):ZE:=ZE.mk ((nth a.ZC v).ZJ.ZG.length:Int) m (XL a m) (YH m (Zo a m) (v:Int)) l
def Tb(a:ZF)(m:Int)(l:List ZO)(v:Nat):ZQ:=ZQ.mk (nth a.ZC v).Id (nth a.ZC v).YL (nth a.ZC v).Doc (nth a.ZC v).Sig (ZH.mk (nth a.ZC v).ZJ.ZG ((nth a.ZC v).ZJ.ZK++[R8 a m l v]))
theorem RI(a:ZF)(m:Int)(l:List ZO):∀(n v:Nat)(q:List ZQ),a.ZC.length<n+v->v<=a.ZC.length->q.length=a.ZC.length->(∀k,k<a.ZC.length->nth q k=if k<v then Tb a m l k else nth a.ZC k)->
    (∀r,Zv a m l n v q= .inl r->r=(a,false))/\∀z,Zv a m l n v q= .inr z->z.length=a.ZC.length/\∀k,k<a.ZC.length->nth z k=Tb a m l k
  |0,v,q,h,hv,_,_=>fJ
  |n+1,v,q,h,hv,hl,hq=>by
    rw[Zv];by_cases wO:v<a.ZC.length
    · rw[decide_eq_true (show(v:Int)<(a.ZC.length:Int)by omega),Qr];cases hc:(Z2 (nth a.ZC v).ZJ (R8 a m l v)).2 with
      |false=>rw[show(Z2 (nth a.ZC v).ZJ (ZE.mk ((nth a.ZC v).ZJ.ZG.length:Int) m (XL a m) (YH m (Zo a m) (v:Int)) l)).2=false from hc,Bool.not_false,Qr];grind
      |true=>
        rw[show(Z2 (nth a.ZC v).ZJ (ZE.mk ((nth a.ZC v).ZJ.ZG.length:Int) m (XL a m) (YH m (Zo a m) (v:Int)) l)).2=true from hc,Bool.not_true,QZ];refine RI a m l n (v+1) _ fJ wO (by rw[List.length_set];exact hl) (fun k hk=>?_);rw[NI];split
        · rename_i he;obtain⟨rfl,_⟩:=he;rw[if_pos (Nat.lt_succ_self _),hq v hk,if_neg (Nat.lt_irrefl _),show(Z2 (nth a.ZC v).ZJ (ZE.mk ((nth a.ZC v).ZJ.ZG.length:Int) m (XL a m) (YH m (Zo a m) (v:Int)) l)).1=_ from(SC hc).1];rfl
        · grind
    · grind
theorem Iu(h:(ZS a m l).2=true):XZ a=true/\XZ (ZS a m l).1=true/\(ZS a m l).1.Id=a.Id/\(ZS a m l).1.ZC.length=a.ZC.length/\∀k,k<a.ZC.length->nth (ZS a m l).1.ZC k=Tb a m l k:=by have k:=RI a m l (a.ZC.length+1) 0 a.ZC fJ (Nat.zero_le _) rfl (fun k _=>by rw[if_neg (Nat.not_lt_zero _)]);unfold ZS at h⊢;grind
theorem ku(h:0<=x)(h2:x<=4611686018427387904):W x=x:=by rw[Y5];omega
/- the height of a tree -/
def qd(n:Nat):Nat:=if n<=1 then 0 else if n<=2 then 1 else if n<=4 then 2 else if n<=8 then 3 else 4
theorem LM(n:Nat):qd n<=4:=by
  unfold qd
  repeat' split
  all_goals omega
theorem IL(h:2<=n)(h2:n<=16)(hk:2*k=n+n%2):qd k+1<=qd n/\k<=16:=by
  unfold qd;refine⟨?_,fJ⟩
  repeat' split
  all_goals omega
theorem IG(n:Nat)(h:1<=n)(h2:n<=16):X2 (n:Int)=(qd n:Int):=by
  have key:∀k:Fin 17,1<=k.1->X2 (k.1:Int)=(qd k.1:Int):=by decide+kernel
  exact key ⟨n,fJ⟩ h
theorem Ss(m:Int):∀(n:Nat)(l:List Int)(i:Int)(p:List Zs),l.length<=16->(Yp m n l i p).length<=p.length+qd l.length
  |0,l,i,p,_=>Nat.zero_le _
  |n+1,l,i,p,h=>by
    rw[Yp];by_cases hl:1<l.length
    · rw[decide_eq_true (show(l.length:Int)>1 by omega),Qr];have hh:=IL hl h (Qt m l fJ)
      have ih:=fun i p=>Ss m n (Yr m l) i p hh.2;have e:∀s:Zs,(Yp m n (Yr m l) (W (Int.tdiv i 2)) (p++([s]:List Zs))).length<=p.length+qd l.length:=fun s=>by have:=ih (W (Int.tdiv i 2)) (p++[s]);rw[List.length_append,List.length_singleton]at this;omega
      cases(Int.tmod i 2==1)
      · rw[QZ];cases decide (W (i+1)<(l.length:Int))
        · rw[QZ];have:=ih (W (Int.tdiv i 2)) p;omega
        · rw[Qr];exact e _
      · rw[Qr];exact e _
    · rw[decide_eq_false (show ¬(l.length:Int)>1 by omega),QZ];omega
theorem N5(m:Int)(l:List Int)(i:Int):(YH m l i).length<=qd l.length:=by
  unfold YH;by_cases h:l.length<=16
  · refine Zk (p:=fun r:List Zs=>r.length<=qd l.length) (Nat.zero_le _) ?_;have:=Ss m (l.length+1) l i [] h
    rw[List.length_nil,Nat.zero_add]at this;exact this
  · rw[decide_eq_true (show(l.length:Int)>16 by omega),Bool.or_true,Qr];exact Nat.zero_le _
theorem V3(a:ZF)(m:Int):∀(n v:Nat)(l:List Int),a.ZC.length<n+v->v<=a.ZC.length->(Xp a m n l v).length+v=l.length+a.ZC.length
  |0,v,l,h,hv=>fJ
  |n+1,v,l,h,hv=>by
    rw[Xp];by_cases hl:v<a.ZC.length
    · rw[decide_eq_true (show(v:Int)<(a.ZC.length:Int)by omega),Qr];have:=V3 a m n (v+1) (l++[yR (nth a.ZC v) m]) fJ hl
      rw[List.length_append,List.length_singleton]at this;omega
    · rw[decide_eq_false (show ¬(v:Int)<(a.ZC.length:Int)by omega),QZ];omega
theorem SZ(a:ZF)(m:Int):(Zo a m).length=a.ZC.length:=by have:=V3 a m (a.ZC.length+1) 0 [] fJ (Nat.zero_le _);unfold Zo;rw[List.length_nil]at this;dsimp only;omega
/- sizes -/
def fsR(r:ZE):Nat:=3+2*r.Path.length+6*r.YQ.length
theorem Ly(hn:n<=1000)(h:Sm n r):KD r=(fsR r:Int)/\fsR r<=9000:=by have h1:=JA (ZE.IW h);have h2:=JA (ZE.S4 h);unfold KD fsR;refine⟨?_,fJ⟩;rw[ku (x:=2*(r.Path.length:Int)) fJ fJ,ku (x:=6*(r.YQ.length:Int)) fJ fJ,ku (x:=3+2*(r.Path.length:Int)) fJ fJ,ku fJ fJ];omega
theorem UE{k:Nat}(hk:k<=1000)(s:ZH)(h:Sm k s):∀(n v:Nat)(x:Int),s.ZK.length<n+v->v<=s.ZK.length->0<=x->x+cnL fsR (s.ZK.drop v)<=4611686018427387904->Jm s n x v=x+(cnL fsR (s.ZK.drop v):Nat)
  |0,v,x,hn,hv,_,_=>fJ
  |n+1,v,x,hn,hv,h0,hx=>by
    rw[Jm];by_cases hl:v<s.ZK.length
    · rw[decide_eq_true (show(v:Int)<(s.ZK.length:Int)by omega),Qr];rw[VU fsR hl]at hx⊢;have h1:=Ly hk (XR (i:=v) (ZH.KK h))
      rw[h1.1,ku fJ fJ,UE hk s h n (v+1) _ fJ hl fJ fJ];omega
    · rw[decide_eq_false (show ¬(v:Int)<(s.ZK.length:Int)by omega),QZ,List.drop_eq_nil_of_le fJ];show x=x+((0:Nat):Int)
      omega
def fsP(p:ZM):Nat:=2+p.zo.length
theorem UB(s:ZH):∀(n v:Nat)(x:Int),s.ZG.length<n+v->v<=s.ZG.length->0<=x->x+cnL fsP (s.ZG.drop v)<=4611686018427387904->Jf s n x v=x+(cnL fsP (s.ZG.drop v):Nat)
  |0,v,x,hn,hv,_,_=>fJ
  |n+1,v,x,hn,hv,h0,hx=>by
    rw[Jf];by_cases hl:v<s.ZG.length
    · rw[decide_eq_true (show(v:Int)<(s.ZG.length:Int)by omega),Qr];rw[VU fsP hl]at hx⊢;have h1:fsP (nth s.ZG v)=2+(nth s.ZG v).zo.length:=rfl
      rw[ku (x:=2+((nth s.ZG v).zo.length:Int)) fJ fJ,ku fJ fJ,UB s n (v+1) _ fJ hl fJ fJ];omega
    · rw[decide_eq_false (show ¬(v:Int)<(s.ZG.length:Int)by omega),QZ,List.drop_eq_nil_of_le fJ];show x=x+((0:Nat):Int)
      omega
def fsS(s:ZH):Nat:=cnL fsR s.ZK+cnL fsP s.ZG
theorem Ns{α:Type}{c:α->Nat}{b:Nat}:∀l:List α,(∀x∈l,c x<=b)->cnL c l<=l.length*b
  |[],_=>Nat.zero_le _
  |x::l,h=>by
    have h1:=Ns l (fun y hy=>h y (List.mem_cons_of_mem _ hy));have h2:=h x (List.mem_cons_self ..);show c x+cnL c l<=(l.length+1)*b
    rw[Nat.add_mul];omega
theorem js(hk:k<=1000)(h:Sm k s):Y6 s=(fsS s:Int)/\fsS s<=12000000:=by
  have h1:cnL fsR s.ZK<=s.ZK.length*9000:=Ns _ (fun r hr=>(Ly hk ((ZH.KK h).2 r hr)).2);have h2:cnL fsP s.ZG<=s.ZG.length*2000:=Ns _ (fun p hp=>by
    have:=JA (ZM.MI ((ZH.zM h).2 p hp));show 2+p.zo.length<=2000
    omega)
  have h3:=JA (ZH.KK h);have h4:=JA (ZH.zM h);have h5:s.ZK.length*9000<=1000*9000:=Nat.mul_le_mul_right _ fJ;have h6:s.ZG.length*2000<=1000*2000:=Nat.mul_le_mul_right _ fJ;unfold Y6 fsS;refine⟨?_,fJ⟩;have e1:=UE hk s h (s.ZK.length+1) 0 0 fJ (Nat.zero_le _) (Int.le_refl _) (by rw[List.drop_zero];omega);rw[List.drop_zero]at e1;dsimp only;rw[e1,UB s (s.ZG.length+1) 0 _ fJ (Nat.zero_le _) fJ (by rw[List.drop_zero];omega),List.drop_zero];omega
def fsI(x:ZQ):Nat:=fsS x.ZJ
theorem S6{k:Nat}(hk:k<=1000)(a:ZF)(h:Sm k a):∀(n v:Nat)(x:Int),a.ZC.length<n+v->v<=a.ZC.length->0<=x->x+cnL fsI (a.ZC.drop v)<=4611686018427387904->JF a n x v=x+(cnL fsI (a.ZC.drop v):Nat)
  |0,v,x,hn,hv,_,_=>fJ
  |n+1,v,x,hn,hv,h0,hx=>by
    rw[JF];by_cases hl:v<a.ZC.length
    · rw[decide_eq_true (show(v:Int)<(a.ZC.length:Int)by omega),Qr];rw[VU fsI hl]at hx⊢;have h1:=js hk (ZQ.XJ (XR (i:=v) (ZF.Yy h)))
      have h2:fsI (nth a.ZC v)=fsS (nth a.ZC v).ZJ:=rfl;rw[h1.1,ku fJ fJ,S6 hk a h n (v+1) _ fJ hl fJ fJ];omega
    · rw[decide_eq_false (show ¬(v:Int)<(a.ZC.length:Int)by omega),QZ,List.drop_eq_nil_of_le fJ];show x=x+((0:Nat):Int)
      omega
theorem Np(hk:k<=1000)(h:Sm k a):Xs a=(cnL fsI a.ZC:Nat)/\cnL fsI a.ZC<=12000000000:=by have h1:cnL fsI a.ZC<=a.ZC.length*12000000:=Ns _ (fun r hr=>(js hk (ZQ.XJ ((ZF.Yy h).2 r hr))).2);have h3:=JA (ZF.Yy h);have h5:a.ZC.length*12000000<=1000*12000000:=Nat.mul_le_mul_right _ fJ;refine⟨?_,fJ⟩;unfold Xs;have e1:=S6 hk a h (a.ZC.length+1) 0 0 fJ (Nat.zero_le _) (Int.le_refl _) (by rw[List.drop_zero];omega);rw[List.drop_zero]at e1;dsimp only;rw[e1];omega
theorem LF{c:Nat}{f g:ZQ->Nat}:∀(l m:List ZQ),l.length=m.length->(∀k,k<m.length->f (nth l k)<=g (nth m k)+c)->cnL f l<=cnL g m+c*m.length
  |[],[],_,_=>Nat.zero_le _
  |[],_::_,h,_=>by cases h
  |_::_,[],h,_=>by cases h
  |x::l,y::m,h,hk=>by
    have h1:=LF (f:=f) (g:=g) (c:=c) l m eS (fun k pA=>hk (k+1) (by simpa using pA));have h2:=hk 0 (Nat.zero_lt_succ _);have h2:f x<=g y+c:=h2;show f x+cnL f l<=g y+cnL g m+c*(m.length+1)
    rw[Nat.mul_add];omega
theorem L7{α:Type}[Inhabited α]{l m:List α}(h:j<l.length):nth (l++m) j=nth l j:=by unfold nth;rw[List.getD_eq_getElem?_getD,List.getD_eq_getElem?_getD,List.getElem?_append_left h]
theorem Lv{α:Type}[Inhabited α]{l:List α}{x:α}(h:j=l.length):nth (l++[x]) j=x:=by subst h;unfold nth;rw[List.getD_eq_getElem?_getD,List.getElem?_append_right (Nat.le_refl _),Nat.sub_self];rfl
/- the longest path -/
theorem RF(a:ZF)(k:Nat):∀(n v:Nat)(x:Int),(nth a.ZC k).ZJ.ZK.length<n+v->v<=(nth a.ZC k).ZJ.ZK.length->x<=XB a k n x v/\(∀j,v<=j->j<(nth a.ZC k).ZJ.ZK.length->((nth (nth a.ZC k).ZJ.ZK j).Path.length:Int)<=XB a k n x v)/\
    ∀B:Int,x<=B->(∀j,j<(nth a.ZC k).ZJ.ZK.length->((nth (nth a.ZC k).ZJ.ZK j).Path.length:Int)<=B)->XB a k n x v<=B
  |0,v,x,hn,hv=>fJ
  |n+1,v,x,hn,hv=>by
    rw[XB];by_cases hl:v<(nth a.ZC k).ZJ.ZK.length
    · rw[decide_eq_true (show(v:Int)<((nth a.ZC k).ZJ.ZK.length:Int)by omega),Qr];obtain⟨h1,h2,h3⟩:=RF a k n (v+1) (if((nth (nth a.ZC k).ZJ.ZK v).Path.length:Int)>x then((nth (nth a.ZC k).ZJ.ZK v).Path.length:Int)else x) fJ hl;have hm:x<=(if((nth (nth a.ZC k).ZJ.ZK v).Path.length:Int)>x then((nth (nth a.ZC k).ZJ.ZK v).Path.length:Int)else x)/\((nth (nth a.ZC k).ZJ.ZK v).Path.length:Int)<=(if((nth (nth a.ZC k).ZJ.ZK v).Path.length:Int)>x then((nth (nth a.ZC k).ZJ.ZK v).Path.length:Int)else x):=by split<;>omega
      refine⟨Int.le_trans hm.1 h1,fun j hj iJ=>?_,fun B hx hB=>h3 B ?_ hB⟩
      · rcases Nat.lt_or_ge v j with wO|ur
        · exact h2 j wO iJ
        · have:j=v:=fJ;subst this;exact Int.le_trans hm.2 h1
      · split
        · exact hB v hl
        · exact hx
    · rw[decide_eq_false (show ¬(v:Int)<((nth a.ZC k).ZJ.ZK.length:Int)by omega),QZ];exact⟨Int.le_refl _,fun j hj iJ=>fJ,fun B hx _=>hx⟩
theorem RH(a:ZF):∀(n v:Nat)(x:Int),a.ZC.length<n+v->v<=a.ZC.length->x<=Xc a n x v/\(∀k,v<=k->k<a.ZC.length->∀j,j<(nth a.ZC k).ZJ.ZK.length->((nth (nth a.ZC k).ZJ.ZK j).Path.length:Int)<=Xc a n x v)/\
    ∀B:Int,x<=B->(∀k,k<a.ZC.length->∀j,j<(nth a.ZC k).ZJ.ZK.length->((nth (nth a.ZC k).ZJ.ZK j).Path.length:Int)<=B)->Xc a n x v<=B
  |0,v,x,hn,hv=>fJ
  |n+1,v,x,hn,hv=>by
    rw[Xc];by_cases hl:v<a.ZC.length
    · rw[decide_eq_true (show(v:Int)<(a.ZC.length:Int)by omega),Qr];obtain⟨q1,q2,q3⟩:=RF a v ((nth a.ZC v).ZJ.ZK.length+1) 0 x fJ (Nat.zero_le _);dsimp only;generalize XB a v ((nth a.ZC v).ZJ.ZK.length+1) x 0=y at*;obtain⟨h1,h2,h3⟩:=RH a n (v+1) y fJ hl;refine⟨Int.le_trans q1 h1,fun k hk tn j hj=>?_,fun B hx hB=>h3 B (q3 B hx (hB v hl)) hB⟩;rcases Nat.lt_or_ge v k with wO|ur
      · exact h2 k wO tn j hj
      · have:k=v:=fJ;subst this;exact Int.le_trans (q2 j (Nat.zero_le _) hj) h1
    · rw[decide_eq_false (show ¬(v:Int)<(a.ZC.length:Int)by omega),QZ];exact⟨Int.le_refl _,fun k hk tn=>fJ,fun B hx _=>hx⟩
theorem N7(a:ZF):0<=YO a/\(∀k,k<a.ZC.length->∀j,j<(nth a.ZC k).ZJ.ZK.length->((nth (nth a.ZC k).ZJ.ZK j).Path.length:Int)<=YO a)/\
    ∀B:Int,0<=B->(∀k,k<a.ZC.length->∀j,j<(nth a.ZC k).ZJ.ZK.length->((nth (nth a.ZC k).ZJ.ZK j).Path.length:Int)<=B)->YO a<=B:=by
  obtain⟨h1,h2,h3⟩:=RH a (a.ZC.length+1) 0 0 fJ (Nat.zero_le _);exact⟨h1,fun k=>h2 k (Nat.zero_le _),h3⟩
/- what is sealed -/
theorem S9(a:ZF)(m:Int)(l:List ZO)(v:Nat):fsR (R8 a m l v)<=3+2*qd a.ZC.length+6*l.length:=by
  have:=N5 m (Zo a m) (v:Int);rw[SZ]at this;show 3+2*(YH m (Zo a m) (v:Int)).length+6*l.length<=_
  omega
theorem MC(a:ZF)(m:Int)(l:List ZO)(v:Nat):fsI (Tb a m l v)=fsI (nth a.ZC v)+fsR (R8 a m l v):=by show cnL fsR ((nth a.ZC v).ZJ.ZK++[R8 a m l v])+cnL fsP (nth a.ZC v).ZJ.ZG=cnL fsR (nth a.ZC v).ZJ.ZK+cnL fsP (nth a.ZC v).ZJ.ZG+_;rw[Up];show _+(fsR (R8 a m l v)+0)+_=_;omega
theorem HG(a:ZF):∀(n v:Nat)(r:Bool),Xr a n v= .inl r->r=false
  |0,v,r,h=>by cases h
  |n+1,v,r,h=>by rw[Xr]at h;revert h;exact Zk (p:=fun q:Sum Bool Unit=>q= .inl r->r=false) (Zk (p:=fun q:Sum Bool Unit=>q= .inl r->r=false) (fun h=>by cases h;rfl) (HG a n (v+1) r)) (fun h=>by cases h)
theorem HV(h:XZ a=true):a.ZC.length<=16:=by
  unfold XZ at h;cases e:Xr a (a.ZC.length+1) 0 with
  |inl r=>rw[e,HG a _ _ r e]at h;cases h
  |inr u=>rw[e]at h;simp only[Bool.and_eq_true,decide_eq_true_eq]at h;omega
theorem Lr{s:Nat}(h1:1<=n)(h2:n<=16)(hs:s<=3):Xv (n:Int) (s:Int)=((3+2*qd n+6*s:Nat):Int):=by
  have h3:=LM n;unfold Xv Zc;rw[decide_eq_true (show(1:Int)<=(n:Int)by omega),decide_eq_true (show(n:Int)<=16 by omega),decide_eq_true (show(0:Int)<=(s:Int)by omega),decide_eq_true (show(s:Int)<=6 by omega),Bool.and_self,Bool.not_true,Bool.or_self,QZ,IG n h1 h2,
    ku (x:=2*((qd n):Int)) fJ fJ,ku (x:=6*(s:Int)) fJ fJ,ku (x:=3+2*((qd n):Int)) fJ fJ,ku fJ fJ]
  omega
theorem OL(a0:List UInt8)(h:∀v,v<(ZS (ZB a0).1 (ZB a0).2.1 (ZB a0).2.2).1.ZC.length->W ((Y6 (nth (ZS (ZB a0).1 (ZB a0).2.1 (ZB a0).2.2).1.ZC v).ZJ)-(Y6 (nth (ZB a0).1.ZC v).ZJ))<=(Xv ((ZB a0).1.ZC.length:Int) ((ZB a0).2.2.length:Int))):∀n v,ze a0 n v= .inr ()
  |0,v=>rfl
  |n+1,v=>by
    rw[ze];by_cases hl:v<(ZS (ZB a0).1 (ZB a0).2.1 (ZB a0).2.2).1.ZC.length
    · rw[decide_eq_true (show(v:Int)<((ZS (ZB a0).1 (ZB a0).2.1 (ZB a0).2.2).1.ZC.length:Int)by omega),Qr,decide_eq_false (by have:=h v hl;omega),QZ];exact OL a0 h n (v+1)
    · rw[decide_eq_false fJ,QZ]
theorem HQ(ha:Sm 70 a)(hs:l.length<=3)(wT:(ZS a m l).2=true):
    (∀v,v<(ZS a m l).1.ZC.length->W (Y6 (nth (ZS a m l).1.ZC v).ZJ-Y6 (nth a.ZC v).ZJ)<=Xv (a.ZC.length:Int) (l.length:Int))/\
    Xs (ZS a m l).1<=W (Xs a+W (Xv (a.ZC.length:Int) (l.length:Int)*(a.ZC.length:Int)))/\
    YO (ZS a m l).1<=Tf (YO a) (X2 (a.ZC.length:Int)):=by
  obtain⟨hA,_,gn,hlen,rZ⟩:=Iu wT;have la:=HV hA
  have h1:1<=a.ZC.length:=by
    rcases Nat.eq_zero_or_pos a.ZC.length with h0|h0
    · unfold ZS at wT;rw[h0]at wT;cases wT
    · exact h0
  have hb:Sm 80 (ZS a m l).1:=ZN (n:=71) fJ (Qc (n:=70) ha ⟨fJ,fun _ _=>trivial⟩ fJ);generalize ZS a m l=b at wT gn hlen rZ hb⊢;rw[Lr h1 la hs];have hL:=LM a.ZC.length;refine⟨fun v hv=>?_,?_,?_⟩
  · rw[hlen]at hv;have e1:=js (k:=80) fJ (ZQ.XJ (XR (i:=v) (ZF.Yy hb)))
    have e2:=js (k:=70) fJ (ZQ.XJ (XR (i:=v) (ZF.Yy ha)));have e3:=MC a m l v;have e4:=S9 a m l v;rw[rZ v hv]at e1;rw[rZ v hv,e1.1,e2.1];have e5:fsS (Tb a m l v).ZJ=fsS (nth a.ZC v).ZJ+fsR (R8 a m l v):=e3;rw[e5,ku fJ fJ];omega
  · have e1:=Np (k:=80) fJ hb;have e2:=Np (k:=70) fJ ha;have e3:=LF (f:=fsI) (g:=fsI) (c:=3+2*qd a.ZC.length+6*l.length) b.1.ZC a.ZC hlen (fun k hk=>by
      rw[rZ k hk,MC];have:=S9 a m l k
      omega)
    have e4:(3+2*qd a.ZC.length+6*l.length)*a.ZC.length<=29*16:=Nat.mul_le_mul fJ la;rw[e1.1,e2.1];generalize(3+2*qd a.ZC.length+6*l.length)=c at*;have e5:((c:Nat):Int)*(a.ZC.length:Int)=((c*a.ZC.length:Nat):Int):=fM;rw[e5,ku (x:=((c*a.ZC.length:Nat):Int)) fJ fJ,ku fJ fJ];omega
  · obtain⟨q1,q2,q3⟩:=N7 a;have hm:YO a<=Tf (YO a) (X2 (a.ZC.length:Int))/\X2 (a.ZC.length:Int)<=Tf (YO a) (X2 (a.ZC.length:Int)):=by unfold Tf;split<;>omega
    refine(N7 b.1).2.2 _ fJ (fun k hk j hj=>?_);rw[hlen]at hk;rw[rZ k hk]at hj⊢;have hj:j<((nth a.ZC k).ZJ.ZK++[R8 a m l k]).length:=hj
    show((nth ((nth a.ZC k).ZJ.ZK++[R8 a m l k]) j).Path.length:Int)<=_;rw[List.length_append,List.length_singleton]at hj;rcases Nat.lt_or_ge j (nth a.ZC k).ZJ.ZK.length with wO|ur
    · rw[L7 wO];exact Int.le_trans (q2 k hk j wO) hm.1
    · rw[Lv fJ];have:=N5 m (Zo a m) (k:Int)
      rw[SZ]at this;have h4:=IG a.ZC.length h1 la
      show((YH m (Zo a m) (k:Int)).length:Int)<=_;omega
theorem TI(a0:List UInt8):xn a0=true:=by
  unfold xn;cases OX a0 with
  |true=>rfl
  |false=>
    rw[QZ];obtain⟨ha,hs⟩:=Ze (n:=70) (a0:=a0) fJ;rw[W1 _ _ _ (ZN (n:=70) fO ha),beq_self_eq_true,Bool.not_true,QZ];cases wT:(ZS (ZB a0).1 (ZB a0).2.1 (ZB a0).2.2).2 with
    |false=>rfl
    |true=>rw[Bool.not_true,QZ];obtain⟨h1,h2,h3⟩:=HQ ha hs wT;rw[OL a0 h1];dsimp only;rw[decide_eq_true h2,decide_eq_true h3,Bool.and_self]
end Go.Mo
