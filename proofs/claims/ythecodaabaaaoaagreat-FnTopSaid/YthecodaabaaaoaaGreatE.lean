/- The models of the program and of the reference agree. No condition. -/
import Derived.Test.YthecodaabaaaoaaGreatL
namespace Go.Mo
open Go.Vm
set_option linter.unusedSimpArgs false
set_option linter.unusedVariables false
variable{L:Nat->Nat->Sum Bool Unit}{c:Nat->Bool}{i len k:Nat}{a0:ZE}{a1:List Int}{l:List ZN}{a:List Zi}{a2:ZT}{s d:Int}
theorem cond_neg(x:Int){α:Type}(a b:α):(bif decide (x<0)then a else b)=(bif decide (0<=x)then b else a):=by
  grind
/-- a loop that looks whether one of the places is bad -/
theorem Bi{L:Nat->Nat->Sum Bool Unit}{len:Nat}{c:Nat->Bool}(h0:∀v,L 0 v= .inr ())(hs:∀n v,L (n+1) v=(bif decide ((v:Int)<(len:Int))then(bif c v then .inl false else L n (v+1))else .inr ())):
    ∀n v,len<n+v->(L n v= .inr ()/\∀i,v<=i->i<len->c i=false)\/(L n v= .inl false/\∃i,v<=i/\i<len/\c i=true)
  |0,v,h=>.inl ⟨h0 v,fun i h1 h2=>zAA⟩
  |n+1,v,h=>by
    rw[hs]
    by_cases hv:v<len
    · rw[show decide ((v:Int)<(len:Int))=true by simpa using hv]
      cases hc:c v with
      |true=>exact .inr ⟨rfl,v,Nat.le_refl _,hv,hc⟩
      |false=>
        rcases Bi h0 hs n (v+1) zAA with⟨e,k⟩|⟨e,i,k1,k2,k3⟩
        · grind
        · exact .inr ⟨e,i,zAA,k2,k3⟩
    · grind
/-- a loop that looks for the first place -/
theorem xj{β:Type}{L:Nat->Nat->Sum β Unit}{len:Nat}{c:Nat->Bool}{r:Nat->β}(h0:∀v,L 0 v= .inr ())(hs:∀n v,L (n+1) v=(bif decide ((v:Int)<(len:Int))then(bif c v then .inl (r v)else L n (v+1))else .inr ())):
    ∀n v,len<n+v->(L n v= .inr ()/\∀i,v<=i->i<len->c i=false)\/(∃i,L n v= .inl (r i)/\v<=i/\i<len/\c i=true/\∀k,v<=k->k<i->c k=false)
  |0,v,h=>.inl ⟨h0 v,fun i h1 h2=>zAA⟩
  |n+1,v,h=>by
    rw[hs]
    by_cases hv:v<len
    · rw[show decide ((v:Int)<(len:Int))=true by simpa using hv]
      cases hc:c v with
      |true=>exact .inr ⟨v,rfl,Nat.le_refl _,hv,hc,fun k h1 h2=>zAA⟩
      |false=>
        rcases xj h0 hs n (v+1) zAA with⟨e,k⟩|⟨i,e,k1,k2,k3,k4⟩
        · grind
        · grind
    · grind
/-- the same, as a Boolean -/
theorem Jj(h0:∀v,L 0 v= .inr ())(hs:∀n v,L (n+1) v=(bif decide ((v:Int)<(len:Int))then(bif c v then .inl false else L n (v+1))else .inr ()))(n v:Nat)(h:len<n+v)(X:Bool):
    (match L n v with|.inl r=>r|.inr _=>X)=true↔(∀i,v<=i->i<len->c i=false)/\X=true:=by
  rcases Bi h0 hs n v h with⟨e,k⟩|⟨e,i,k1,k2,k3⟩
  · grind
  · grind
theorem Pq(h0:∀v,L 0 v= .inr ())(hs:∀n v,L (n+1) v=(bif decide ((v:Int)<(len:Int))then(bif c v then .inl true else L n (v+1))else .inr ()))(n v:Nat)(h:len<n+v):
    (match L n v with|.inl r=>r|.inr _=>false)=true↔∃i,v<=i/\i<len/\c i=true:=by
  rcases xj (r:=fun _=>true) h0 hs n v h with⟨e,k⟩|⟨i,e,k1,k2,k3,k4⟩
  · grind
  · rw[e];exact⟨fun _=>⟨i,k1,k2,k3⟩,fun _=>rfl⟩
theorem AR{α:Type}[Inhabited α]{l:List α}{n:Nat}(h:i<n):nth (l.take n) i=nth l i:=by
  unfold nth;simp[List.getD_eq_getElem?_getD,List.getElem?_take,h]
theorem Pj{α β:Type}[Inhabited α][Inhabited β]{f:α->β}{l:List α}(h:i<l.length):nth (l.map f) i=f (nth l i):=by
  simp[nth,List.getD_eq_getElem?_getD,List.getElem?_eq_getElem h]
@[simp] theorem nh (a0 a1 : Int) : W3 a0 a1 = if a1 < a0 then a1 else a0 := by
  unfold W3;by_cases h:a1<a0<;>simp[h]
@[simp] theorem Vp (a0 a1 a2 : Int) : Ye a0 a1 a2 = ZX a0 a1 a2 := rfl
@[simp] theorem sn (a0 : List Y4) (a1 : Int) : ∀ (n : Nat) (v0 : Nat), kC a0 a1 n v0 = j7 a0 a1 n v0 := by
  intro n;induction n with
  |zero=>intros;rfl
  |succ n ih=>intros;simp[kC,j7,ih,ByteArray.append_assoc]
@[simp] theorem Vk (a0 : List Y4) (a1 : Int) : Yk a0 a1 = Z6 a0 a1 := by simp [Yk, Z6]
@[simp] theorem tF (a0 : ZR) : K7 a0 = z7 a0 := by
  rw[Bool.eq_iff_iff];have hs:K7 a0=true↔_:=(Jj (L:=y5 a0) (fun _=>rfl) (fun _ _=>rfl) (a0.Xw.length+1) 0 zAA _).trans (and_congr_right fun _=>Jj (L:=ym a0) (fun _=>rfl) (fun _ _=>rfl) (a0.KZ.length+1) 0 zAA _)
  rw[hs];unfold z7;have hi:∀b:Bool,(bif b then false else(match qe a0 (a0.Xw.length+1) 0 with|.inl r1=>r1|.inr _=>true))=true↔b=false/\_:=fun b=>by
    cases b
    · exact(Jj (L:=qe a0) (fun _=>rfl) (fun _ _=>rfl) (a0.Xw.length+1) 0 zAA true).trans (by simp only[true_and,and_true];exact Iff.rfl)
    · simp
  refine Iff.trans ?_ (hi _).symm;simp only[Vp,Bool.or_eq_false_iff,Bool.not_eq_false',Bool.and_eq_true,beq_iff_eq,bne_eq_false_iff_eq,Bool.not_eq_eq_eq_not,Bool.not_false];grind
@[simp] theorem nq (a0 : Int) (a1 : Int) : C5 a0 a1 = Bf a0 a1 := by simp [C5, Bf]
@[simp] theorem oJ (a0 : List Int) : ∀ (n : Nat) (v0 : Int) (v1 : Nat), Rq a0 n v0 v1 = Rs a0 n v0 v1 := by
  intro n;induction n with
  |zero=>intros;rfl
  |succ n ih=>intros;simp[Rq,Rs,ih,ByteArray.append_assoc]
@[simp] theorem nZ (a0 : List Int) : Ma a0 = M8 a0 := by simp [Ma, M8]
@[simp] theorem rF (a0 : Int) (a1 : List Int) : xE a0 a1 = W6 a0 a1 := by simp [xE, W6]
@[simp] theorem rY (a0 : Y4) (a1 : List Int) : qH a0 a1 = UY a0 a1 := by simp [qH, UY]
@[simp] theorem rX (a0 : YN) : yL a0 = yR a0 := by simp [yL, yR]
@[simp] theorem oH (a0 : Int) : W2 a0 = KY a0 := rfl
theorem Ha{α:Type}[Inhabited α](l:List α)(i:Nat):l.set i (nth l i)=l:=by
  rcases Nat.lt_or_ge i l.length with h|h
  · simp[nth,List.getD_eq_getElem?_getD,List.getElem?_eq_getElem h]
  · exact List.set_eq_of_length_le h
theorem GB{a1:Int}(h:(Xl a0 a1 a2).2=false):(Xl a0 a1 a2).1=a0:=by
  unfold Xl at h⊢;cases hf:decide (ZZ a0 a1<0)with
  |true=>rfl
  |false=>
    rw[hf]at h;simp only[cond_false]at h⊢;have hp:(Qr (nth a0.ZB (ZZ a0 a1).toNat).ZG a2).1=(nth a0.ZB (ZZ a0 a1).toNat).ZG:=by
      unfold Qr at h⊢;grind
    rw[hp,show ZN.mk (nth a0.ZB (ZZ a0 a1).toNat).Id (nth a0.ZB (ZZ a0 a1).toNat).XF (nth a0.ZB (ZZ a0 a1).toNat).Doc (nth a0.ZB (ZZ a0 a1).toNat).Sig (nth a0.ZB (ZZ a0 a1).toNat).ZG=nth a0.ZB (ZZ a0 a1).toNat from rfl,Ha]
theorem DN(a0:ZF)(i id:Int)(st:Zp):(bif(YT a0.Frame.Zt st).2 then(ZF.mk a0.Frame a0.Zd a0.Zw (a0.ZA.set i.toNat (Xl (nth a0.ZA i.toNat) id (Yq (YT a0.Frame.Zt st).1)).1) a0.Y2 a0.Yc a0.Next a0.YL,(Xl (nth a0.ZA i.toNat) id (Yq (YT a0.Frame.Zt st).1)).2)else(a0,false))=Qi a0 i id st:=by
  unfold Qi;cases hm:(YT a0.Frame.Zt st).2 with
  |false=>rfl
  |true=>
    cases ha:(Xl (nth a0.ZA i.toNat) id (Yq (YT a0.Frame.Zt st).1)).2 with
    |true=>rfl
    |false=>rw[GB ha,Ha];rfl
theorem Od(l:List YN)(s:Int)(h:0<=Xy l s):(nth l (Xy l s).toNat).Za=s:=by
  unfold Xy at h⊢;rcases xj (β:=Int) (L:=xQ l s) (len:=l.length) (c:=fun v=>(nth l v).Za==s) (r:=fun v=>(v:Int)) (fun _=>rfl) (fun _ _=>rfl) (l.length+1) 0 zAA with⟨e,_⟩|⟨i,e,_,_,hc,_⟩
  · rw[e]at h;simp at h
  · rw[e];simpa using hc
theorem ID{a b c:Bool}:((!(a&&b))||c)=((!a||!b)||c):=by cases a<;>cases b<;>rfl
@[simp] theorem rj (a0 : ZF) (a1 : Int) : jr a0 a1 = KI a0 a1 := by simp [jr, KI]
@[simp] theorem W4 (a0 : ZF) (a1 : Int) : JG a0 a1 = YG a0 a1 := by simp [JG, YG]
@[simp] theorem vX (a0 : List YH) (a1 : Int) : ∀ (n : Nat) (v0 : Int) (v1 : Nat), y0 a0 a1 n v0 v1 = yo a0 a1 n v0 v1 := by
  intro n;induction n with
  |zero=>intros;rfl
  |succ n ih=>intros;simp[y0,yo,ih,ByteArray.append_assoc]
@[simp] theorem zh (a0 : List YH) (a1 : Int) : Zo a0 a1 = ZS a0 a1 := by simp [Zo, ZS]
@[simp] theorem Fk (a0 : Int) (a1 : List Int) : Ku a0 a1 = Ju a0 a1 := by simp [Ku, Ju]
theorem N6(a1:ByteArray):∀(n:Nat)(p l:List Int)(v:Nat),a1.size<n+v->v<=a1.size->qc a1 n (p++l) v=p++qZ a1.data.toList n l v:=by
  intro n;induction n with
  |zero=>
    intro p l v h hv;omega
  |succ n ih=>
    intro p l v h aa;have hs:a1.size=a1.data.toList.length:=(Array.length_toList).symm
    rw[qc,qZ,<-hs];by_cases hv:v<a1.size
    · rw[show decide ((v:Int)<(a1.size:Int))=true by simpa using hv];simp only[cond_true];rw[List.append_assoc,ih p _ (v+1) zAA zAA];rfl
    · grind
@[simp] theorem tM (a0 : Int) (a1 : ByteArray) (a2 : Int) : kg a0 a1 a2 = ka a0 a1 a2 := by
  have:=N6 a1 (a1.size+1) [a2] [] 0 zAA zAA;simp only[List.append_nil]at this;simp only[kg,ka,kv,this,Fk];rfl
@[simp] theorem uZ (a0 : Int) (a1 : ZR) : ∀ (n : Nat) (v0 : List Int) (v1 : Nat), jQ a0 a1 n v0 v1 = jL a0 a1 n v0 v1 := by
  intro n;induction n with
  |zero=>intros;rfl
  |succ n ih=>intros;simp[jQ,jL,ih,ByteArray.append_assoc]
@[simp] theorem Rj (a0 : Int) (a1 : ZR) : JN a0 a1 = Yb a0 a1 := by simp [JN, Yb]
@[simp] theorem ug (a0 : Zl) : jS a0 = K9 a0 := by simp [jS, K9]
@[simp] theorem w8 (a0 : Zl) : Qx a0 = X0 a0 := by simp [Qx, X0]
@[simp] theorem IW (a0 : List Y4) (a1 : Zl) : K5 a0 a1 = XV a0 a1 := by
  by_cases h:Z6 a0 a1.Key<0<;>simp[K5,XV,zS,h]
@[simp] theorem GS (a0 : Zl) : xC a0 = Yf a0 := by simp [xC, Yf]
@[simp] theorem GA (a0 : YN) : kB a0 = JJ a0 := by simp [kB, JJ]
def Ru(a0:ZF)(a2:Int)(a3:ZR)(a4:Int)(v:Nat):Zl×Bool:=XV a0.Frame.Zt (Zl.mk a2 (nth a0.Zd v).Za (ZS a0.Frame.Methods a0.Frame.Now) (Yb (ZS a0.Frame.Methods a0.Frame.Now) a3) 1 a4 0 0 0)
def RR(a0:ZF)(a2:Int)(a3:ZR)(a4 a5:Int)(v:Nat):ZN:=ZN.mk a0.Next a5 a3 (Ru a0 a2 a3 a4 v).1 (ZW.mk ([Yf (Ru a0 a2 a3 a4 v).1,JJ (nth a0.Zd v)]:List ZT) ([]:List Zb))
def PW(a0:ZF)(a1:Int)(it:ZN):ZF:=ZF.mk a0.Frame a0.Zd a0.Zw (a0.ZA.set a1.toNat (YZ (nth a0.ZA a1.toNat) it).1) a0.Y2 a0.Yc (W (a0.Next+1)) a0.YL
def wV(a0:ZF)(a1:Int)(b:Bool)(it:ZN):ZF×Bool:=bif(!b)||!(YZ (nth a0.ZA a1.toNat) it).2 then(a0,false)else(PW a0 a1 it,true)
theorem Db(a0:ZF)(a1 a2:Int)(a3:ZR)(a4 a5:Int):
    ∀(m v:Nat),(match JC a0 a1 a2 a3 a4 a5 m v with|.inl r1=>r1|.inr _=>(a0,false))=(match KL a0 a2 m v with|.inl k=>wV a0 a1 (Ru a0 a2 a3 a4 k.toNat).2 (RR a0 a2 a3 a4 a5 k.toNat)|.inr _=>(a0,false))
  |0,v=>rfl
  |m+1,v=>by
    have ih:=Db a0 a1 a2 a3 a4 a5 m (v+1)
    simp only[JC,KL]
    cases decide ((v:Int)<(a0.Zd.length:Int))with
    |false=>rfl
    |true=>
      simp only[cond_true,bne]
      cases((nth a0.Zd v).Key==a2)with
      |false=>exact ih
      |true=>
        simp only[cond_true,cond_false,Bool.not_true]
        rw[show(v:Int).toNat=v from rfl]
        show(match(bif((!(Ru a0 a2 a3 a4 v).2)||!(YZ (nth a0.ZA a1.toNat) (RR a0 a2 a3 a4 a5 v)).2)then(Sum.inl (a0,false):Sum (ZF×Bool) Unit)else .inl (PW a0 a1 (RR a0 a2 a3 a4 a5 v),true))with|.inl r1=>r1|.inr _=>(a0,false))=wV a0 a1 (Ru a0 a2 a3 a4 v).2 (RR a0 a2 a3 a4 a5 v)
        unfold wV
        grind
theorem vG(a0:ZF)(a2:Int):∀(m v:Nat),KL a0 a2 m v= .inr ()\/∃k:Nat,KL a0 a2 m v= .inl (k:Int)
  |0,v=>.inl rfl
  |m+1,v=>by
    have ih:=vG a0 a2 m (v+1)
    simp only[KL]
    grind
theorem Cw(a0:ZF)(a1:Int)(a2:ZR)(a3 a4:Int):QI a0 a1 a2 a3 a4=bif((decide (ZS a0.Frame.Methods a0.Frame.Now<0))||(decide (Xt a0 a1<0)))then(ZN.mk 0 0 (ZR.mk 0 ([]:List ByteArray) ([]:List Int)) (Zl.mk 0 0 0 0 0 0 0 0 0) (ZW.mk ([]:List ZT) ([]:List Zb)),false)else(RR a0 a1 a2 a3 a4 (Xt a0 a1).toNat,(Ru a0 a1 a2 a3 (Xt a0 a1).toNat).2):=by
  unfold QI;simp only[zh,IW,Rj,GS,GA];rfl
theorem Ls(a0:ZF)(a1 a2:Int)(a3:ZR)(a4 a5:Int):XR a0 a1 a2 a3 a4 a5=bif((!(YG a0 a1))||(decide (Z6 a0.Frame.Zt a2<0)))then(a0,false)else wV a0 a1 (QI a0 a2 a3 a4 a5).2 (QI a0 a2 a3 a4 a5).1:=by
  unfold XR;cases((!(YG a0 a1))||(decide (Z6 a0.Frame.Zt a2<0)))with
  |true=>rfl
  |false=>
    rw[Cw];simp only[Bool.false_or,cond_false];refine Eq.trans (congrArg (fun z=>bif decide (ZS a0.Frame.Methods a0.Frame.Now<0)then(a0,false)else z) (Db a0 a1 a2 a3 a4 a5 (a0.Zd.length+1) 0)) ?_;cases decide (ZS a0.Frame.Methods a0.Frame.Now<0)with
    |true=>rfl
    |false=>
      simp only[Bool.false_or,cond_false];rcases vG a0 a2 (a0.Zd.length+1) 0 with h|⟨k,h⟩
      · rw[h,show Xt a0 a2=-1 by unfold Xt;rw[h]];rfl
      · rw[h,show Xt a0 a2=(k:Int)by unfold Xt;rw[h]];grind
theorem pD(a0:ZF)(a1:Int)(b:Bool)(it:ZN):(bif !b then(a0,false)else(bif !(YZ (nth a0.ZA a1.toNat) it).2 then(a0,false)else(PW a0 a1 it,true)))=wV a0 a1 b it:=by
  unfold wV;cases b<;>rfl
@[simp] theorem s9 (a0 a1 : List Int) : TJ a0 a1 = decide (a0 = a1) := oK (F := WZ a0 a1) (c := fun i => nth a0 i != nth a1 i) (fun i => by simp [bne, Bool.beq_eq_decide_eq]) (fun _ => rfl) (fun _ _ => rfl)
@[simp] theorem sZ (a0 a1 : List Int) : TP a0 a1 = decide (a0 = a1) := oK (F := WX a0 a1) (c := fun i => nth a0 i != nth a1 i) (fun i => by simp [bne, Bool.beq_eq_decide_eq]) (fun _ => rfl) (fun _ _ => rfl)
@[simp] theorem yZ (a0 a1 : ZT) : KM a0 a1 = decide (a0 = a1) := by
  obtain⟨t,p,s⟩:=a0;obtain⟨t',p',s'⟩:=a1;by_cases h1:t=t'<;>by_cases h2:p=p'<;>by_cases h3:s=s'<;>simp_all[KM]
@[simp] theorem ua (a0 a1 : ZT) : xk a0 a1 = decide (a0 = a1) := by
  obtain⟨t,p,s⟩:=a0;obtain⟨t',p',s'⟩:=a1;by_cases h1:t=t'<;>by_cases h2:p=p'<;>by_cases h3:s=s'<;>simp_all[xk]
theorem RO(a0:ZW)(hk:k<a0.ZI.length):decide (qL a0 (nth a0.ZI k)<(k:Int))=KE (a0.ZI.take k) (nth a0.ZI k):=by
  rw[Bool.eq_iff_iff];have hi:KE (a0.ZI.take k) (nth a0.ZI k)=true↔_:=Pq (L:=kL (a0.ZI.take k) (nth a0.ZI k)) (fun _=>rfl) (fun _ _=>rfl) _ 0 zAA
  rw[hi];unfold qL;have hl:(a0.ZI.take k).length=k:=zAo
  rw[hl];rcases xj (L:=xi a0 (nth a0.ZI k)) (r:=fun i=>(i:Int)) (fun _=>rfl) (fun _ _=>rfl) (a0.ZI.length+1) 0 zAA with⟨e,p⟩|⟨i,e,p1,p2,p3,p4⟩
  · have:=p k (Nat.zero_le _) hk;simp at this
  · rw[e];simp only[decide_eq_true_eq];constructor
    · intro h;exact⟨i,Nat.zero_le _,zAA,by rw[AR zAA];simpa using p3⟩
    · rintro⟨j,_,hj,hc⟩;rw[AR hj]at hc;rcases Nat.lt_or_ge j i with h|h
      · have:=p4 j (Nat.zero_le _) h;simp at this hc;exact absurd hc this
      · omega
@[simp] theorem rk (a0 : ZW) : xa a0 = Xi a0 := by
  rw[Bool.eq_iff_iff];have hs:xa a0=true↔_:=(Jj (L:=qz a0) (fun _=>rfl) (fun _ _=>rfl) (a0.ZI.length+1) 0 zAA _).trans (and_congr_right fun _=>Jj (L:=qp a0) (fun _=>rfl) (fun _ _=>rfl) (a0.ZM.length+1) 0 zAA _)
  rw[hs];unfold Xi;have hi:∀b:Bool,(bif b then false else(match xG a0 (a0.ZI.length+1) 0 with|.inl r1=>r1|.inr _=>(match xI a0 (a0.ZM.length+1) 0 with|.inl r2=>r2|.inr _=>true)))=true↔b=false/\_:=fun b=>by
    cases b
    · exact((Jj (L:=xG a0) (fun _=>rfl) (fun _ _=>rfl) (a0.ZI.length+1) 0 zAA _).trans (and_congr_right fun _=>Jj (L:=xI a0) (fun _=>rfl) (fun _ _=>rfl) (a0.ZM.length+1) 0 zAA true)).trans (by simp only[true_and,and_true];exact Iff.rfl)
    · simp
  refine Iff.trans ?_ (hi _).symm;simp only[Vp,Bool.or_eq_false_iff,Bool.not_eq_false',Bool.and_eq_true,Bool.not_eq_eq_eq_not,Bool.not_false];constructor
  · rintro⟨h1,h2,h3,h4⟩;exact⟨⟨h3,by simpa using h4⟩,fun i hz hi=>by rw[<-RO a0 hi];exact h1 i hz hi,fun i hz hi=>by simpa using h2 i hz hi⟩
  · rintro⟨⟨h3,h4⟩,h1,h2⟩;exact⟨fun i hz hi=>by rw[RO a0 hi];exact h1 i hz hi,fun i hz hi=>by simpa using h2 i hz hi,h3,by simpa using h4⟩
@[simp] theorem oV (a0 : ZN) : T3 a0 = JS a0 := by simp [T3, JS]
@[simp] theorem uK (a0 : ZE) : ∀ (n : Nat) (v0 : Nat), jO a0 n v0 = xv a0 n v0 := by
  intro n;induction n with
  |zero=>intros;rfl
  |succ n ih=>intros;simp[jO,xv,ih,ByteArray.append_assoc]
@[simp] theorem PU (a0 : ZE) : Jf a0 = Ys a0 := by simp [Jf, Ys]
@[simp] theorem tN (a0 : ZE) (a1 : Int) : ∀ (n : Nat) (v0 : Nat), qv a0 a1 n v0 = zm a0 a1 n v0 := by
  intro n;induction n with
  |zero=>intros;rfl
  |succ n ih=>intros;simp[qv,zm,ih,ByteArray.append_assoc]
@[simp] theorem TW (a0 : ZE) (a1 : Int) : Yz a0 a1 = ZZ a0 a1 := by simp [Yz, ZZ]
theorem GM(h:i<l.length):l.drop i=nth l i::l.drop (i+1):=by
  rw[List.drop_eq_getElem_cons h];simp[nth,List.getD_eq_getElem?_getD,List.getElem?_eq_getElem h]
theorem oh(a0:ZE)(a1:ZN):∀(m i:Nat)(l:List ZN),a0.ZB.length<m+i->i<=a0.ZB.length->Qq a0 a1 m true i l=(true,l++a0.ZB.drop i)
  |0,i,l,h,hi=>zAA
  |m+1,i,l,h,hi=>by
    simp only[Qq]
    cases hc:decide ((i:Int)<(a0.ZB.length:Int))with
    |false=>
      grind
    |true=>
      have iQ:i<a0.ZB.length:=zBH
      simp only[cond_true,Bool.not_true,Bool.false_and,cond_false]
      rw[oh a0 a1 m (i+1) _ zAA iQ,GM iQ];simp
theorem oY(a0:ZE)(a1:ZN)(iH:∀k,k<a0.ZB.length->(nth a0.ZB k).Id≠a1.Id):∀(m i:Nat)(l:List ZN),a0.ZB.length<m+i->i<=a0.ZB.length->
    i<=X4 a0 a1 m i/\X4 a0 a1 m i<=a0.ZB.length/\
    Qq a0 a1 m false i l=(bif decide (X4 a0 a1 m i<a0.ZB.length)then(true,l++(a0.ZB.take (X4 a0 a1 m i)).drop i++[a1]++a0.ZB.drop (X4 a0 a1 m i))else(false,l++a0.ZB.drop i))
  |0,i,l,h,hi=>zAA
  |m+1,i,l,h,hi=>by
    by_cases iQ:i<a0.ZB.length
    · have hc:decide ((i:Int)<(a0.ZB.length:Int))=true:=by simpa using iQ
      have hn:=iH i iQ
      by_cases cI:a1.Id<(nth a0.ZB i).Id
      · have e1:X4 a0 a1 (m+1) i=i:=by
          simp only[X4,hc,show decide ((nth a0.ZB i).Id<a1.Id)=false by simp;omega,Bool.true_and,cond_false]
        rw[e1]
        refine⟨Nat.le_refl _,zAA,?_⟩
        simp only[Qq,hc,show decide (a1.Id<(nth a0.ZB i).Id)=true by simpa using cI,Bool.not_false,Bool.true_and,cond_true]
        rw[oh a0 a1 m (i+1) _ zAA iQ,show decide (i<a0.ZB.length)=true by simpa using iQ,GM iQ,List.drop_eq_nil_of_le (as:=a0.ZB.take i) zA6]
        simp
      · have h2:(nth a0.ZB i).Id<a1.Id:=zAA
        have e1:X4 a0 a1 (m+1) i=X4 a0 a1 m (i+1):=by
          simp only[X4,hc,show decide ((nth a0.ZB i).Id<a1.Id)=true by simpa using h2,Bool.true_and,cond_true]
        rw[e1]
        obtain⟨k1,k2,k3⟩:=oY a0 a1 iH m (i+1) (l++[nth a0.ZB i]) zAA iQ
        refine⟨zAA,k2,?_⟩
        simp only[Qq,hc,show decide (a1.Id<(nth a0.ZB i).Id)=false by simpa using cI,Bool.not_false,Bool.true_and,cond_true,cond_false]
        rw[k3]
        have ht:(a0.ZB.take (X4 a0 a1 m (i+1))).drop i=nth a0.ZB i::(a0.ZB.take (X4 a0 a1 m (i+1))).drop (i+1):=by
          have bH:i<(a0.ZB.take (X4 a0 a1 m (i+1))).length:=zAo
          rw[GM bH]
          congr 1
          simp only[nth,List.getD_eq_getElem?_getD]
          rw[List.getElem?_take_of_lt zAA]
        grind
    · have hc:decide ((i:Int)<(a0.ZB.length:Int))=false:=by simpa using iQ
      have e1:X4 a0 a1 (m+1) i=i:=by simp only[X4,hc,Bool.false_and,cond_false]
      rw[e1]
      refine⟨Nat.le_refl _,zAA,?_⟩
      simp only[Qq,hc,cond_false]
      grind
theorem IT(h:ZZ a0 s<0):∀k,k<a0.ZB.length->(nth a0.ZB k).Id≠s:=by
  unfold ZZ at h;intro k hk;rcases xj (β:=Int) (L:=zm a0 s) (len:=a0.ZB.length) (c:=fun v=>(nth a0.ZB v).Id==s) (r:=fun v=>(v:Int)) (fun _=>rfl) (fun _ _=>rfl) (a0.ZB.length+1) 0 zAA with⟨e,h2⟩|⟨i,e,_,_,hc,_⟩
  · simpa using h2 k (Nat.zero_le _) hk
  · rw[e]at h;simp at h;omega
@[simp] theorem Sp (a0 : ZE) (a1 : ZN) : JO a0 a1 = YZ a0 a1 := by
  simp only[JO,YZ,PU,TW];rw[Bool.or_comm];cases hc:(decide (ZZ a0 a1.Id>=0)||!Ys a0)with
  |true=>rfl
  |false=>
    have hf:ZZ a0 a1.Id<0:=by simp at hc;exact hc.1
    obtain⟨_,k2,k3⟩:=oY a0 a1 (IT hf) (a0.ZB.length+1) 0 [] zAA (Nat.zero_le _);grind
@[simp] theorem rb (a0 : ZF) (a1 a2 : Int) (a3 : ZR) (a4 a5 : Int) : jm a0 a1 a2 a3 a4 a5 = Ja a0 a1 a2 a3 a4 a5 := by
  unfold jm Ja;simp only[W4,Vk,Sp];rw[Ls,<-pD];cases decide (Z6 a0.Frame.Zt a2<0)<;>cases(YG a0 a1)<;>cases decide ((nth a0.Frame.Zt (Z6 a0.Frame.Zt a2).toNat).VO>a0.Frame.Now)<;>rfl
@[simp] theorem rf (a0 : ZF) (a1 : Int) : ∀ (n : Nat) (v0 : Nat), js a0 a1 n v0 = qE a0 a1 n v0 := by
  intro n;induction n with
  |zero=>intros;rfl
  |succ n ih=>intros;simp[js,qE,ih,ByteArray.append_assoc]
@[simp] theorem TA (a0 : ZF) (a1 : Int) : ZH a0 a1 = ZK a0 a1 := by simp [ZH, ZK]
@[simp] theorem u9 (a0 : ZT) : Qy a0 = Yp a0 := by
  simp only[Qy,Yp,Vp];grind
@[simp] theorem Rp (a0 : ZT) : Zg a0 = YD a0 := by simp [Zg, YD]
@[simp] theorem tH (a0 : List YN) (a1 : Int) : ∀ (n : Nat) (v0 : Nat), ql a0 a1 n v0 = xQ a0 a1 n v0 := by
  intro n;induction n with
  |zero=>intros;rfl
  |succ n ih=>intros;simp[ql,xQ,ih,ByteArray.append_assoc]
@[simp] theorem ON (a0 : List YN) (a1 : Int) : YA a0 a1 = Xy a0 a1 := by simp [YA, Xy]
@[simp] theorem re (a0 : Zp) : Un a0 = WB a0 := by simp [Un, WB]
@[simp] theorem tK (a0 : Zp) : KQ a0 = Jr a0 := by simp [KQ, Jr]
@[simp] theorem RL (a0 : List Y4) (a1 : Zp) : Yv a0 a1 = YT a0 a1 := by
  by_cases h:Z6 a0 a1.Z4<0<;>simp[Yv,YT,zS,h]
theorem M3{a0:List Y4}{a1:Zp}(h:(YT a0 a1).2=true):0<=Z6 a0 a1.Z4:=by
  have:=Zf (a0:=a0) (a1:=a1) zBh;simpa using this
@[simp] theorem T6 (a0 : Zp) : XS a0 = Yq a0 := by simp [XS, Yq]
@[simp] theorem rl (a0 : ZW) (a1 : ZT) : xH a0 a1 = Qr a0 a1 := by simp [xH, Qr]
@[simp] theorem PZ (a0 : ZE) (a1 : Int) (a2 : ZT) : QN a0 a1 a2 = Xl a0 a1 a2 := by simp [QN, Xl]
@[simp] theorem tD (a0 : ZF) (a1 : Int) : xP a0 a1 = JA a0 a1 := by
  unfold xP JA YP;simp only[TA,Rp,ON,Vk,RL,PZ,T6];cases h1:((decide ((ZK a0 a1).1<0))||(decide (((nth (nth a0.ZA (ZK a0 a1).1.toNat).ZB (ZK a0 a1).2.toNat).ZG.ZI.length:Int)<2)))with
  |true=>rfl
  |false=>
    simp only[cond_false];generalize YD (nth (nth (nth a0.ZA (ZK a0 a1).1.toNat).ZB (ZK a0 a1).2.toNat).ZG.ZI 1)=p;rw[ID,show(!(decide (Xy a0.Zd p.1.Za>=0)))=decide (Xy a0.Zd p.1.Za<0)by rw[<-decide_not];simp];cases h2:((!p.2||decide (Xy a0.Zd p.1.Za<0))||decide (Xy a0.Zd p.1.Za>=(a0.Zw.length:Int)))with
    |true=>rfl
    |false=>
      simp only[cond_false];have hn:0<=Xy a0.Zd p.1.Za:=by simp at h2;exact h2.1.2
      rw[Od _ _ hn];have key:∀(n:Nat)(st:Zp),st.Z4=(nth a0.Zd n).Z4->
          (bif((!(YT a0.Frame.Zt st).2)||(decide ((nth a0.Frame.Zt (Z6 a0.Frame.Zt (nth a0.Zd n).Z4).toNat).VO>a0.Frame.Now)))then(a0,false)else(ZF.mk a0.Frame a0.Zd a0.Zw (a0.ZA.set (ZK a0 a1).1.toNat (Xl (nth a0.ZA (ZK a0 a1).1.toNat) a1 (Yq (YT a0.Frame.Zt st).1)).1) a0.Y2 a0.Yc a0.Next a0.YL,(Xl (nth a0.ZA (ZK a0 a1).1.toNat) a1 (Yq (YT a0.Frame.Zt st).1)).2))=
          (bif((decide (Z6 a0.Frame.Zt (nth a0.Zd n).Z4<0))||(decide ((nth a0.Frame.Zt (Z6 a0.Frame.Zt (nth a0.Zd n).Z4).toNat).VO>a0.Frame.Now)))then(a0,false)else((Qi a0 (ZK a0 a1).1 a1 st).1,(Qi a0 (ZK a0 a1).1 a1 st).2)):=by
        intro n st hC;rw[<-DN];cases hb:decide ((nth a0.Frame.Zt (Z6 a0.Frame.Zt (nth a0.Zd n).Z4).toNat).VO>a0.Frame.Now)with
        |true=>simp
        |false=>
          cases hm:(YT a0.Frame.Zt st).2 with
          |false=>simp
          |true=>
            have hp:=M3 hm;rw[hC]at hp;rw[show decide (Z6 a0.Frame.Zt (nth a0.Zd n).Z4<0)=false by simp;exact hp];rfl
      grind
@[simp] theorem tL (a0 : ZF) (a1 : Int) : xL a0 a1 = QS a0 a1 := by simp [xL, QS]
@[simp] theorem AW (a0 : List Zi) (a1 : Int) : ∀ (n : Nat) (v0 : Nat), Km a0 a1 n v0 = Jx a0 a1 n v0 := by
  intro n;induction n with
  |zero=>intros;rfl
  |succ n ih=>intros;simp[Km,Jx,ih,ByteArray.append_assoc]
@[simp] theorem jv (a0 : List Zi) (a1 : Int) : Zj a0 a1 = ZY a0 a1 := by simp [Zj, ZY]
@[simp] theorem tv (a0 : Zm) : zH a0 = Jg a0 := by simp [zH, Jg]
@[simp] theorem B5 (a1 : Zb) : ∀ (n : Nat) (v0 : List Int) (v1 : Nat), yC a1 n v0 v1 = zo a1 n v0 v1 := by
  intro n;induction n with
  |zero=>intros;rfl
  |succ n ih=>intros;simp[yC,zo,ih,ByteArray.append_assoc]
@[simp] theorem AZ (a1 : Zb) : ∀ (n : Nat) (v0 : List Int) (v1 : Nat), Kk a1 n v0 v1 = Kj a1 n v0 v1 := by
  intro n;induction n with
  |zero=>intros;rfl
  |succ n ih=>intros;simp[Kk,Kj,ih,ByteArray.append_assoc]
@[simp] theorem NA (a0 : Int) (a1 : Zb) : Kq a0 a1 = JX a0 a1 := by simp [Kq, JX]
@[simp] theorem Ad (a0 : Int) (a1 : List ZT) : ∀ (n : Nat) (v0 : List Int) (v1 : Nat), yu a0 a1 n v0 v1 = yb a0 a1 n v0 v1 := by
  intro n;induction n with
  |zero=>intros;rfl
  |succ n ih=>intros;simp[yu,yb,ih,ByteArray.append_assoc]
@[simp] theorem vH (a0 : Int) (a1 : List ZT) : Kg a0 a1 = Ki a0 a1 := by simp [Kg, Ki]
@[simp] theorem AP (a0 : Int) (a1 : Int) (a2 : List ZT) (a3 : Int) : SL a0 a1 a2 a3 = Wz a0 a1 a2 a3 := by simp [SL, Wz]
theorem Mu(a0:ZW)(a1:ZR):JW a0 a1=a0.ZM.map (fun c=>JN c.Method a1):=by
  have:=PS (as:=a0.ZM) (fun c=>[JN c.Method a1]) (F:=fun n i l=>Kh a0 a1 n l i) (fun _ _ _=>rfl) (a0.ZM.length+1) 0 [] zAA (Nat.zero_le _);unfold JW;rw[this,List.drop_zero,H4];rfl
theorem Bb{α:Type}[Inhabited α](l:List α)(x:α):nth (l++[x]) l.length=x:=by simp[nth]
theorem wP{α:Type}[Inhabited α](l:List α)(x:α)(h:i<l.length):nth (l++[x]) i=nth l i:=by simp[nth,List.getD_eq_getElem?_getD,List.getElem?_append_left h]
theorem Bj(x:ZN)(a1:Int)(h:Sm maxLen x)(r:Zb)(hr:r=Zb.mk (x.ZG.ZI.length:Int) a1 0 [] []):
    W0 (ZW.mk x.ZG.ZI (x.ZG.ZM++[r])) (JW (ZW.mk x.ZG.ZI (x.ZG.ZM++[r])) x.Doc) (W (((x.ZG.ZM++[r]).length:Int)-1))=Q6 x a1:=by
  have hl:x.ZG.ZM.length<=maxLen:=YQ (ZW.zR (ZN.XY h))
  have hm:maxLen=9223372036854775807:=zAD
  have e1:W (((x.ZG.ZM++[r]).length:Int)-1)=(x.ZG.ZM.length:Int):=by
    rw[List.length_append,List.length_singleton,show((x.ZG.ZM.length+1:Nat):Int)-1=(x.ZG.ZM.length:Int)by omega,Y0];omega
  have e2:nth (x.ZG.ZM++[r]) x.ZG.ZM.length=r:=Bb _ _
  have e3:nth ((x.ZG.ZM++[r]).map (fun c=>Yb c.Method x.Doc)) x.ZG.ZM.length=Yb r.Method x.Doc:=by rw[List.map_append];have:=Bb (x.ZG.ZM.map (fun c=>Yb c.Method x.Doc)) (Yb r.Method x.Doc);rw[List.length_map]at this;exact this
  have e4:r.Count=(x.ZG.ZI.length:Int):=by rw[hr]
  have e5:r.Method=a1:=by rw[hr]
  unfold W0 Q6
  rw[e1,Mu]
  simp only[Int.toNat_natCast,e1,e2,e3,e4,e5,Vp,ZX,List.length_map,bne_self_eq_false,Int.le_refl,decide_true,Bool.and_true,Int.natCast_nonneg,Bool.not_true,Bool.or_false,cond_false,List.take_length,AP,Rj,NA]
  by_cases hz:0<x.ZG.ZM.length
  · have e6:W ((x.ZG.ZM.length:Int)-1)=((x.ZG.ZM.length-1:Nat):Int):=by rw[Mt _ zAA];omega
    rw[e6,Int.toNat_natCast,wP _ _ zAA]
  · grind
theorem Ln(a0:ZE)(a1:Int)(h:Sm maxLen a0):∀n l i,KR a0 a1 n l i=xo a0 a1 n l i
  |0,_,_=>rfl
  |n+1,l,i=>by simp only[KR,xo,Ln a0 a1 h n,Bj (nth a0.ZB i) a1 (Zr (ZE.YO h)) _ rfl]
@[simp] theorem PJ (a0 : ZE) (a1 : Int) (h : Sm maxLen a0) : YS a0 a1 = Xn a0 a1 := by
  simp only[YS,Xn,Ln a0 a1 h]
@[simp] theorem HS (a0 : Int) (a1 : Int) (a2 : Int) : ko a0 a1 a2 = xK a0 a1 a2 := by simp [ko, xK]
theorem Nh(a0:Int)(a1:List Int):∀n v i,kG a0 a1 n v i=Kc a0 a1 n v i
  |0,_,_=>rfl
  |n+1,v,i=>by simp only[kG,Kc,Nh a0 a1 n,HS]
@[simp] theorem wF (a0 : Int) (a1 : List Int) : Wa a0 a1 = KP a0 a1 := by simp only [Wa, KP, Nh]
@[simp] theorem tE (a0 : Int) : ∀ (n : Nat) (v0 : List Int), kc a0 n v0 = kU a0 n v0 := by
  intro n;induction n with
  |zero=>intros;rfl
  |succ n ih=>intros;simp[kc,kU,ih,ByteArray.append_assoc]
@[simp] theorem Tu (a0 : Int) (a1 : List Int) : Kt a0 a1 = jt a0 a1 := by simp [Kt, jt]
@[simp] theorem CU (a0 : ZE) (a1 : Int) (h : Sm maxLen a0) : yx a0 a1 = QO a0 a1 := by
  simp only[yx,QO,PJ a0 a1 h,Tu]
theorem NQ(a0:List Int)(a1:Int):QM a0 a1=true↔∃i,0<=i/\i<a0.length/\(nth a0 i==a1)=true:=by
  unfold QM Pe;rcases xj (L:=U1 a0 a1) (r:=fun i=>(i:Int)) (fun _=>rfl) (fun _ _=>rfl) (a0.length+1) 0 zAA with⟨e,p⟩|⟨i,e,p1,p2,p3,p4⟩
  · grind
  · grind
@[simp] theorem GG (a0 : List Int) (a1 : Int) : Pv a0 a1 = QM a0 a1 := by
  rw[Bool.eq_iff_iff,NQ];exact Pq (L:=Pd a0 a1) (fun _=>rfl) (fun _ _=>rfl) (a0.length+1) 0 zAA
@[simp] theorem PM (a0 : List Y4) (a1 : List Zi) (a2 : Zm) : Kd a0 a1 a2 = Xk a0 a1 a2 := by
  simp[Kd,Xk,zS];grind
theorem S9(a0:Int):∀n i o l,Ky a0 n i o l=Kz a0 n l i o
  |0,_,_,_=>rfl
  |n+1,i,o,l=>by simp only[Ky,Kz,S9 a0 n,wF]
@[simp] theorem F4 (a0 : Int) (a1 : List Int) (a2 : Int) : za a0 a1 a2 = JH a0 a1 a2 := by
  simp only[za,JH,S9,Vp];rw[Bool.or_comm]
@[simp] theorem S7 (a0 : ZW) (a1 : Zb) : JD a0 a1 = Y9 a0 a1 := by simp [JD, Y9]
theorem Oi(a0:ZE)(a1:Int)(a2:List Zm)(n v:Nat)(l:List ZN):J7 a0 a1 a2 (n+1) false v l=(false,l):=by
  simp only[J7,Bool.and_false,XE]
theorem En(a0:ZE)(a1:Int)(a2:List Zm)(h:Sm maxLen a0):∀n v l,a0.ZB.length<n+v->v<=a0.ZB.length->(∃z,Xz a0 a1 a2 n v l= .inr z/\J7 a0 a1 a2 n true v l=(true,z))\/(Xz a0 a1 a2 n v l= .inl (a0,false)/\(J7 a0 a1 a2 n true v l).1=false)
  |0,v,l,h1,h2=>zAA
  |n+1,v,l,h1,h2=>by
    simp only[J7,Xz,Bool.and_true,QO,PJ a0 a1 h,Tu,F4,S7]
    by_cases hi:v<a0.ZB.length
    · rw[show decide ((v:Int)<(a0.ZB.length:Int))=true by simpa using hi,XA,XA]
      cases hb:(Y9 (nth a0.ZB v).ZG (Zb.mk ((nth a0.ZB v).ZG.ZI.length:Int) a1 (jt a1 (Xn a0 a1)) (JH a1 (Xn a0 a1) (v:Int)) a2)).2
      · obtain⟨m,rfl⟩:∃m,n=m+1:=⟨n-1,zAA⟩
        rw[Oi]
        exact .inr ⟨rfl,rfl⟩
      · exact En a0 a1 a2 h n (v+1) _ zAA hi
    · grind
@[simp] theorem LB (a0 : ZE) (a1 : Int) (a2 : List Zm) (h : Sm maxLen a0) : Qv a0 a1 a2 = XK a0 a1 a2 := by
  unfold Qv XK;simp only[PU];by_cases hl:0<a0.ZB.length
  · have e1:decide ((a0.ZB.length:Int)>0)=true:=decide_eq_true zAA;have e2:((a0.ZB.length:Int)==0)=false:=beq_eq_false_iff_ne.2 zAA;rw[e1,e2];cases Ys a0
    · rw[Bool.false_and,Oi];rfl
    · rcases En a0 a1 a2 h (a0.ZB.length+1) 0 a0.ZB zAA (Nat.zero_le _)with⟨z,q1,q2⟩|⟨q1,q2⟩
      · rw[Bool.true_and,q1,q2];rfl
      · grind
  · have e1:decide ((a0.ZB.length:Int)>0)=false:=decide_eq_false zAA;have e2:((a0.ZB.length:Int)==0)=true:=beq_iff_eq.2 zAA;rw[e1,e2,Bool.and_false,Oi];rfl
theorem Uh(h:0<=ZY a d):(nth a (ZY a d).toNat).Id=d:=by
  unfold ZY at h⊢;rcases xj (L:=Jx a d) (len:=a.length) (c:=fun i=>(nth a i).Id==d) (r:=fun i=>(i:Int)) (fun _=>rfl) (fun _ _=>rfl) (a.length+1) 0 zAA with⟨e,_⟩|⟨i,e,_,_,k,_⟩
  · rw[e]at h;simp at h
  · rw[e];simpa using k
def H0(a0:ZF)(d:Int):Bool:=!((decide (ZY a0.Frame.ZC d<0)||decide (ZY a0.Frame.ZC d>=(a0.Y2.length:Int)))||(decide (Z6 a0.Frame.Zt (nth a0.Frame.ZC (ZY a0.Frame.ZC d).toNat).Key<0)||decide ((nth a0.Frame.Zt (Z6 a0.Frame.Zt (nth a0.Frame.ZC (ZY a0.Frame.ZC d).toNat).Key).toNat).VO>a0.Frame.Now)))
theorem SR(a0:ZF)(a1:List Int):yB a0 a1=true↔(∀i,0<=i->i<a1.length->H0 a0 (nth a1 i)=true/\(0<i->nth a1 (i-1)<nth a1 i))/\0<a1.length:=by
  have:=Jj (L:=jo a0 a1) (len:=a1.length) (c:=fun v=>(((decide (Zj a0.Frame.ZC (nth a1 v)<0))||(decide (Zj a0.Frame.ZC (nth a1 v)>=(a0.Y2.length:Int))))||((decide ((v:Int)>0))&&(decide (nth a1 (v-1)>=nth a1 v))))||((decide (Yk a0.Frame.Zt (nth a0.Frame.ZC (Zj a0.Frame.ZC (nth a1 v)).toNat).Key<0))||(decide ((nth a0.Frame.Zt (Yk a0.Frame.Zt (nth a0.Frame.ZC (Zj a0.Frame.ZC (nth a1 v)).toNat).Key).toNat).VO>a0.Frame.Now))))
    (fun _=>rfl) (fun n v=>by
      simp only[jo];cases(((decide (Zj a0.Frame.ZC (nth a1 v)<0))||(decide (Zj a0.Frame.ZC (nth a1 v)>=(a0.Y2.length:Int))))||((decide ((v:Int)>0))&&(decide (nth a1 (v-1)>=nth a1 v))))<;>rfl) (a1.length+1) 0 zAA (decide ((a1.length:Int)>0))
  unfold yB;refine Iff.trans this ?_;constructor
  · rintro⟨h1,h2⟩;refine⟨fun i h0 hi=>?_,by simpa using h2⟩;have:=h1 i h0 hi
    simp only[jv,Vk,Bool.or_eq_false_iff,Bool.and_eq_false_iff,decide_eq_false_iff_not]at this;obtain⟨⟨⟨q1,q2⟩,q3⟩,q4,q5⟩:=this;refine⟨?_,fun h=>?_⟩
    · simp only[H0,Bool.not_eq_true',Bool.or_eq_false_iff,decide_eq_false_iff_not];exact⟨⟨q1,q2⟩,q4,q5⟩
    · rcases q3 with q3|q3<;>omega
  · rintro⟨h1,h2⟩;refine⟨fun i h0 hi=>?_,by simpa using h2⟩;obtain⟨q,q3⟩:=h1 i h0 hi;simp only[H0,Bool.not_eq_true',Bool.or_eq_false_iff,decide_eq_false_iff_not]at q;simp only[jv,Vk,Bool.or_eq_false_iff,Bool.and_eq_false_iff,decide_eq_false_iff_not];grind
theorem G3(a1:List Int):Qe a1=true↔∀i,0<i->i<a1.length->nth a1 (i-1)<nth a1 i:=by
  have:=Jj (L:=jM a1) (len:=a1.length) (c:=fun v=>decide (nth a1 (v-1)>=nth a1 v)) (fun _=>rfl) (fun _ _=>rfl) (a1.length+1) 1 zAA true;unfold Qe;grind
theorem Pr{a1:List Int}(h:∀i,0<i->i<a1.length->nth a1 (i-1)<nth a1 i):∀d v,0<d->v+d<a1.length->nth a1 v<nth a1 (v+d)
  |0,_,h0,_=>zAA
  |1,v,_,hv=>h (v+1) zAA hv
  |d+2,v,_,hv=>by
    have h1:=Pr h (d+1) v zAA zAA
    grind
theorem tX(w:Int):W3 10000 (qB 0 w)=(if(if w<10000 then w else 10000)>0 then(if w<10000 then w else 10000)else 0):=by
  unfold W3 qB;grind
theorem wg{α:Type}[Inhabited α](l:List α)(x:α){j:Nat}(h:i≠j):nth (l.set i x) j=nth l j:=by simp[nth,List.getD_eq_getElem?_getD,List.getElem?_set_ne h]
theorem LG(a0:ZF)(a1:Int)(a2:List Int)(a3:Int):∀n l v q,a2.length<n+v->v<=a2.length->(∃k,v<=k/\k<a2.length/\H0 a0 (nth a2 k)=false)->Xh a0 a1 a2 a3 n l v q= .inl (a0,false)
  |0,_,_,_,h1,h2,_=>zAA
  |n+1,l,v,q,h1,h2,⟨k,k1,k2,k3⟩=>by
    have hv:v<a2.length:=zAA
    simp only[Xh]
    rw[show decide ((v:Int)<(a2.length:Int))=true by simpa using hv,XA]
    cases hA:((decide (ZY a0.Frame.ZC (nth a2 v)<0))||(decide (ZY a0.Frame.ZC (nth a2 v)>=(a0.Y2.length:Int))))
    · rw[XE]
      cases hB:((decide (Z6 a0.Frame.Zt (nth a0.Frame.ZC (ZY a0.Frame.ZC (nth a2 v)).toNat).Key<0))||(decide ((nth a0.Frame.Zt (Z6 a0.Frame.Zt (nth a0.Frame.ZC (ZY a0.Frame.ZC (nth a2 v)).toNat).Key).toNat).VO>a0.Frame.Now)))
      · rw[XE]
        have hk:∃k,v+1<=k/\k<a2.length/\H0 a0 (nth a2 k)=false:=by
          refine⟨k,?_,k2,k3⟩
          rcases Nat.eq_or_lt_of_le k1 with rfl|k1
          · unfold H0 at k3;rw[hA,hB]at k3;simp at k3
          · exact k1
        rw[LG a0 a1 a2 a3 n _ (v+1) _ zAA hv hk,LG a0 a1 a2 a3 n _ (v+1) _ zAA hv hk]
        simp
      · rfl
    · rfl
theorem GW(a0:ZF)(a1:Int)(a2:List Int)(a3:Int)(h:Sm maxLen a0)(hr:∀i,0<i->i<a2.length->nth a2 (i-1)<nth a2 i)(iz:∀k,k<a2.length->H0 a0 (nth a2 k)=true):∀n l v q,a2.length<n+v->v<=a2.length->(∀k,v<=k->k<a2.length->nth q (ZY a0.Frame.ZC (nth a2 k)).toNat=nth a0.Y2 (ZY a0.Frame.ZC (nth a2 k)).toNat)->
    Xh a0 a1 a2 a3 n l v q=(match yS a0 a1 a2 a3 n l v with|.inl r=>.inl r|.inr z=>.inr (z,jN a0 a2 n v q))
  |0,_,_,_,h1,h2,_=>zAA
  |n+1,l,v,q,h1,h2,hq=>by
    simp only[Xh,yS,jN,GG,PM,jv,zh,CU _ _ (Zr (ZF.YR h)),tX]
    by_cases hv:v<a2.length
    · rw[show decide ((v:Int)<(a2.length:Int))=true by simpa using hv,XA,XA,XA]
      have ho:=iz v hv
      unfold H0 at ho
      rw[Bool.not_eq_true',Bool.or_eq_false_iff]at ho
      rw[ho.1,ho.2,XE,XE,hq v (Nat.le_refl _) hv]
      have ih:=fun l=>GW a0 a1 a2 a3 h hr iz n l (v+1) (q.set (ZY a0.Frame.ZC (nth a2 v)).toNat (W (nth a0.Y2 (ZY a0.Frame.ZC (nth a2 v)).toNat+1))) zAA hv (fun k k1 k2=>by
        rw[wg,hq k zAA k2]
        intro e
        have p1:0<=ZY a0.Frame.ZC (nth a2 v):=by
          grind
        have p2:0<=ZY a0.Frame.ZC (nth a2 k):=by
          have:=iz k k2;unfold H0 at this;simp only[Bool.not_eq_true',Bool.or_eq_false_iff,decide_eq_false_iff_not]at this;omega
        have e1:=Uh p1
        have e2:=Uh p2
        rw[e,e2]at e1
        have:=Pr hr (k-v) v zAA zAA
        rw[show v+(k-v)=k by omega]at this
        omega)
      grind
    · grind
@[simp] theorem rO (a0 : ZF) (a1 : Int) (a2 : List Int) (a3 : Int) (h : Sm maxLen a0) : qY a0 a1 a2 a3 = Qd a0 a1 a2 a3 := by
  unfold qY Qd;simp only[W4,zh,Vp];cases hg:YG a0 a1
  · rfl
  cases hb:decide (ZS a0.Frame.Methods a0.Frame.Now<0);rotate_left
  · simp
  cases hi:ZX a3 (-10000) 10000
  · simp
  simp only[Bool.not_true,Bool.false_or,Bool.or_false];cases hr:Qe a2
  · have:yB a0 a2=false:=by
      cases hs:yB a0 a2 with
      |false=>rfl
      |true=>
        have:=(SR a0 a2).1 hs;have h2:=(G3 a2).2 (fun i h0 hi=>(this.1 i (Nat.zero_le _) hi).2 h0);rw[hr]at h2;cases h2
    rw[this];rfl
  have hrr:=(G3 a2).1 hr;by_cases hl:0<a2.length;rotate_left
  · have:yB a0 a2=false:=by
      cases hs:yB a0 a2 with
      |false=>rfl
      |true=>exact absurd ((SR a0 a2).1 hs).2 hl
    grind
  have e:((a2.length:Int)==0)=false:=beq_eq_false_iff_ne.2 zAA;rw[e];by_cases iz:∀k,k<a2.length->H0 a0 (nth a2 k)=true
  · have hs:yB a0 a2=true:=(SR a0 a2).2 ⟨fun i _ hi=>⟨iz i hi,fun h0=>hrr i h0 hi⟩,hl⟩;rw[hs,GW a0 a1 a2 a3 h hrr iz (a2.length+1) [] 0 a0.Y2 zAA (Nat.zero_le _) (fun _ _ _=>rfl)];simp only[Bool.not_true,Bool.or_false,XE];cases yS a0 a1 a2 a3 (a2.length+1) [] 0 with
    |inl r=>rfl
    |inr z=>simp only[LB _ _ _ (Zr (ZF.YR h))]
  · have hs:yB a0 a2=false:=by
      cases hs:yB a0 a2 with
      |false=>rfl
      |true=>exact absurd (fun k hk=>(((SR a0 a2).1 hs).1 k (Nat.zero_le _) hk).1) iz
    have hx:∃k,0<=k/\k<a2.length/\H0 a0 (nth a2 k)=false:=by
      grind
    rw[hs,LG a0 a1 a2 a3 (a2.length+1) [] 0 a0.Y2 zAA (Nat.zero_le _) hx];rfl
@[simp] theorem vz (a0 : Int) (a1 : ZN) : ∀ (n : Nat) (v0 : List Int) (v1 : Nat), qI a0 a1 n v0 v1 = qF a0 a1 n v0 v1 := by
  intro n;induction n with
  |zero=>intros;rfl
  |succ n ih=>intros;simp[qI,qF,ih,ByteArray.append_assoc]
@[simp] theorem Io (a0 : Int) (a1 : ZN) : kQ a0 a1 = kn a0 a1 := by simp [kQ, kn]
theorem R3(a0:Int)(a1:List ZN):∀n v i,Wr a0 a1 n v i=yG a0 a1 n v i
  |0,_,_=>rfl
  |n+1,v,i=>by simp only[Wr,yG,R3 a0 a1 n,Io]
@[simp] theorem pw (a0 : Int) (a1 : List ZN) : Vx a0 a1 = QW a0 a1 := by
  simp only[Vx,QW,R3,Tu]
@[simp] theorem vv (a0 : ZE) (a2 : List Int) : ∀ (n : Nat) (v0 : Nat) (v1 : List ZN), J2 a0 a2 n v0 v1 = Qp a0 a2 n v0 v1 := by
  intro n;induction n with
  |zero=>intros;rfl
  |succ n ih=>intros;simp[J2,Qp,ih,ByteArray.append_assoc]
@[simp] theorem RE (a0 : ZE) (a1 : Int) (a2 : List Int) (a3 : Int) : X3 a0 a1 a2 a3 = Y6 a0 a1 a2 a3 := by simp [X3, Y6]
@[simp] theorem wG (a0 : Yl) : ∀ (n : Nat) (v0 : Nat), KC a0 n v0 = KB a0 n v0 := by
  intro n;induction n with
  |zero=>intros;rfl
  |succ n ih=>intros;simp[KC,KB,ih,ByteArray.append_assoc]
@[simp] theorem LZ (a0 : Yl) (a1 : Int) : zG a0 a1 = Qz a0 a1 := by simp [zG, Qz]
theorem Lp(a1:Yl)(n v:Nat)(d:Int)(l:List ZN):(Jk a1 (n+1) false v d l).1=false:=by
  simp only[Jk,Bool.and_false,XE]
theorem IG(a0:ZE)(a1:Yl):∀n v d l,a1.ZB.length<n+v->v<=a1.ZB.length->
    (∃z,QK a0 a1 n v d l= .inr z/\Jk a1 n true v d l=(true,z))\/(QK a0 a1 n v d l= .inl (a0,false)/\(Jk a1 n true v d l).1=false)
  |0,v,d,l,h1,h2=>zAA
  |n+1,v,d,l,h1,h2=>by
    simp only[Jk,QK,Bool.and_true,Sp]
    by_cases hi:v<a1.ZB.length
    · rw[show decide ((v:Int)<(a1.ZB.length:Int))=true by simpa using hi,XA,XA]
      cases hb:(YZ (ZE.mk d l) (nth a1.ZB v)).2
      · obtain⟨m,rfl⟩:∃m,n=m+1:=⟨n-1,zAA⟩
        exact .inr ⟨rfl,Lp _ _ _ _ _⟩
      · exact IG a0 a1 n (v+1) _ _ zAA hi
    · grind
@[simp] theorem Nc (a0 : ZE) (a1 : Yl) (a2 : Int) : Qo a0 a1 a2 = XL a0 a1 a2 := by
  unfold Qo XL;simp only[LZ];have hc:((!(Qz a1 a2))||(a1.To !=a0.Id))=!(Qz a1 a2&&(a1.To==a0.Id)):=by
    cases Qz a1 a2<;>simp[bne]
  rw[hc];cases(Qz a1 a2)&&(a1.To==a0.Id)with
  |false=>
    have:=Lp a1 a1.ZB.length 0 a0.Id a0.ZB;grind
  |true=>
    rcases IG a0 a1 (a1.ZB.length+1) 0 a0.Id a0.ZB zAA (Nat.zero_le _)with⟨z,h1,h2⟩|⟨h1,h2⟩
    · rw[h1,h2]
    · grind
theorem Md(a0:ZE)(a1:Int)(k:Nat)(hk:ZZ a0 a1=(k:Int))(hkl:k<a0.ZB.length):∀n v l,v<=a0.ZB.length->a0.ZB.length<n+v->
    Kw a0 a1 n v l=l++(if v<=k then(a0.ZB.take k).drop v++a0.ZB.drop (k+1)else a0.ZB.drop v)
  |0,v,l,h1,h2=>zAA
  |n+1,v,l,h1,h2=>by
    rw[Kw]
    simp only[TW,hk]
    by_cases hv:v<a0.ZB.length
    · rw[show decide ((v:Int)<(a0.ZB.length:Int))=true by simpa using hv,XA]
      by_cases hvk:v=k
      · subst hvk
        rw[show((v:Int)!=(v:Int))=false by simp,XE,Md a0 a1 v hk hkl n (v+1) l hv zAA,if_neg zAA,if_pos (Nat.le_refl _)]
        grind
      · have iH:((v:Int)!=(k:Int))=true:=zAo
        rw[iH,XA,Md a0 a1 k hk hkl n (v+1) _ hv zAA]
        by_cases iQ:v<k
        · rw[if_pos zAA,if_pos zAA]
          have ht:(a0.ZB.take k).drop v=nth a0.ZB v::(a0.ZB.take k).drop (v+1):=by
            rw[Pl (l:=a0.ZB.take k) (i:=v) zA6]
            congr 1
            simp[nth,List.getD_eq_getElem?_getD,List.getElem?_take,iQ]
          rw[ht];simp
        · rw[if_neg zAA,if_neg zAA,Pl hv];simp
    · grind
theorem EJ(a0:ZE)(a1:Int)(h:Sm maxLen a0):yK a0 a1=QG a0 a1:=by
  unfold yK QG;simp only[TW];by_cases hk:ZZ a0 a1<0
  · rw[decide_eq_true hk,XA,XA]
  · rw[decide_eq_false hk,XE,XE];have hf:=Jn a0 a1
    have hl:=YQ (ZE.YO h);have hm:maxLen=9223372036854775807:=zAD;have w:W (ZZ a0 a1+1)=ZZ a0 a1+1:=YX zAA zAA;rw[w,Md a0 a1 (ZZ a0 a1).toNat zAA zAA (a0.ZB.length+1) 0 [] (Nat.zero_le _) zAA,if_pos (Nat.zero_le _),show(ZZ a0 a1+1).toNat=(ZZ a0 a1).toNat+1 by omega];simp
theorem E6(a0 a1:ZE)(a2:List Int)(a3:Int)(n v:Nat)(d:Int)(l:List ZN):(zC a0 a1 a2 a3 (n+1) false v d l).1=false:=by
  simp only[zC,Bool.and_false,XE]
theorem Da(a0 a1:ZE)(a2:List Int)(a3:Int)(hm:(Y6 a0 a1.Id a2 a3).2=true):∀n v d l,Sm maxLen (ZE.mk d l)->a2.length<n+v->v<=a2.length->
    (∃z,QY a0 a1 a2 n v d l= .inr z/\zC a0 a1 a2 a3 n true v d l=(true,z))\/(QY a0 a1 a2 n v d l= .inl (a0,a1,false)/\(zC a0 a1 a2 a3 n true v d l).1=false)
  |0,v,d,l,_,h1,h2=>zAA
  |n+1,v,d,l,hs,h1,h2=>by
    simp only[zC,QY,Bool.and_true,RE,hm,EJ _ _ hs]
    by_cases hi:v<a2.length
    · rw[show decide ((v:Int)<(a2.length:Int))=true by simpa using hi,XA,XA]
      cases hb:(QG (ZE.mk d l) (nth a2 v)).2
      · obtain⟨m,rfl⟩:∃m,n=m+1:=⟨n-1,zAA⟩
        exact .inr ⟨rfl,E6 _ _ _ _ _ _ _ _⟩
      · exact Da a0 a1 a2 a3 hm n (v+1) _ _ (Tp zAD hs) zAA hi
    · grind
theorem Hi(a0 a1:ZE)(a2:List Int)(a3:Int)(h:Sm maxLen a0):KA a0 a1 a2 a3=Y8 a0 a1 a2 a3:=by
  unfold KA Y8;simp only[RE,Nc];cases hm:(Y6 a0 a1.Id a2 a3).2 with
  |false=>
    grind
  |true=>
    cases ha:(XL a1 (Y6 a0 a1.Id a2 a3).1 a3).2 with
    |false=>
      have:=E6 a0 a1 a2 a3 a2.length 0 a0.Id a0.ZB;grind
    |true=>
      rcases Da a0 a1 a2 a3 hm (a2.length+1) 0 a0.Id a0.ZB h zAA (Nat.zero_le _)with⟨z,h1,h2⟩|⟨h1,h2⟩
      · rw[h1,h2]
      · grind
theorem we(a0 a1:ZE)(a2:List Int)(a3:Int)(h:(Y8 a0 a1 a2 a3).2.2=false):Y8 a0 a1 a2 a3=(a0,a1,false):=by
  unfold Y8 at h⊢;cases hc:((!(Y6 a0 a1.Id a2 a3).2)||(!(XL a1 (Y6 a0 a1.Id a2 a3).1 a3).2))with
  |true=>rfl
  |false=>
    rw[hc,XE]at h;rw[XE];have hk:∀n v d l r,QY a0 a1 a2 n v d l= .inl r->r=(a0,a1,false):=by
      intro n;induction n with
      |zero=>intro v d l r h;cases h
      |succ n ih=>
        intro v d l r h;rw[QY]at h;grind
    grind
theorem CN{α:Type}[Inhabited α](l:List α)(i:Nat):l.set i (nth l i)=l:=by
  by_cases h:i<l.length
  · have:nth l i=l[i]:=by simp[nth,List.getD_eq_getElem?_getD,List.getElem?_eq_getElem h]
    rw[this,List.set_getElem_self]
  · exact List.set_eq_of_length_le zAA
@[simp] theorem ra (a0 : ZF) (a1 a2 a3 : Int) (h : Sm maxLen a0) : jg a0 a1 a2 a3 = KH a0 a1 a2 a3 := by
  unfold jg KH;simp only[W4,zh,Hi _ _ _ _ (Zr (ZF.YR h))];cases((((!(YG a0 a1))||(!(YG a0 a2)))||(a1==a2))||(decide (ZS a0.Frame.Methods a0.Frame.Now<0)))with
  |true=>rfl
  |false=>
    rw[XE,XE];cases hb:(Y8 (nth a0.ZA a1.toNat) (nth a0.ZA a2.toNat) ([a3]:List Int) (ZS a0.Frame.Methods a0.Frame.Now)).2.2 with
    |true=>rfl
    |false=>
      rw[we _ _ _ _ hb,XE];simp only[CN]
theorem E2(a0:ZE)(a1:Int):∀(m i:Nat)(d:Int)(l:List ZN),(yp a0 a1 m d i l).2=QU a0 a1 m i l
  |0,_,_,_=>rfl
  |m+1,i,d,l=>by
    simp only[yp,QU]
    cases decide ((i:Int)<(a0.ZB.length:Int))with
    |false=>rfl
    |true=>
      simp only[cond_true]
      rw[show decide ((nth a0.ZB i).XF>=a1)=!decide ((nth a0.ZB i).XF<a1)by rw[<-decide_not];simp]
      cases decide ((nth a0.ZB i).XF<a1)<;>simp[E2 a0 a1 m]
theorem Lj(a0:ZE)(a1:Int):(qx a0 a1).1=(K6 a0 a1).1:=by
  unfold qx K6;have h:=E2 a0 a1 (a0.ZB.length+1) 0 0 []
  grind
@[simp] theorem tO (a0 : ZF) (a1 : Int) : xO a0 a1 = Q8 a0 a1 := by
  simp only[xO,Q8,W4,Lj]
@[simp] theorem vN (a0 : List YH) (a1 : Int) : ∀ (n : Nat) (v0 : Nat), yl a0 a1 n v0 = ya a0 a1 n v0 := by
  intro n;induction n with
  |zero=>intros;rfl
  |succ n ih=>intros;simp[yl,ya,ih,ByteArray.append_assoc]
@[simp] theorem tC (a0 : List YH) (a1 : Int) : z6 a0 a1 = zp a0 a1 := by simp [z6, zp]
@[simp] theorem r9 (a0 : List YH) (a1 : Int) : SG a0 a1 = zL a0 a1 := by
  unfold SG zL;rw[cond_neg];simp
@[simp] theorem OT (a0 : ZO) (a1 : Int) : jk a0 a1 = Qh a0 a1 := by
  unfold jk Qh YJ;by_cases h:Z6 a0.Zt a1<0
  · have:¬0<=Z6 a0.Zt a1:=zAA;simp[this]
  · simp[h]
@[simp] theorem sC (a0 : ZF) (a1 a2 : Int) (a3 : ZR) : qK a0 a1 a2 a3 = JM a0 a1 a2 a3 := by
  unfold qK JM;simp only[W4,OT,Sp];cases hs:Qh a0.Frame a2 with
  |false=>cases YG a0 a1<;>rfl
  |true=>
    have hk:decide (Z6 a0.Frame.Zt a2<0)=false:=by
      simp only[Qh,Bool.and_eq_true,decide_eq_true_eq]at hs;simp only[decide_eq_false_iff_not];omega
    rw[Ls,hk];cases(YG a0 a1)with
    |false=>rfl
    |true=>
      simp only[Bool.not_true,Bool.or_false,Bool.false_or,cond_false,wV];cases(QI a0 a2 a3 0 10000).2 with
      |false=>rfl
      |true=>
        cases(YZ (nth a0.ZA a1.toNat) (QI a0 a2 a3 0 10000).1).2<;>rfl
@[simp] theorem DB (a0 : ZF) : ∀ (n : Nat) (v0 : List Int) (v1 : Nat), Qn a0 n v0 v1 = X6 a0 n v0 v1 := by
  intro n;induction n with
  |zero=>intros;rfl
  |succ n ih=>intros;simp[Qn,X6,ih,ByteArray.append_assoc]
@[simp] theorem ku (a0 : ZF) : Yw a0 = Zs a0 := by simp [Yw, Zs]
theorem wS(a0:ZE)(a1:Int)(h:Sm maxLen a0):YS a0 a1=a0.ZB.map (fun x=>Q6 x a1):=by
  have:=PS (as:=a0.ZB) (fun x=>[W0 (ZW.mk x.ZG.ZI (x.ZG.ZM++[Zb.mk (x.ZG.ZI.length:Int) a1 0 [] []])) (JW (ZW.mk x.ZG.ZI (x.ZG.ZM++[Zb.mk (x.ZG.ZI.length:Int) a1 0 [] []])) x.Doc) (W (((x.ZG.ZM++[Zb.mk (x.ZG.ZI.length:Int) a1 0 [] []]).length:Int)-1))]) (F:=fun n i l=>KR a0 a1 n l i) (fun _ _ _=>rfl) (a0.ZB.length+1) 0 [] zAA (Nat.zero_le _);unfold YS;rw[this,List.drop_zero,H4];exact List.map_congr_left (fun x hx=>Bj x a1 ((ZE.YO h).2 x hx) _ rfl)
theorem sH{α β:Type}[Inhabited α][Inhabited β](f:α->β){l:List α}(h:i<l.length):nth (l.map f) i=f (nth l i):=by simp[nth,List.getD_eq_getElem?_getD,List.getElem?_map,List.getElem?_eq_getElem h]
theorem Dg(a0:ZF)(a1 a2:Int)(e:nth (YS (nth a0.ZA (ZK a0 a1).1.toNat) (ZS a0.Frame.Methods a0.Frame.Now)) (ZK a0 a1).2.toNat=Q6 (nth (nth a0.ZA (ZK a0 a1).1.toNat).ZB (ZK a0 a1).2.toNat) (ZS a0.Frame.Methods a0.Frame.Now)):
    ∀n v0 v1,yz a0 a1 a2 n v0 v1=XN a0 a1 a2 n v0 v1
  |0,_,_=>rfl
  |n+1,v0,v1=>by simp only[yz,XN,Dg a0 a1 a2 e n,ku,PM,TA,zh,e]
@[simp] theorem vK (a0 : ZF) (a1 a2 : Int) (h : Sm maxLen a0) : zW a0 a1 a2 = X7 a0 a1 a2 := by
  unfold zW X7;simp only[TA,zh,GG,ku,S7];have hb:∀p q r s:Bool,(((p||q)||r)||s)=(((r||p)||q)||s):=zAD
  rw[hb];by_cases hi:(ZK a0 a1).1<0
  · rw[decide_eq_true hi];simp
  · obtain⟨h1,h2,h3⟩:=XT a0 a1 zAA;have e:nth (YS (nth a0.ZA (ZK a0 a1).1.toNat) (ZS a0.Frame.Methods a0.Frame.Now)) (ZK a0 a1).2.toNat=Q6 (nth (nth a0.ZA (ZK a0 a1).1.toNat).ZB (ZK a0 a1).2.toNat) (ZS a0.Frame.Methods a0.Frame.Now):=by
      rw[wS _ _ (Zr (ZF.YR h)),sH _ h3]
    rw[Dg a0 a1 a2 e,e]
@[simp] theorem rh (a0 : ZF) (a1 a2 : Int) : jh a0 a1 a2 = KJ a0 a1 a2 := by
  unfold jh KJ YP;simp only[TA,Rp,ON,OT,RL,PZ,T6];cases h1:((decide ((ZK a0 a1).1<0))||(decide (((nth (nth a0.ZA (ZK a0 a1).1.toNat).ZB (ZK a0 a1).2.toNat).ZG.ZI.length:Int)<2)))with
  |true=>rfl
  |false=>
    simp only[cond_false];generalize YD (nth (nth (nth a0.ZA (ZK a0 a1).1.toNat).ZB (ZK a0 a1).2.toNat).ZG.ZI 1)=p;rw[ID,show(!(decide (Xy a0.Zd p.1.Za>=0)))=decide (Xy a0.Zd p.1.Za<0)by rw[<-decide_not];simp];cases h2:((!p.2||decide (Xy a0.Zd p.1.Za<0))||(!(Qh a0.Frame (nth a0.Zd (Xy a0.Zd p.1.Za).toNat).Z4)))with
    |true=>rfl
    |false=>
      simp only[cond_false];have hn:0<=Xy a0.Zd p.1.Za:=by simp at h2;exact h2.1.2
      rw[Od _ _ hn,<-DN];grind
@[simp] theorem I3 (a0 : ZF) (a1 : Zx) (h : Sm maxLen a0) : xT a0 a1 = YF a0 a1 := by simp [xT, YF, h]
@[simp] theorem tJ (a0 : Int) : kZ a0 = kV a0 := by simp [kZ, kV]
@[simp] theorem ri (a0 : YN) : WA a0 = JI a0 := by simp [WA, JI]
@[simp] theorem ou (a0 : Ze) : PI a0 = Y7 a0 := by simp [PI, Y7]
@[simp] theorem oo (a0 : YN) : PK a0 = Rf a0 := by simp [PK, Rf]
@[simp] theorem vW (a0 : ZW) (a1 : ZR) : ∀ (n : Nat) (v0 : List Int) (v1 : Nat), Kh a0 a1 n v0 v1 = zQ a0 a1 n v0 v1 := by
  intro n;induction n with
  |zero=>intros;rfl
  |succ n ih=>intros;simp[Kh,zQ,ih,ByteArray.append_assoc]
@[simp] theorem tI (a0 : ZW) (a1 : ZR) : JW a0 a1 = XU a0 a1 := by simp [JW, XU]
@[simp] theorem uP (a0 : ZW) (a1 : ZT) : ∀ (n : Nat) (v0 : Nat), xi a0 a1 n v0 = xn a0 a1 n v0 := by
  intro n;induction n with
  |zero=>intros;rfl
  |succ n ih=>intros;simp[xi,xn,ih,ByteArray.append_assoc]
@[simp] theorem sT (a0 : ZW) (a1 : ZT) : qL a0 a1 = zn a0 a1 := by simp [qL, zn]
@[simp] theorem oO (a0 : ZW) (a1 : List Int) (a2 : Int) : W0 a0 a1 a2 = SH a0 a1 a2 := by simp [W0, SH]
@[simp] theorem ny (a0 a1 : Int) : qB a0 a1 = if a1 > a0 then a1 else a0 := by
  unfold qB;by_cases h:a1>a0<;>simp[h]
end Go.Mo
