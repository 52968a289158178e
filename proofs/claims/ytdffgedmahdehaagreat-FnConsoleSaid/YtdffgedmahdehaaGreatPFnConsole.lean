/- The plain law of FnConsole: each line has one answer, asking changes nothing. No condition. -/
import Derived.Test.YtdffgedmahdehaaGreatL
namespace Go.Mo
open Go.Vm
set_option linter.unusedSimpArgs false
set_option linter.unusedVariables false
variable{a y x b s:ByteArray}{l:List ByteArray}{v:Nat}{w:ZF}{a0:List UInt8}
@[simp] theorem MK (a0 a1 : List Int) : zm a0 a1 = decide (a0 = a1) := sH (F := V3 a0 a1) (c := fun i => nth a0 i != nth a1 i) (fun i => by simp [bne, Bool.beq_eq_decide_eq]) (fun _ => rfl) (fun _ _ => rfl)
@[simp] theorem Iu (a0 a1 : List ByteArray) : VC a0 a1 = decide (a0 = a1) := sH (F := jR a0 a1) (c := fun i => !decide (nth a0 i = nth a1 i)) (fun i => rfl) (fun _ => rfl) (fun _ _ => rfl)
theorem RB{α:Type}[DecidableEq α](a b:α):(a==b)=decide (a=b):=by by_cases h:a=b<;>simp[h]
@[simp] theorem M1 (a0 a1 : ZL) : yM a0 a1 = decide (a0 = a1) := by
  cases a0;cases a1;simp[yM,RB,Bool.and_assoc]
@[simp] theorem Hr (a0 a1 : ZV) : Jz a0 a1 = decide (a0 = a1) := by
  obtain⟨t,p,s⟩:=a0;obtain⟨t',p',s'⟩:=a1;by_cases h1:t=t'<;>by_cases h2:p=p'<;>by_cases h3:s=s'<;>simp_all[Jz]
theorem rM(x y:ZX):((x.Authority==y.Authority)&&((x.Seq==y.Seq)&&((x.Time==y.Time)&&((x.Y6==y.Y6)&&(x.Mark==y.Mark)))))=decide (x=y):=by cases x;cases y;simp[RB]
theorem rX(x y:Xk):((x.Y6==y.Y6)&&(x.Left==y.Left))=decide (x=y):=by cases x;cases y;simp[RB]
@[simp] theorem Gx (a0 a1 : List ZX) : V9 a0 a1 = decide (a0 = a1) := sH (F := kG a0 a1) (c := fun i => !((nth a0 i).Authority == (nth a1 i).Authority && ((nth a0 i).Seq == (nth a1 i).Seq && ((nth a0 i).Time == (nth a1 i).Time && ((nth a0 i).Y6 == (nth a1 i).Y6 && (nth a0 i).Mark == (nth a1 i).Mark))))) (fun i => by rw [rM]) (fun _ => rfl) (fun _ _ => rfl)
theorem Nn{α:Type}{a b:List α}(h:¬a.length=b.length):((a.length:Int)!=(b.length:Int))=true:=zAk
@[simp] theorem L2 (a0 a1 : ZZ) : zV a0 a1 = decide (a0 = a1) := by
  unfold zV;by_cases hl:a0.Path.length=a1.Path.length
  · rw[U6 (F:=xp a0 a1) (a:=a0.Path) (b:=a1.Path) (c:=fun i=>!((nth a0.Path i).Y6==(nth a1.Path i).Y6&&(nth a0.Path i).Left==(nth a1.Path i).Left)) hl (fun i=>by rw[rX]) (fun _=>rfl) (fun _ _=>rfl)];obtain⟨t,p,s,u,v⟩:=a0;obtain⟨t',p',s',u',v'⟩:=a1;by_cases h1:t=t'<;>by_cases h2:p=p'<;>by_cases h3:s=s'<;>by_cases h4:u=u'<;>simp_all
  · have:a0≠a1:=fun h=>hl zCY;simp[this,Nn hl]
@[simp] theorem Nv (a0 a1 : List ZV) : xv a0 a1 = decide (a0 = a1) := sH (F := yE a0 a1) (c := fun i => !Jz (nth a0 i) (nth a1 i)) (fun i => zAE) (fun _ => rfl) (fun _ _ => rfl)
@[simp] theorem HW (a0 a1 : ZU) : qL a0 a1 = decide (a0 = a1) := by
  unfold qL;by_cases hl:a0.ZR.length=a1.ZR.length
  · rw[U6 (F:=jJ a0 a1) (a:=a0.ZR) (b:=a1.ZR) (c:=fun i=>!zV (nth a0.ZR i) (nth a1.ZR i)) hl (fun i=>zAE) (fun _=>rfl) (fun _ _=>rfl)];obtain⟨t,p⟩:=a0;obtain⟨t',p'⟩:=a1;by_cases h1:t=t'<;>by_cases h2:p=p'<;>simp_all
  · have:a0≠a1:=fun h=>hl zCY;simp[this,Nn hl]
theorem oe(x y:Zs):((x.Key==y.Key)&&((x.Zk==y.Zk)&&((x.Method==y.Method)&&((x.Y6==y.Y6)&&((x.kl==y.kl)&&((x.Org==y.Org)&&((x.kj==y.kj)&&((x.Wl==y.Wl)&&(x.Mark==y.Mark)))))))))=decide (x=y):=by cases x;cases y;simp[RB]
@[simp] theorem Fp (a0 a1 : ZO) : qx a0 a1 = decide (a0 = a1) := by
  unfold qx;rw[oe];obtain⟨t,p,s,u,v⟩:=a0;obtain⟨t',p',s',u',v'⟩:=a1;by_cases h1:t=t'<;>by_cases h2:p=p'<;>by_cases h3:s=s'<;>by_cases h4:u=u'<;>simp_all
@[simp] theorem Lf (a0 a1 : ZD) : zT a0 a1 = decide (a0 = a1) := by
  unfold zT;by_cases hl:a0.ZE.length=a1.ZE.length
  · rw[U6 (F:=xx a0 a1) (a:=a0.ZE) (b:=a1.ZE) (c:=fun i=>!qx (nth a0.ZE i) (nth a1.ZE i)) hl (fun i=>zAE) (fun _=>rfl) (fun _ _=>rfl)];obtain⟨t,p⟩:=a0;obtain⟨t',p'⟩:=a1;by_cases h1:t=t'<;>by_cases h2:p=p'<;>simp_all
  · have:a0≠a1:=fun h=>hl zCY;simp[this,Nn hl]
theorem oz(x y:Yg):((x.Number==y.Number)&&((x.z9==y.z9)&&((x.Method==y.Method)&&((x.OT==y.OT)&&(x.Um==y.Um)))))=decide (x=y):=by cases x;cases y;simp[RB]
theorem rQ(x y:Za):((x.Id==y.Id)&&((x.Key==y.Key)&&(x.Error==y.Error)))=decide (x=y):=by cases x;cases y;simp[RB]
theorem re(x y:Z9):((x.Id==y.Id)&&((x.PR==y.PR)&&((x.Ends==y.Ends)&&(x.Uc==y.Uc))))=decide (x=y):=by cases x;cases y;simp[RB]
theorem ry(x y:YL):((x.Zk==y.Zk)&&((x.Key==y.Key)&&((x.z9==y.z9)&&((x.Xv==y.Xv)&&((x.To==y.To)&&((x.YG==y.YG)&&(x.Mark==y.Mark)))))))=decide (x=y):=by cases x;cases y;simp[RB]
@[simp] theorem Pf (a0 a1 : ZT) : jq a0 a1 = decide (a0 = a1) := by
  unfold jq;by_cases h1:a0.Zz.length=a1.Zz.length
  · by_cases h2:a0.ZC.length=a1.ZC.length
    · by_cases h3:a0.Methods.length=a1.Methods.length
      · rw[U6 (F:=kO a0 a1) (a:=a0.Zz) (b:=a1.Zz) (c:=fun i=>_) h1 (fun i=>congrArg (! ·) (oz (nth a0.Zz i) (nth a1.Zz i))) (fun _=>rfl) (fun _ _=>rfl),
          U6 (F:=kB a0 a1) (a:=a0.ZC) (b:=a1.ZC) (c:=fun i=>_) h2 (fun i=>congrArg (! ·) (rQ (nth a0.ZC i) (nth a1.ZC i))) (fun _=>rfl) (fun _ _=>rfl),
          U6 (F:=kR a0 a1) (a:=a0.Methods) (b:=a1.Methods) (c:=fun i=>_) h3 (fun i=>congrArg (! ·) (re (nth a0.Methods i) (nth a1.Methods i))) (fun _=>rfl) (fun _ _=>rfl)]
        obtain⟨t,p,s,u,v⟩:=a0;obtain⟨t',p',s',u',v'⟩:=a1;by_cases h4:t=t'<;>by_cases h5:p=p'<;>by_cases h6:s=s'<;>by_cases h7:u=u'<;>by_cases h8:v=v'<;>simp_all
      · have:a0≠a1:=fun h=>h3 zCY;simp[this,Nn h3]
    · have:a0≠a1:=fun h=>h2 zCY;simp[this,Nn h2]
  · have:a0≠a1:=fun h=>h1 zCY;simp[this,Nn h1]
@[simp] theorem Vs (a0 a1 : ZF) : z6 a0 a1 = decide (a0 = a1) := by
  unfold z6;by_cases h1:a0.Zd.length=a1.Zd.length
  · by_cases h2:a0.ZA.length=a1.ZA.length
    · rw[U6 (F:=kH a0 a1) (a:=a0.Zd) (b:=a1.Zd) (c:=fun i=>_) h1 (fun i=>congrArg (! ·) (ry (nth a0.Zd i) (nth a1.Zd i))) (fun _=>rfl) (fun _ _=>rfl),
        U6 (F:=kA a0 a1) (a:=a0.ZA) (b:=a1.ZA) (c:=fun i=>!zT (nth a0.ZA i) (nth a1.ZA i)) h2 (fun i=>zAE) (fun _=>rfl) (fun _ _=>rfl)]
      simp only[Pf,MK];obtain⟨f,c,e,a,s,l,n,g⟩:=a0;obtain⟨f',c',e',a',s',l',n',g'⟩:=a1;by_cases q1:f=f'
      · by_cases q2:c=c'
        · by_cases q3:e=e'
          · by_cases q4:a=a'<;>by_cases q5:s=s'<;>by_cases q6:l=l'<;>by_cases q7:n=n'<;>by_cases q8:g=g'<;>simp_all
          · simp_all
        · simp_all
      · simp_all
    · have:a0≠a1:=fun h=>h2 zCY;simp[this,Nn h2]
  · have:a0≠a1:=fun h=>h1 zCY;simp[this,Nn h1]
theorem ni(x:Int):∃d t,Z8 x=⟨(d::t).toArray⟩/\d.toNat<58:=by
  obtain⟨d,t,e⟩:=Wh 21 x [] (.inl rfl) zAF;rw[List.append_nil]at e;have h:=(xt 21 x [] (fun d hd=>by cases hd) d (by rw[e];exact List.mem_cons_self)).2
  unfold Z8;rw[e];refine ZG (p:=fun r:ByteArray=>∃d t,r=⟨(d::t).toArray⟩/\d.toNat<58) ⟨45,d::t,?_,zAF⟩ ⟨d,t,rfl,h⟩;apply ByteArray.ext;simp
theorem AF(x:Int)(hy:∀d∈y.data.toList.head?,58<=d.toNat):Z8 x≠y:=fun e=>by
  obtain⟨d,t,e1,h⟩:=ni x;rw[e]at e1;have:=hy d (by rw[e1];rfl)
  omega
theorem mT(h:0<x.size):x≠⟨#[]⟩:=fun e=>by rw[e]at h;exact absurd h zAF
theorem sC(h:∀x∈l,0<x.size):0<(PV l b).size:=by unfold PV;refine Ys (p:=fun r:ByteArray=>0<r.size) (fun _=>zAF) (fun hc=>?_);exact Ns h _ _ _ zAC (Nat.zero_le _) (.inl (by simp at hc;exact List.length_pos_iff.2 hc))
theorem uq(l:List Int):0<(zt l).size:=by
  unfold zt;refine sC ?_;have key:∀n (acc:List ByteArray) v,(∀x∈acc,0<x.size)->∀x∈VE l n acc v,0<x.size:=by
    intro n;induction n with
    |zero=>intro acc v _ x hx;cases hx
    |succ n ih=>
      intro acc v ha;rw[VE];refine ZG (p:=fun r:List ByteArray=>∀x∈r,0<x.size) (ih _ _ fun x hx=>?_) ha;rcases List.mem_append.1 hx with hx|hx
      · exact ha x hx
      · rw[List.mem_singleton.1 hx];exact xN _
  exact key _ _ _ (fun x hx=>by cases hx)
theorem oo(f:ZT)(a:ZD):0<(zR f a).size:=by
  unfold zR;refine sC ?_;have key:∀n (acc:List ByteArray) v,(∀x∈acc,0<x.size)->∀x∈zi f a n acc v,0<x.size:=by
    intro n;induction n with
    |zero=>intro acc v _ x hx;cases hx
    |succ n ih=>
      intro acc v ha;rw[zi];refine ZG (p:=fun r:List ByteArray=>∀x∈r,0<x.size) (ih _ _ fun x hx=>?_) ha;rcases List.mem_append.1 hx with hx|hx
      · exact ha x hx
      · rw[List.mem_singleton.1 hx];unfold jV;simp only[ByteArray.size_append];have:=xN (nth a.ZE v).Id;omega
  exact key _ _ _ (fun x hx=>by cases hx)
theorem tc{v:Xi}(h1:1<=v.Code/\v.Code<=3)(h2:0<=v.Reason/\v.Reason<=9):0<(X7 v).size:=by
  unfold X7;have hv:Kj v.Code≠⟨#[]⟩:=by rcases(show v.Code=1\/v.Code=2\/v.Code=3 by omega)with h|h|h<;>rw[h]<;>decide+kernel
  have hr:za v.Reason≠⟨#[]⟩:=by rcases(show v.Reason=0\/v.Reason=1\/v.Reason=2\/v.Reason=3\/v.Reason=4\/v.Reason=5\/v.Reason=6\/v.Reason=7\/v.Reason=8\/v.Reason=9 by omega)with h|h|h|h|h|h|h|h|h|h<;>rw[h]<;>decide+kernel
  rw[decide_eq_false hv,decide_eq_false hr,Bool.or_false,Qo];refine ZG (p:=fun r:ByteArray=>0<r.size) ?_ ?_<;>simp only[ByteArray.size_append,show(⟨#[32]⟩:ByteArray).size=1 from rfl]<;>omega
theorem sJ(f:ZT)(x:ZO):(1<=(JX f x).Code/\(JX f x).Code<=3)/\0<=(JX f x).Reason/\(JX f x).Reason<=9:=by
  unfold JX El;generalize zQ (KH x) x.Doc=g;generalize Y5 x.Sig.Method x.Doc=d;generalize KH x=e;unfold qK P7 TZ;have k:∀(s:Zn)(c r:Int),(1<=c/\c<=3)/\0<=r/\r<=9->(1<=(Xi.mk c r s).Code/\(Xi.mk c r s).Code<=3)/\0<=(Xi.mk c r s).Reason/\(Xi.mk c r s).Reason<=9:=fun s c r h=>h
  repeat' refine ZG (p:=fun v:Xi=>(1<=v.Code/\v.Code<=3)/\0<=v.Reason/\v.Reason<=9) (k _ _ _ zAF) ?_
  exact k _ _ _ zAF
theorem pZ(w:ZF)(i:Int):0<(bif(decide ((ZW w i).1<0))then(⟨#[110,111]⟩:ByteArray)else X7 (Qp w i)).size:=by refine Ys (p:=fun r:ByteArray=>0<r.size) (fun _=>zAF) (fun h=>?_);unfold Qp;rw[h,Qo];exact tc (sJ _ _).1 (sJ _ _).2
theorem pH(w:ZF):0<(bif(!decide (kx w=(⟨#[]⟩:ByteArray)))then kx w else(⟨#[111,107]⟩:ByteArray)).size:=by
  refine Ys (p:=fun r:ByteArray=>0<r.size) (fun h=>?_) (fun _=>zAF);have h:=of_decide_eq_false (Bool.not_eq_true' _▸h)
  refine Nat.pos_of_ne_zero fun e=>h ?_;apply ByteArray.ext;exact Array.eq_empty_of_size_eq_zero e
theorem oN(w:ZF)(i k:Int):0<(Vg w i k).size:=by unfold Vg;refine ZG (p:=fun r:ByteArray=>0<r.size) zAF (ZG (p:=fun r:ByteArray=>0<r.size) zAF ?_);simp only[ByteArray.size_append];exact Nat.add_pos_left (Nat.add_pos_right _ zAF) _
theorem rp(w:ZF):0<(xV w).size:=by
  unfold xV;simp only[ByteArray.size_append];have:=xN w.Frame.Now
  omega
theorem nt(w:ZF)(s:ByteArray)(l:List Int):0<(Pb w s l).size:=by
  unfold Pb;have h1:=pZ w (nth l 0)
  have h2:=pH w;have h3:=oN w (nth l 0) (nth l 1);have h4:=rp w;have h5:=oo w.Frame (nth w.ZA (nth l 0).toNat);have h6:=uq (ke w.Frame (nth w.ZA (nth l 0).toNat) (nth l 1));have h7:=uq (Qe w.Frame);have h8:=uq (Vt w.Frame.Zz w.Frame.ZC (yo w));have h9:=xN (xa (nth w.ZA (nth l 0).toNat));have dT:0<(⟨#[110,111]⟩:ByteArray).size:=zAF;have h11:0<(⟨#[119,104,97,116]⟩:ByteArray).size:=zAF;revert h1 h2 h3 h4 h5 h6 h7 h8 h9 dT h11;generalize(bif(decide ((ZW w (nth l 0)).1<0))then(⟨#[110,111]⟩:ByteArray)else X7 (Qp w (nth l 0)))=x1;generalize(bif(!decide (kx w=(⟨#[]⟩:ByteArray)))then kx w else(⟨#[111,107]⟩:ByteArray))=x2;generalize Vg w (nth l 0) (nth l 1)=x3;generalize xV w=x4;generalize zR w.Frame (nth w.ZA (nth l 0).toNat)=x5;generalize zt (ke w.Frame (nth w.ZA (nth l 0).toNat) (nth l 1))=x6;generalize zt (Qe w.Frame)=x7;generalize zt (Vt w.Frame.Zz w.Frame.ZC (yo w))=x8;generalize Z8 (xa (nth w.ZA (nth l 0).toNat))=x9;generalize(s++(⟨#[32]⟩:ByteArray))++Z8 (l.length:Int)=key;generalize YH w (nth l 0)=c;generalize(⟨#[110,111]⟩:ByteArray)=x10;generalize(⟨#[119,104,97,116]⟩:ByteArray)=x11;intro h1 h2 h3 h4 h5 h6 h7 h8 h9 dT h11
  repeat' first|with_reducible assumption|with_reducible refine ZG (p:=fun r:ByteArray=>0<r.size) ?_ ?_
def CoR(w:ZF)(r:ZF×ByteArray):Prop:=0<r.2.size/\(r.2=⟨#[110,111]⟩\/r.2=⟨#[119,104,97,116]⟩->r.1=w)
theorem TJ(h:0<s.size):CoR w (w,s):=⟨h,fun _=>rfl⟩
theorem nd(w x:ZF)(n:Int):CoR w (x,Z8 n):=by
  refine⟨xN n,fun h=>?_⟩;rcases h with h|h
  · exact absurd h (AF n (fun d hd=>by cases hd;decide))
  · exact absurd h (AF n (fun d hd=>by cases hd;decide))
theorem vp(w:ZF)(e:Zo):CoR w (Y7 w e):=by
  unfold Y7;have k:∀x:ZF,CoR w (x,⟨#[111,107]⟩):=fun x=>⟨show 0<(⟨#[111,107]⟩:ByteArray).size by decide,fun h=>by
    have h:(⟨#[111,107]⟩:ByteArray)=⟨#[110,111]⟩\/(⟨#[111,107]⟩:ByteArray)=⟨#[119,104,97,116]⟩:=h;exact absurd h zAF⟩
  exact ZG (p:=CoR w) (TJ zAF) (k _)
theorem tn(w:ZF)(l:List ByteArray)(k:Int):CoR w (KR w l k):=by unfold KR;refine ZG (p:=CoR w) (TJ zAF) (ZG (p:=CoR w) (TJ zAF) ?_);refine ZG (p:=CoR w) ?_ ?_<;>exact ZG (p:=CoR w) (TJ zAF) (nd _ _ _)
theorem ph(w:ZF)(l:List ByteArray):CoR w (Ko w l):=by unfold Ko;refine ZG (p:=CoR w) (TJ zAF) ?_;refine ZG (p:=CoR w) ?_ ?_<;>exact ZG (p:=CoR w) (TJ zAF) (vp _ _)
theorem od(w:ZF)(s:ByteArray):CoR w (QU w s):=by
  unfold QU;refine ZG (p:=CoR w) (TJ zAF) ?_;refine ZG (p:=CoR w) (tn _ _ _) (ZG (p:=CoR w) (tn _ _ _) (ZG (p:=CoR w) (ph _ _) (ZG (p:=CoR w) (TJ zAF) ?_)))
  repeat' refine ZG (p:=CoR w) (vp _ _) ?_
  exact TJ (nt _ _ _)
def coK(a:ByteArray):ByteArray:=(nth (Zq a) 0++(⟨#[32]⟩:ByteArray))++Z8 ((Ze (Zq a).tail).1.length:Int)
def CoA(a:ByteArray):Bool:=[⟨#[115,105,103,110]⟩,⟨#[102,111,114,103,101]⟩,⟨#[114,101,110,101,119]⟩].all (fun x=>!decide (nth (Zq a) 0=x))&&[⟨#[116,105,99,107,32,49]⟩,⟨#[97,110,115,119,101,114,32,49]⟩,⟨#[114,101,118,111,107,101,32,49]⟩,⟨#[102,111,114,103,101,116,32,49]⟩,⟨#[109,111,118,101,32,51]⟩,⟨#[98,97,99,107,100,97,116,101,32,50]⟩,⟨#[102,97,107,101,32,50]⟩].all (fun x=>!decide (coK a=x))
theorem pf(h:CoA a=true):(QU w a).1=w:=by simp only[CoA,List.all_cons,List.all_nil,Bool.and_true,Bool.and_eq_true,Bool.not_eq_true']at h;obtain⟨⟨h1,h2,h3⟩,h4,h5,h6,h7,h8,h9,dT⟩:=h;unfold coK at h4 h5 h6 h7 h8 h9 dT;unfold QU;rw[h1,h2,h3,h4,h5,h6,h7,h8,h9,dT];simp only[Qo];exact ZG (p:=fun r:ZF×ByteArray=>r.1=w) rfl (ZG (p:=fun r:ZF×ByteArray=>r.1=w) rfl rfl)
def CoE(x:ByteArray):Prop:=x.size=0\/x.data.toList.getLast?=some 10
theorem tL(x:ByteArray):CoE (x++(⟨#[10]⟩:ByteArray)):=.inr zAE
theorem AY:∀(n:Nat)(v:ByteArray)(x:Int)(b:List UInt8)(i:Nat)(h:Int),CoE v->CoE (qC n v x b i h).1
  |0,v,x,b,i,h,hv=>.inl rfl
  |n+1,v,x,b,i,h,hv=>by rw[qC];exact ZG (p:=fun r:ByteArray×List UInt8×Nat×Int=>CoE r.1) (AY n _ _ _ _ _ (tL _)) hv
theorem AZ:∀(n:Nat)(v:ByteArray)(x:Int)(b:List UInt8)(i:Nat)(h:Int),CoE v->CoE (qm n v x b i h).1
  |0,v,x,b,i,h,hv=>.inl rfl
  |n+1,v,x,b,i,h,hv=>by rw[qm];exact ZG (p:=fun r:ByteArray×List UInt8×Nat×Int=>CoE r.1) (AZ n _ _ _ _ _ (tL _)) hv
theorem AU:∀(n:Nat)(v:ByteArray)(i:Nat),CoE v->CoE (Qx n v i)
  |0,v,i,hv=>.inl rfl
  |n+1,v,i,hv=>by rw[Qx];refine ZG (p:=CoE) (AU n _ _ ?_) hv;rw[show(⟨#[119,111,114,108,100,10]⟩:ByteArray)=⟨#[119,111,114,108,100]⟩++⟨#[10]⟩by decide,<-ByteArray.append_assoc];exact tL _
theorem oW(a0:List UInt8):CoE (Zw a0):=by
  unfold Zw Vh;refine ZG (p:=CoE) (AU _ _ _ (.inl rfl)) ?_;generalize(Zv (WT a0) 20).1=c;refine ZG (p:=fun r:Z3×ByteArray=>CoE r.2) ?_ ?_
  · exact AY _ _ _ _ _ _ (.inr zAF)
  · exact AZ _ _ _ _ _ _ (.inl rfl)
theorem r8(hD:v<a.size):a.data.toList.drop v=UInt8.ofNat (bAt a v)::a.data.toList.drop (v+1)/\bAt a v<256:=by
  have hl:v<a.data.toList.length:=hD;rw[List.drop_eq_getElem_cons hl];have e:bAt a v=(a.data.toList[v]).toNat:=by unfold bAt;rw[List.getD_eq_getElem?_getD,List.getElem?_eq_getElem hl];rfl
  rw[e];exact⟨by rw[UInt8.ofNat_toNat],UInt8.toNat_lt _⟩
theorem pe(hD:v<a.size):(((bAt a v):Int)==10)=true/\(a.data.toList.drop v).count 10=(a.data.toList.drop (v+1)).count 10+1\/(((bAt a v):Int)==10)=false/\(a.data.toList.drop v).count 10=(a.data.toList.drop (v+1)).count 10:=by
  obtain⟨e,h⟩:=r8 hD;by_cases hb:bAt a v=10
  · exact .inl ⟨by simp[hb],by rw[e,hb];exact List.count_cons_self⟩
  · refine .inr ⟨by simp;omega,?_⟩;rw[e];refine List.count_cons_of_ne fun hh=>hb ?_;have:=congrArg UInt8.toNat hh
    rw[UInt8.toNat_ofNat']at this;have h2:bAt a v%256=10:=this
    omega
theorem Lo{a:ByteArray}(hs:a.size<2305843009213693952)(he:CoE a):∀(n:Nat)(acc:List ByteArray)(f:Int)(v:Nat),a.size+1<n+v->v<=a.size->(v=a.size->f.toNat=a.size)->∃m,Qg a 10 n acc f v=m++[⟨#[]⟩]/\m.length=acc.length+(a.data.toList.drop v).count 10
  |0,acc,f,v,hn,hv,hf=>zAC
  |n+1,acc,f,v,hn,hv,hf=>by
    rw[Qg,decide_eq_true (show(v:Int)<=(a.size:Int)by omega),Qy];by_cases hD:v<a.size
    · rw[show((v:Int)==(a.size:Int))=false by simp;omega,Bool.false_or];rcases pe hD with⟨h1,h2⟩|⟨h1,h2⟩
      · rw[h1,Qy];have hw:W ((v:Int)+1)=((v+1:Nat):Int):=by rw[Yd];omega
        obtain⟨m,e,hm⟩:=Lo hs he n (acc++[a.extract f.toNat v]) (W ((v:Int)+1)) (v+1) zAC hD (fun h=>by rw[hw];omega);exact⟨m,e,by rw[hm,List.length_append,h2];simp;omega⟩
      · rw[h1,Qo];have ij:v+1≠a.size:=fun h=>by
          rcases he with he|he
          · omega
          · obtain⟨e,hb⟩:=r8 hD;have hd:a.data.toList.drop (v+1)=[]:=List.drop_eq_nil_of_le (by have:a.data.toList.length=a.size:=rfl;omega)
            rw[hd]at e;have:a.data.toList.getLast?=some (UInt8.ofNat (bAt a v)):=by rw[<-List.take_append_drop v a.data.toList,e];simp
            rw[this]at he;have h3:=congrArg UInt8.toNat (Option.some.inj he)
            rw[UInt8.toNat_ofNat']at h3;have h4:bAt a v%256=10:=h3
            simp at h1;omega
        obtain⟨m,e,hm⟩:=Lo hs he n acc f (v+1) zAC hD (fun h=>absurd h ij);exact⟨m,e,by rw[hm,h2]⟩
    · have gn:v=a.size:=zAC;rw[show((v:Int)==(a.size:Int))=true by simp;omega,Bool.true_or,Qy];have hd:a.data.toList.drop v=[]:=List.drop_eq_nil_of_le (by have:a.data.toList.length=a.size:=rfl;omega);refine⟨acc,?_,by rw[hd];rfl⟩;cases n with
      |zero=>omega
      |succ n=>rw[Qg,decide_eq_false (show ¬(((v+1:Nat):Int)<=(a.size:Int))by omega),Qo,hf gn,gn];congr 2;apply ByteArray.ext;simp
theorem v3{a:ByteArray}:∀(n:Nat)(acc:List ByteArray)(v:Nat)(k:List Yg)(u:List Za)(m:List Z9)(l w:Int)(c:List YL)(e:List Int)(r:List ZD)(q y:List Int)(x:Int)(g:List Int),((Zb a 10).take ((Zb a 10).length-1)).length<n+v->v<=((Zb a 10).take ((Zb a 10).length-1)).length->(yd a n acc v k u m l w c e r q y x g).1.length=acc.length+(((Zb a 10).take ((Zb a 10).length-1)).length-v)
  |0,acc,v,k,u,m,l,w,c,e,r,q,y,x,g,h1,h2=>zAC
  |n+1,acc,v,k,u,m,l,w,c,e,r,q,y,x,g,h1,h2=>by
    rw[yd];by_cases hD:v<((Zb a 10).take ((Zb a 10).length-1)).length
    · rw[decide_eq_true (show(v:Int)<(((Zb a 10).take ((Zb a 10).length-1)).length:Int)by omega),Qy,v3 n _ _ _ _ _ _ _ _ _ _ _ _ _ _ zAC hD,List.length_append,List.length_singleton];omega
    · rw[decide_eq_false (show ¬(v:Int)<(((Zb a 10).take ((Zb a 10).length-1)).length:Int)by omega),Qo];show acc.length=_
      omega
theorem r7{a0:List UInt8}:∀(n k v:Nat),(Zw a0).size<n+v->v<=(Zw a0).size->k+((Zw a0).size-v)<4611686018427387904->Jo a0 n (k:Int) v=((k+((Zw a0).data.toList.drop v).count 10:Nat):Int)
  |0,k,v,h1,h2,h3=>zAC
  |n+1,k,v,h1,h2,h3=>by
    rw[Jo];by_cases hD:v<(Zw a0).size
    · rw[decide_eq_true (show(v:Int)<((Zw a0).size:Int)by omega),Qy];rcases pe hD with⟨e1,e2⟩|⟨e1,e2⟩
      · rw[e1,Qy,show W ((k:Int)+1)=((k+1:Nat):Int)by rw[Yd];omega,r7 n (k+1) (v+1) zAC hD zAC,e2];omega
      · rw[e1,Qo,r7 n k (v+1) zAC hD zAC,e2]
    · rw[decide_eq_false (show ¬(v:Int)<((Zw a0).size:Int)by omega),Qo,List.drop_eq_nil_of_le (by have:(Zw a0).data.toList.length=(Zw a0).size:=rfl;omega)];simp
theorem nS(hs:a.size<2305843009213693952)(he:CoE a):(Xf a).2=true/\(Xf a).1.length=a.data.toList.count 10\/(Xf a).2=false/\(Xf a).1.length=0/\60<a.data.toList.count 10:=by
  obtain⟨m,e,hm⟩:=Lo hs he (a.size+2) [] 0 0 zAC (Nat.zero_le _) (fun h=>h);have e:Zb a 10=m++[⟨#[]⟩]:=e
  rw[List.length_nil,Nat.zero_add,List.drop_zero]at hm;have hl:(Zb a 10).length=m.length+1:=by rw[e,List.length_append];rfl
  have ht:((Zb a 10).take ((Zb a 10).length-1)).length=m.length:=by rw[List.length_take,hl];omega
  have hn:nth (Zb a 10) ((Zb a 10).length-1)=⟨#[]⟩:=by rw[hl,e,Gb zAE];simp
  unfold Xf;rw[decide_eq_true hn,Qy];by_cases hc:60<m.length
  · rw[decide_eq_true (show(((Zb a 10).take ((Zb a 10).length-1)).length:Int)>60 by omega),Qy];exact .inr ⟨rfl,rfl,zAC⟩
  · rw[decide_eq_false (show ¬(((Zb a 10).take ((Zb a 10).length-1)).length:Int)>60 by omega),Qo];refine .inl ⟨rfl,?_⟩;show(yd a _ _ _ _ _ _ _ _ _ _ _ _ _ _ _).1.length=_
    rw[v3 _ _ _ _ _ _ _ _ _ _ _ _ _ _ _ zAC (Nat.zero_le _),ht,hm];simp
theorem nD(a0:List UInt8):∀(n v:Nat),js a0 n v= .inr ()
  |0,v=>rfl
  |n+1,v=>by
    rw[js];refine Ys (p:=fun r:Sum Bool Unit=>r= .inr ()) (fun hc=>?_) (fun _=>rfl);have hv:v<10:=by have:=of_decide_eq_true hc;omega
    have hq:∀i<10,CoA (nth ([(⟨#[119,111,114,108,100]⟩:ByteArray),(⟨#[97,117,100,105,116]⟩:ByteArray),(⟨#[112,108,97,110]⟩:ByteArray),(⟨#[108,105,97,114,115]⟩:ByteArray),(⟨#[115,104,111,119,32,48]⟩:ByteArray),(⟨#[106,117,100,103,101,32,49]⟩:ByteArray),(⟨#[104,105,100,101,32,49,32,48]⟩:ByteArray),(⟨#[100,117,101,32,48,32,53]⟩:ByteArray),(⟨#[115,105,122,101,32,49]⟩:ByteArray),(⟨#[]⟩:ByteArray)]:List ByteArray) i)=true:=zBB;have hx:=pf (w:=(Zm (ZQ a0).1 (ZQ a0).2).1) (hq v hv);rw[Vs];have e:(Zm (Zm (ZQ a0).1 (ZQ a0).2).1 (nth ([(⟨#[119,111,114,108,100]⟩:ByteArray),(⟨#[97,117,100,105,116]⟩:ByteArray),(⟨#[112,108,97,110]⟩:ByteArray),(⟨#[108,105,97,114,115]⟩:ByteArray),(⟨#[115,104,111,119,32,48]⟩:ByteArray),(⟨#[106,117,100,103,101,32,49]⟩:ByteArray),(⟨#[104,105,100,101,32,49,32,48]⟩:ByteArray),(⟨#[100,117,101,32,48,32,53]⟩:ByteArray),(⟨#[115,105,122,101,32,49]⟩:ByteArray),(⟨#[]⟩:ByteArray)]:List ByteArray) v)).1=(Zm (ZQ a0).1 (ZQ a0).2).1:=hx;rw[e,decide_eq_true rfl];exact nD a0 n (v+1)
theorem Hy(a0:List UInt8):US a0=true:=by
  unfold US;refine ZG (p:=fun b:Bool=>b=true) rfl ?_;obtain⟨h1,h2⟩:=od (ZQ a0).1 (ZQ a0).2;have e2:(Zm (ZQ a0).1 (ZQ a0).2).2=(QU (ZQ a0).1 (ZQ a0).2).2:=rfl
  have e1:(Zm (ZQ a0).1 (ZQ a0).2).1=(QU (ZQ a0).1 (ZQ a0).2).1:=rfl;have hc:((((decide ((Zm (ZQ a0).1 (ZQ a0).2).2=(⟨#[110,111]⟩:ByteArray)))||(decide ((Zm (ZQ a0).1 (ZQ a0).2).2=(⟨#[119,104,97,116]⟩:ByteArray))))&&(!(z6 (Zm (ZQ a0).1 (ZQ a0).2).1 (ZQ a0).1)))||(decide ((Zm (ZQ a0).1 (ZQ a0).2).2=(⟨#[]⟩:ByteArray))))=false:=by
    rw[Bool.or_eq_false_iff,e1,e2];refine⟨?_,decide_eq_false (mT h1)⟩;rw[Bool.and_eq_false_iff,<-Bool.not_eq_true,Bool.or_eq_true,decide_eq_true_iff,decide_eq_true_iff];by_cases h:(QU (ZQ a0).1 (ZQ a0).2).2=⟨#[110,111]⟩\/(QU (ZQ a0).1 (ZQ a0).2).2=⟨#[119,104,97,116]⟩
    · exact .inr (by rw[h2 h,Vs,decide_eq_true rfl];rfl)
    · exact .inl h
  rw[hc,Qo,nD a0 11 0];have hs:(Zw a0).size<2305843009213693952:=Nat.lt_of_le_of_lt (xi a0) zAF
  have h3:=r7 (a0:=a0) ((Zw a0).size+1) 0 0 zAC (Nat.zero_le _) zAC;rw[List.drop_zero,Nat.zero_add]at h3;show(((Xf (Zw a0)).2&&(((Xf (Zw a0)).1.length:Int)==Jo a0 ((Zw a0).size+1) 0 0))||(((!(Xf (Zw a0)).2)&&(((Xf (Zw a0)).1.length:Int)==0))&&(decide (Jo a0 ((Zw a0).size+1) 0 0>60))))=true
  rw[show Jo a0 ((Zw a0).size+1) 0 0=_ from h3];rcases nS hs (oW a0)with⟨q1,q2⟩|⟨q1,q2,q3⟩
  · rw[q1,q2];simp
  · rw[q1,q2,decide_eq_true (show((List.count 10 (Zw a0).data.toList:Nat):Int)>60 by omega)];rfl
end Go.Mo
