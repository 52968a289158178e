/- The models of the program and of the reference agree. No condition. -/
import Derived.Test.YtdffgedmahdehaaGreatL
namespace Go.Mo
open Go.Vm
set_option linter.unusedSimpArgs false
set_option linter.unusedVariables false
variable{L:Nat->Nat->Sum Bool Unit}{c:Nat->Bool}{len i k:Nat}
/-- a loop that looks whether one of the places is bad -/
theorem OK{L:Nat->Nat->Sum Bool Unit}{len:Nat}{c:Nat->Bool}(h0:∀v,L 0 v= .inr ())(hs:∀n v,L (n+1) v=(bif decide ((v:Int)<(len:Int))then(bif c v then .inl false else L n (v+1))else .inr ())):
    ∀n v,len<n+v->(L n v= .inr ()/\∀i,v<=i->i<len->c i=false)\/(L n v= .inl false/\∃i,v<=i/\i<len/\c i=true)
  |0,v,h=>.inl ⟨h0 v,fun i h1 h2=>fJ⟩
  |n+1,v,h=>by
    rw[hs];by_cases hv:v<len
    · rw[show decide ((v:Int)<(len:Int))=true by simpa using hv];cases hc:c v with
      |true=>exact .inr ⟨rfl,v,Nat.le_refl _,hv,hc⟩
      |false=>
        rcases OK h0 hs n (v+1) fJ with⟨e,k⟩|⟨e,i,k1,k2,k3⟩
        · grind
        · exact .inr ⟨e,i,fJ,k2,k3⟩
    · grind
/-- a loop that looks for the first place -/
theorem VD{β:Type}{L:Nat->Nat->Sum β Unit}{len:Nat}{c:Nat->Bool}{r:Nat->β}(h0:∀v,L 0 v= .inr ())(hs:∀n v,L (n+1) v=(bif decide ((v:Int)<(len:Int))then(bif c v then .inl (r v)else L n (v+1))else .inr ())):
    ∀n v,len<n+v->(L n v= .inr ()/\∀i,v<=i->i<len->c i=false)\/(∃i,L n v= .inl (r i)/\v<=i/\i<len/\c i=true/\∀k,v<=k->k<i->c k=false)
  |0,v,h=>.inl ⟨h0 v,fun i h1 h2=>fJ⟩
  |n+1,v,h=>by
    rw[hs];by_cases hv:v<len
    · rw[show decide ((v:Int)<(len:Int))=true by simpa using hv];cases hc:c v with
      |true=>exact .inr ⟨v,rfl,Nat.le_refl _,hv,hc,fun k h1 h2=>fJ⟩
      |false=>
        rcases VD h0 hs n (v+1) fJ with⟨e,k⟩|⟨i,e,k1,k2,k3,k4⟩
        · grind
        · grind
    · grind
/-- the same, as a Boolean -/
theorem zL(h0:∀v,L 0 v= .inr ())(hs:∀n v,L (n+1) v=(bif decide ((v:Int)<(len:Int))then(bif c v then .inl false else L n (v+1))else .inr ()))(n v:Nat)(h:len<n+v)(X:Bool):
    (match L n v with|.inl r=>r|.inr _=>X)=true↔(∀i,v<=i->i<len->c i=false)/\X=true:=by
  rcases OK h0 hs n v h with⟨e,k⟩|⟨e,i,k1,k2,k3⟩
  · grind
  · grind
theorem M5(h0:∀v,L 0 v= .inr ())(hs:∀n v,L (n+1) v=(bif decide ((v:Int)<(len:Int))then(bif c v then .inl true else L n (v+1))else .inr ()))(n v:Nat)(h:len<n+v):
    (match L n v with|.inl r=>r|.inr _=>false)=true↔∃i,v<=i/\i<len/\c i=true:=by
  rcases VD (r:=fun _=>true) h0 hs n v h with⟨e,k⟩|⟨i,e,k1,k2,k3,k4⟩
  · grind
  · rw[e];exact⟨fun _=>⟨i,k1,k2,k3⟩,fun _=>rfl⟩
theorem Pv{α:Type}[Inhabited α]{l:List α}{n:Nat}(h:i<n):nth (l.take n) i=nth l i:=by unfold nth;simp[List.getD_eq_getElem?_getD,List.getElem?_take,h]
@[simp] theorem jw (a0 a1 a2 : Int) : Zt a0 a1 a2 = Zc a0 a1 a2 := rfl
@[simp] theorem HC (a0 : Int) : zi a0 = WA a0 := rfl
@[simp] theorem LA (a0 : ZP) : YJ a0 = QK a0 := by
  rw[Bool.eq_iff_iff];have hs:YJ a0=true↔_:=(zL (L:=XP a0) (fun _=>rfl) (fun _ _=>rfl) (a0.Zz.length+1) 0 fJ _).trans (and_congr_right fun _=>zL (L:=XT a0) (fun _=>rfl) (fun _ _=>rfl) (a0.Yw.length+1) 0 fJ _)
  rw[hs];unfold QK;have hi:∀b:Bool,(bif b then false else(match Jo a0 (a0.Zz.length+1) 0 with|.inl r1=>r1|.inr _=>true))=true↔b=false/\_:=fun b=>by
    cases b
    · exact(zL (L:=Jo a0) (fun _=>rfl) (fun _ _=>rfl) (a0.Zz.length+1) 0 fJ true).trans (by simp only[true_and,and_true];exact Iff.rfl)
    · simp
  refine Iff.trans ?_ (hi _).symm;simp only[jw,Bool.or_eq_false_iff,Bool.not_eq_false',Bool.and_eq_true,beq_iff_eq,bne_eq_false_iff_eq,Bool.not_eq_eq_eq_not,Bool.not_false];grind
@[simp] theorem IF (a0 a1 : List Int) : y2 a0 a1 = decide (a0 = a1) := I6 (F := zZ a0 a1) (c := fun i => nth a0 i != nth a1 i) (fun i => by simp [bne, Bool.beq_eq_decide_eq]) (fun _ => rfl) (fun _ _ => rfl)
@[simp] theorem L2 (a0 a1 : List Int) : xE a0 a1 = decide (a0 = a1) := I6 (F := zX a0 a1) (c := fun i => nth a0 i != nth a1 i) (fun i => by simp [bne, Bool.beq_eq_decide_eq]) (fun _ => rfl) (fun _ _ => rfl)
@[simp] theorem MJ (a0 a1 : ZM) : JP a0 a1 = decide (a0 = a1) := by
  obtain⟨t,p,s⟩:=a0;obtain⟨t',p',s'⟩:=a1;by_cases h1:t=t'<;>by_cases h2:p=p'<;>by_cases h3:s=s'<;>simp_all[JP]
@[simp] theorem Mq (a0 a1 : ZM) : JQ a0 a1 = decide (a0 = a1) := by
  obtain⟨t,p,s⟩:=a0;obtain⟨t',p',s'⟩:=a1;by_cases h1:t=t'<;>by_cases h2:p=p'<;>by_cases h3:s=s'<;>simp_all[JQ]
theorem qT(a0:ZH)(hk:k<a0.ZG.length):decide (zf a0 (nth a0.ZG k)<(k:Int))=yW (a0.ZG.take k) (nth a0.ZG k):=by
  rw[Bool.eq_iff_iff];have hi:yW (a0.ZG.take k) (nth a0.ZG k)=true↔_:=M5 (L:=yD (a0.ZG.take k) (nth a0.ZG k)) (fun _=>rfl) (fun _ _=>rfl) _ 0 fJ
  rw[hi];unfold zf;have hl:(a0.ZG.take k).length=k:=fc
  rw[hl];rcases VD (L:=zR a0 (nth a0.ZG k)) (r:=fun i=>(i:Int)) (fun _=>rfl) (fun _ _=>rfl) (a0.ZG.length+1) 0 fJ with⟨e,p⟩|⟨i,e,p1,p2,p3,p4⟩
  · have:=p k (Nat.zero_le _) hk;simp at this
  · rw[e];simp only[decide_eq_true_eq];constructor
    · intro h;exact⟨i,Nat.zero_le _,fJ,by rw[Pv fJ];simpa using p3⟩
    · rintro⟨j,_,hj,hc⟩;rw[Pv hj]at hc;rcases Nat.lt_or_ge j i with h|h
      · have:=p4 j (Nat.zero_le _) h;simp at this hc;exact absurd hc this
      · omega
@[simp] theorem IK (a0 : ZH) : JE a0 = JD a0 := by
  rw[Bool.eq_iff_iff];have hs:JE a0=true↔_:=(zL (L:=Jy a0) (fun _=>rfl) (fun _ _=>rfl) (a0.ZG.length+1) 0 fJ _).trans (and_congr_right fun _=>zL (L:=J4 a0) (fun _=>rfl) (fun _ _=>rfl) (a0.ZK.length+1) 0 fJ _)
  rw[hs];unfold JD;have hi:∀b:Bool,(bif b then false else(match Js a0 (a0.ZG.length+1) 0 with|.inl r1=>r1|.inr _=>(match J6 a0 (a0.ZK.length+1) 0 with|.inl r2=>r2|.inr _=>true)))=true↔b=false/\_:=fun b=>by
    cases b
    · exact((zL (L:=Js a0) (fun _=>rfl) (fun _ _=>rfl) (a0.ZG.length+1) 0 fJ _).trans (and_congr_right fun _=>zL (L:=J6 a0) (fun _=>rfl) (fun _ _=>rfl) (a0.ZK.length+1) 0 fJ true)).trans (by simp only[true_and,and_true];exact Iff.rfl)
    · simp
  refine Iff.trans ?_ (hi _).symm;simp only[jw,Bool.or_eq_false_iff,Bool.not_eq_false',Bool.and_eq_true,Bool.not_eq_eq_eq_not,Bool.not_false];constructor
  · rintro⟨h1,h2,h3,h4⟩;exact⟨⟨h3,by simpa using h4⟩,fun i hz hi=>by rw[<-qT a0 hi];exact h1 i hz hi,fun i hz hi=>by simpa using h2 i hz hi⟩
  · rintro⟨⟨h3,h4⟩,h1,h2⟩;exact⟨fun i hz hi=>by rw[qT a0 hi];exact h1 i hz hi,fun i hz hi=>by simpa using h2 i hz hi,h3,by simpa using h4⟩
@[simp] theorem NF (a0 : ZY) : YZ a0 = X8 a0 := by simp [YZ, X8]
@[simp] theorem ID (a0 : ZY) : YE a0 = Kf a0 := by simp [YE, Kf]
@[simp] theorem HL (a0 : ZQ) : jb a0 = qo a0 := by simp [jb, qo]
@[simp] theorem Mb (a0 : ZF) : ∀ (n : Nat) (v0 : Nat), KJ a0 n v0 = Xr a0 n v0 := by
  intro n;induction n with
  |zero=>intros;rfl
  |succ n ih=>intros;simp[KJ,Xr,ih,ByteArray.append_assoc]
@[simp] theorem TO (a0 : ZF) : Yx a0 = XZ a0 := by simp [Yx, XZ]
@[simp] theorem Ln (a0 : ZO) : XQ a0 = KY a0 := by simp [XQ, KY]
@[simp] theorem Hz (a0 : Int) (a1 : Int) : kI a0 a1 = Pt a0 a1 := by simp [kI, Pt]
@[simp] theorem I8 (a0 : List Int) : ∀ (n : Nat) (v0 : Int) (v1 : Nat), zb a0 n v0 v1 = qq a0 n v0 v1 := by
  intro n;induction n with
  |zero=>intros;rfl
  |succ n ih=>intros;simp[zb,qq,ih,ByteArray.append_assoc]
@[simp] theorem Hw (a0 : List Int) : qp a0 = TU a0 := by simp [qp, TU]
@[simp] theorem T4 (a0 : Int) (a1 : List Int) : Xy a0 a1 = Xz a0 a1 := by simp [Xy, Xz]
@[simp] theorem P1 (a1 : ZE) : ∀ (n : Nat) (v0 : List Int) (v1 : Nat), QI a1 n v0 v1 = QN a1 n v0 v1 := by
  intro n;induction n with
  |zero=>intros;rfl
  |succ n ih=>intros;simp[QI,QN,ih,ByteArray.append_assoc]
@[simp] theorem PY (a1 : ZE) : ∀ (n : Nat) (v0 : List Int) (v1 : Nat), Xa a1 n v0 v1 = Xb a1 n v0 v1 := by
  intro n;induction n with
  |zero=>intros;rfl
  |succ n ih=>intros;simp[Xa,Xb,ih,ByteArray.append_assoc]
@[simp] theorem kc (a0 : Int) (a1 : ZE) : QA a0 a1 = X7 a0 a1 := by simp [QA, X7]
theorem Wv(a1:ByteArray):∀(n:Nat)(p l:List Int)(v:Nat),a1.size<n+v->v<=a1.size->Jk a1 n (p++l) v=p++Ji a1.data.toList n l v:=by
  intro n;induction n with
  |zero=>intro p l v h hv;omega
  |succ n ih=>
    intro p l v h ra;have hs:a1.size=a1.data.toList.length:=(Array.length_toList).symm
    rw[Jk,Ji,<-hs];by_cases hv:v<a1.size
    · rw[show decide ((v:Int)<(a1.size:Int))=true by simpa using hv];simp only[cond_true];rw[List.append_assoc,ih p _ (v+1) fJ fJ];rfl
    · grind
@[simp] theorem M9 (a0 : Int) (a1 : ByteArray) (a2 : Int) : Km a0 a1 a2 = Kq a0 a1 a2 := by
  have:=Wv a1 (a1.size+1) [a2] [] 0 fJ fJ;simp only[List.append_nil]at this;simp only[Km,Kq,zO,this,T4];rfl
@[simp] theorem MU (a0 : Int) (a1 : ZP) : ∀ (n : Nat) (v0 : List Int) (v1 : Nat), KC a0 a1 n v0 v1 = KI a0 a1 n v0 v1 := by
  intro n;induction n with
  |zero=>intros;rfl
  |succ n ih=>intros;simp[KC,KI,ih,ByteArray.append_assoc]
@[simp] theorem U3 (a0 : Int) (a1 : ZP) : Yl a0 a1 = XD a0 a1 := by simp [Yl, XD]
@[simp] theorem Ou (a0 : Int) (a1 : List ZM) : ∀ (n : Nat) (v0 : List Int) (v1 : Nat), Qs a0 a1 n v0 v1 = Qf a0 a1 n v0 v1 := by
  intro n;induction n with
  |zero=>intros;rfl
  |succ n ih=>intros;simp[Qs,Qf,ih,ByteArray.append_assoc]
@[simp] theorem MG (a0 : Int) (a1 : List ZM) : Qe a0 a1 = Qm a0 a1 := by simp [Qe, Qm]
@[simp] theorem Oq (a0 : Int) (a1 : Int) (a2 : List ZM) (a3 : Int) : xi a0 a1 a2 a3 = xr a0 a1 a2 a3 := by simp [xi, xr]
theorem VT(a0:ZH)(a1:ZP):YI a0 a1=a0.ZK.map (fun c=>Yl c.Method a1):=by have:=PQ (as:=a0.ZK) (fun c=>[Yl c.Method a1]) (F:=fun n i l=>Qd a0 a1 n l i) (fun _ _ _=>rfl) (a0.ZK.length+1) 0 [] fJ (Nat.zero_le _);unfold YI;rw[this,List.drop_zero,ON];rfl
theorem Og{α:Type}[Inhabited α](l:List α)(x:α):nth (l++[x]) l.length=x:=by simp[nth]
theorem NC{α:Type}[Inhabited α](l:List α)(x:α)(h:i<l.length):nth (l++[x]) i=nth l i:=by simp[nth,List.getD_eq_getElem?_getD,List.getElem?_append_left h]
theorem Lp(x:ZQ)(a1:Int)(h:Sm maxLen x)(r:ZE)(hr:r=ZE.mk (x.ZJ.ZG.length:Int) a1 0 [] []):
    Jg (ZH.mk x.ZJ.ZG (x.ZJ.ZK++[r])) (YI (ZH.mk x.ZJ.ZG (x.ZJ.ZK++[r])) x.Doc) (W (((x.ZJ.ZK++[r]).length:Int)-1))=yR x a1:=by
  have hl:x.ZJ.ZK.length<=maxLen:=JA (ZH.KK (ZQ.XJ h));have hm:maxLen=9223372036854775807:=fO;have e1:W (((x.ZJ.ZK++[r]).length:Int)-1)=(x.ZJ.ZK.length:Int):=by rw[List.length_append,List.length_singleton,show((x.ZJ.ZK.length+1:Nat):Int)-1=(x.ZJ.ZK.length:Int)by omega,Y5];omega
  have e2:nth (x.ZJ.ZK++[r]) x.ZJ.ZK.length=r:=Og _ _;have e3:nth ((x.ZJ.ZK++[r]).map (fun c=>XD c.Method x.Doc)) x.ZJ.ZK.length=XD r.Method x.Doc:=by rw[List.map_append];have:=Og (x.ZJ.ZK.map (fun c=>XD c.Method x.Doc)) (XD r.Method x.Doc);rw[List.length_map]at this;exact this
  have e4:r.Count=(x.ZJ.ZG.length:Int):=by rw[hr]
  have e5:r.Method=a1:=by rw[hr]
  unfold Jg yR;rw[e1,VT];simp only[Int.toNat_natCast,e1,e2,e3,e4,e5,jw,Zc,List.length_map,bne_self_eq_false,Int.le_refl,decide_true,Bool.and_true,Int.natCast_nonneg,Bool.not_true,Bool.or_false,cond_false,List.take_length,Oq,U3,kc];by_cases hz:0<x.ZJ.ZK.length
  · have e6:W ((x.ZJ.ZK.length:Int)-1)=((x.ZJ.ZK.length-1:Nat):Int):=by rw[Ll _ fJ];omega
    rw[e6,Int.toNat_natCast,NC _ _ fJ]
  · grind
theorem UA(a0:ZF)(a1:Int)(h:Sm maxLen a0):∀n l i,JK a0 a1 n l i=Xp a0 a1 n l i
  |0,_,_=>rfl
  |n+1,l,i=>by simp only[JK,Xp,UA a0 a1 h n,Lp (nth a0.ZC i) a1 (XR (ZF.Yy h)) _ rfl]
@[simp] theorem q7 (a0 : ZF) (a1 : Int) (h : Sm maxLen a0) : Z0 a0 a1 = Zo a0 a1 := by
  simp only[Z0,Zo,UA a0 a1 h]
@[simp] theorem UW (a0 : Int) (a1 : Int) (a2 : Int) : Kn a0 a1 a2 = K6 a0 a1 a2 := by simp [Kn, K6]
theorem Wd(a0:Int)(a1:List Int):∀n v i,Ke a0 a1 n v i=XS a0 a1 n v i
  |0,_,_=>rfl
  |n+1,v,i=>by simp only[Ke,XS,Wd a0 a1 n,UW]
@[simp] theorem NZ (a0 : Int) (a1 : List Int) : za a0 a1 = Yr a0 a1 := by simp only [za, Yr, Wd]
@[simp] theorem M7 (a0 : Int) : ∀ (n : Nat) (v0 : List Int), K2 a0 n v0 = Kt a0 n v0 := by
  intro n;induction n with
  |zero=>intros;rfl
  |succ n ih=>intros;simp[K2,Kt,ih,ByteArray.append_assoc]
@[simp] theorem kE (a0 : Int) (a1 : List Int) : Yh a0 a1 = zG a0 a1 := by simp [Yh, zG]
@[simp] theorem Ii (a0 : ZF) (a1 : Int) (h : Sm maxLen a0) : J1 a0 a1 = XL a0 a1 := by
  simp only[J1,XL,q7 a0 a1 h,kE]
theorem qW(a0:Int):∀n i o l,Xl a0 n i o l=Yp a0 n l i o
  |0,_,_,_=>rfl
  |n+1,i,o,l=>by simp only[Xl,Yp,qW a0 n,NZ]
@[simp] theorem T7 (a0 : Int) (a1 : List Int) (a2 : Int) : Y4 a0 a1 a2 = YH a0 a1 a2 := by
  simp only[Y4,YH,qW,jw];rw[Bool.or_comm]
@[simp] theorem Ui (a0 : ZH) (a1 : ZE) : ZX a0 a1 = Z2 a0 a1 := by simp [ZX, Z2]
theorem ki(a0:ZF)(a1:Int)(a2:List ZO)(n v:Nat)(l:List ZQ):XH a0 a1 a2 (n+1) false v l=(false,l):=by simp only[XH,Bool.and_false,QZ]
theorem RE(a0:ZF)(a1:Int)(a2:List ZO)(h:Sm maxLen a0):∀n v l,a0.ZC.length<n+v->v<=a0.ZC.length->(∃z,Zv a0 a1 a2 n v l= .inr z/\XH a0 a1 a2 n true v l=(true,z))\/(Zv a0 a1 a2 n v l= .inl (a0,false)/\(XH a0 a1 a2 n true v l).1=false)
  |0,v,l,h1,h2=>fJ
  |n+1,v,l,h1,h2=>by
    simp only[XH,Zv,Bool.and_true,XL,q7 a0 a1 h,kE,T7,Ui];by_cases hi:v<a0.ZC.length
    · rw[show decide ((v:Int)<(a0.ZC.length:Int))=true by simpa using hi,Qr,Qr];cases hb:(Z2 (nth a0.ZC v).ZJ (ZE.mk ((nth a0.ZC v).ZJ.ZG.length:Int) a1 (zG a1 (Zo a0 a1)) (YH a1 (Zo a0 a1) (v:Int)) a2)).2
      · obtain⟨m,rfl⟩:∃m,n=m+1:=⟨n-1,fJ⟩;rw[ki];exact .inr ⟨rfl,rfl⟩
      · exact RE a0 a1 a2 h n (v+1) _ fJ hi
    · grind
@[simp] theorem W1 (a0 : ZF) (a1 : Int) (a2 : List ZO) (h : Sm maxLen a0) : JO a0 a1 a2 = ZS a0 a1 a2 := by
  unfold JO ZS;simp only[TO];by_cases hl:0<a0.ZC.length
  · have e1:decide ((a0.ZC.length:Int)>0)=true:=decide_eq_true fJ;have e2:((a0.ZC.length:Int)==0)=false:=beq_eq_false_iff_ne.2 fJ;rw[e1,e2];cases XZ a0
    · rw[Bool.false_and,ki];rfl
    · rcases RE a0 a1 a2 h (a0.ZC.length+1) 0 a0.ZC fJ (Nat.zero_le _)with⟨z,q1,q2⟩|⟨q1,q2⟩
      · rw[Bool.true_and,q1,q2];rfl
      · grind
  · have e1:decide ((a0.ZC.length:Int)>0)=false:=decide_eq_false fJ;have e2:((a0.ZC.length:Int)==0)=true:=beq_iff_eq.2 fJ;rw[e1,e2,Bool.and_false,ki];rfl
@[simp] theorem GL (a0 a1 : Int) : Tx a0 a1 = if a1 > a0 then a1 else a0 := by
  unfold Tx;by_cases h:a1>a0<;>simp[h]
end Go.Mo
