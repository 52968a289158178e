/- The plain law of FnTop: at every moment nothing forged is valid, and what is valid and covered stays valid through the next event. No condition. -/
import Derived.Test.YthecodaabaaaoaaGreatE
namespace Go.Mo
open Go.Vm
set_option linter.unusedSimpArgs false
set_option linter.unusedVariables false
variable{w a0 z w':ZF}{P:ZF×Bool->Prop}{b id n k t ec o q nx a1 a2 m a4 a5 ba bb B:Int}{i v k0 j:Nat}{a A:ZE}{x y:ZN}{f fr:ZO}{s:ZW}{l:List Ze}{ids gu fo sq:List Int}{T:Nat->Int}{d a3:ZR}{u:List ZT}{r:Zb}{Q:Nat->List Zm->List Int->Prop}{st:Zp}{p:ZT}{C:Int->Prop}{keys:List Y4}{e:Zx}{c:YN}{ce:List YN}
theorem MD(a0:ZF)(k:Nat):∀(n:Nat)(l:List Int)(v:Nat),z9 a0 k n l v≠ .inl true:=by
  intro n;induction n with
  |zero=>intro l v h;cases h
  |succ n ih=>
    intro l v h;rw[z9]at h;generalize decide ((v:Int)<((nth a0.ZA k).ZB.length:Int))=c at h;cases c with
    |false=>cases h
    |true=>
      simp only[cond_true]at h;generalize(QM l (nth (nth a0.ZA k).ZB v).Id||decide ((nth (nth a0.ZA k).ZB v).Id>=a0.Next))=c at h;cases c with
      |true=>cases h
      |false=>exact ih _ _ h
theorem MX(a0:ZF):∀(n:Nat)(l:List Int)(v:Nat),xF a0 n l v≠ .inl true:=by
  intro n;induction n with
  |zero=>intro l v h;cases h
  |succ n ih=>
    intro l v h;rw[xF]at h;generalize decide ((v:Int)<(a0.ZA.length:Int))=c at h;cases c with
    |false=>cases h
    |true=>
      simp only[cond_true]at h;generalize(!Ys (nth a0.ZA v)||(nth a0.ZA v).Id !=(v:Int))=c at h;cases c with
      |true=>cases h
      |false=>
        simp only[cond_false]at h;cases hh:z9 a0 v ((nth a0.ZA v).ZB.length+1) l 0 with
        |inl r=>
          rw[hh]at h;simp only at h;cases h;exact MD _ _ _ _ _ hh
        |inr z=>rw[hh]at h;exact ih _ _ h
theorem uw(s:Sum Bool Unit)(X:Bool):s≠ .inl true->((match s with|.inl r=>r|.inr _=>X)=true↔s= .inr ()/\X=true):=by
  intro h;cases s with
  |inl r=>cases r with
    |true=>exact absurd rfl h
    |false=>simp
  |inr u=>simp
def qS(l:List ZE):List Int:=l.flatMap (fun a=>a.ZB.map (·.Id))
def TU(nx:Int)(l m:List Int):Prop:=(∀x∈m,x∉l/\x<nx)/\m.Nodup
theorem Dj(l:List Int)(x:Int):QM l x=true↔x∈l:=by
  rw[NQ];constructor
  · rintro⟨i,_,h,e⟩;rw[beq_iff_eq,XQ h]at e;rw[<-e];exact List.getElem_mem h
  · intro h;obtain⟨i,hi,e⟩:=List.mem_iff_getElem.1 h;exact⟨i,Nat.zero_le _,hi,by rw[beq_iff_eq,XQ hi,e]⟩
theorem SO{x:Int}{l m:List Int}:TU nx l (x::m)↔(x∉l/\x<nx)/\TU nx (l++[x]) m:=by
  unfold TU;grind
theorem PA(nx:Int)(l:List Int):TU nx l []:=⟨fun x h=>zBC,List.nodup_nil⟩
theorem Bs{l m k:List Int}:TU nx l (m++k)↔TU nx l m/\TU nx (l++m) k:=by
  induction m generalizing l with
  |nil=>rw[List.nil_append,List.append_nil];exact⟨fun h=>⟨PA _ _,h⟩,fun h=>h.2⟩
  |cons x m ih=>
    rw[List.cons_append,SO,SO,ih,List.append_assoc];grind
theorem oq(w:ZF)(k:Nat):∀(n:Nat)(l:List Int)(v:Nat),(nth w.ZA k).ZB.length<n+v->v<=(nth w.ZA k).ZB.length->
    (z9 w k n l v= .inr (l++((nth w.ZA k).ZB.drop v).map (·.Id))/\TU w.Next l (((nth w.ZA k).ZB.drop v).map (·.Id)))\/(z9 w k n l v= .inl false/\¬TU w.Next l (((nth w.ZA k).ZB.drop v).map (·.Id)))
  |0,l,v,h,hv=>zAA
  |n+1,l,v,h,hv=>by
    rw[z9]
    by_cases iQ:v<(nth w.ZA k).ZB.length
    · rw[decide_eq_true (show(v:Int)<((nth w.ZA k).ZB.length:Int)by omega),XA,List.drop_eq_getElem_cons iQ,List.map_cons,XQ iQ,SO]
      generalize hx:((nth w.ZA k).ZB[v]).Id=x
      cases hc:(QM l x||decide (x>=w.Next))with
      |true=>
        rw[XA]
        refine .inr ⟨rfl,fun hg=>?_⟩
        rcases Bool.or_eq_true _ _▸hc with h1|h1
        · exact hg.1.1 ((Dj _ _).1 h1)
        · have:=of_decide_eq_true h1;have:=hg.1.2;omega
      |false=>
        rw[XE]
        rw[Bool.or_eq_false_iff]at hc
        have hn:x∉l/\x<w.Next:=⟨fun hm=>(by rw[(Dj _ _).2 hm]at hc;cases hc.1),(by have:=of_decide_eq_false hc.2;omega)⟩
        rcases oq w k n (l++[x]) (v+1) zAA iQ with⟨e,hg⟩|⟨e,hg⟩
        · exact .inl ⟨by rw[e,List.append_assoc];rfl,hn,hg⟩
        · exact .inr ⟨e,fun h=>hg h.2⟩
    · rw[decide_eq_false (show ¬(v:Int)<((nth w.ZA k).ZB.length:Int)by omega),XE,List.drop_eq_nil_of_le zAA,List.map_nil,List.append_nil]
      exact .inl ⟨rfl,PA _ _⟩
theorem oM(w:ZF):∀(n:Nat)(l:List Int)(v:Nat),w.ZA.length<n+v->v<=w.ZA.length->
    (xF w n l v= .inr ()↔(∀i,v<=i->i<w.ZA.length->Ys (nth w.ZA i)=true/\(nth w.ZA i).Id=(i:Int))/\TU w.Next l (qS (w.ZA.drop v)))
  |0,l,v,h,hv=>zAA
  |n+1,l,v,h,hv=>by
    rw[xF]
    by_cases iQ:v<w.ZA.length
    · rw[decide_eq_true (show(v:Int)<(w.ZA.length:Int)by omega),XA]
      have e1:qS (w.ZA.drop v)=(nth w.ZA v).ZB.map (·.Id)++qS (w.ZA.drop (v+1)):=by
        rw[List.drop_eq_getElem_cons iQ,XQ iQ];rfl
      rw[e1,Bs]
      cases hc:(!Ys (nth w.ZA v)||(nth w.ZA v).Id !=(v:Int))with
      |true=>
        grind
      |false=>
        rw[XE]
        simp only[Bool.or_eq_false_iff,Bool.not_eq_false',bne_eq_false_iff_eq]at hc
        rcases oq w v ((nth w.ZA v).ZB.length+1) l 0 zAA (Nat.zero_le _)with⟨e,hg⟩|⟨e,hg⟩
        · rw[e]
          rw[List.drop_zero]at hg⊢
          refine(oM w n _ (v+1) zAA iQ).trans ⟨fun h=>⟨fun i h1 h2=>?_,hg,h.2⟩,fun h=>⟨fun i h1 h2=>h.1 i zAA h2,h.2.2⟩⟩
          grind
        · grind
    · rw[decide_eq_false (show ¬(v:Int)<(w.ZA.length:Int)by omega),XE,List.drop_eq_nil_of_le zAA]
      exact⟨fun _=>⟨fun i h1 h2=>zAA,PA _ _⟩,fun _=>rfl⟩
structure PlW(w:ZF):Prop where
  fr:yY w.Frame=true
  en:w.Zw.length=w.Zd.length
  ar:1<=w.ZA.length/\w.ZA.length<=4
  sl:w.Y2.length=w.Frame.ZC.length
  ll:(w.Yc.length:Int)<=w.Frame.XJ
  nx:1<=w.Next
  lr:Qe w.Yc=true
  fo:Qe w.YL=true
  ce:∀i,i<w.Zd.length->xD w.Frame.Zt (nth w.Zd i)=true/\Xy w.Zd (nth w.Zd i).Za=(i:Int)/\ZX (nth w.Zw i) (-1) 10001=true
  ok:∀i,i<w.ZA.length->Ys (nth w.ZA i)=true/\(nth w.ZA i).Id=(i:Int)
  nd:(qS w.ZA).Nodup
  lt:∀x∈qS w.ZA,x<w.Next
  sq:∀i,i<w.Y2.length->0<=nth w.Y2 i
  lf:∀i,i<w.Yc.length->0<=ZY w.Frame.ZC (nth w.Yc i)
theorem BY(w:ZF):Vy w=true↔PlW w:=by
  unfold Vy;have hi:∀b:Bool,(bif b then false else(match Wp w (w.Zd.length+1) 0 with|.inl r1=>r1|.inr _=>(match xF w (w.ZA.length+1) ([]:List Int) 0 with|.inl r2=>r2|.inr _=>(match Wv w (w.Y2.length+1) 0 with|.inl r4=>r4|.inr _=>(match W1 w (w.Yc.length+1) 0 with|.inl r5=>r5|.inr _=>true)))))=true↔b=false/\_:=fun b=>by
    cases b
    · exact((Jj (L:=Wp w) (fun _=>rfl) (fun _ _=>rfl) (w.Zd.length+1) 0 zAA _).trans (and_congr_right fun _=>(uw _ _ (MX w (w.ZA.length+1) [] 0)).trans (and_congr_right fun _=>(Jj (L:=Wv w) (fun _=>rfl) (fun _ _=>rfl) (w.Y2.length+1) 0 zAA _).trans (and_congr_right fun _=>Jj (L:=W1 w) (fun _=>rfl) (fun _ _=>rfl) (w.Yc.length+1) 0 zAA _)))).trans ⟨fun h=>⟨rfl,h⟩,fun h=>h.2⟩
    · exact⟨fun h=>zBC,fun h=>(by cases h.1)⟩
  refine(hi _).trans ?_;rw[oM w (w.ZA.length+1) [] 0 zAA (Nat.zero_le _),List.drop_zero];simp only[Bool.or_eq_false_iff,Bool.not_eq_false',beq_iff_eq,bne_eq_false_iff_eq,decide_eq_false_iff_not,ZX,Bool.and_eq_true,decide_eq_true_eq];constructor
  · rintro⟨⟨⟨⟨⟨⟨⟨⟨h1,h2⟩,h3⟩,h4⟩,h5⟩,h6⟩,h7⟩,h8⟩,h9,⟨cA,h11,h12⟩,h13,h14,_⟩;exact⟨h1,zAA,zAA,zAA,zAA,zAA,h7,h8,fun i hi=>⟨(h9 i (Nat.zero_le _) hi).1.1,(h9 i (Nat.zero_le _) hi).1.2,by have:=(h9 i (Nat.zero_le _) hi).2;simpa[ZX]using this⟩,fun i hi=>cA i (Nat.zero_le _) hi,h12,fun x hx=>(h11 x hx).2,fun i hi=>by have:=h13 i (Nat.zero_le _) hi;omega,fun i hi=>by have:=h14 i (Nat.zero_le _) hi;omega⟩
  · intro h;refine⟨⟨⟨⟨⟨⟨⟨⟨h.fr,by have:=h.en;omega⟩,by have:=h.ar;omega⟩,by have:=h.sl;omega⟩,by have:=h.ll;omega⟩,by have:=h.nx;omega⟩,h.lr⟩,h.fo⟩,fun i _ hi=>⟨⟨(h.ce i hi).1,(h.ce i hi).2.1⟩,by have:=(h.ce i hi).2.2;simpa[ZX]using this⟩,⟨fun i _ hi=>h.ok i hi,fun x hx=>⟨fun hn=>(by cases hn),h.lt x hx⟩,h.nd⟩,fun i _ hi=>by have:=h.sq i hi;omega,fun i _ hi=>by have:=h.lf i hi;omega,trivial⟩
/- archives -/
theorem Kr{α:Type}[Inhabited α](l:List α)(i j:Nat)(x:α):nth (l.set i x) j=if i=j/\j<l.length then x else nth l j:=by
  simp only[nth,List.getD_eq_getElem?_getD,List.getElem?_set];grind
structure PlA(a:ZE):Prop where
  it:∀x∈a.ZB,JS x=true
  as:(a.ZB.map (·.Id)).Pairwise (·<·)
  id:0<=a.Id/\a.Id<=99
  ln:a.ZB.length<=8
theorem Vl(a:ZE):Ys a=true↔PlA a:=by
  unfold Ys;refine(Jj (L:=xv a) (fun _=>rfl) (fun _ _=>rfl) (a.ZB.length+1) 0 zAA _).trans ?_;simp only[Bool.or_eq_false_iff,Bool.not_eq_false',Bool.and_eq_false_imp,decide_eq_true_eq,decide_eq_false_iff_not,ZX,Bool.and_eq_true];constructor
  · rintro⟨h1,⟨h2,h3⟩,h4⟩;refine⟨fun x hx=>?_,?_,⟨h2,h3⟩,zAA⟩
    · obtain⟨i,hi,e⟩:=List.mem_iff_getElem.1 hx;have:=(h1 i (Nat.zero_le _) hi).1
      rw[XQ hi,e]at this;exact this
    · have hc:∀i,0<i->i<(a.ZB.map (·.Id)).length->nth (a.ZB.map (·.Id)) (i-1)<nth (a.ZB.map (·.Id)) i:=fun i h0 hi=>by
        rw[List.length_map]at hi;rw[Pj zAA,Pj hi];have:=(h1 i (Nat.zero_le _) hi).2 zAA
        omega
      rw[List.pairwise_iff_getElem];intro i j hi hj bM;have:=Pr hc (j-i) i zAA zAA
      rw[show i+(j-i)=j by omega,XQ hi,XQ hj]at this;exact this
  · intro h;refine⟨fun i _ hi=>⟨h.it _ (by rw[XQ hi];exact List.getElem_mem hi),fun h0=>?_⟩,h.id,by have:=h.ln;omega⟩;have:=List.pairwise_iff_getElem.1 h.as (i-1) i (by rw[List.length_map];omega) (by rw[List.length_map];exact hi) zAA
    rw[List.getElem_map,List.getElem_map]at this;rw[XQ (show i-1<a.ZB.length by omega),XQ hi];omega
theorem IC(a:ZE)(l:List ZE):qS (a::l)=a.ZB.map (·.Id)++qS l:=rfl
theorem FA(l m:List ZE):qS (l++m)=qS l++qS m:=List.flatMap_append
theorem Sl(l:List ZE)(i:Nat)(h:i<l.length):∃A B,qS l=A++((nth l i).ZB.map (·.Id)++B)/\∀a,qS (l.set i a)=A++(a.ZB.map (·.Id)++B):=by
  refine⟨qS (l.take i),qS (l.drop (i+1)),?_,fun a=>?_⟩
  · rw[<-IC,<-FA,XQ h,<-List.drop_eq_getElem_cons h,List.take_append_drop]
  · rw[<-IC,<-FA,List.set_eq_take_append_cons_drop,if_pos h]
theorem FG{l:List ZE}(e:(a.ZB.map (·.Id)).Sublist ((nth l i).ZB.map (·.Id))):(qS (l.set i a)).Sublist (qS l):=by
  by_cases h:i<l.length
  · obtain⟨A,B,h1,h2⟩:=Sl l i h;grind
  · rw[List.set_eq_of_length_le zAA];exact List.Sublist.refl _
theorem Ge{l:List ZE}{x:Int}(h:i<l.length)(e:(a.ZB.map (·.Id)).Perm (x::(nth l i).ZB.map (·.Id))):(qS (l.set i a)).Perm (x::qS l):=by
  obtain⟨A,B,h1,h2⟩:=Sl l i h;grind
/- the arrangement of a world stays -/
theorem Rn(h:PlW w)(ha:Ys a=true)(cI:a.Id=(i:Int)):∀j,j<(w.ZA.set i a).length->Ys (nth (w.ZA.set i a) j)=true/\(nth (w.ZA.set i a) j).Id=(j:Int):=fun j hj=>by
  rw[List.length_set]at hj;rw[Kr];split
  · rename_i hc;rw[<-hc.1];exact⟨ha,cI⟩
  · exact h.ok j hj
theorem wX(h:PlW w)(ha:Ys a=true)(cI:a.Id=(i:Int))(e:(a.ZB.map (·.Id)).Sublist ((nth w.ZA i).ZB.map (·.Id)))(hl:sq.length=w.Y2.length)(hs:∀j,j<sq.length->0<=nth sq j):PlW (ZF.mk w.Frame w.Zd w.Zw (w.ZA.set i a) sq w.Yc w.Next w.YL):=
  ⟨h.fr,h.en,by rw[List.length_set];exact h.ar,hl.trans h.sl,h.ll,h.nx,h.lr,h.fo,h.ce,Rn h ha cI,h.nd.sublist (FG e),fun x hx=>h.lt x ((FG e).subset hx),hs,h.lf⟩
theorem pO(h:PlW w)(ha:Ys a=true)(cI:a.Id=(i:Int))(e:a.ZB.map (·.Id)=(nth w.ZA i).ZB.map (·.Id)):PlW (ZF.mk w.Frame w.Zd w.Zw (w.ZA.set i a) w.Y2 w.Yc w.Next w.YL):=
  wX h ha cI (by rw[e];exact List.Sublist.refl _) rfl h.sq
/- the steps, case by case -/
theorem Wq(x a b:Int):ZX x a b=true↔a<=x/\x<=b:=by
  simp only[ZX,Bool.and_eq_true,decide_eq_true_eq]
theorem NI(h:yY f=true):0<=f.Now/\f.Now<=10000:=by
  simp only[yY,KY,Bool.and_eq_true,Wq]at h;exact h.2
theorem CZ(h:yY f=true)(h0:0<=t)(h1:t<=10000):yY (ZO.mk f.Zt f.ZC f.Methods f.XJ t)=true:=by
  simp only[yY,KY,Bool.and_eq_true,Wq]at h⊢;exact⟨h.1,h0,h1⟩
theorem yq{i:Int}(h:YG w i=true)(hl:w.ZA.length<=9223372036854775807):0<=i/\i.toNat<w.ZA.length:=by
  unfold YG at h;rw[Wq]at h;simp only[Y0]at h;omega
theorem vn(h0:P (w,false))(h1:0<=n->n<=100->W (w.Frame.Now+n)<=10000->P (ZF.mk (ZO.mk w.Frame.Zt w.Frame.ZC w.Frame.Methods w.Frame.XJ (W (w.Frame.Now+n))) w.Zd w.Zw w.ZA w.Y2 w.Yc w.Next w.YL,true)):P (KI w n):=by
  unfold KI;refine Z1 (p:=P) (fun _=>h0) (fun h=>?_);simp only[Bool.or_eq_false_iff,Bool.not_eq_false',Wq,decide_eq_false_iff_not]at h;exact h1 h.1.1 h.1.2 zAA
theorem OJ{P:ZF×Bool->Prop}{a0:ZF}{a1 a2:Int}{a3:ZR}{a4 a5:Int}(h0:P (a0,false))(h1:∀v,v<a0.Zd.length->(nth a0.Zd v).Key=a2->(Ru a0 a2 a3 a4 v).2=true->(YZ (nth a0.ZA a1.toNat) (RR a0 a2 a3 a4 a5 v)).2=true->P (PW a0 a1 (RR a0 a2 a3 a4 a5 v),true)):
    ∀(m v:Nat)(r:ZF×Bool),JC a0 a1 a2 a3 a4 a5 m v= .inl r->P r
  |0,v,r,h=>zBC
  |m+1,v,r,h=>by
    simp only[JC]at h
    by_cases hv:v<a0.Zd.length
    · rw[decide_eq_true (show(v:Int)<(a0.Zd.length:Int)by omega),XA]at h
      cases hk:((nth a0.Zd v).Key !=a2)with
      |true=>rw[hk,XA]at h;exact OJ h0 h1 m (v+1) r h
      |false=>
        rw[hk,XE]at h
        have hk:(nth a0.Zd v).Key=a2:=by simpa using hk
        change(bif((!(Ru a0 a2 a3 a4 v).2)||!(YZ (nth a0.ZA a1.toNat) (RR a0 a2 a3 a4 a5 v)).2)then(Sum.inl (a0,false):Sum (ZF×Bool) Unit)else .inl (PW a0 a1 (RR a0 a2 a3 a4 a5 v),true))= .inl r at h
        grind
    · grind
theorem IE(h0:P (a0,false))(h1:YG a0 a1=true->0<=Z6 a0.Frame.Zt a2->0<=ZS a0.Frame.Methods a0.Frame.Now->∀v,v<a0.Zd.length->(nth a0.Zd v).Key=a2->(Ru a0 a2 a3 a4 v).2=true->(YZ (nth a0.ZA a1.toNat) (RR a0 a2 a3 a4 a5 v)).2=true->P (PW a0 a1 (RR a0 a2 a3 a4 a5 v),true)):P (XR a0 a1 a2 a3 a4 a5):=by
  unfold XR;refine Z1 (p:=P) (fun _=>h0) (fun h=>?_);simp only[Bool.or_eq_false_iff,Bool.not_eq_false',decide_eq_false_iff_not]at h;cases e:JC a0 a1 a2 a3 a4 a5 (a0.Zd.length+1) 0 with
  |inl r=>exact OJ h0 (h1 h.1.1 zAA zAA) _ _ r e
  |inr _=>exact h0
theorem vg(h0:P (a0,false))(h1:YG a0 a1=true->0<=Z6 a0.Frame.Zt a2->(nth a0.Frame.Zt (Z6 a0.Frame.Zt a2).toNat).VO<=a0.Frame.Now->0<=ZS a0.Frame.Methods a0.Frame.Now->∀v,v<a0.Zd.length->(nth a0.Zd v).Key=a2->(Ru a0 a2 a3 a4 v).2=true->(YZ (nth a0.ZA a1.toNat) (RR a0 a2 a3 a4 a5 v)).2=true->P (PW a0 a1 (RR a0 a2 a3 a4 a5 v),true)):P (Ja a0 a1 a2 a3 a4 a5):=by
  unfold Ja;refine Z1 (p:=P) (fun _=>h0) (fun h=>?_);simp only[Bool.or_eq_false_iff,decide_eq_false_iff_not]at h;exact IE (P:=P) h0 (fun k1 k2 k3=>h1 k1 k2 zAA k3)
theorem Bk(h0:P (a0,false))(h1:Qh a0.Frame a2=true->YG a0 a1=true->0<=Z6 a0.Frame.Zt a2->0<=ZS a0.Frame.Methods a0.Frame.Now->∀v,v<a0.Zd.length->(nth a0.Zd v).Key=a2->(Ru a0 a2 a3 0 v).2=true->(YZ (nth a0.ZA a1.toNat) (RR a0 a2 a3 0 10000 v)).2=true->P (ZF.mk a0.Frame a0.Zd a0.Zw (a0.ZA.set a1.toNat (YZ (nth a0.ZA a1.toNat) (RR a0 a2 a3 0 10000 v)).1) a0.Y2 a0.Yc (W (a0.Next+1)) (a0.YL++[a0.Next]),true)):P (JM a0 a1 a2 a3):=by
  unfold JM;refine Z1 (p:=P) (fun _=>h0) (fun h=>?_);rw[Bool.not_eq_false']at h;exact IE (P:=fun r=>P (bif r.2 then(ZF.mk r.1.Frame r.1.Zd r.1.Zw r.1.ZA r.1.Y2 r.1.Yc r.1.Next (r.1.YL++([a0.Next]:List Int)),r.2)else(r.1,r.2))) h0 (fun k1 k2 k3 v k4 k5 k6 k7=>h1 h k1 k2 k3 v k4 k5 k6 k7)
theorem UU(h:(YZ a x).2=true):ZZ a x.Id<0/\Ys a=true/\Ys (YZ a x).1=true/\∃k,(YZ a x).1=ZE.mk a.Id ((a.ZB.take k++[x])++a.ZB.drop k):=by
  unfold YZ at h⊢;grind
theorem Pb(h:(YZ a x).2=true):((YZ a x).1.ZB.map (·.Id)).Perm (x.Id::a.ZB.map (·.Id)):=by
  obtain⟨_,_,_,k,e⟩:=UU h;rw[e];show(((a.ZB.take k++[x])++a.ZB.drop k).map (·.Id)).Perm _
  rw[List.append_assoc,List.map_append,List.singleton_append,List.map_cons];refine List.perm_middle.trans ?_;rw[<-List.map_append,List.take_append_drop]
theorem L9{i:Int}(h0:P (w,false))(h1:(YT w.Frame.Zt st).2=true->0<=ZZ (nth w.ZA i.toNat) id->(Qr (nth (nth w.ZA i.toNat).ZB (ZZ (nth w.ZA i.toNat) id).toNat).ZG (Yq (YT w.Frame.Zt st).1)).2=true->P (ZF.mk w.Frame w.Zd w.Zw (w.ZA.set i.toNat (Xl (nth w.ZA i.toNat) id (Yq (YT w.Frame.Zt st).1)).1) w.Y2 w.Yc w.Next w.YL,true)):P (Qi w i id st):=by
  unfold Qi;refine Z1 (p:=P) (fun _=>h0) (fun h=>?_);simp only[Bool.or_eq_false_iff,Bool.not_eq_false']at h;obtain⟨h2,h3⟩:=h;unfold Xl at h3;grind
/- renewing -/
def plN(w:ZF)(ids:List Int)(v:Nat):Nat:=(ZY w.Frame.ZC (nth ids v)).toNat
def Cg(w:ZF)(i:Int)(ids:List Int)(v:Nat)(t:Int):Zm×Bool:=Xk w.Frame.Zt w.Frame.ZC (Zm.mk (nth ids v) (nth w.Y2 (plN w ids v)) t (QO (nth w.ZA i.toNat) (ZS w.Frame.Methods w.Frame.Now)) 0)
def tc(w:ZF)(ec:Int):Int:=if(if W (w.Frame.Now+ec)<10000 then W (w.Frame.Now+ec)else 10000)>0 then(if W (w.Frame.Now+ec)<10000 then W (w.Frame.Now+ec)else 10000)else 0
structure nm(w:ZF)(i:Int)(ids:List Int)(ec:Int)(v:Nat)(t:Int):Prop where
  au:0<=ZY w.Frame.ZC (nth ids v)
  lt:plN w ids v<w.Y2.length
  ky:0<=Z6 w.Frame.Zt (nth w.Frame.ZC (plN w ids v)).Key
  bo:(nth w.Frame.Zt (Z6 w.Frame.Zt (nth w.Frame.ZC (plN w ids v)).Key).toNat).VO<=w.Frame.Now
  ok:(Cg w i ids v t).2=true
  tm:(QM w.Yc (nth ids v)=true/\t=tc w ec)\/(QM w.Yc (nth ids v)=false/\t=w.Frame.Now)
theorem GL{P:Nat->List Zm->List Int->Prop}{w:ZF}{i:Int}{ids:List Int}{ec:Int}(hs:∀v l q t,v<ids.length->nm w i ids ec v t->P v l q->P (v+1) (l++[(Cg w i ids v t).1]) (q.set (plN w ids v) (W (nth q (plN w ids v)+1)))):
    ∀(m:Nat)(l:List Zm)(v:Nat)(q:List Int),ids.length<m+v->v<=ids.length->P v l q->(∀r,Xh w i ids ec m l v q= .inl r->r=(w,false))/\∀z,Xh w i ids ec m l v q= .inr z->P ids.length z.1 z.2
  |0,l,v,q,h,hv,_=>zAA
  |m+1,l,v,q,h,hv,hp=>by
    rw[Xh]
    let p:=fun x:Sum (ZF×Bool) (List Zm×List Int)=>(∀r,x= .inl r->r=(w,false))/\∀z,x= .inr z->P ids.length z.1 z.2
    have bad:p (.inl (w,false)):=⟨fun r h=>zBo,fun z h=>zBC⟩
    refine Z1 (p:=p) (fun hc=>?_) (fun hc=>⟨fun r h=>zBC,fun z h=>(by cases h;have hc:¬v<ids.length:=(by simpa using hc);have e:v=ids.length:=(by omega);rw[<-e];exact hp)⟩)
    have hc:v<ids.length:=zBH
    refine Z1 (p:=p) (fun _=>bad) (fun h1=>?_)
    refine Z1 (p:=p) (fun _=>bad) (fun h2=>?_)
    simp only[Bool.or_eq_false_iff,decide_eq_false_iff_not]at h1 h2
    have go:∀t,((QM w.Yc (nth ids v)=true/\t=tc w ec)\/(QM w.Yc (nth ids v)=false/\t=w.Frame.Now))->(Cg w i ids v t).2=true->p (Xh w i ids ec m (l++[(Cg w i ids v t).1]) (v+1) (q.set (plN w ids v) (W (nth q (plN w ids v)+1)))):=fun t ht hk=>
      GL hs m _ (v+1) _ zAA hc (hs v l q t hc ⟨zAA,by unfold plN;omega,by unfold plN;omega,by unfold plN;omega,hk,ht⟩ hp)
    refine Z1 (p:=p) (fun h3=>?_) (fun h3=>?_)
    · refine Z1 (p:=p) (fun _=>bad) (fun h4=>?_)
      rw[Bool.not_eq_false']at h4
      exact go (tc w ec) (.inl ⟨h3,rfl⟩) h4
    · refine Z1 (p:=p) (fun _=>bad) (fun h4=>?_)
      rw[Bool.not_eq_false']at h4
      exact go w.Frame.Now (.inr ⟨h3,rfl⟩) h4
theorem BX{i:Int}(h0:P (w,false))(q0:Q 0 [] w.Y2)(hs:∀v l q t,v<ids.length->nm w i ids ec v t->Q v l q->Q (v+1) (l++[(Cg w i ids v t).1]) (q.set (plN w ids v) (W (nth q (plN w ids v)+1))))
    (h1:YG w i=true->0<=ZS w.Frame.Methods w.Frame.Now->Qe ids=true->ids≠[]->∀l q,Q ids.length l q->(XK (nth w.ZA i.toNat) (ZS w.Frame.Methods w.Frame.Now) l).2=true->P (ZF.mk w.Frame w.Zd w.Zw (w.ZA.set i.toNat (XK (nth w.ZA i.toNat) (ZS w.Frame.Methods w.Frame.Now) l).1) q w.Yc w.Next w.YL,true)):P (Qd w i ids ec):=by
  have k:=GL hs (ids.length+1) [] 0 w.Y2 zAA (Nat.zero_le _) q0
  unfold Qd
  refine Z1 (p:=P) (fun _=>h0) (fun h=>?_)
  simp only[Bool.or_eq_false_iff,Bool.not_eq_false',decide_eq_false_iff_not,beq_eq_false_iff_ne]at h
  obtain⟨⟨⟨⟨k1,k2⟩,k3⟩,k4⟩,k5⟩:=h
  generalize Xh w i ids ec (ids.length+1) [] 0 w.Y2=s at k⊢
  cases s with
  |inl r=>rw[k.1 r rfl];exact h0
  |inr z=>
    obtain⟨l,q⟩:=z
    refine Z1 (p:=P) (fun _=>h0) (fun h2=>?_)
    rw[Bool.not_eq_false']at h2
    exact h1 k1 zAA k3 (fun e=>k4 (by rw[e];rfl)) l q (k.2 _ rfl) h2
theorem TS(h:(Y9 s r).2=true):(Y9 s r).1=ZW.mk s.ZI (s.ZM++[r])/\Xi (ZW.mk s.ZI (s.ZM++[r]))=true:=by
  unfold Y9 at h⊢;grind
theorem Lx(h:(Qr s p).2=true):(Qr s p).1=ZW.mk (s.ZI++[p]) s.ZM/\Xi (ZW.mk (s.ZI++[p]) s.ZM)=true:=by
  unfold Qr at h⊢;grind
/- a sealed archive: each item has one renewal more -/
def na(a:ZE)(m:Int)(l:List Zm)(v:Nat):Zb:=Zb.mk ((nth a.ZB v).ZG.ZI.length:Int) m (QO a m) (JH m (Xn a m) (v:Int)) l
def Av(a:ZE)(m:Int)(l:List Zm)(v:Nat):ZN:=ZN.mk (nth a.ZB v).Id (nth a.ZB v).XF (nth a.ZB v).Doc (nth a.ZB v).Sig (ZW.mk (nth a.ZB v).ZG.ZI ((nth a.ZB v).ZG.ZM++[na a m l v]))
theorem E1(a:ZE)(m:Int)(l:List Zm):∀(n v:Nat)(q:List ZN),a.ZB.length<n+v->v<=a.ZB.length->q.length=a.ZB.length->(∀k,k<a.ZB.length->nth q k=if k<v then Av a m l k else nth a.ZB k)->
    (∀r,Xz a m l n v q= .inl r->r=(a,false))/\∀z,Xz a m l n v q= .inr z->z.length=a.ZB.length/\∀k,k<a.ZB.length->nth z k=Av a m l k
  |0,v,q,h,hv,_,_=>zAA
  |n+1,v,q,h,hv,hl,hq=>by
    rw[Xz]
    by_cases iQ:v<a.ZB.length
    · rw[decide_eq_true (show(v:Int)<(a.ZB.length:Int)by omega),XA]
      cases hc:(Y9 (nth a.ZB v).ZG (na a m l v)).2 with
      |false=>
        rw[show(Y9 (nth a.ZB v).ZG (Zb.mk ((nth a.ZB v).ZG.ZI.length:Int) m (QO a m) (JH m (Xn a m) (v:Int)) l)).2=false from hc,Bool.not_false,XA]
        grind
      |true=>
        rw[show(Y9 (nth a.ZB v).ZG (Zb.mk ((nth a.ZB v).ZG.ZI.length:Int) m (QO a m) (JH m (Xn a m) (v:Int)) l)).2=true from hc,Bool.not_true,XE]
        refine E1 a m l n (v+1) _ zAA iQ (by rw[List.length_set];exact hl) (fun k hk=>?_)
        rw[Kr]
        split
        · rename_i he
          obtain⟨rfl,_⟩:=he
          rw[if_pos (Nat.lt_succ_self _),hq v hk,if_neg (Nat.lt_irrefl _),show(Y9 (nth a.ZB v).ZG (Zb.mk ((nth a.ZB v).ZG.ZI.length:Int) m (QO a m) (JH m (Xn a m) (v:Int)) l)).1=_ from(TS hc).1]
          rfl
        · grind
    · grind
theorem Ds{l:List Zm}(h:(XK a m l).2=true):Ys a=true/\Ys (XK a m l).1=true/\(XK a m l).1.Id=a.Id/\(XK a m l).1.ZB.length=a.ZB.length/\∀k,k<a.ZB.length->nth (XK a m l).1.ZB k=Av a m l k:=by
  have k:=E1 a m l (a.ZB.length+1) 0 a.ZB zAA (Nat.zero_le _) rfl (fun k _=>by rw[if_neg (Nat.not_lt_zero _)]);unfold XK at h⊢;grind
theorem rA{α:Type}[Inhabited α]{l m:List α}(hl:l.length=m.length)(h:∀i,i<l.length->nth l i=nth m i):l=m:=by
  apply List.ext_getElem hl;intro i h1 h2;have:=h i h1
  rwa[XQ h1,XQ h2]at this
theorem AO{l:List Zm}(h:(XK a m l).2=true):(XK a m l).1.ZB.map (·.Id)=a.ZB.map (·.Id):=by
  obtain⟨_,_,_,h1,h2⟩:=Ds h;refine rA (by rw[List.length_map,List.length_map,h1]) (fun i hi=>?_);rw[List.length_map,h1]at hi;rw[Pj (by rw[h1];exact hi),Pj hi,h2 i hi];rfl
/- worlds stay worlds -/
/- what no step changes -/
def plC(w:ZF):List Y4×List Zi×List YH×Int×List YN×List Int:=(w.Frame.Zt,w.Frame.ZC,w.Frame.Methods,w.Frame.XJ,w.Zd,w.Yc)
structure PlI(b:Int)(x:ZF):Prop where
  w:PlW x
  sb:∀i,i<x.Y2.length->nth x.Y2 i<=b
  fo:∀y∈x.YL,y<x.Next
  c:plC x=plC (QH 0)\/plC x=plC (QH 1)
theorem AH(h:PlI b w):w.Zd=kE:=by
  rcases h.c with h|h<;>exact congrArg (fun x=>x.2.2.2.2.1) h
theorem oa(h:PlI b w):w.Zw.length=3:=by
  rw[h.w.en,AH h];rfl
theorem vw{a:Int}(h:PlI a w)(hb:a<=b):PlI b w:=⟨h.w,fun i hi=>Int.le_trans (h.sb i hi) hb,h.fo,h.c⟩
theorem r6(h:PlI b w):PlI b (KI w n).1:=by
  have k:=NI h.w.fr;refine vn (P:=fun r=>PlI b r.1) h (fun h1 h2 h3=>?_);have k2:0<=W (w.Frame.Now+n):=zA5;exact⟨⟨CZ h.w.fr k2 h3,h.w.en,h.w.ar,h.w.sl,h.w.ll,h.w.nx,h.w.lr,h.w.fo,h.w.ce,h.w.ok,h.w.nd,h.w.lt,h.w.sq,h.w.lf⟩,h.sb,h.fo,h.c⟩
theorem Hb(h:PlW w)(hi:i<w.ZA.length)(hx:x.Id=w.Next)(ha:(YZ (nth w.ZA i) x).2=true)(hf:Qe fo=true):
    W (w.Next+1)=w.Next+1/\PlW (ZF.mk w.Frame w.Zd w.Zw (w.ZA.set i (YZ (nth w.ZA i) x).1) w.Y2 w.Yc (w.Next+1) fo):=by
  obtain⟨_,h2,h3,k,e⟩:=UU ha
  have cI:(YZ (nth w.ZA i) x).1.Id=(i:Int):=by rw[e];exact(h.ok i hi).2
  have hm:x∈(YZ (nth w.ZA i) x).1.ZB:=by rw[e];exact List.mem_append.2 (.inl (List.mem_append.2 (.inr (List.mem_singleton.2 rfl))))
  have hit:=((Vl _).1 h3).it x hm
  have hn:w.Next<=999:=by
    unfold JS at hit
    simp only[Bool.and_eq_true,Wq]at hit
    omega
  have h0:=h.nx
  have hp:=Ge hi (Pb ha)
  rw[hx]at hp
  refine⟨by simp only[Y0];omega,⟨h.fr,h.en,by rw[List.length_set];exact h.ar,h.sl,h.ll,by show 1<=w.Next+1;omega,h.lr,hf,h.ce,Rn h h3 cI,?_,?_,h.sq,h.lf⟩⟩
  · refine hp.nodup_iff.2 (List.nodup_cons.2 ⟨fun hc=>?_,h.nd⟩)
    have:=h.lt _ hc;omega
  · intro y hy
    show y<w.Next+1
    rcases List.mem_cons.1 (hp.mem_iff.1 hy)with rfl|hy
    · omega
    · have:=h.lt y hy;omega
theorem pv{i:Int}{e:Int}(h:PlI b w):PlI b (Ja w i k d o e).1/\((Ja w i k d o e).2=true->(Ja w i k d o e).1.Next=w.Next+1):=by
  have hl:=h.w.ar;refine vg (P:=fun r=>PlI b r.1/\(r.2=true->r.1.Next=w.Next+1)) ⟨h,fun k=>(by cases k)⟩ (fun h1 _ _ _ v _ _ _ h7=>?_);obtain⟨h8,h9⟩:=yq h1 zAA;obtain⟨e1,hw⟩:=Hb h.w h9 rfl h7 h.w.fo;unfold PW;rw[e1];exact⟨⟨hw,h.sb,fun x hx=>by have:=h.fo x hx;show x<w.Next+1;omega,h.c⟩,fun _=>rfl⟩
theorem yU{α:Type}[Inhabited α](l m:List α)(i:Nat):nth (l++m) i=if i<l.length then nth l i else nth m (i-l.length):=by
  simp only[nth,List.getD_eq_getElem?_getD,List.getElem?_append];split<;>rfl
theorem DW(a1:List Int):Qe a1=true↔∀i,0<i->i<a1.length->nth a1 (i-1)<nth a1 i:=by
  have:=Jj (L:=jM a1) (len:=a1.length) (c:=fun v=>decide (nth a1 (v-1)>=nth a1 v)) (fun _=>rfl) (fun _ _=>rfl) (a1.length+1) 1 zAA true;unfold Qe;grind
theorem Fo{l:List Int}{x:Int}(h:Qe l=true)(hx:∀y∈l,y<x):Qe (l++[x])=true:=by
  rw[DW]at h⊢;intro i h0 hi;rw[List.length_append,List.length_singleton]at hi;rw[yU,yU];by_cases h1:i<l.length
  · rw[if_pos zAA,if_pos h1];exact h i h0 h1
  · rw[if_pos zAA,if_neg h1,show i-l.length=0 by omega];exact hx _ (by rw[XQ zAA];exact List.getElem_mem _)
theorem tn{i:Int}(h:PlI b w):PlI b (JM w i k d).1:=by
  have hl:=h.w.ar;refine Bk (P:=fun r=>PlI b r.1) h (fun _ h1 _ _ v _ _ _ h7=>?_);obtain⟨h8,h9⟩:=yq h1 zAA;obtain⟨e1,hw⟩:=Hb h.w h9 rfl h7 (Fo h.w.fo h.fo);rw[e1];refine⟨hw,h.sb,fun x hx=>?_,h.c⟩;show x<w.Next+1
  rcases List.mem_append.1 hx with hx|hx
  · have:=h.fo x hx;omega
  · rw[List.mem_singleton.1 hx];omega
/- an item whose strand changes -/
theorem rp(h:JS x=true)(hs:Xi s=true)(h0:nth s.ZI 0=nth x.ZG.ZI 0):JS (ZN.mk x.Id x.XF x.Doc x.Sig s)=true:=by
  unfold JS at h⊢;grind
theorem DJ(h:JS x=true):0<x.ZG.ZI.length:=by
  unfold JS Xi at h;simp only[Bool.and_eq_true]at h;have h1:=h.1.2
  cases hc:((!(ZX (x.ZG.ZI.length:Int) 1 12))||(decide ((x.ZG.ZM.length:Int)>8)))with
  |true=>rw[hc,XA]at h1;cases h1
  |false=>
    simp only[Bool.or_eq_false_iff,Bool.not_eq_false',Wq]at hc;omega
theorem C2{k:Nat}(h:Ys a=true)(hy:JS y=true)(cI:y.Id=(nth a.ZB k).Id):Ys (ZE.mk a.Id (a.ZB.set k y))=true/\(a.ZB.set k y).map (·.Id)=a.ZB.map (·.Id):=by
  have e:(a.ZB.set k y).map (·.Id)=a.ZB.map (·.Id):=by
    refine rA zAE (fun i hi=>?_);rw[List.length_map,List.length_set]at hi;rw[Pj (by rw[List.length_set];exact hi),Pj hi,Kr];split
    · rename_i hc;rw[cI,hc.1]
    · rfl
  have h:=(Vl a).1 h;refine⟨(Vl _).2 ⟨fun x hx=>?_,by rw[e];exact h.as,h.id,by rw[List.length_set];exact h.ln⟩,e⟩;rcases List.mem_or_eq_of_mem_set hx with hx|rfl
  · exact h.it x hx
  · exact hy
theorem IJ(h:PlW w){k:Nat}(hi:i<w.ZA.length)(hk:k<(nth w.ZA i).ZB.length)(hs:Xi s=true)(h0:nth s.ZI 0=nth (nth (nth w.ZA i).ZB k).ZG.ZI 0):
    PlW (ZF.mk w.Frame w.Zd w.Zw (w.ZA.set i (ZE.mk (nth w.ZA i).Id ((nth w.ZA i).ZB.set k (ZN.mk (nth (nth w.ZA i).ZB k).Id (nth (nth w.ZA i).ZB k).XF (nth (nth w.ZA i).ZB k).Doc (nth (nth w.ZA i).ZB k).Sig s)))) w.Y2 w.Yc w.Next w.YL):=by
  have h1:=h.ok i hi
  have h2:JS (nth (nth w.ZA i).ZB k)=true:=((Vl _).1 h1.1).it _ (by rw[XQ hk];exact List.getElem_mem hk)
  obtain⟨h3,h4⟩:=C2 (k:=k) h1.1 (rp h2 hs h0) rfl
  exact pO h h3 h1.2 h4
theorem jw{x:Int}(h:0<=ZZ a x):(ZZ a x).toNat<a.ZB.length/\(nth a.ZB (ZZ a x).toNat).Id=x:=by
  unfold ZZ at h⊢;rcases xj (L:=zm a x) (r:=fun i=>(i:Int)) (fun _=>rfl) (fun _ _=>rfl) (a.ZB.length+1) 0 zAA with⟨e,p⟩|⟨i,e,p1,p2,p3,p4⟩
  · rw[e]at h;simp at h
  · rw[e];exact⟨by simpa using p2,by simpa using p3⟩
theorem V2(h:PlW w){k:Nat}(hi:i<w.ZA.length)(hk:k<(nth w.ZA i).ZB.length):JS (nth (nth w.ZA i).ZB k)=true:=
  ((Vl _).1 (h.ok i hi).1).it _ (by rw[XQ hk];exact List.getElem_mem hk)
theorem RX{i:Int}(h:PlI b w)(h0:0<=i)(hi:i<(w.ZA.length:Int)):PlI b (Qi w i id st).1:=by
  refine L9 (P:=fun r=>PlI b r.1) h (fun _ h2 h3=>?_);obtain⟨e,hs⟩:=Lx h3;obtain⟨hk,_⟩:=jw h2;have gm:i.toNat<w.ZA.length:=zAA
  have hp:=DJ (V2 h.w gm hk);have k:=IJ (s:=_) h.w gm hk hs (by
    show nth (_++[_]) 0=_;rw[yU,if_pos hp])
  rw[<-e]at k;have e2:(Xl (nth w.ZA i.toNat) id (Yq (YT w.Frame.Zt st).1)).1=ZE.mk (nth w.ZA i.toNat).Id ((nth w.ZA i.toNat).ZB.set (ZZ (nth w.ZA i.toNat) id).toNat (ZN.mk (nth (nth w.ZA i.toNat).ZB (ZZ (nth w.ZA i.toNat) id).toNat).Id (nth (nth w.ZA i.toNat).ZB (ZZ (nth w.ZA i.toNat) id).toNat).XF (nth (nth w.ZA i.toNat).ZB (ZZ (nth w.ZA i.toNat) id).toNat).Doc (nth (nth w.ZA i.toNat).ZB (ZZ (nth w.ZA i.toNat) id).toNat).Sig (Qr (nth (nth w.ZA i.toNat).ZB (ZZ (nth w.ZA i.toNat) id).toNat).ZG (Yq (YT w.Frame.Zt st).1)).1)):=by
    unfold Xl;rw[decide_eq_false zAA,XE]
  rw[e2];exact⟨k,h.sb,h.fo,h.c⟩
theorem uh(h:PlI b w):PlI b (JA w id).1:=by
  unfold JA;refine Z1 (p:=fun r:ZF×Bool=>PlI b r.1) (fun _=>h) (fun hc=>?_);refine Z1 (p:=fun r:ZF×Bool=>PlI b r.1) (fun _=>h) (fun _=>?_);simp only[Bool.or_eq_false_iff,Bool.not_eq_false']at hc;have k:=Ql w id hc.1
  exact Zk (p:=fun r:ZF×Bool=>PlI b r.1) (RX h k.1 k.2.1) (RX h k.1 k.2.1)
theorem pq(h:PlI b w):PlI b (KJ w id t).1:=by
  unfold KJ;refine Z1 (p:=fun r:ZF×Bool=>PlI b r.1) (fun _=>h) (fun hc=>?_);simp only[Bool.or_eq_false_iff,Bool.not_eq_false']at hc;have k:=Ql w id hc.1
  exact RX h k.1 k.2.1
theorem ud(h:PlI b w):PlI b (QS w k).1/\((QS w k).2=true->0<=k/\k.toNat<w.Zw.length/\nth (QS w k).1.Zw k.toNat=W (w.Frame.Now+1)):=by
  have h0:=NI h.w.fr;have hb:=oa h;unfold QS;refine Z1 (p:=fun r:ZF×Bool=>PlI b r.1/\(r.2=true->0<=k/\k.toNat<w.Zw.length/\nth r.1.Zw k.toNat=W (w.Frame.Now+1))) (fun _=>⟨h,fun h=>zBC⟩) (fun hc=>?_);simp only[Bool.or_eq_false_iff,Bool.not_eq_false',Wq]at hc;have e:W ((w.Zw.length:Int)-1)=w.Zw.length-1:=zA5;rw[e]at hc;refine⟨⟨⟨h.w.fr,by rw[List.length_set];exact h.w.en,h.w.ar,h.w.sl,h.w.ll,h.w.nx,h.w.lr,h.w.fo,fun i hi=>?_,h.w.ok,h.w.nd,h.w.lt,h.w.sq,h.w.lf⟩,h.sb,h.fo,h.c⟩,fun _=>⟨hc.1.1,zAA,?_⟩⟩
  · have:=h.w.ce i hi;refine⟨this.1,this.2.1,?_⟩;show ZX (nth (w.Zw.set k.toNat _) i) (-1) 10001=true
    rw[Kr];split
    · rw[Wq];simp only[Y0];omega
    · exact this.2.2
  · show nth (w.Zw.set k.toNat _) k.toNat=_;rw[Kr,if_pos ⟨rfl,zAA⟩]
theorem rE{i:Int}(h:PlI b w)(hn:(ids.length:Int)<=n)(hb:b+n<=4611686018427387904):PlI (b+n) (Qd w i ids ec).1/\(Qd w i ids ec).1.Y2.length=w.Y2.length/\(∀j,j<w.Y2.length->nth w.Y2 j<=nth (Qd w i ids ec).1.Y2 j):=by
  have hl:=h.w.ar;refine BX (P:=fun r=>PlI (b+n) r.1/\r.1.Y2.length=w.Y2.length/\(∀j,j<w.Y2.length->nth w.Y2 j<=nth r.1.Y2 j)) (Q:=fun v _ q=>q.length=w.Y2.length/\∀j,j<w.Y2.length->nth w.Y2 j<=nth q j/\nth q j<=nth w.Y2 j+v) ⟨vw h zAA,rfl,fun j _=>Int.le_refl _⟩ ⟨rfl,fun j _=>⟨Int.le_refl _,zAE⟩⟩ (fun v l q t hv _ hq=>⟨by rw[List.length_set];exact hq.1,fun j hj=>?_⟩) (fun h1 _ _ _ l q hq hk=>?_)
  · have z:=hq.2 j hj;rw[Kr];split
    · rename_i hc;have k1:=h.w.sq j hj
      have k2:=h.sb j hj;rw[hc.1];have e:W (nth q j+1)=nth q j+1:=zA5;rw[e];omega
    · omega
  · obtain⟨h8,h9⟩:=yq h1 zAA;obtain⟨_,k1,k2,_,_⟩:=Ds hk;have k3:=AO hk
    have hs:∀j,j<q.length->0<=nth q j:=fun j hj=>by rw[hq.1]at hj;have:=h.w.sq j hj;have:=hq.2 j hj;omega
    refine⟨⟨wX h.w k1 (by rw[k2];exact(h.w.ok _ h9).2) (by rw[k3];exact List.Sublist.refl _) hq.1 hs,fun j hj=>?_,h.fo,h.c⟩,hq.1,fun j hj=>(hq.2 j hj).1⟩;change j<q.length at hj;rw[hq.1]at hj;have:=hq.2 j hj;have:=h.sb j hj
    show nth q j<=b+n;omega
theorem L7{l:List ZN}(h:Ys a=true)(hl:l.Sublist a.ZB):Ys (ZE.mk a.Id l)=true:=by
  have h:=(Vl a).1 h;exact(Vl _).2 ⟨fun x hx=>h.it x (hl.subset hx),h.as.sublist (hl.map _),h.id,Nat.le_trans hl.length_le h.ln⟩
theorem wb{l:List ZE}{x:Int}(h:i<l.length)(e:((nth l i).ZB.map (·.Id)).Perm (x::a.ZB.map (·.Id))):(qS l).Perm (x::qS (l.set i a)):=by
  obtain⟨A,B,h1,h2⟩:=Sl l i h;grind
theorem Ed{l:List ZN}{k:Nat}{x:Int}(hk:k<l.length)(hx:(nth l k).Id=x):(l.map (·.Id)).Perm (x::(l.eraseIdx k).map (·.Id)):=by
  have e:l.map (·.Id)=(l.take k).map (·.Id)++x::(l.drop (k+1)).map (·.Id):=by
    rw[<-hx,XQ hk,<-List.map_cons (f:=fun x:ZN=>x.Id),<-List.map_append,<-List.drop_eq_getElem_cons hk,List.take_append_drop]
  grind
theorem vQ(hl:a.ZB.length<=1048576)(h:(QG a id).2=true):0<=ZZ a id/\(QG a id).1=ZE.mk a.Id (a.ZB.eraseIdx (ZZ a id).toNat):=by
  unfold QG at h⊢;cases hc:decide (ZZ a id<0)with
  |true=>rw[hc,XA]at h;cases h
  |false=>
    have hc:=of_decide_eq_false hc;have k:=jw (a:=a) (x:=id) zAA;rw[XE];refine⟨zAA,?_⟩;rw[List.eraseIdx_eq_take_drop_succ,show(W (ZZ a id+1)).toNat=(ZZ a id).toNat+1 by simp only[Y0];omega]
theorem CA{b:ZE}(h:(Y8 a b [id] m).2.2=true):0<=ZZ a id/\(QG a id).2=true/\(YZ b (nth a.ZB (ZZ a id).toNat)).2=true/\(Y8 a b [id] m).1=(QG a id).1/\(Y8 a b [id] m).2.1=(YZ b (nth a.ZB (ZZ a id).toNat)).1:=by
  have hmp:ZZ a id<0->(Y6 a b.Id [id] m).2=false:=fun hc=>by
    simp[Y6,Qp,hc,nth]
  have hmq:¬ZZ a id<0->Y6 a b.Id [id] m=(Yl.mk a.Id b.Id [nth a.ZB (ZZ a id).toNat] (QW m [nth a.ZB (ZZ a id).toNat]),true):=fun hc=>by
    simp[Y6,Qp,hc,nth]
  by_cases hc:ZZ a id<0
  · unfold Y8 at h;grind
  · have e:=hmq hc;generalize hx:nth a.ZB (ZZ a id).toNat=x at e⊢;unfold Y8 at h⊢;rw[e]at h⊢;dsimp only at h⊢;rw[Bool.not_true,Bool.false_or]at h⊢;have bN:(XL b (Yl.mk a.Id b.Id [x] (QW m [x])) m).2=true->(YZ b x).2=true/\(XL b (Yl.mk a.Id b.Id [x] (QW m [x])) m).1=(YZ b x).1:=fun hq=>by
      unfold XL at hq⊢;cases hd:((!(Qz (Yl.mk a.Id b.Id [x] (QW m [x])) m))||(b.Id !=b.Id))with
      |true=>dsimp only at hq;rw[hd,XA]at hq;cases hq
      |false=>
        dsimp only at hq⊢;rw[hd,XE]at hq;rw[XE];cases hz:(YZ b x).2 with
        |false=>simp[QK,hz,nth]at hq
        |true=>refine⟨rfl,?_⟩;simp[QK,hz,nth]
    cases h2:(XL b (Yl.mk a.Id b.Id [x] (QW m [x])) m).2 with
    |false=>rw[h2,Bool.not_false,XA]at h;cases h
    |true=>
      obtain⟨k1,k2⟩:=bN h2;rw[h2,Bool.not_true,XE]at h;rw[Bool.not_true,XE,k2];cases hz:(QG a id).2 with
      |false=>simp[QY,hz,nth]at h
      |true=>refine⟨zAA,rfl,k1,?_,?_⟩<;>simp[QY,hz,nth]
theorem vT{i:Int}(h0:P (w,false))(h1:YG w i=true->YG w k=true->i≠k->0<=ZZ (nth w.ZA i.toNat) id->(QG (nth w.ZA i.toNat) id).2=true->(YZ (nth w.ZA k.toNat) (nth (nth w.ZA i.toNat).ZB (ZZ (nth w.ZA i.toNat) id).toNat)).2=true->P (ZF.mk w.Frame w.Zd w.Zw ((w.ZA.set i.toNat (QG (nth w.ZA i.toNat) id).1).set k.toNat (YZ (nth w.ZA k.toNat) (nth (nth w.ZA i.toNat).ZB (ZZ (nth w.ZA i.toNat) id).toNat)).1) w.Y2 w.Yc w.Next w.YL,true)):P (KH w i k id):=by
  unfold KH;refine Z1 (p:=P) (fun _=>h0) (fun h=>?_);simp only[Bool.or_eq_false_iff,Bool.not_eq_false',beq_eq_false_iff_ne]at h;cases hm:(Y8 (nth w.ZA i.toNat) (nth w.ZA k.toNat) ([id]:List Int) (ZS w.Frame.Methods w.Frame.Now)).2.2 with
  |false=>rw[XE];exact h0
  |true=>
    obtain⟨k1,k2,k3,k4,k5⟩:=CA hm;rw[XA,k4,k5];exact h1 h.1.1.1 h.1.1.2 h.1.2 k1 k2 k3
theorem pB{i:Int}(h:PlI b w):PlI b (KH w i k id).1:=by
  have hl:=h.w.ar;refine vT (P:=fun r=>PlI b r.1) h (fun h1 h2 h3 h4 h5 h6=>?_);obtain⟨i0,i1⟩:=yq h1 zAA;obtain⟨k0,k1⟩:=yq h2 zAA;have ai:=h.w.ok _ i1;have ak:=h.w.ok _ k1;have hln:=((Vl _).1 ai.1).ln;obtain⟨_,e⟩:=vQ zAA h5;obtain⟨f1,f2⟩:=jw h4;obtain⟨_,_,g1,_,g2⟩:=UU h6;have g3:=Pb h6;rw[f2]at g3;rw[e];have iH:i.toNat≠k.toNat:=zAA;have p1:(qS w.ZA).Perm (id::qS (w.ZA.set i.toNat (ZE.mk (nth w.ZA i.toNat).Id ((nth w.ZA i.toNat).ZB.eraseIdx (ZZ (nth w.ZA i.toNat) id).toNat)))):=by
    refine wb i1 ?_;exact Ed f1 f2
  have p2:=Ge (l:=w.ZA.set i.toNat (ZE.mk (nth w.ZA i.toNat).Id ((nth w.ZA i.toNat).ZB.eraseIdx (ZZ (nth w.ZA i.toNat) id).toNat))) (i:=k.toNat) (a:=(YZ (nth w.ZA k.toNat) (nth (nth w.ZA i.toNat).ZB (ZZ (nth w.ZA i.toNat) id).toNat)).1) (x:=id) (by rw[List.length_set];exact k1) (by rw[Kr,if_neg (fun hc=>iH hc.1)];exact g3);have p:=p2.trans p1.symm;have hA:∀j,j<(w.ZA.set i.toNat (ZE.mk (nth w.ZA i.toNat).Id ((nth w.ZA i.toNat).ZB.eraseIdx (ZZ (nth w.ZA i.toNat) id).toNat))).length->_:=Rn h.w (L7 ai.1 (List.eraseIdx_sublist _ _)) ai.2;refine⟨⟨h.w.fr,h.w.en,by rw[List.length_set,List.length_set];exact h.w.ar,h.w.sl,h.w.ll,h.w.nx,h.w.lr,h.w.fo,h.w.ce,fun j hj=>?_,p.nodup_iff.2 h.w.nd,fun x hx=>h.w.lt x (p.mem_iff.1 hx),h.w.sq,h.w.lf⟩,h.sb,h.fo,h.c⟩;rw[List.length_set]at hj;show Ys (nth (List.set _ k.toNat _:List ZE) j)=true/\(nth (List.set _ k.toNat _:List ZE) j).Id=_
  rw[Kr];grind
theorem R5(a:ZE)(t:Int):∀(n v:Nat)(l:List ZN),a.ZB.length<n+v->v<=a.ZB.length->QU a t n v l=l++(a.ZB.drop v).filter (fun x=>decide (x.XF>=t))
  |0,v,l,h,hv=>zAA
  |n+1,v,l,h,hl=>by
    rw[QU]
    by_cases hv:v<a.ZB.length
    · rw[decide_eq_true (show(v:Int)<(a.ZB.length:Int)by omega),XA,List.drop_eq_getElem_cons hv,List.filter_cons,XQ hv]
      cases hk:decide (a.ZB[v].XF>=t)with
      |true=>rw[XA,R5 a t n _ _ zAA hv,List.append_assoc];rfl
      |false=>rw[XE,R5 a t n _ _ zAA hv];rfl
    · grind
theorem Ek{i:Int}(h0:P (w,false))(h1:YG w i=true->P (ZF.mk w.Frame w.Zd w.Zw (w.ZA.set i.toNat (ZE.mk (nth w.ZA i.toNat).Id ((nth w.ZA i.toNat).ZB.filter (fun x=>decide (x.XF>=w.Frame.Now))))) w.Y2 w.Yc w.Next w.YL,true)):P (Q8 w i):=by
  unfold Q8;refine Z1 (p:=P) (fun _=>h0) (fun h=>?_);rw[Bool.not_eq_false']at h;unfold K6;rw[R5 _ _ _ _ _ zAA (Nat.zero_le _),List.drop_zero,List.nil_append];exact h1 h
theorem uy{i:Int}(h:PlI b w):PlI b (Q8 w i).1:=by
  have hl:=h.w.ar;refine Ek (P:=fun r=>PlI b r.1) h (fun h1=>?_);obtain⟨i0,i1⟩:=yq h1 zAA;have ai:=h.w.ok _ i1;exact⟨wX h.w (L7 ai.1 List.filter_sublist) ai.2 (List.filter_sublist.map _) rfl h.w.sq,h.sb,h.fo,h.c⟩
theorem DR{w:ZF}{id t:Int}:∀(n v:Nat)(l:List Zm)(r:ZF×Bool),XN w id t n v l= .inl r->r=(w,false)
  |0,v,l,r,h=>zBC
  |n+1,v,l,r,h=>by
    rw[XN]at h
    revert h
    refine Zk (p:=fun x:Sum (ZF×Bool) (List Zm)=>x= .inl r->r=(w,false)) ?_ (fun h=>by cases h)
    exact Zk (p:=fun x:Sum (ZF×Bool) (List Zm)=>x= .inl r->r=(w,false)) (fun h=>by cases h;rfl) (fun h=>DR n _ _ r h)
def BJ(w:ZF)(id:Int)(l:List Zm):Zb:=Zb.mk ((nth (nth w.ZA (ZK w id).1.toNat).ZB (ZK w id).2.toNat).ZG.ZI.length:Int) (ZS w.Frame.Methods w.Frame.Now) (Q6 (nth (nth w.ZA (ZK w id).1.toNat).ZB (ZK w id).2.toNat) (ZS w.Frame.Methods w.Frame.Now)) [] l
theorem vE(h0:P (w,false))(h1:QM w.YL id=true->0<=(ZK w id).1->0<=ZS w.Frame.Methods w.Frame.Now->Zs w≠[]->∀l,XN w id t ((Zs w).length+1) 0 []= .inr l->(Y9 (nth (nth w.ZA (ZK w id).1.toNat).ZB (ZK w id).2.toNat).ZG (BJ w id l)).2=true->P (ZF.mk w.Frame w.Zd w.Zw (w.ZA.set (ZK w id).1.toNat (ZE.mk (nth w.ZA (ZK w id).1.toNat).Id ((nth w.ZA (ZK w id).1.toNat).ZB.set (ZK w id).2.toNat (ZN.mk (nth (nth w.ZA (ZK w id).1.toNat).ZB (ZK w id).2.toNat).Id (nth (nth w.ZA (ZK w id).1.toNat).ZB (ZK w id).2.toNat).XF (nth (nth w.ZA (ZK w id).1.toNat).ZB (ZK w id).2.toNat).Doc (nth (nth w.ZA (ZK w id).1.toNat).ZB (ZK w id).2.toNat).Sig (ZW.mk (nth (nth w.ZA (ZK w id).1.toNat).ZB (ZK w id).2.toNat).ZG.ZI ((nth (nth w.ZA (ZK w id).1.toNat).ZB (ZK w id).2.toNat).ZG.ZM++[BJ w id l])))))) w.Y2 w.Yc w.Next w.YL,true)):P (X7 w id t):=by
  unfold X7;refine Z1 (p:=P) (fun _=>h0) (fun h=>?_);simp only[Bool.or_eq_false_iff,Bool.not_eq_false',decide_eq_false_iff_not,beq_eq_false_iff_ne]at h;have e:=fun r=>DR (w:=w) (id:=id) (t:=t) ((Zs w).length+1) 0 [] r
  have h1:=h1 h.1.1.1 zAA zAA (fun e=>h.2 (by rw[e];rfl));generalize XN w id t ((Zs w).length+1) 0 []=s at e h1⊢;cases s with
  |inl r=>rw[e r rfl];exact h0
  |inr l=>
    have h1:=h1 l rfl;cases ha:(Y9 (nth (nth w.ZA (ZK w id).1.toNat).ZB (ZK w id).2.toNat).ZG (BJ w id l)).2 with
    |true=>
      have h2:=h1 ha;have e1:=(TS ha).1;unfold BJ at ha e1;dsimp only;rw[ha,e1];exact h2
    |false=>
      have e1:(Y9 (nth (nth w.ZA (ZK w id).1.toNat).ZB (ZK w id).2.toNat).ZG (BJ w id l)).1=(nth (nth w.ZA (ZK w id).1.toNat).ZB (ZK w id).2.toNat).ZG:=by
        unfold Y9 at ha⊢;grind
      unfold BJ at ha e1;dsimp only;rw[ha,e1];rw[show ZN.mk (nth (nth w.ZA (ZK w id).1.toNat).ZB (ZK w id).2.toNat).Id (nth (nth w.ZA (ZK w id).1.toNat).ZB (ZK w id).2.toNat).XF (nth (nth w.ZA (ZK w id).1.toNat).ZB (ZK w id).2.toNat).Doc (nth (nth w.ZA (ZK w id).1.toNat).ZB (ZK w id).2.toNat).Sig (nth (nth w.ZA (ZK w id).1.toNat).ZB (ZK w id).2.toNat).ZG=nth (nth w.ZA (ZK w id).1.toNat).ZB (ZK w id).2.toNat from rfl,Ha,show ZE.mk (nth w.ZA (ZK w id).1.toNat).Id (nth w.ZA (ZK w id).1.toNat).ZB=nth w.ZA (ZK w id).1.toNat from rfl,Ha];exact h0
theorem pg(h:PlI b w):PlI b (X7 w id t).1:=by
  refine vE (P:=fun r=>PlI b r.1) h (fun _ h2 _ _ l _ h5=>?_);obtain⟨k1,k2,k3⟩:=XT w id h2;obtain⟨_,k4⟩:=TS h5;exact⟨IJ h.w k1 k3 k4 rfl,h.sb,h.fo,h.c⟩
theorem V7(n:Int):QH n=QH 0\/QH n=QH 1:=by
  have e:W3 1 (qB 0 n)=W3 1 (qB 0 0)\/W3 1 (qB 0 n)=W3 1 (qB 0 1):=by
    by_cases h:n>0
    · right;have e1:qB 0 n=n:=by unfold qB;simp only[h,decide_true,XA]
      have e2:¬n<1:=zAA;rw[e1];unfold W3;simp only[e2,decide_false,XE];rfl
    · left;have e1:qB 0 n=0:=by unfold qB;simp only[h,decide_false,XE]
      rw[e1];rfl
  rcases e with e|e
  · left;unfold QH;rw[e]
  · right;unfold QH;rw[e]
theorem nE(x:Int):PlI 0 (QH x):=by
  have h1:Vy (QH x)=true:=by rcases V7 x with h|h<;>rw[h]<;>decide+kernel
  refine⟨(BY _).1 h1,?_,?_,by rcases V7 x with h|h<;>rw[h]<;>simp⟩
  · rcases V7 x with h|h<;>rw[h]<;>decide+kernel
  · rcases V7 x with h|h<;>rw[h]<;>decide+kernel
/- events -/
theorem Bw(h0:P (w,false))(h1:e.Kind=1->P (KI w e.A))(h2:e.Kind=2->P (Ja w e.A e.B e.Doc e.C e.D))(h3:e.Kind=3->P (JA w e.A))(h4:e.Kind=4->P (QS w e.A))(h5:e.Kind=5->P (Qd w e.A e.Ids e.B))(h6:e.Kind=6->P (KH w e.A e.B e.C))(h7:e.Kind=7->P (Q8 w e.A))(h8:e.Kind=8->P (JM w e.A e.B e.Doc))(h9:e.Kind=9->P (X7 w e.A e.B))(cA:e.Kind=10->P (KJ w e.A e.B)):P (YF w e):=by
  unfold YF;refine Z1 (p:=P) (fun h=>h1 zBh) (fun _=>?_);grind
theorem rD(h:PlI b w)(hn:(e.Ids.length:Int)<=n)(hb:b+n<=4611686018427387904):PlI (b+n) (YF w e).1:=by
  have hm:=vw (b:=b+n) h zAA;exact Bw (P:=fun r=>PlI (b+n) r.1) hm (fun _=>r6 hm) (fun _=>(pv hm).1) (fun _=>uh hm) (fun _=>(ud hm).1) (fun _=>(rE h hn hb).1) (fun _=>pB hm) (fun _=>uy hm) (fun _=>tn hm) (fun _=>pg hm) (fun _=>pq hm)
def plU(w:ZF):=(w.Frame.Zt,w.Frame.ZC,w.Frame.Methods,w.Frame.XJ,w.Frame.Now,w.Zd,w.Zw,w.ZA,w.Y2,w.Yc,w.Next,w.YL)
theorem kH(h:Xi s=true):(1<=s.ZI.length/\s.ZI.length<=12)/\s.ZM.length<=8/\(∀i,i<s.ZI.length->KE (s.ZI.take i) (nth s.ZI i)=false)/\∀k,k<s.ZM.length->(1<=(nth s.ZM k).Count/\(nth s.ZM k).Count<=s.ZI.length)/\(0<k->(nth s.ZM (k-1)).Count<=(nth s.ZM k).Count):=by
  unfold Xi at h;cases hc:((!(ZX (s.ZI.length:Int) 1 12))||(decide ((s.ZM.length:Int)>8)))with
  |true=>rw[hc,XA]at h;cases h
  |false=>
    rw[hc,XE]at h;have k1:=(Jj (L:=xG s) (fun _=>rfl) (fun _ _=>rfl) (s.ZI.length+1) 0 zAA _).1 h
    have k2:=((Jj (L:=xI s) (fun _=>rfl) (fun _ _=>rfl) (s.ZM.length+1) 0 zAA true).1 k1.2).1;simp only[Bool.or_eq_false_iff,Bool.not_eq_false',Wq,decide_eq_false_iff_not]at hc;refine⟨⟨zAA,zAA⟩,zAA,fun i hi=>k1.1 i (Nat.zero_le _) hi,fun k hk=>?_⟩;have z:=k2 k (Nat.zero_le _) hk;simp only[Bool.or_eq_false_iff,Bool.not_eq_false',Wq,Bool.and_eq_false_imp,decide_eq_true_eq,decide_eq_false_iff_not]at z;exact⟨z.1,fun h0=>by have:=z.2 zAA;omega⟩
theorem U3(h:JS x=true):Xi x.ZG=true:=by
  unfold JS at h;simp only[Bool.and_eq_true]at h;exact h.1.2
theorem p8(f:ZO)(x:ZN)(q:ZT):Zz f (ZU x) (Z3 (ZU x) x.Doc) q=if zq f x.ZG (XU x.ZG x.Doc) q<f.Now then zq f x.ZG (XU x.ZG x.Doc) q else f.Now:=by
  simp[Zz,yA,ZU,Z3,Ko,nth]
theorem v7(f:ZO)(x:ZN)(D:List (List Int)):Zq f (ZU x) D=QX f (ZU x) D 0 (x.ZG.ZI.length+1) [] 0:=by
  unfold Zq;simp[zN,ZU,nth]
theorem AT(f:ZO)(x:ZN)(u:List ZT)(s:Zl):Xv f (ZU x) u s=(bif(decide (Z6 f.Zt s.Key>=0))then(nth f.Zt (Z6 f.Zt s.Key).toNat).VO else 0):=by
  simp[Xv,xr,xu,ZU]
theorem OW(h:∀t,JR l t q=false):(Jo l q).2=false:=by
  have key:∀n v x y,(J0 l q n false v x y).1=false:=by
    intro n;induction n with
    |zero=>intro v x y;rfl
    |succ n ih=>
      intro v x y;rw[J0];grind
  have:=key 10002 0 0 0;unfold Jo;grind
theorem TT(a:List Zi)(l:List Zm):∀(n:Nat)(acc:List Ze)(v:Nat),l.length<n+v->v<=l.length->
    (∀r,yH a l n acc v= .inl r->r.2=false)/\∀z,yH a l n acc v= .inr z->z=acc++(l.drop v).map (fun s=>(Xu a s).1)/\∀j,v<=j->j<l.length->(Xu a (nth l j)).2=true
  |0,acc,v,h,hv=>zAA
  |n+1,acc,v,h,hv=>by
    rw[yH]
    by_cases iQ:v<l.length
    · rw[decide_eq_true (show(v:Int)<(l.length:Int)by omega),XA]
      cases hc:(Xu a (nth l v)).2 with
      |false=>
        grind
      |true=>
        rw[Bool.not_true,XE]
        obtain⟨k1,k2⟩:=TT a l n (acc++[(Xu a (nth l v)).1]) (v+1) zAA iQ
        refine⟨k1,fun z hz=>?_⟩
        obtain⟨k3,k4⟩:=k2 z hz
        refine⟨?_,fun j h1 h2=>?_⟩
        · rw[k3,List.drop_eq_getElem_cons iQ,List.map_cons,XQ iQ,List.append_assoc];rfl
        · grind
    · grind
theorem D2{a:List Zi}(hl:r.YW.length<=1000)(h:(r.YW.length:Int)<=q):(Yn a r q).2=false:=by
  show(Qf a r.YW q).2=false;obtain⟨k1,k2⟩:=TT a r.YW (r.YW.length+1) [] 0 zAA (Nat.zero_le _);unfold Qf;generalize yH a r.YW (r.YW.length+1) [] 0=s at k1 k2⊢;cases s with
  |inl x=>exact k1 x rfl
  |inr z=>
    have hz:=(k2 z rfl).1;refine OW fun t=>?_;have e:z.length=r.YW.length:=by rw[hz];simp
    unfold JR;have:ZX q 0 (W ((z.length:Int)-1))=false:=by
      rw[Bool.eq_false_iff];intro hc;rw[Wq]at hc;rw[e,show W ((r.YW.length:Int)-1)=r.YW.length-1 by simp only[Y0];omega]at hc;omega
    rw[this];rfl
theorem sj{a:List Zi}{m:List YH}{T:Int}(hT:0<=T)(hj:j<r.YW.length)(h:0<=Z6 keys (X9 a (nth r.YW j))->zL m (nth keys (Z6 keys (X9 a (nth r.YW j))).toNat).Method<=T):Jt keys a m r<=T:=by
  have key:∀n b v,r.YW.length<n+v->v<=r.YW.length->(b<=T\/v<=j)->(match yy keys a m r n b v with|.inl r1=>r1|.inr z=>z)<=T:=by
    intro n;induction n with
    |zero=>intro b v h1 h2;omega
    |succ n ih=>
      intro b v h1 h2 h3;rw[yy];grind
  exact key _ _ _ zAA (Nat.zero_le _) (.inr (Nat.zero_le _))
theorem PE(h:PlI b w):w.Frame.Zt=yg/\w.Frame.ZC=YU/\w.Frame.Methods=kz/\((w.Frame.XJ=0/\w.Yc=[])\/(w.Frame.XJ=1/\w.Yc=[1])):=by
  rcases h.c with e|e
  · exact⟨congrArg (·.1) e,congrArg (·.2.1) e,congrArg (·.2.2.1) e,.inl ⟨congrArg (·.2.2.2.1) e,congrArg (·.2.2.2.2.2) e⟩⟩
  · exact⟨congrArg (·.1) e,congrArg (·.2.1) e,congrArg (·.2.2.1) e,.inr ⟨congrArg (·.2.2.2.1) e,congrArg (·.2.2.2.2.2) e⟩⟩
theorem Oy(w:ZF):∀(n:Nat)(l:List Int)(v:Nat),w.Frame.ZC.length<n+v->v<=w.Frame.ZC.length->X6 w n l v=l++((w.Frame.ZC.drop v).filter (fun a=>QM w.Yc a.Id||Qh w.Frame a.Key)).map (·.Id)
  |0,l,v,h,hv=>zAA
  |n+1,l,v,h,hv=>by
    rw[X6]
    by_cases iQ:v<w.Frame.ZC.length
    · rw[decide_eq_true (show(v:Int)<(w.Frame.ZC.length:Int)by omega),XA,List.drop_eq_getElem_cons iQ,List.filter_cons,XQ iQ]
      cases hk:(QM w.Yc (w.Frame.ZC[v]).Id||Qh w.Frame (w.Frame.ZC[v]).Key)with
      |true=>rw[XA,Oy w n _ _ zAA iQ,List.append_assoc];rfl
      |false=>rw[XE,Oy w n _ _ zAA iQ];rfl
    · grind
theorem Bz(w:ZF):Zs w=(w.Frame.ZC.filter (fun a=>QM w.Yc a.Id||Qh w.Frame a.Key)).map (·.Id):=by
  have h:=Oy w (w.Frame.ZC.length+1) [] 0 zAA (Nat.zero_le _);rw[List.drop_zero,List.nil_append]at h;exact h
theorem Ng{k:List Y4}{a:List Zi}{s:Zm}(h:(Xk k a s).2=true):(0<=ZY a s.Authority/\0<=s.Seq/\KY s.Time=true)/\(Xk k a s).1=Zm.mk s.Authority s.Seq s.Time s.QL (zS k (nth a (ZY a s.Authority).toNat).Key (Jg s)).1:=by
  revert h;unfold Xk;grind
theorem E8{w:ZF}{id t:Int}:∀(n v:Nat)(l z:List Zm),(Zs w).length<n+v->v<=(Zs w).length->XN w id t n v l= .inr z->z.map (·.Authority)=l.map (·.Authority)++(Zs w).drop v
  |0,v,l,z,hn,hv,h=>zAA
  |n+1,v,l,z,hn,hv,h=>by
    rw[XN]at h
    by_cases iQ:v<(Zs w).length
    · rw[decide_eq_true (show(v:Int)<((Zs w).length:Int)by omega),XA]at h
      revert h
      refine Z1 (p:=fun x:Sum (ZF×Bool) (List Zm)=>x= .inr z->z.map (·.Authority)=l.map (·.Authority)++(Zs w).drop v) (fun _ h=>by cases h) (fun hc h=>?_)
      rw[Bool.not_eq_false']at hc
      have k:=E8 n (v+1) _ z zAA iQ h
      rw[k,List.map_append,(Ng hc).2,List.drop_eq_getElem_cons iQ,List.append_assoc]
      simp[XQ iQ]
    · grind
theorem pH:∀a∈YU,0<=ZY YU a.Id/\(nth YU (ZY YU a.Id).toNat).Key=a.Key:=zAD
theorem C7{l:List Zm}(h:PlI b w)(hl:XN w id t ((Zs w).length+1) 0 []= .inr l)(ls:l.length<=1000):(∀T,w.Frame.Now<=T->Jt w.Frame.Zt w.Frame.ZC w.Frame.Methods (BJ w id l)<=T)\/(Yn w.Frame.ZC (BJ w id l) w.Frame.XJ).2=false:=by
  have e:=E8 _ _ _ _ zAA (Nat.zero_le _) hl;rw[List.drop_zero,List.map_nil,List.nil_append]at e;obtain⟨c1,c2,c3,c4⟩:=PE h;by_cases hC:∃a∈w.Frame.ZC,Qh w.Frame a.Key=true
  · left;obtain⟨a,ha,hs⟩:=hC;intro T hT;have h0:=NI h.w.fr
    have hm:a.Id∈l.map (·.Authority):=by
      rw[e,Bz];grind
    obtain⟨s,gL,ib⟩:=List.mem_map.1 hm;obtain⟨j,hj,hjs⟩:=List.mem_iff_getElem.1 gL;have hk:X9 w.Frame.ZC (nth l j)=a.Key:=by
      rw[XQ hj,hjs];unfold X9;rw[ib];rw[c2]at ha⊢;have z:=pH a ha
      rw[decide_eq_true z.1,XA,z.2]
    refine sj (j:=j) zAA hj ?_;show 0<=Z6 w.Frame.Zt (X9 w.Frame.ZC (nth l j))->zL w.Frame.Methods (nth w.Frame.Zt (Z6 w.Frame.Zt (X9 w.Frame.ZC (nth l j))).toNat).Method<=T
    rw[hk];intro hf;unfold Qh YJ at hs;grind
  · right;refine D2 (by exact ls) ?_;show(l.length:Int)<=w.Frame.XJ
    have el:l.length=(w.Frame.ZC.filter (fun a=>QM w.Yc a.Id)).length:=by
      have e2:=congrArg List.length e;rw[List.length_map,Bz,List.length_map]at e2;rw[e2];congr 1;refine List.filter_congr fun a ha=>?_;grind
    rw[el,c2];rcases c4 with⟨c4,c5⟩|⟨c4,c5⟩<;>rw[c4,c5]<;>decide
/- histories: a renewal that was made at time T does not reach below T, or it is broken by then -/
def sM(f:ZO)(r:Zb)(T:Int):Prop:=(Yn f.ZC r f.XJ).2=false\/T<=(Yn f.ZC r f.XJ).1.To\/Jt f.Zt f.ZC f.Methods r<=T
theorem DV{f:ZO}{s:ZW}{gu:List Int}(hl:s.ZM.length<=1000):∀n v,v<n->v<=s.ZM.length->K8 f s gu n v<=v/\∀k,K8 f s gu n v<=k->k<v->(Yn f.ZC (nth s.ZM k) f.XJ).2=true/\yF f s k=true
  |0,v,h,_=>zAA
  |n+1,v,h,hv=>by
    rw[K8]
    by_cases h0:0<v
    · rw[decide_eq_true (show(v:Int)>0 by omega),XA,show W ((v:Int)-1)=((v-1:Nat):Int)by simp only[Y0];omega]
      refine Z1 (p:=fun z:Nat=>z<=v/\∀k,z<=k->k<v->(Yn f.ZC (nth s.ZM k) f.XJ).2=true/\yF f s k=true) (fun _=>⟨Nat.le_refl _,fun k h1 h2=>zAA⟩) (fun hc=>?_)
      obtain⟨k1,k2⟩:=DV (f:=f) (gu:=gu) hl n (v-1) zAA zAA
      refine⟨zAA,fun k h1 h2=>?_⟩
      by_cases hk:k=v-1
      · subst hk
        simp only[Bool.or_eq_false_iff,Bool.not_eq_false']at hc
        exact⟨hc.1.1,hc.2⟩
      · exact k2 k h1 zAA
    · grind
theorem Gq(f:ZO)(gu:List Int)(hl:s.ZM.length<=1000):∃k0:Nat,Je f s gu=(k0:Int)/\k0<=s.ZM.length/\∀k,k0<=k->k<s.ZM.length->(Yn f.ZC (nth s.ZM k) f.XJ).2=true/\yF f s k=true:=by
  obtain⟨h1,h2⟩:=DV (f:=f) (gu:=gu) hl (s.ZM.length+1) s.ZM.length zAA (Nat.le_refl _);exact⟨_,rfl,h1,h2⟩
theorem vJ{k:Nat}(hl:s.ZM.length<=1000)(hk:k<s.ZM.length)(h:yF f s k=true):(k+1=s.ZM.length->f.Now<Jt f.Zt f.ZC f.Methods (nth s.ZM k))/\(k+1<s.ZM.length->(Yn f.ZC (nth s.ZM (k+1)) f.XJ).1.To<Jt f.Zt f.ZC f.Methods (nth s.ZM k)):=by
  revert h;unfold yF;have e:W ((s.ZM.length:Int)-1)=s.ZM.length-1:=zA5
  have e2:W ((k:Int)+1)=((k+1:Nat):Int):=zA5;rw[e,e2];have hr:ZX (k) 0 (s.ZM.length-1)=true:=(Wq _ _ _).2 zAA;rw[hr,Bool.not_true,XE,Int.toNat_natCast,Int.toNat_natCast];by_cases hc:k+1=s.ZM.length
  · grind
  · rw[show((k:Int)==s.ZM.length-1)=false by rw[beq_eq_false_iff_ne];omega,XE];intro h;rw[Bool.and_eq_true]at h;exact⟨fun h2=>absurd h2 hc,fun _=>of_decide_eq_true h.2⟩
structure HsT(f:ZO)(C:List Zb)(T:Nat->Int):Prop where
  mo:∀k,k+1<C.length->T k<=T (k+1)
  nw:∀k,k<C.length->T k<=f.Now
  ok:∀k,k<C.length->sM f (nth C k) (T k)
theorem rN{f:ZO}{s:ZW}{T:Nat->Int}(h:HsT f s.ZM T)(hl:s.ZM.length<=1000){k0:Nat}(hk:∀k,k0<=k->k<s.ZM.length->(Yn f.ZC (nth s.ZM k) f.XJ).2=true/\yF f s k=true):∀d k,k+d+1=s.ZM.length->k0<=k->T k<=(Yn f.ZC (nth s.ZM k) f.XJ).1.To
  |0,k,hd,h0=>by
    obtain⟨h1,h2⟩:=hk k h0 zAA
    have h3:=(vJ hl zAA h2).1 zAA
    have h4:=h.nw k zAA
    rcases h.ok k zAA with h5|h5|h5
    · rw[h1]at h5;cases h5
    · exact h5
    · omega
  |d+1,k,hd,h0=>by
    obtain⟨h1,h2⟩:=hk k h0 zAA
    have h3:=(vJ hl zAA h2).2 zAA
    have h4:=rN h hl hk d (k+1) zAA zAA
    have h6:=h.mo k zAA
    rcases h.ok k zAA with h5|h5|h5
    · rw[h1]at h5;cases h5
    · exact h5
    · omega
theorem Ok{f:ZO}{s:ZW}{i:Int}(hl:s.ZM.length<=1000):∀(n:Nat)(b:Int)(k:Nat),s.ZM.length<n+k->k<=s.ZM.length->zt f s i n b k<=b/\(∀j,k<=j->j<s.ZM.length->i<(nth s.ZM j).Count->zt f s i n b k<=(Yn f.ZC (nth s.ZM j) f.XJ).1.To)/\(zt f s i n b k=b\/∃j,k<=j/\j<s.ZM.length/\i<(nth s.ZM j).Count/\zt f s i n b k=(Yn f.ZC (nth s.ZM j) f.XJ).1.To)
  |0,b,k,h,hk=>zAA
  |n+1,b,k,h,hk=>by
    rw[zt]
    by_cases hc:k<s.ZM.length
    · rw[decide_eq_true (show(k:Int)<s.ZM.length by omega),XA,Int.toNat_natCast,show W ((k:Int)+1)=((k+1:Nat):Int)by simp only[Y0];omega]
      by_cases hi:i<(nth s.ZM k).Count
      · rw[decide_eq_true (show(nth s.ZM k).Count>i by omega),XA]
        have e:(J3 f (nth s.ZM k)).1.To=(Yn f.ZC (nth s.ZM k) f.XJ).1.To:=rfl
        rw[e]
        generalize hb:(if(Yn f.ZC (nth s.ZM k) f.XJ).1.To<b then(Yn f.ZC (nth s.ZM k) f.XJ).1.To else b)=b'
        obtain⟨k1,k2,k3⟩:=Ok (f:=f) (i:=i) hl n b' (k+1) zAA hc
        grind
      · rw[decide_eq_false (show ¬(nth s.ZM k).Count>i by omega),XE]
        obtain⟨k1,k2,k3⟩:=Ok (f:=f) (i:=i) hl n b (k+1) zAA hc
        grind
    · grind
theorem MH{i:Int}(hl:s.ZM.length<=1000)(h0:Je f s gu=(k0:Int))(hk:k0<=s.ZM.length):zj f s gu i<=f.Now/\(∀j,k0<=j->j<s.ZM.length->i<(nth s.ZM j).Count->zj f s gu i<=(Yn f.ZC (nth s.ZM j) f.XJ).1.To)/\(zj f s gu i=f.Now\/∃j,k0<=j/\j<s.ZM.length/\i<(nth s.ZM j).Count/\zj f s gu i=(Yn f.ZC (nth s.ZM j) f.XJ).1.To):=by
  unfold zj;rw[h0];exact Ok hl _ _ _ zAA hk
theorem wo{l:List ZT}:KE l p=true↔p∈l:=by
  unfold KE;refine(Pq (L:=kL l p) (len:=l.length) (c:=fun v=>KM (nth l v) p) (fun _=>rfl) (fun _ _=>rfl) (l.length+1) 0 zAA).trans ?_;constructor
  · rintro⟨i,_,h,e⟩;rw[yZ,decide_eq_true_eq,XQ h]at e;rw[<-e];exact List.getElem_mem h
  · intro h;obtain⟨i,hi,e⟩:=List.mem_iff_getElem.1 h;exact⟨i,Nat.zero_le _,hi,by rw[yZ,decide_eq_true_eq,XQ hi,e]⟩
theorem pV(h:Xi s=true)(hi:i<s.ZI.length):zn s (nth s.ZI i)=(i:Int):=by
  have hd:=(kH h).2.2.1;unfold zn;rcases xj (L:=xn s (nth s.ZI i)) (r:=fun i=>(i:Int)) (len:=s.ZI.length) (c:=fun v=>KM (nth s.ZI v) (nth s.ZI i)) (fun _=>rfl) (fun _ _=>rfl) (s.ZI.length+1) 0 zAA with⟨e,k⟩|⟨j,e,_,k2,k3,k4⟩
  · have:=k i (Nat.zero_le _) hi;rw[yZ]at this;simp at this
  · rw[e];have:j=i:=by
      rcases Nat.lt_trichotomy j i with iQ|heq|bC
      · have h1:=hd i hi;rw[yZ,decide_eq_true_eq]at k3;have h2:KE (s.ZI.take i) (nth s.ZI i)=true:=wo.2 (by
          rw[<-k3,XQ k2];exact List.mem_take_iff_getElem.2 ⟨j,zAA,rfl⟩)
        rw[h1]at h2;cases h2
      · exact heq
      · have:=k4 i (Nat.zero_le _) bC;rw[yZ]at this;simp at this
    rw[this]
theorem tS(hs:Xi x.ZG=true)(hi:i<x.ZG.ZI.length):Zz f (ZU x) (Z3 (ZU x) x.Doc) (nth x.ZG.ZI i)=zj f x.ZG (XU x.ZG x.Doc) i:=by
  rw[p8];have hl:=(kH hs).2.1
  obtain⟨k0,h0,h1,_⟩:=Gq f (XU x.ZG x.Doc) (s:=x.ZG) zAA;have hb:=(MH (i:=(i:Int)) zAA h0 h1).1
  have e:zq f x.ZG (XU x.ZG x.Doc) (nth x.ZG.ZI i)=zj f x.ZG (XU x.ZG x.Doc) i:=by
    unfold zq;rw[pV hs hi,decide_eq_false zAA,XE]
  rw[e];split<;>omega
/- a status piece that was put there at time t -/
def HsS(w:ZF)(p:ZT)(t:Int):Prop:=∃st:Zp,p=Yq st/\(0<=st.xw/\st.xw<=10000/\st.Zw<=10001)/\((st.xw=t/\((st.Zw=-1/\(nth w.Zw (st.Za-1).toNat=-1\/t+1<=nth w.Zw (st.Za-1).toNat))\/(0<=st.Zw/\st.Zw=nth w.Zw (st.Za-1).toNat)))\/(st.Zw=-1/\YJ w.Frame st.Z4<=t))
structure HsI(w:ZF)(x:ZN)(P T:Nat->Int):Prop where
  t:HsT w.Frame x.ZG.ZM T
  pn:∀i,i<x.ZG.ZI.length->P i<=w.Frame.Now
  pt:∀(k i:Nat),k<x.ZG.ZM.length->i<x.ZG.ZI.length->(i:Int)<(nth x.ZG.ZM k).Count->P i<=T k
  p0:nth x.ZG.ZI 0=Yf x.Sig
  p1:∃c,nth x.ZG.ZI 1=JJ c
  p2:2<=x.ZG.ZI.length
  st:∀i,2<=i->i<x.ZG.ZI.length->HsS w (nth x.ZG.ZI i) (P i)
  fo:x.Id∈w.YL->YJ w.Frame x.Sig.Key<=P 0
/- what became of an item since time n -/
structure HsX(n:Int)(x y:ZN)(T:Nat->Int):Prop where
  d:y.Doc=x.Doc
  s:y.Sig=x.Sig
  p:x.ZG.ZI <+: y.ZG.ZI
  c:x.ZG.ZM <+: y.ZG.ZM
  t:∀k,x.ZG.ZM.length<=k->k<y.ZG.ZM.length->n<=T k
def FP(w:ZF)(x:ZN):Prop:=∃i,i<w.ZA.length/\x∈(nth w.ZA i).ZB
def HsG(a w:ZF)(y:ZN):Prop:=∃P T,HsI w y P T/\∀x,FP a x->x.Id=y.Id->HsX a.Frame.Now x y T
structure HsW(a w:ZF):Prop where
  nx:a.Next<=w.Next
  nw:a.Frame.Now<=w.Frame.Now
  li:w.Frame.XJ=a.Frame.XJ
  al:∀x,FP a x->x.Id<a.Next
  g:∀y,FP w y->HsG a w y
structure nF(w w':ZF):Prop where
  k:w'.Frame.Zt=w.Frame.Zt
  a:w'.Frame.ZC=w.Frame.ZC
  m:w'.Frame.Methods=w.Frame.Methods
  l:w'.Frame.XJ=w.Frame.XJ
  n:w.Frame.Now<=w'.Frame.Now
  e:∀j,nth w'.Zw j=nth w.Zw j\/(nth w.Zw j=-1/\w.Frame.Now+1<=nth w'.Zw j)
theorem Ex(w:ZF)(A:List ZE)(q f:List Int)(n:Int):nF w (ZF.mk w.Frame w.Zd w.Zw A q w.Yc n f):=⟨rfl,rfl,rfl,rfl,Int.le_refl _,fun _=>.inl rfl⟩
theorem pf{P:Nat->Int}(h:HsI w x P T)(hl:nF w w')(hf:x.Id∈w'.YL->x.Id∈w.YL):HsI w' x P T:=by
  have hb:∀k,YJ w'.Frame k=YJ w.Frame k:=fun k=>by unfold YJ;rw[hl.k,hl.m]
  refine⟨⟨h.t.mo,fun k hk=>Int.le_trans (h.t.nw k hk) hl.n,fun k hk=>?_⟩,fun i hi=>Int.le_trans (h.pn i hi) hl.n,h.pt,h.p0,h.p1,h.p2,fun i h2 hi=>?_,fun hx=>by rw[hb];exact h.fo (hf hx)⟩
  · have:=h.t.ok k hk;unfold sM at this⊢;rw[hl.k,hl.a,hl.m,hl.l];exact this
  · obtain⟨st,e,hr,hc⟩:=h.st i h2 hi;have hp:=h.pn i hi
    refine⟨st,e,hr,?_⟩;rw[hb];have he:=hl.e (st.Za-1).toNat
    grind
theorem U2{a:ZF}(h:HsW a w)(hl:nF w w')(hn:w.Next<=w'.Next)(hy:∀y,FP w' y->(HsG a w y/\(y.Id∈w'.YL->y.Id∈w.YL))\/HsG a w' y):HsW a w':=by
  refine⟨Int.le_trans h.nx hn,Int.le_trans h.nw hl.n,hl.l.trans h.li,h.al,fun y k=>?_⟩;rcases hy y k with⟨⟨P,T,h1,h2⟩,h3⟩|h1
  · exact⟨P,T,pf h1 hl h3,h2⟩
  · exact h1
theorem FF{en ly:List Int}(h:FP (ZF.mk fr ce en (w.ZA.set i A) sq ly nx fo) y):(i<w.ZA.length/\y∈A.ZB)\/FP w y:=by
  obtain⟨j,h1,h2⟩:=h;dsimp only at h1 h2;rw[List.length_set]at h1;rw[Kr]at h2;split at h2
  · rename_i hc;left;exact⟨zAA,h2⟩
  · right;exact⟨j,h1,h2⟩
theorem vM{a:ZF}(h:HsW a w)(hy:HsG a w y)(hr:sM w.Frame r w.Frame.Now):HsG a w (ZN.mk y.Id y.XF y.Doc y.Sig (ZW.mk y.ZG.ZI (y.ZG.ZM++[r]))):=by
  obtain⟨P,T,h1,h2⟩:=hy;have hlen:(y.ZG.ZM++[r]).length=y.ZG.ZM.length+1:=by rw[List.length_append,List.length_singleton]
  refine⟨P,fun k=>if k<y.ZG.ZM.length then T k else w.Frame.Now,⟨⟨fun k hk=>?_,fun k hk=>?_,fun k hk=>?_⟩,h1.pn,fun k i hk hi hc=>?_,h1.p0,h1.p1,h1.p2,h1.st,h1.fo⟩,fun x hx he=>?_⟩
  · dsimp only at hk⊢;rw[hlen]at hk;rw[if_pos (show k<y.ZG.ZM.length by omega)];split
    · exact h1.t.mo k zAA
    · exact h1.t.nw k zAA
  · dsimp only at hk⊢;split
    · exact h1.t.nw k zAA
    · exact Int.le_refl _
  · dsimp only at hk⊢;rw[hlen]at hk;rw[yU];split
    · exact h1.t.ok k zAA
    · rw[show k-y.ZG.ZM.length=0 by omega];exact hr
  · dsimp only at hk hi hc⊢;rw[hlen]at hk;rw[yU]at hc;split
    · rename_i iQ;rw[if_pos iQ]at hc;exact h1.pt k i iQ hi hc
    · exact h1.pn i hi
  · have k:=h2 x hx he;refine⟨k.d,k.s,k.p,k.c.trans (List.prefix_append _ _),fun j h3 h4=>?_⟩;dsimp only at h4⊢;split
    · exact k.t j h3 zAA
    · exact h.nw
theorem oB{a:ZF}(h:HsW a w)(hy:HsG a w y)(hs:Xi y.ZG=true)(hp:HsS w p w.Frame.Now):HsG a w (ZN.mk y.Id y.XF y.Doc y.Sig (ZW.mk (y.ZG.ZI++[p]) y.ZG.ZM)):=by
  obtain⟨P,T,h1,h2⟩:=hy;have hlen:(y.ZG.ZI++[p]).length=y.ZG.ZI.length+1:=by rw[List.length_append,List.length_singleton]
  have h3:=h1.p2;have hcnt:=(kH hs).2.2.2;refine⟨fun k=>if k<y.ZG.ZI.length then P k else w.Frame.Now,T,⟨h1.t,fun i hi=>?_,fun k i hk hi hc=>?_,?_,?_,?_,fun i hi hj=>?_,fun hx=>?_⟩,fun x hx he=>?_⟩
  · split
    · exact h1.pn i zAA
    · exact Int.le_refl _
  · dsimp only at hk hi hc⊢;have:=(hcnt k hk).1
    rw[if_pos zAA];exact h1.pt k i hk zAA hc
  · show nth (y.ZG.ZI++[p]) 0=_;rw[yU,if_pos zAA];exact h1.p0
  · show ∃c,nth (y.ZG.ZI++[p]) 1=_;rw[yU,if_pos zAA];exact h1.p1
  · show 2<=(y.ZG.ZI++[p]).length;omega
  · dsimp only at hj⊢;rw[hlen]at hj;rw[yU];split
    · exact h1.st i hi zAA
    · rw[show i-y.ZG.ZI.length=0 by omega];exact hp
  · show _<=(if 0<y.ZG.ZI.length then P 0 else w.Frame.Now);rw[if_pos zAA];exact h1.fo hx
  · have k:=h2 x hx he;exact⟨k.d,k.s,k.p.trans (List.prefix_append _ _),k.c,k.t⟩
theorem Ov{k:Nat}(hi:i<w.ZA.length)(hk:k<(nth w.ZA i).ZB.length):FP w (nth (nth w.ZA i).ZB k):=⟨i,hi,by rw[XQ hk];exact List.getElem_mem hk⟩
theorem oS(hw:PlI b w)(h:FP w x):x.Id<w.Next:=by
  obtain⟨i,hi,hx⟩:=h;refine hw.w.lt _ (List.mem_flatMap.2 ⟨nth w.ZA i,by rw[XQ hi];exact List.getElem_mem hi,List.mem_map.2 ⟨x,hx,rfl⟩⟩)
/- the steps -/
theorem pA{a:ZF}(hw:PlI b w)(h:HsW a w):HsW a (KI w n).1:=by
  have k:=NI hw.w.fr;refine vn (P:=fun r=>HsW a r.1) h (fun h1 h2 h3=>?_);have e:W (w.Frame.Now+n)=w.Frame.Now+n:=zA5;refine U2 h ⟨rfl,rfl,rfl,rfl,by show w.Frame.Now<=W (w.Frame.Now+n);omega,fun _=>.inl rfl⟩ (Int.le_refl _) (fun y hy=>.inl ⟨h.g y hy,id⟩)
theorem sU(h:(Ru w k d o v).2=true):(Ru w k d o v).1.Key=k:=by
  revert h;unfold Ru XV;grind
theorem nI{a:ZF}{e:Int}(h:HsW a w)(hs:(Ru w k d o v).2=true)(fo:List Int)(A:List ZE)(n:Int)(hf:w.Next∈fo->YJ w.Frame k<=w.Frame.Now):HsG a (ZF.mk w.Frame w.Zd w.Zw A w.Y2 w.Yc n fo) (RR w k d o e v):=by
  refine⟨fun _=>w.Frame.Now,fun _=>w.Frame.Now,⟨⟨fun k hk=>(by cases hk),fun k hk=>(by cases hk),fun k hk=>(by cases hk)⟩,fun _ _=>Int.le_refl _,fun k i hk=>(by cases hk),rfl,⟨_,rfl⟩,Nat.le_refl _,fun i h1 h2=>?_,fun hx=>?_⟩,fun x hx he=>?_⟩
  · change i<2 at h2;omega
  · show YJ w.Frame (Ru w k d o v).1.Key<=_;rw[sU hs];exact hf hx
  · have h1:=h.al x hx;have h2:=h.nx;change x.Id=w.Next at he;omega
theorem sQ{a:ZF}(hw:PlI b w)(h:HsW a w){i:Int}{e:Int}(hs:(Ru w k d o v).2=true)(ha:(YZ (nth w.ZA i.toNat) (RR w k d o e v)).2=true)(hn:w.Next<=n)(hf:∀x∈fo,x∈w.YL\/x=w.Next/\YJ w.Frame k<=w.Frame.Now):HsW a (ZF.mk w.Frame w.Zd w.Zw (w.ZA.set i.toNat (YZ (nth w.ZA i.toNat) (RR w k d o e v)).1) w.Y2 w.Yc n fo):=by
  refine U2 h (Ex w _ _ _ _) hn (fun y hy=>?_);have old:FP w y->(HsG a w y/\(y.Id∈fo->y.Id∈w.YL)):=fun hy=>⟨h.g y hy,fun hx=>(hf _ hx).elim id (fun hc=>by have:=oS hw hy;omega)⟩
  rcases FF hy with⟨hi,hy⟩|hy
  · obtain⟨_,_,_,j,e2⟩:=UU ha;rw[e2]at hy;change y∈(List.take j (nth w.ZA i.toNat).ZB++[_])++List.drop j (nth w.ZA i.toNat).ZB at hy;rcases List.mem_append.1 hy with hy|hy
    · rcases List.mem_append.1 hy with hy|hy
      · exact .inl (old ⟨_,hi,List.mem_of_mem_take hy⟩)
      · rw[List.mem_singleton.1 hy];refine .inr (nI h hs fo _ _ (fun hx=>?_));rcases hf _ hx with h1|h1
        · have:=hw.fo _ h1;omega
        · exact h1.2
    · exact .inl (old ⟨_,hi,List.mem_of_mem_drop hy⟩)
  · exact .inl (old hy)
theorem oG{a:ZF}{i:Int}{e:Int}(hw:PlI b w)(h:HsW a w):HsW a (Ja w i k d o e).1:=by
  have hl:=hw.w.ar;refine vg (P:=fun r=>HsW a r.1) h (fun h1 _ _ _ v _ _ h6 h7=>?_);obtain⟨e1,_⟩:=Hb hw.w (yq h1 zAA).2 rfl h7 hw.w.fo;exact sQ hw h h6 h7 zAA (fun x hx=>.inl hx)
theorem s5{a:ZF}{i:Int}(hw:PlI b w)(h:HsW a w):HsW a (JM w i k d).1:=by
  have hl:=hw.w.ar;refine Bk (P:=fun r=>HsW a r.1) h (fun h0 h1 _ _ v _ _ h6 h7=>?_);obtain⟨e1,_⟩:=Hb hw.w (yq h1 zAA).2 rfl h7 hw.w.fo;refine sQ hw h h6 h7 zAA (fun x hx=>?_);rcases List.mem_append.1 hx with hx|hx
  · exact .inl hx
  · right;refine⟨List.mem_singleton.1 hx,?_⟩;unfold Qh at h0;grind
theorem PO{a:ZF}{i:Int}(hw:PlI b w)(h:HsW a w)(hi:i.toNat<w.ZA.length)(hp:(YT w.Frame.Zt st).2=true->HsS w (Yq (YT w.Frame.Zt st).1) w.Frame.Now):HsW a (Qi w i id st).1:=by
  refine L9 (P:=fun r=>HsW a r.1) h (fun h1 h2 h3=>?_);obtain⟨e,hs⟩:=Lx h3;obtain⟨hk,_⟩:=jw h2;refine U2 h (Ex w _ _ _ _) (Int.le_refl _) (fun y hy=>.inl ⟨?_,fun hx=>hx⟩);rcases FF hy with⟨_,hy⟩|hy
  · unfold Xl at hy;rw[decide_eq_false zAA,XE]at hy;change y∈(nth w.ZA i.toNat).ZB.set _ _ at hy;rcases List.mem_or_eq_of_mem_set hy with hy|rfl
    · exact h.g y ⟨_,hi,hy⟩
    · rw[e];exact oB h (h.g _ (Ov hi hk)) (U3 (V2 hw.w hi hk)) (hp h1)
  · exact h.g y hy
theorem Lf(h:(YT keys st).2=true):((YT keys st).1.Za=st.Za/\(YT keys st).1.xw=st.xw/\(YT keys st).1.Zw=st.Zw/\(YT keys st).1.Z4=st.Z4)/\0<=st.xw/\st.xw<=10000/\-1<=st.Zw/\st.Zw<=10001:=by
  revert h;unfold YT;refine Z1 (p:=fun r:Zp×Bool=>r.2=true->(r.1.Za=st.Za/\r.1.xw=st.xw/\r.1.Zw=st.Zw/\r.1.Z4=st.Z4)/\0<=st.xw/\st.xw<=10000/\-1<=st.Zw/\st.Zw<=10001) (fun _ h=>by cases h) (fun hc _=>⟨⟨rfl,rfl,rfl,rfl⟩,?_⟩);simp only[Bool.or_eq_false_iff,Bool.not_eq_false',WB,KY,Bool.and_eq_true,Wq]at hc;have h1:=hc.1.1.1.2
  have h2:=hc.1.1.2;rw[show W (st.xw+1)=st.xw+1 by simp only[Y0];omega]at h2;omega
theorem uD:∀n,n<3->((nth kE n).Za-1).toNat=n:=by decide+kernel
theorem uF{a:ZF}(hw:PlI b w)(h:HsW a w):HsW a (JA w id).1:=by
  have hn:=NI hw.w.fr;unfold JA;refine Z1 (p:=fun r:ZF×Bool=>HsW a r.1) (fun _=>h) (fun hc=>?_);refine Z1 (p:=fun r:ZF×Bool=>HsW a r.1) (fun _=>h) (fun _=>?_);simp only[Bool.or_eq_false_iff,Bool.not_eq_false']at hc;have k:=Ql w id hc.1;have hl:w.Zd.length=3:=by rw[<-hw.w.en];exact oa hw
  have es:((nth w.Zd (YP w id).2.1.toNat).Za-1).toNat=(YP w id).2.1.toNat:=by
    rw[AH hw];exact uD _ zAA
  have er:=(hw.w.ce (YP w id).2.1.toNat zAA).2.2;rw[Wq]at er;have e1:W (w.Frame.Now+1)=w.Frame.Now+1:=zA5;refine Z1 (p:=fun r:ZF×Bool=>HsW a r.1) (fun hg=>?_) (fun hg=>?_)
  · have hg:=of_decide_eq_true hg;refine PO hw h zAA (fun hm=>?_);obtain⟨⟨m1,m2,m3,m4⟩,m5,m6,m7,m8⟩:=Lf hm;refine⟨_,rfl,by rw[m2,m3];exact⟨m5,m6,m8⟩,.inl ⟨m2,.inl ⟨m3,.inr ?_⟩⟩⟩;rw[m1,es];omega
  · have hg:=of_decide_eq_false hg;refine PO hw h zAA (fun hm=>?_);obtain⟨⟨m1,m2,m3,m4⟩,m5,m6,m7,m8⟩:=Lf hm;refine⟨_,rfl,by rw[m2,m3];exact⟨m5,m6,m8⟩,.inl ⟨m2,?_⟩⟩;grind
theorem pL{a:ZF}(hw:PlI b w)(h:HsW a w):HsW a (KJ w id t).1:=by
  unfold KJ;refine Z1 (p:=fun r:ZF×Bool=>HsW a r.1) (fun _=>h) (fun hc=>?_);simp only[Bool.or_eq_false_iff,Bool.not_eq_false']at hc;have k:=Ql w id hc.1
  have hs:=hc.2;unfold Qh at hs;simp only[Bool.and_eq_true,decide_eq_true_eq]at hs;refine PO hw h zAA (fun hm=>?_);obtain⟨⟨m1,m2,m3,m4⟩,m5,m6,m7,m8⟩:=Lf hm;refine⟨_,rfl,by rw[m2,m3];exact⟨m5,m6,m8⟩,.inr ⟨m3,?_⟩⟩;rw[m4];exact hs.2
theorem uX{a:ZF}(hw:PlI b w)(h:HsW a w):HsW a (QS w k).1:=by
  have hn:=NI hw.w.fr;unfold QS;refine Z1 (p:=fun r:ZF×Bool=>HsW a r.1) (fun _=>h) (fun hc=>?_);simp only[Bool.or_eq_false_iff,bne_eq_false_iff_eq]at hc;have e1:W (w.Frame.Now+1)=w.Frame.Now+1:=zA5;refine U2 h ⟨rfl,rfl,rfl,rfl,Int.le_refl _,fun j=>?_⟩ (Int.le_refl _) (fun y hy=>.inl ⟨h.g y hy,fun hx=>hx⟩);show nth (w.Zw.set k.toNat (W (w.Frame.Now+1))) j=_\/_/\_<=nth (w.Zw.set k.toNat (W (w.Frame.Now+1))) j
  rw[Kr];grind
theorem oC{a:ZF}{i:Int}(hw:PlI b w)(h:HsW a w):HsW a (KH w i k id).1:=by
  have hl:=hw.w.ar;refine vT (P:=fun r=>HsW a r.1) h (fun h1 h2 h3 h4 h5 h6=>?_);obtain⟨i0,i1⟩:=yq h1 zAA;obtain⟨k0,k1⟩:=yq h2 zAA;have hln:=((Vl _).1 (hw.w.ok _ i1).1).ln;obtain⟨_,e⟩:=vQ zAA h5;obtain⟨f1,f2⟩:=jw h4;obtain⟨_,_,g1,j,g2⟩:=UU h6;have old:∀y,FP w y->HsG a w y/\(y.Id∈w.YL->y.Id∈w.YL):=fun y hy=>⟨h.g y hy,fun hx=>hx⟩;refine U2 h (Ex w _ _ _ _) (Int.le_refl _) (fun y hy=>.inl (old y ?_));obtain⟨n,n1,n2⟩:=hy;change n<((w.ZA.set i.toNat _).set k.toNat _).length at n1;change y∈(nth ((w.ZA.set i.toNat (QG (nth w.ZA i.toNat) id).1).set k.toNat _) n).ZB at n2;rw[List.length_set,List.length_set]at n1;rw[Kr]at n2;split at n2
  · rw[g2]at n2;change y∈(List.take j (nth w.ZA k.toNat).ZB++[_])++List.drop j (nth w.ZA k.toNat).ZB at n2;rcases List.mem_append.1 n2 with hy|hy
    · rcases List.mem_append.1 hy with hy|hy
      · exact⟨_,k1,List.mem_of_mem_take hy⟩
      · rw[List.mem_singleton.1 hy];exact Ov i1 f1
    · exact⟨_,k1,List.mem_of_mem_drop hy⟩
  · rw[Kr]at n2;split at n2
    · rw[e]at n2;exact⟨_,i1,List.mem_of_mem_eraseIdx n2⟩
    · exact⟨n,n1,n2⟩
theorem uq{a:ZF}{i:Int}(hw:PlI b w)(h:HsW a w):HsW a (Q8 w i).1:=by
  have hl:=hw.w.ar;refine Ek (P:=fun r=>HsW a r.1) h (fun h1=>?_);refine U2 h (Ex w _ _ _ _) (Int.le_refl _) (fun y hy=>.inl ⟨h.g y ?_,fun hx=>hx⟩);rcases FF hy with⟨hi,hy⟩|hy
  · exact⟨_,hi,(List.mem_filter.1 hy).1⟩
  · exact hy
theorem oD{a:ZF}(hw:PlI b w)(h:HsW a w):HsW a (X7 w id t).1:=by
  refine vE (P:=fun r=>HsW a r.1) h (fun _ h2 _ _ l h5 h6=>?_);obtain⟨k1,k2,k3⟩:=XT w id h2;have hl:=(jI (a0:=w) (a1:=id) (a2:=t) ((Zs w).length+1) 0 []).2 l h5
  have hf:=Js w;have ha:w.Frame.ZC.length=4:=by rw[(PE hw).2.1];rfl
  rw[List.length_nil]at hl;have hb:=C7 hw h5 zAA
  refine U2 h (Ex w _ _ _ _) (Int.le_refl _) (fun y hy=>.inl ⟨?_,fun hx=>hx⟩);rcases FF hy with⟨_,hy⟩|hy
  · change y∈(nth w.ZA (ZK w id).1.toNat).ZB.set _ _ at hy;rcases List.mem_or_eq_of_mem_set hy with hy|rfl
    · exact h.g y ⟨_,k1,hy⟩
    · refine vM h (h.g _ (Ov k1 k3)) ?_;rcases hb with hb|hb
      · exact .inr (.inr (hb _ (Int.le_refl _)))
      · exact .inl hb
  · exact h.g y hy
/- honest renewals -/
theorem ND(l:List Ze)(t:Int)(hl:l.length<=1000):∀(n v:Nat)(c:Int),l.length<n+v->v<=l.length->0<=c->c<=v->jz l t n c v=c+((l.drop v).countP (fun s=>Y7 s&&ZX t s.XH s.To):Nat)
  |0,v,c,h,hv,_,_=>zAA
  |n+1,v,c,h,hv,h0,h1=>by
    rw[jz]
    by_cases iQ:v<l.length
    · rw[decide_eq_true (show(v:Int)<(l.length:Int)by omega),XA,List.drop_eq_getElem_cons iQ,List.countP_cons,XQ iQ]
      cases hc:(Y7 l[v]&&ZX t (l[v]).XH (l[v]).To)with
      |true=>
        rw[XA,show W (c+1)=c+1 by simp only[Y0];omega,ND l t hl n (v+1) (c+1) zAA iQ zAA zAA,if_pos rfl]
        omega
      |false=>
        rw[XE,ND l t hl n (v+1) c zAA iQ zAA zAA,if_neg zAD]
        omega
    · grind
theorem sB(l:List Ze)(t:Int)(hl:l.length<=1000):Pp l t=(l.countP (fun s=>Y7 s&&ZX t s.XH s.To):Nat):=by
  have:=ND l t hl (l.length+1) 0 0 zAA (Nat.zero_le _) zAA zAA;rw[List.drop_zero,Int.zero_add]at this;exact this
theorem O6{l:List Ze}{q t:Int}(h0:0<=t)(h1:t<=10000)(h:JR l t q=true):∀(n v:Nat)(f:Bool)(x y:Int),10001<n+v->v<=10001->(t<v->t<=y)->t<=(J0 l q n f v x y).2.2
  |0,v,f,x,y,hn,hv,hy=>zAA
  |n+1,v,f,x,y,hn,hv,hy=>by
    rw[J0]
    by_cases iQ:v<=10000
    · rw[decide_eq_true (show(v:Int)<=10000 by omega),XA]
      cases hc:JR l (v:Int) q with
      |true=>
        rw[XA]
        have go:=fun f x=>O6 h0 h1 h n (v+1) f x (v:Int) zAA zAA (fun k=>zAA)
        grind
      |false=>
        rw[XE]
        refine O6 h0 h1 h n (v+1) f x y zAA zAA (fun k=>?_)
        grind
    · grind
theorem sh(h0:0<=t)(h1:t<=10000)(h:JR l t q=true):t<=(Jo l q).1.To:=by
  have:=O6 h0 h1 h 10002 0 false 0 0 zAA zAA (fun k=>zAA);unfold Jo;grind
theorem sP:∀i:Nat,0<=(nth YU i).Error/\(nth YU i).Error<=100:=by
  intro i;by_cases h:i<4
  · have:∀i,i<4->0<=(nth YU i).Error/\(nth YU i).Error<=100:=by decide+kernel
    exact this i h
  · have e:nth YU i=default:=by
      have hl:YU.length<=i:=by show 4<=i;omega
      simp[nth,List.getD_eq_getElem?_getD,List.getElem?_eq_none hl]
    rw[e];decide
theorem Ck{s:Zm}(h0:0<=n)(h1:n<=10000)(ht:s.Time=n)(h:(Xu YU s).2=true):(Y7 (Xu YU s).1&&ZX n (Xu YU s).1.XH (Xu YU s).1.To)=true:=by
  revert h;unfold Xu;refine Z1 (p:=fun z:Ze×Bool=>z.2=true->(Y7 z.1&&ZX n z.1.XH z.1.To)=true) (fun _ h=>by cases h) (fun hc=>?_);have he:=sP (ZY YU s.Authority).toNat
  generalize(nth YU (ZY YU s.Authority).toNat).Error=e at he;rw[ht];unfold zT;dsimp only;rw[show W (n-e)=n-e by simp only[Y0];omega,show W (n+e)=n+e by simp only[Y0];omega];refine Z1 (p:=fun z:Ze×Bool=>z.2=true->(Y7 z.1&&ZX n z.1.XH z.1.To)=true) (fun _ h=>by cases h) (fun hc h=>?_);simp only[Bool.or_eq_false_iff,Bool.not_eq_false']at hc;rw[hc.2,Bool.true_and,Wq];grind
theorem oA{l:List Zm}(h:(l.map (·.Authority)).Pairwise (·<·))(p:Zm->Bool)(hp:∀s∈l,p s=true->s.Authority=1):(l.filter p).length<=1:=by
  have h1:((l.filter p).map (·.Authority)).Pairwise (·<·):=h.sublist (List.filter_sublist.map _);have h2:∀s∈l.filter p,s.Authority=1:=fun s hs=>by
    rw[List.mem_filter]at hs;exact hp s hs.1 hs.2
  generalize l.filter p=m at h1 h2;match m with
  |[]=>simp
  |[x]=>simp
  |x::y::m=>
    exfalso;rw[List.map_cons,List.map_cons,List.pairwise_cons]at h1;have:=h1.1 y.Authority List.mem_cons_self
    grind
theorem v9(hw:PlI b w){l:List Zm}(hl:l.length<=1000)(h:(l.map (·.Authority)).Pairwise (·<·))(ht:∀s∈l,QM w.Yc s.Authority=true\/s.Time=w.Frame.Now)(hr:r.YW=l):sM w.Frame r w.Frame.Now:=by
  obtain⟨n0,n1⟩:=NI hw.w.fr;obtain⟨_,c2,_,c4⟩:=PE hw;obtain⟨k1,k2⟩:=TT w.Frame.ZC l (l.length+1) [] 0 zAA (Nat.zero_le _);have key:(Qf w.Frame.ZC l w.Frame.XJ).2=false\/w.Frame.Now<=(Qf w.Frame.ZC l w.Frame.XJ).1.To:=by
    unfold Qf;generalize yH w.Frame.ZC l (l.length+1) [] 0=s at k1 k2⊢;cases s with
    |inl x=>exact .inl (k1 x rfl)
    |inr z=>
      obtain⟨k3,k4⟩:=k2 z rfl;rw[List.drop_zero,List.nil_append]at k3;have hz:z.length=l.length:=by rw[k3,List.length_map]
      show(Jo z w.Frame.XJ).2=false\/w.Frame.Now<=(Jo z w.Frame.XJ).1.To;by_cases hsup:∀t,JR z t w.Frame.XJ=false
      · exact .inl (OW hsup)
      · right;have hex:∃t,JR z t w.Frame.XJ=true:=by
          grind
        obtain⟨t,hq⟩:=hex;refine sh n0 n1 ?_;unfold JR at hq⊢;rw[Bool.and_eq_true]at hq⊢;refine⟨hq.1,decide_eq_true ?_⟩;have hq1:=hq.1
        rw[Wq,hz,show W ((l.length:Int)-1)=l.length-1 by simp only[Y0];omega]at hq1;rw[sB z _ zAA,hz,show W ((l.length:Int)-w.Frame.XJ)=l.length-w.Frame.XJ by simp only[Y0];omega,k3,List.countP_map];have e1:=List.length_eq_countP_add_countP ((fun s=>Y7 s&&ZX w.Frame.Now s.XH s.To)∘fun s=>(Xu w.Frame.ZC s).1) (l:=l)
        have e2:∀s∈l,¬((fun s=>Y7 s&&ZX w.Frame.Now s.XH s.To)∘fun s=>(Xu w.Frame.ZC s).1) s=true->QM w.Yc s.Authority=true:=fun s hs hn=>by
          rcases ht s hs with h1|h1
          · exact h1
          · exfalso;apply hn;obtain⟨j,hj,hjs⟩:=List.mem_iff_getElem.1 hs;have hk:=k4 j (Nat.zero_le _) hj
            rw[XQ hj,hjs,c2]at hk;show(Y7 (Xu w.Frame.ZC s).1&&ZX w.Frame.Now (Xu w.Frame.ZC s).1.XH (Xu w.Frame.ZC s).1.To)=true
            rw[c2];exact Ck n0 n1 h1 hk
        generalize((fun s=>Y7 s&&ZX w.Frame.Now s.XH s.To)∘fun s=>(Xu w.Frame.ZC s).1)=p at e1 e2⊢;have e3:(l.countP (fun a=>decide ¬p a=true):Int)<=w.Frame.XJ:=by
          rw[List.countP_eq_length_filter];rcases c4 with⟨c4,c5⟩|⟨c4,c5⟩
          · have:l.filter (fun a=>decide ¬p a=true)=[]:=List.filter_eq_nil_iff.2 (fun s hs hn=>by
              have:=e2 s hs (of_decide_eq_true hn);rw[c5]at this;cases this)
            rw[this,c4];decide
          · have:=oA h (fun a=>decide ¬p a=true) (fun s hs hn=>by
              have:=e2 s hs (of_decide_eq_true hn);rw[c5,Dj]at this;exact List.mem_singleton.1 this)
            rw[c4];omega
        omega
  unfold sM;show(Qf w.Frame.ZC r.YW w.Frame.XJ).2=false\/w.Frame.Now<=(Qf w.Frame.ZC r.YW w.Frame.XJ).1.To\/_
  grind
theorem tW{a:ZF}{i:Int}(hw:PlI b w)(h:HsW a w)(hi:ids.length<=1000):HsW a (Qd w i ids ec).1:=by
  have hl:=hw.w.ar;refine BX (P:=fun r=>HsW a r.1) (Q:=fun v l _=>l.length=v/\l.map (·.Authority)=ids.take v/\∀s∈l,QM w.Yc s.Authority=true\/s.Time=w.Frame.Now) h ⟨rfl,rfl,fun s hs=>(by cases hs)⟩ (fun v l q t hv hp hq=>?_) (fun h1 _ h3 _ l q hq hk=>?_)
  · obtain⟨q1,q2,q3⟩:=hq;have e:=(Ng hp.ok).2
    have ea:(Cg w i ids v t).1.Authority=nth ids v:=by unfold Cg;rw[e]
    have et:(Cg w i ids v t).1.Time=t:=by unfold Cg;rw[e]
    refine⟨by rw[List.length_append,List.length_singleton,q1],?_,fun s hs=>?_⟩
    · rw[List.map_append,List.map_singleton,q2,ea,List.take_succ_eq_append_getElem hv,XQ hv]
    · rcases List.mem_append.1 hs with hs|hs
      · exact q3 s hs
      · rw[List.mem_singleton.1 hs,ea,et];rcases hp.tm with h5|h5
        · exact .inl h5.1
        · exact .inr h5.2
  · obtain⟨q1,q2,q3⟩:=hq;obtain⟨h8,h9⟩:=yq h1 zAA;obtain⟨_,_,_,g3,g4⟩:=Ds hk;rw[List.take_length]at q2;have hrise:(l.map (·.Authority)).Pairwise (·<·):=by
      rw[q2,List.pairwise_iff_getElem];intro x y hx hy dA;have:=Pr ((DW ids).1 h3) (y-x) x zAA zAA
      rw[show x+(y-x)=y by omega,XQ hx,XQ hy]at this;exact this
    refine U2 h (Ex w _ _ _ _) (Int.le_refl _) (fun y hy=>.inl ⟨?_,fun hx=>hx⟩);rcases FF hy with⟨_,hy⟩|hy
    · obtain⟨j,hj,e⟩:=List.mem_iff_getElem.1 hy;rw[g3]at hj;have e2:=g4 j hj
      rw[XQ (by rw[g3];exact hj),e]at e2;rw[e2];exact vM h (h.g _ (Ov h9 hj)) (v9 hw zAA hrise q3 rfl)
    · exact h.g y hy
theorem BE{a:ZF}(hw:PlI b w)(h:HsW a w)(hi:e.Ids.length<=1000):HsW a (YF w e).1:=
  Bw (P:=fun r=>HsW a r.1) h (fun _=>pA hw h) (fun _=>oG hw h) (fun _=>uF hw h) (fun _=>uX hw h) (fun _=>tW hw h hi) (fun _=>oC hw h) (fun _=>uq hw h) (fun _=>s5 hw h) (fun _=>oD hw h) (fun _=>pL hw h)
theorem sJ:∀{l:List ZN}{x y:ZN},(l.map (·.Id)).Nodup->x∈l->y∈l->x.Id=y.Id->x=y
  |[],x,y,_,hx,_,_=>zBv
  |z::l,x,y,h,hx,hy,e=>by
    rw[List.map_cons,List.nodup_cons]at h
    rcases List.mem_cons.1 hx with rfl|hx
    · grind
    · rcases List.mem_cons.1 hy with rfl|hy
      · grind
      · exact sJ h.2 hx hy e
theorem pP(hw:PlI b w)(h:HsW z w):HsW w w:=by
  refine⟨Int.le_refl _,Int.le_refl _,rfl,fun x hx=>oS hw hx,fun y hy=>?_⟩;obtain⟨P,T,h1,_⟩:=h.g y hy;refine⟨P,T,h1,fun x hx he=>?_⟩;have:x=y:=by
    obtain⟨i,hi,hxi⟩:=hx;obtain⟨j,hj,hyj⟩:=hy;have hn:=hw.w.nd
    unfold qS at hn;rw[<-List.map_flatMap]at hn;exact sJ hn (List.mem_flatMap.2 ⟨_,by rw[XQ hi];exact List.getElem_mem hi,hxi⟩) (List.mem_flatMap.2 ⟨_,by rw[XQ hj];exact List.getElem_mem hj,hyj⟩) he
  subst this;exact⟨rfl,rfl,List.prefix_rfl,List.prefix_rfl,fun k h1 h2=>zAA⟩
theorem pd(x:Int):HsW (QH x) (QH x):=by
  have h:∀y,¬FP (QH x) y:=by
    have h0:∀k,k=0\/k=1->∀i,i<(QH k).ZA.length->(nth (QH k).ZA i).ZB=[]:=by
      intro k hk;rcases hk with rfl|rfl<;>decide+kernel
    intro y hy;obtain⟨i,h1,h2⟩:=hy;rcases V7 x with e|e<;>rw[e]at h1 h2
    · rw[h0 0 (.inl rfl) i h1]at h2;cases h2
    · rw[h0 1 (.inr rfl) i h1]at h2;cases h2
  exact⟨Int.le_refl _,Int.le_refl _,rfl,fun y hy=>absurd hy (h y),fun y hy=>absurd hy (h y)⟩
/- what a piece's bound says -/
theorem sI{P:Nat->Int}(h:HsI w x P T)(hs:Xi x.ZG=true)(hi:i<x.ZG.ZI.length):P i<=Zz w.Frame (ZU x) (Z3 (ZU x) x.Doc) (nth x.ZG.ZI i):=by
  have hl:=(kH hs).2.1;rw[tS hs hi];obtain⟨k0,h0,h1,h2⟩:=Gq w.Frame (XU x.ZG x.Doc) (s:=x.ZG) zAA;rcases(MH (i:=(i:Int)) zAA h0 h1).2.2 with hb|⟨j,j1,j2,j3,j4⟩
  · rw[hb];exact h.pn i hi
  · rw[j4];have h3:=rN h.t zAA h2 (x.ZG.ZM.length-1-j) j zAA j1
    have h4:=h.pt j i j2 hi j3;omega
theorem uC{P:Nat->Int}(h:HsI w x P T)(hx:JS x=true)(hf:x.Id∈w.YL):(yD w.Frame x).Code≠1:=by
  have h1:=sI h (U3 hx) (i:=0) (DJ hx);rw[h.p0]at h1;have h2:=h.fo hf;unfold yD Nn qG;refine Zk (p:=fun v:QF=>v.Code≠1) (show(3:Int)≠1 by decide) ?_;refine Zk (p:=fun v:QF=>v.Code≠1) (show(2:Int)≠1 by decide) ?_;refine Zk (p:=fun v:QF=>v.Code≠1) (show(3:Int)≠1 by decide) ?_;refine Zk (p:=fun v:QF=>v.Code≠1) (show(2:Int)≠1 by decide) ?_;refine Zk (p:=fun v:QF=>v.Code≠1) (show(3:Int)≠1 by decide) ?_;refine Zk (p:=fun v:QF=>v.Code≠1) (show(2:Int)≠1 by decide) ?_;rw[decide_eq_true (show Zz w.Frame (ZU x) (Z3 (ZU x) x.Doc) (Yf x.Sig)>=YJ w.Frame x.Sig.Key by omega),Bool.true_or,XA];show(3:Int)≠1
  decide
theorem Lb(h:0<=(ZK w id).1):(ZK w id).1.toNat<w.ZA.length/\(ZK w id).2.toNat<(nth w.ZA (ZK w id).1.toNat).ZB.length/\(nth (nth w.ZA (ZK w id).1.toNat).ZB (ZK w id).2.toNat).Id=id:=by
  obtain⟨k1,k2,k3⟩:=XT w id h;refine⟨k1,k3,?_⟩;have e:(ZK w id).2=ZZ (nth w.ZA (ZK w id).1.toNat) id:=by
    unfold ZK at h⊢;rcases xj (L:=qE w id) (r:=fun i=>((i:Int),ZZ (nth w.ZA i) id)) (len:=w.ZA.length) (c:=fun i=>decide (ZZ (nth w.ZA i) id>=0)) (fun _=>rfl) (fun _ _=>rfl) (w.ZA.length+1) 0 zAA with⟨e,k⟩|⟨i,e,_⟩
    · rw[e]at h;simp at h
    · rw[e];simp
  rw[e]at k2⊢;exact(jw k2).2
theorem wB{a:ZF}(hw:PlI b w)(h:HsW a w)(hf:id∈w.YL):(Yr w id).Code≠1:=by
  unfold Yr;refine Z1 (p:=fun v:QF=>v.Code≠1) (fun _=>(show(0:Int)≠1 by decide)) (fun hc=>?_);have hc:=of_decide_eq_false hc
  obtain⟨k1,k2,k3⟩:=Lb (w:=w) (id:=id) zAA;obtain⟨P,T,h1,_⟩:=h.g _ (Ov k1 k2);exact uC h1 (V2 hw.w k1 k2) (by rw[k3];exact hf)
theorem O7(w:ZF):∀(n:Nat)(l:List Int)(v:Nat),(∀x∈l,(Yr w x).Code=1)->∀x∈Jq w n l v,(Yr w x).Code=1
  |0,l,v,h=>fun x hx=>zBv
  |n+1,l,v,h=>by
    rw[Jq]
    refine Zk (p:=fun z:List Int=>∀x∈z,(Yr w x).Code=1) (Z1 (p:=fun z:List Int=>∀x∈z,(Yr w x).Code=1) (fun hc=>?_) (fun _=>O7 w n l (v+1) h)) h
    refine O7 w n _ (v+1) (fun x hx=>?_)
    grind
theorem By(h:id∈Zn w):(Yr w id).Code=1:=
  O7 w _ [] 0 (fun x hx=>by cases hx) id h
theorem p9{a:ZF}(hw:PlI b w)(h:HsW a w):We w=[]:=by
  have key:∀n v,zk w n [] v=[]:=by
    intro n;induction n with
    |zero=>intro v;rfl
    |succ n ih=>
      intro v;rw[zk];refine Z1 (p:=fun z:List Int=>z=[]) (fun hv=>?_) (fun _=>rfl);have hv:=of_decide_eq_true hv
      have hm:nth (Zn w) v∈Zn w:=by
        rw[XQ zAA];exact List.getElem_mem _
      have hn:QM w.YL (nth (Zn w) v)=false:=by
        rw[Bool.eq_false_iff];intro hf;exact wB hw h ((Dj _ _).1 hf) (By hm)
      rw[hn,XE];exact ih _
  exact key _ _
theorem sS{a:ZF}(hw:PlI b w)(h:HsW a w):Vt w=(⟨#[]⟩:ByteArray):=by
  unfold Vt;rw[(BY w).2 hw.w,p9 hw h];rfl
/- spans -/
theorem zi(s:Ze):Y7 s=true↔0<=s.XH/\s.XH<=s.To/\s.To<=10000:=by
  simp only[Y7,KY,Bool.and_eq_true,Wq,decide_eq_true_eq];omega
def hsC(l:List Ze)(t:Int):Prop:=∃y∈l,Y7 y=true/\y.XH<=t/\t<=y.To
theorem LL{C:Int->Prop}{l:List Ze}(hl:∀x∈l,Y7 x=true/\∀p,x.XH<=p->p<=x.To->C p):∀(n:Nat)(acc:List Ze)(v:Nat)(f t:Int),l.length<n+v->v<=l.length->(∀x∈acc,x∈l)->0<=f->f<=t->t<=10000->(∀p,f<=p->p<=t->C p)->
    (∀x∈(Qc l n acc v f t).1,x∈l)/\0<=(Qc l n acc v f t).2.1/\(Qc l n acc v f t).2.1<=(Qc l n acc v f t).2.2/\(Qc l n acc v f t).2.2<=10000/\∀p,(Qc l n acc v f t).2.1<=p->p<=(Qc l n acc v f t).2.2->C p
  |0,acc,v,f,t,hn,hv,_,_,_,_,_=>zAA
  |n+1,acc,v,f,t,hn,hv,ha,h0,h1,h2,h3=>by
    rw[Qc]
    by_cases iQ:v<l.length
    · rw[decide_eq_true (show(v:Int)<(l.length:Int)by omega),XA]
      have hm:nth l v∈l:=zBp
      obtain⟨k1,k2⟩:=hl _ hm
      rw[zi]at k1
      generalize nth l v=z at hm k1 k2
      rw[show W (z.To+1)=z.To+1 by simp only[Y0];omega,show W (t+1)=t+1 by simp only[Y0];omega]
      refine Z1 (p:=fun r:List Ze×Int×Int=>(∀x∈r.1,x∈l)/\0<=r.2.1/\r.2.1<=r.2.2/\r.2.2<=10000/\∀p,r.2.1<=p->p<=r.2.2->C p) (fun hc=>?_) (fun hc=>?_)
      · refine LL hl n _ (v+1) f t zAA iQ (fun x hx=>?_) h0 h1 h2 h3
        grind
      · simp only[Bool.or_eq_false_iff,decide_eq_false_iff_not]at hc
        have hf:∀x:Int,(if z.XH<f then z.XH else f)=x->(x=z.XH/\z.XH<f)\/(x=f/\f<=z.XH):=fun x hx=>by rw[<-hx];split<;>omega
        have ht:∀x:Int,(if z.To>t then z.To else t)=x->(x=z.To/\t<z.To)\/(x=t/\z.To<=t):=fun x hx=>by rw[<-hx];split<;>omega
        have hf:=hf _ rfl
        have ht:=ht _ rfl
        generalize(if z.XH<f then z.XH else f)=f' at hf
        generalize(if z.To>t then z.To else t)=t' at ht
        refine LL hl n acc (v+1) f' t' zAA iQ ha zAA zAA zAA (fun p p1 p2=>?_)
        grind
    · grind
theorem LH{C:Int->Prop}{a0:List Ze}(hl:∀x∈a0,Y7 x=true->∀p,x.XH<=p->p<=x.To->C p):∀(n:Nat)(acc:List Ze)(v:Nat),a0.length<n+v->v<=a0.length->(∀x∈acc,Y7 x=true/\∀p,x.XH<=p->p<=x.To->C p)->∀x∈z8 a0 n acc v,Y7 x=true/\∀p,x.XH<=p->p<=x.To->C p
  |0,acc,v,hn,hv,_=>zAA
  |n+1,acc,v,hn,hv,ha=>by
    rw[z8]
    by_cases iQ:v<a0.length
    · rw[decide_eq_true (show(v:Int)<(a0.length:Int)by omega),XA]
      have hm:nth a0 v∈a0:=zBp
      refine Z1 (p:=fun r:List Ze=>∀x∈r,Y7 x=true/\∀p,x.XH<=p->p<=x.To->C p) (fun hc=>LH hl n acc (v+1) zAA iQ ha) (fun hc=>?_)
      rw[Bool.not_eq_false']at hc
      have k:=hl _ hm hc
      rw[zi]at hc
      obtain⟨j1,j2,j3,j4,j5⟩:=LL ha (acc.length+1) [] 0 (nth a0 v).XH (nth a0 v).To zAA (Nat.zero_le _) (fun x hx=>by cases hx) hc.1 hc.2.1 hc.2.2 k
      generalize Qc acc (acc.length+1) [] 0 (nth a0 v).XH (nth a0 v).To=r at j1 j2 j3 j4 j5⊢
      obtain⟨r1,r2,r3⟩:=r
      dsimp only at j1 j2 j3 j4 j5⊢
      refine LH hl n _ (v+1) zAA iQ (fun x hx=>?_)
      rcases List.mem_append.1 hx with hx|hx
      · rcases List.mem_append.1 hx with hx|hx
        · exact ha x (j1 x (List.mem_of_mem_take hx))
        · rw[List.mem_singleton.1 hx]
          exact⟨(zi _).2 ⟨j2,j3,j4⟩,j5⟩
      · grind
    · grind
theorem vF:∀x∈Xg l,Y7 x=true/\∀p,x.XH<=p->p<=x.To->hsC l p:=
  LH (C:=hsC l) (fun x hx hs p p1 p2=>⟨x,hx,hs,p1,p2⟩) (l.length+1) [] 0 zAA (Nat.zero_le _) (fun x hx=>by cases hx)
theorem Ty{p:Int}(h:hsC (Xg l) p):hsC l p:=by
  obtain⟨y,hy,_,h1,h2⟩:=h;exact(vF y hy).2 p h1 h2
theorem sL(l:List Ze)(s:Ze):yI l s=true↔∃x∈Xg l,jn s x=true:=by
  unfold yI;refine(Pq (L:=kP l s) (len:=(Xg l).length) (c:=fun v=>jn s (nth (Xg l) v)) (fun _=>rfl) (fun _ _=>rfl) ((Xg l).length+1) 0 zAA).trans ?_;constructor
  · rintro⟨i,_,h,e⟩;exact⟨_,by rw[XQ h];exact List.getElem_mem h,e⟩
  · rintro⟨x,hx,e⟩;obtain⟨i,hi,rfl⟩:=List.mem_iff_getElem.1 hx;exact⟨i,Nat.zero_le _,hi,by rw[XQ hi];exact e⟩
theorem De(s x:Ze):jn s x=true↔Y7 s=true/\Y7 x=true/\x.XH<=s.XH/\s.To<=x.To:=by
  simp only[jn,Bool.and_eq_true,decide_eq_true_eq,and_assoc]
theorem vc{s:Ze}(h:yI l s=true):Y7 s=true/\∀p,s.XH<=p->p<=s.To->hsC l p:=by
  obtain⟨x,hx,hi⟩:=(sL l s).1 h;rw[De]at hi;exact⟨hi.1,fun p p1 p2=>(vF x hx).2 p zAA zAA⟩
theorem tb{m:Ze}(h:Y7 m=true):Xg [m]=[m]:=by
  simp[Xg,z8,Qc,TI,nth,h]
theorem Ar(x y:Ze):Vw [x] [y]=Xg (bif(X5 x y).2 then[(X5 x y).1]else[]):=by
  unfold Vw;simp only[Ww,j9,nth];cases h:(X5 x y).2<;>simp[h,Ww,j9]
theorem vq(x y:Ze):(X5 x y).2=true↔Y7 x=true/\Y7 y=true/\(X5 x y).2=true/\Y7 (X5 x y).1=true/\∀p,((X5 x y).1.XH<=p↔x.XH<=p/\y.XH<=p)/\(p<=(X5 x y).1.To↔p<=x.To/\p<=y.To):=by
  refine⟨?_,fun h=>h.2.2.1⟩;unfold X5;grind
theorem IH{l:List Zp}{s:Ze}:qj c l s=true↔Y7 s=true/\Y7 (JI c)=true/\(0<=Ji l c.Za/\Ji l c.Za<=10000)/\c.XH<=s.XH/\s.To<=c.To/\s.To<=Ji l c.Za:=by
  unfold qj qR;rw[Ar];generalize Ji l c.Za=g;constructor
  · intro h;obtain⟨h1,h2⟩:=vc h;have hs:=(zi s).1 h1
    have k1:=Ty (h2 s.XH zAA zAA);have k2:=Ty (h2 s.To zAA zAA);cases hm:(X5 (JI c) (Ze.mk 0 g)).2 with
    |false=>
      rw[hm,XE]at k1;obtain⟨y,hy,_⟩:=k1;cases hy
    |true=>
      rw[hm,XA]at k1 k2;obtain⟨m1,m2,_,m4,m5⟩:=(vq _ _).1 hm;obtain⟨y,hy,_,y1,y2⟩:=k1;obtain⟨z,hz,_,z1,z2⟩:=k2;rw[List.mem_singleton.1 hy]at y1 y2;rw[List.mem_singleton.1 hz]at z1 z2;have y1:=(m5 s.XH).1.1 y1
      have z2:=(m5 s.To).2.1 z2;have m2:=(zi _).1 m2;exact⟨h1,m1,⟨m2.2.1,m2.2.2⟩,y1.1,z2.1,z2.2⟩
  · rintro⟨h1,h2,h3,h4,h5,h6⟩;have hs:=(zi s).1 h1
    have hc:=(zi _).1 h2;have hm:(X5 (JI c) (Ze.mk 0 g)).2=true:=by
      unfold X5;rw[h2,(zi (Ze.mk 0 g)).2 ⟨Int.le_refl _,h3.1,h3.2⟩,(zi _).2 (by
        dsimp only;have e1:(JI c).XH=c.XH:=rfl
        have e2:(JI c).To=c.To:=rfl;rw[e1,e2]at hc⊢;split<;>split<;>omega)]
      rfl
    obtain⟨m1,m2,_,m4,m5⟩:=(vq _ _).1 hm;rw[hm,XA,tb m4,sL];rw[tb m4];exact⟨_,List.mem_singleton.2 rfl,(De _ _).2 ⟨h1,m4,(m5 _).1.2 ⟨h4,hs.1⟩,(m5 _).2.2 ⟨h5,h6⟩⟩⟩
theorem IB{a p:Int}(h:hsC (Zu a b l) p):hsC l p\/(a<=p/\p<=b):=by
  revert h;unfold Zu;refine Z1 (p:=fun z:List Ze=>hsC z p->hsC l p\/(a<=p/\p<=b)) (fun hc h=>?_) (fun _ h=>.inl h);obtain⟨y,hy,h1,h2,h3⟩:=h;rcases List.mem_append.1 hy with hy|hy
  · exact .inl ⟨y,hy,h1,h2,h3⟩
  · right;rw[List.mem_singleton.1 hy]at h2 h3;revert hc h2 h3;unfold zT;grind
theorem Ci{l:List Zp}{s:Ze}(h1:Y7 (JI c)=true)(h2:c.XH<=s.XH)(h3:s.To<=c.To)(h4:s.To<Qb l c.Za):V8 c l s=false:=by
  rw[Bool.eq_false_iff];intro h;obtain⟨k1,k2⟩:=vc h;rw[zi]at k1;have hc:=(zi _).1 h1
  have e1:(JI c).XH=c.XH:=rfl;have e2:(JI c).To=c.To:=rfl;rw[e1,e2]at hc;have k3:=k2 s.To zAA zAA;have no:¬hsC [] s.To:=fun⟨y,hy,_⟩=>by cases hy
  revert k3;unfold jj;rw[show W (c.XH-1)=c.XH-1 by simp only[Y0];omega,show W (c.To+1)=c.To+1 by simp only[Y0];omega];refine Zk (p:=fun z:List Ze=>hsC z s.To->False) (Zk (p:=fun z:List Ze=>hsC z s.To->False) (fun h=>?_) (fun h=>?_)) (Zk (p:=fun z:List Ze=>hsC z s.To->False) (fun h=>?_) (fun h=>?_))
  · rcases IB (Ty h)with h|h
    · rcases IB h with h|h
      · rcases IB h with h|h
        · exact no h
        · omega
      · omega
    · omega
  · rcases IB (Ty h)with h|h
    · rcases IB h with h|h
      · exact no h
      · omega
    · omega
  · rcases IB (Ty h)with h|h
    · rcases IB h with h|h
      · exact no h
      · omega
    · omega
  · rcases IB (Ty h)with h|h
    · exact no h
    · omega
/- answers -/
structure HsE(n:Int)(m:List Zp)(le mo go:Int):Prop where
  a:(le=-1/\mo=-1/\∀s∈m,s.Za=n->s.Zw<0)\/(0<=le/\le<=mo/\(∃s∈m,s.Za=n/\s.Zw=le)/\∀s∈m,s.Za=n->0<=s.Zw->le<=s.Zw)
  b:∀s∈m,s.Za=n->s.Zw<0->s.xw<=go
  c:go=-1\/∃s∈m,s.Za=n/\s.Zw<0/\s.xw=go
theorem SD{n:Int}{l:List Zp}:∀(k:Nat)(le mo go:Int)(v:Nat),l.length<k+v->v<=l.length->HsE n (l.take v) le mo go->HsE n l (jP l n k le mo go v).1 (jP l n k le mo go v).2.1 (jP l n k le mo go v).2.2
  |0,le,mo,go,v,hk,hv,_=>zAA
  |k+1,le,mo,go,v,hk,hv,h=>by
    rw[jP]
    by_cases iQ:v<l.length
    · rw[decide_eq_true (show(v:Int)<(l.length:Int)by omega),XA]
      have e:l.take (v+1)=l.take v++[nth l v]:=by rw[List.take_succ_eq_append_getElem iQ,XQ iQ]
      generalize nth l v=s at e
      have hm:∀x,x∈l.take (v+1)↔x∈l.take v\/x=s:=fun x=>by rw[e,List.mem_append,List.mem_singleton]
      refine Z1 (p:=fun z:Int×Int×Int=>HsE n l z.1 z.2.1 z.2.2) (fun hc=>?_) (fun hc=>?_)
      · have hc:s.Za≠n:=zBH
        refine SD k le mo go (v+1) zAA iQ ⟨?_,fun x hx hn=>?_,?_⟩
        · rcases h.a with⟨a1,a2,a3⟩|⟨a1,a2,⟨y,y1,y2⟩,a4⟩
          · grind
          · grind
        · rcases(hm x).1 hx with hx|rfl
          · exact h.b x hx hn
          · exact absurd hn hc
        · rcases h.c with h1|⟨y,y1,y2⟩
          · exact .inl h1
          · exact .inr ⟨y,(hm y).2 (.inl y1),y2⟩
      · have hc:s.Za=n:=zBH
        refine Z1 (p:=fun z:Int×Int×Int=>HsE n l z.1 z.2.1 z.2.2) (fun hd=>?_) (fun hd=>?_)
        · have hd:=of_decide_eq_true hd
          refine SD k le mo _ (v+1) zAA iQ ⟨?_,fun x hx hn he=>?_,?_⟩
          · rcases h.a with⟨a1,a2,a3⟩|⟨a1,a2,⟨y,y1,y2⟩,a4⟩
            · grind
            · grind
          · rcases(hm x).1 hx with hx|rfl
            · have:=h.b x hx hn he
              split<;>omega
            · split<;>omega
          · split
            · exact .inr ⟨s,(hm s).2 (.inr rfl),hc,hd,rfl⟩
            · rcases h.c with h1|⟨y,y1,y2⟩
              · exact .inl h1
              · exact .inr ⟨y,(hm y).2 (.inl y1),y2⟩
        · have hd:=of_decide_eq_false hd
          have hb:∀x∈l.take (v+1),x.Za=n->x.Zw<0->x.xw<=go:=fun x hx hn he=>by
            rcases(hm x).1 hx with hx|rfl
            · exact h.b x hx hn he
            · omega
          have hcc:go=-1\/∃y∈l.take (v+1),y.Za=n/\y.Zw<0/\y.xw=go:=by
            rcases h.c with h1|⟨y,y1,y2⟩
            · exact .inl h1
            · exact .inr ⟨y,(hm y).2 (.inl y1),y2⟩
          refine Z1 (p:=fun z:Int×Int×Int=>HsE n l z.1 z.2.1 z.2.2) (fun hf=>?_) (fun hf=>?_)
          · refine SD k _ _ go (v+1) zAA iQ ⟨.inr ⟨zAA,by split<;>omega,⟨s,(hm s).2 (.inr rfl),hc,rfl⟩,fun x hx hn h0=>?_⟩,hb,hcc⟩
            simp only[Bool.or_eq_true,decide_eq_true_eq]at hf
            rcases(hm x).1 hx with hx|rfl
            · rcases h.a with⟨a1,a2,a3⟩|⟨a1,a2,_,a4⟩
              · have:=a3 x hx hn;omega
              · have:=a4 x hx hn h0;omega
            · exact Int.le_refl _
          · simp only[Bool.or_eq_false_iff,decide_eq_false_iff_not]at hf
            refine SD k _ _ go (v+1) zAA iQ ⟨.inr ?_,hb,hcc⟩
            rcases h.a with⟨a1,a2,a3⟩|⟨a1,a2,⟨y,y1,y2⟩,a4⟩
            · omega
            · grind
    · grind
theorem vI(l:List Zp)(n:Int):HsE n l (qP l n).1 (qP l n).2.1 (qP l n).2.2:=by
  have:=SD (n:=n) (l:=l) (l.length+1) (-1) (-1) (-1) 0 zAA (Nat.zero_le _) ⟨.inl ⟨rfl,rfl,fun s hs=>by cases hs⟩,fun s hs=>(by cases hs),.inl rfl⟩;exact this
def hsB(l:List Zp)(n B:Int):Prop:=(∀s∈l,s.Za=n->0<=s.Zw->B<=s.Zw-1)/\((∃s∈l,s.Za=n/\0<=s.Zw)\/∃s∈l,s.Za=n/\s.Zw<0/\B<=s.xw)
theorem py{l:List Zp}(hr:∀s∈l,s.Zw<=10001)(h0:0<=B)(h:B<=Ji l n):hsB l n B:=by
  have e:=vI l n;revert h;unfold Ji;generalize qP l n=r at e;obtain⟨le,mo,go⟩:=r;dsimp only at e⊢;refine Z1 (p:=fun z:Int=>B<=z->hsB l n B) (fun hc h=>?_) (fun hc h=>?_)
  · have hc:=of_decide_eq_true hc;rcases e.a with⟨a1,_⟩|⟨a1,a2,⟨y,y1,y2,y3⟩,a4⟩
    · omega
    · have:=hr y y1;rw[show W (le-1)=le-1 by simp only[Y0];omega]at h;exact⟨fun s hs hn h2=>(by have:=a4 s hs hn h2;omega),.inl ⟨y,y1,y2,zAA⟩⟩
  · have hc:=of_decide_eq_false hc;rcases e.a with⟨a1,a2,a3⟩|⟨a1,_⟩
    · refine⟨fun s hs hn h2=>(by have:=a3 s hs hn;omega),.inr ?_⟩;rcases e.c with h1|⟨y,y1,y2,y3,y4⟩
      · omega
      · exact⟨y,y1,y2,y3,zAA⟩
    · omega
theorem sD{l:List Zp}(hr:∀s∈l,s.Zw<=10001/\s.xw<=10000)(h0:0<=B)(h1:B<=10000)(h:hsB l n B):B<=Ji l n/\Ji l n<=10000/\B<Qb l n:=by
  have e:=vI l n;unfold Ji Qb;generalize qP l n=r at e;obtain⟨le,mo,go⟩:=r;dsimp only at e⊢;have hgo:go<=10000:=by
    rcases e.c with h1|⟨y,y1,y2,y3,y4⟩
    · omega
    · have:=hr y y1;omega
  rcases e.a with⟨a1,a2,a3⟩|⟨a1,a2,⟨y,y1,y2,y3⟩,a4⟩
  · rw[decide_eq_false (show ¬le>=0 by omega),XE,decide_eq_true (show mo<0 by omega),XA];rcases h.2 with⟨s,hs,hn,h2⟩|⟨s,hs,hn,h2,h3⟩
    · have:=a3 s hs hn;omega
    · have:=e.b s hs hn h2;omega
  · have k1:=hr y y1;have k2:=h.1 y y1 y2 zAA;rw[decide_eq_true (show le>=0 by omega),XA,decide_eq_false (show ¬mo<0 by omega),XE,show W (le-1)=le-1 by simp only[Y0];omega];refine⟨zAA,zAA,?_⟩;split<;>omega
/- pieces that can be used -/
theorem GK{f:ZO}{x:ZN}{D:List (List Int)}(hs:Xi x.ZG=true):∀(n:Nat)(acc:List ZT)(v:Nat),x.ZG.ZI.length<n+v->v<=x.ZG.ZI.length->acc.Perm ((x.ZG.ZI.take v).filter (fun p=>QT f.Zt p&&decide (Zz f (ZU x) D p<YJ f p.Key)))->(QX f (ZU x) D 0 n acc v).Perm (x.ZG.ZI.filter (fun p=>QT f.Zt p&&decide (Zz f (ZU x) D p<YJ f p.Key)))
  |0,acc,v,hn,hv,_=>zAA
  |n+1,acc,v,hn,hv,h=>by
    rw[QX]
    have hE:nth (ZU x).Z8 0=x.ZG:=rfl
    rw[hE]
    by_cases iQ:v<x.ZG.ZI.length
    · rw[decide_eq_true (show(v:Int)<(x.ZG.ZI.length:Int)by omega),XA]
      have e:x.ZG.ZI.take (v+1)=x.ZG.ZI.take v++[nth x.ZG.ZI v]:=by rw[List.take_succ_eq_append_getElem iQ,XQ iQ]
      have hd:=(kH hs).2.2.1 v iQ
      generalize yr (ZU x) 0 acc v (acc.length+1) 0=z
      generalize nth x.ZG.ZI v=p at e hd
      have dm:KE acc p=false:=by
        rw[Bool.eq_false_iff]
        intro hc
        have h1:=h.mem_iff.1 (wo.1 hc)
        rw[wo.2 (List.mem_filter.1 h1).1]at hd
        cases hd
      rw[dm,Bool.false_or]
      refine Z1 (p:=fun r:List ZT=>r.Perm (x.ZG.ZI.filter (fun p=>QT f.Zt p&&decide (Zz f (ZU x) D p<YJ f p.Key)))) (fun hc=>?_) (fun hc=>?_)
      · refine GK hs n acc (v+1) zAA iQ ?_
        grind
      · refine GK hs n _ (v+1) zAA iQ ?_
        have hp:(QT f.Zt p&&decide (Zz f (ZU x) D p<YJ f p.Key))=true:=by
          grind
        rw[e,List.filter_append,List.filter_cons,hp,if_pos rfl,List.filter_nil,List.take_of_length_le (show(acc.drop z).length<=acc.length-z by rw[List.length_drop];exact Nat.le_refl _),List.append_assoc]
        refine List.Perm.trans (show(acc.take z++p::acc.drop z).Perm _ from List.perm_middle) ?_
        rw[List.take_append_drop]
        grind
    · grind
theorem rJ{D:List (List Int)}(hs:Xi x.ZG=true):(Zq f (ZU x) D).Perm (x.ZG.ZI.filter (fun p=>QT f.Zt p&&decide (Zz f (ZU x) D p<YJ f p.Key))):=by
  rw[v7];exact GK hs _ [] 0 zAA (Nat.zero_le _) (List.Perm.refl _)
/- certificates, answers, mandates among them -/
def Pz(f:ZO)(x:Zl)(p:ZT):Bool:=(((YD p).2&&xD f.Zt (YD p).1)&&((YD p).1.Za==x.Za))&&((YD p).1.Key==x.Key)
def mi(c:Int×YN):Int×Int×Int×Int×Int×Int×Int×Int:=(c.1,c.2.Za,c.2.Key,c.2.jE,c.2.XH,c.2.To,c.2.Z4,c.2.Mark)
theorem LR(f:ZO)(u:List ZT)(x:Zl):∀(n v:Nat)(c:Int×YN),u.length<n+v->v<=u.length->j6 f u x n c.1 v c.2.Za c.2.Key c.2.jE c.2.XH c.2.To c.2.Z4 c.2.Mark=mi (((u.drop v).filter (Pz f x)).foldl (fun c p=>(W (c.1+1),(YD p).1)) c)
  |0,v,c,h,hv=>zAA
  |n+1,v,c,h,hv=>by
    rw[j6]
    by_cases iQ:v<u.length
    · rw[decide_eq_true (show(v:Int)<(u.length:Int)by omega),XA,List.drop_eq_getElem_cons iQ,List.filter_cons,<-XQ iQ]
      cases hc:Pz f x (nth u v)with
      |true=>
        rw[show((((YD (nth u v)).2&&xD f.Zt (YD (nth u v)).1)&&((YD (nth u v)).1.Za==x.Za))&&((YD (nth u v)).1.Key==x.Key))=true from hc,XA,if_pos rfl,List.foldl_cons]
        exact LR f u x n (v+1) (W (c.1+1),(YD (nth u v)).1) zAA iQ
      |false=>
        rw[show((((YD (nth u v)).2&&xD f.Zt (YD (nth u v)).1)&&((YD (nth u v)).1.Za==x.Za))&&((YD (nth u v)).1.Key==x.Key))=false from hc,XE,if_neg zAD]
        exact LR f u x n (v+1) c zAA iQ
    · rw[decide_eq_false (show ¬(v:Int)<(u.length:Int)by omega),XE,List.drop_eq_nil_of_le zAA]
      rfl
theorem vR(f:ZO)(u:List ZT)(x:Zl):Qm f u x=(bif(((u.filter (Pz f x)).foldl (fun c p=>(W (c.1+1),(YD p).1)) ((0,YN.mk 0 0 0 0 0 0 0):Int×YN)).1 !=1)then(YN.mk 0 0 0 0 0 0 0,false)else(((u.filter (Pz f x)).foldl (fun c p=>(W (c.1+1),(YD p).1)) ((0,YN.mk 0 0 0 0 0 0 0):Int×YN)).2,true)):=by
  have h:=LR f u x (u.length+1) 0 (0,YN.mk 0 0 0 0 0 0 0) zAA (Nat.zero_le _);rw[List.drop_zero]at h;unfold Qm;dsimp only at h;rw[h];rfl
theorem vL:∀(l:List ZT)(c:Int×YN),0<=c.1->c.1+l.length<=1000->(l.foldl (fun c p=>(W (c.1+1),(YD p).1)) c).1=c.1+l.length
  |[],c,_,_=>zAE
  |p::l,c,h0,h1=>by
    rw[List.length_cons]at h1
    rw[List.foldl_cons,vL l _ zA5 zA5,List.length_cons]
    simp only[Y0];omega
theorem tR{x:Zl}(hl:u.length<=1000)(h:(Qm f u x).2=true):∃p,u.filter (Pz f x)=[p]:=by
  have bH:=List.length_filter_le (Pz f x) u;rw[vR]at h;generalize u.filter (Pz f x)=m at h bH;have hf:=vL m (0,YN.mk 0 0 0 0 0 0 0) (Int.le_refl _) (by dsimp only;omega);rw[hf]at h;match m with
  |[]=>simp at h
  |[p]=>exact⟨p,rfl⟩
  |p::q::m=>
    grind
theorem BP{x:Zl}(h:u.filter (Pz f x)=[p]):Qm f u x=((YD p).1,true):=by
  rw[vR,h];rfl
theorem LA(u:List ZT)(c:YN):∀(n:Nat)(l:List Zp)(v:Nat),u.length<n+v->v<=u.length->J8 u c n l v=l++((u.drop v).filter (fun p=>((XB p).2&&((XB p).1.Za==c.Za))&&((XB p).1.Z4==c.Z4))).map (fun p=>(XB p).1)
  |0,l,v,h,hv=>zAA
  |n+1,l,v,h,hv=>by
    rw[J8]
    by_cases iQ:v<u.length
    · rw[decide_eq_true (show(v:Int)<(u.length:Int)by omega),XA,List.drop_eq_getElem_cons iQ,List.filter_cons,XQ iQ]
      cases hc:(((XB u[v]).2&&((XB u[v]).1.Za==c.Za))&&((XB u[v]).1.Z4==c.Z4))with
      |true=>rw[XA,LA u c n _ (v+1) zAA iQ,if_pos rfl,List.map_cons,List.append_assoc];rfl
      |false=>rw[XE,LA u c n _ (v+1) zAA iQ,if_neg zAD]
    · grind
theorem Hf{s:Zp}:s∈QB u c↔∃p∈u,XB p=(s,true)/\s.Za=c.Za/\s.Z4=c.Z4:=by
  have h:=LA u c (u.length+1) [] 0 zAA (Nat.zero_le _);rw[List.drop_zero,List.nil_append]at h;show s∈J8 u c (u.length+1) [] 0↔_
  grind
theorem vp(h:∀p∈u,(Jp p).2=false):K1 u=[]:=by
  have key:∀n v,zU u n [] v=[]:=by
    intro n;induction n with
    |zero=>intro v;rfl
    |succ n ih=>
      intro v;rw[zU];refine Z1 (p:=fun z:List Xd=>z=[]) (fun hc=>?_) (fun _=>rfl);have hc:=of_decide_eq_true hc
      rw[h (nth u v) (by rw[XQ zAA];exact List.getElem_mem _),XE];exact ih _
  exact key _ _
theorem oL(s:Zl):Yp (Yf s)=104:=by rfl
theorem oW(c:YN):Yp (JJ c)=101:=by rfl
theorem tV(s:Zp):Yp (Yq s)=102:=by rfl
theorem AX(s:Zp):XB (Yq s)=(s,true):=by
  unfold XB;rw[tV,show(nth (Yq s).YM 4 !=(Yq s).Key)=false by show(s.Z4 !=s.Z4)=false;simp];rfl
theorem jd{c:Bool}{x y:QF}(h:x.Code≠1):(bif c then x else y).Code=1↔c=false/\y.Code=1:=by
  grind
theorem kd(n:Int):(SP n).Code≠1/\(Vu n).Code≠1:=⟨(by show(3:Int)≠1;decide),(by show(2:Int)≠1;decide)⟩
/- when a verdict is 'valid' -/
structure HsJ(f:ZO)(x:ZN)(B r:Int)(u:List ZT)(c:YN):Prop where
  a1:yY f=true
  a2:K9 x.Sig=true
  a3:0<=Yb x.Sig.Method x.Doc
  a4:Yb x.Sig.Method x.Doc=x.Sig.QL
  a5:0<=Z6 f.Zt x.Sig.Key
  a6:qt f.Zt x.Sig=true
  a7:B<YJ f x.Sig.Key
  a8:B<zL f.Methods x.Sig.Method
  a9:Qm f u x.Sig=(c,true)
  b1:r<=B
  b2:V8 c (QB u c) (Ze.mk r B)=false
  b3:qj c (QB u c) (Ze.mk r B)=true
  b4:VW f.Zt (K1 u) x.Sig.Org c.jE (Ze.mk r B)=true
theorem C9(f:ZO)(x:ZN):(yD f x).Code=1↔∃c,HsJ f x (Zz f (ZU x) (Z3 (ZU x) x.Doc) (Yf x.Sig)) (Xv f (ZU x) (Zq f (ZU x) (Z3 (ZU x) x.Doc)) x.Sig) (Zq f (ZU x) (Z3 (ZU x) x.Doc)) c:=by
  unfold yD Nn qG;generalize Zz f (ZU x) (Z3 (ZU x) x.Doc) (Yf x.Sig)=B;generalize Zq f (ZU x) (Z3 (ZU x) x.Doc)=u;generalize Xv f (ZU x) u x.Sig=r;rw[jd (kd _).1,jd (kd _).2,jd (kd _).1,jd (kd _).2,jd (kd _).1,jd (kd _).2,jd (kd _).1,jd (kd _).1,jd (kd _).1,jd (show(2:Int)≠1 by decide),jd (show(3:Int)≠1 by decide),jd (show(3:Int)≠1 by decide)];simp only[Bool.not_eq_false',decide_eq_false_iff_not,bne_eq_false_iff_eq,Bool.or_eq_false_iff,and_true];constructor
  · rintro⟨h1,h2,h3,h4,h5,h6,⟨h7,h8⟩,h9,k1,k2,k3,k4⟩;exact⟨_,h1,h2,zAA,h4,zAA,h6,zAA,zAA,Prod.ext rfl h9,zAA,k2,k3,k4⟩
  · rintro⟨c,h⟩;have e:=h.a9
    have h3:=h.a3;have h5:=h.a5;have h7:=h.a7;have h8:=h.a8;have k1:=h.b1;rw[e];exact⟨h.a1,h.a2,zAA,h.a4,zAA,h.a6,⟨zAA,zAA⟩,rfl,zAA,h.b2,h.b3,h.b4⟩
/- settled items -/
structure HsQ(f:ZO)(s:ZW)(gu:List Int):Prop where
  p:0<s.ZM.length
  z:Je f s gu=0
  c:(nth s.ZM (s.ZM.length-1)).Count=s.ZI.length
  t:∀k,k<s.ZM.length->(Yn f.ZC (nth s.ZM k) f.XJ).1.To<=f.Now
theorem wi(h:Vv f s gu=true):HsQ f s gu:=by
  unfold Vv at h;cases hc:((!(K4 f s gu))||((nth s.ZM (s.ZM.length-1)).Count !=(s.ZI.length:Int)))with
  |true=>rw[hc,XA]at h;cases h
  |false=>
    rw[hc,XE]at h;have k:=((Jj (L:=TH f s) (len:=s.ZM.length) (c:=fun v=>(!(Yn f.ZC (nth s.ZM v) f.XJ).2)||(decide ((Yn f.ZC (nth s.ZM v) f.XJ).1.To>f.Now))) (fun _=>rfl) (fun _ _=>rfl) (s.ZM.length+1) 0 zAA true).1 h).1
    simp only[Bool.or_eq_false_iff,Bool.not_eq_false',bne_eq_false_iff_eq,decide_eq_false_iff_not]at hc k;have hu:=hc.1
    unfold K4 at hu;simp only[Bool.and_eq_true,decide_eq_true_eq,beq_iff_eq]at hu;exact⟨zAA,hu.2,hc.2,fun k1 hk=>by have:=(k k1 (Nat.zero_le _) hk).2;omega⟩
theorem oF{a b:ZF}{P:Nat->Int}(hI:HsI b y P T)(hX:HsX a.Frame.Now x y T)(hn:a.Frame.Now<=b.Frame.Now)(ca:b.Frame.ZC=a.Frame.ZC)(cl:b.Frame.XJ=a.Frame.XJ)(sx:Xi x.ZG=true)(sy:Xi y.ZG=true){dx dy:List Int}(hq:HsQ a.Frame x.ZG dx)(hu:Je b.Frame y.ZG dy=0)(hi:i<x.ZG.ZI.length):zj b.Frame y.ZG dy i=zj a.Frame x.ZG dx i:=by
  have lx:=(kH sx).2.1;have ly:=(kH sy).2.1;have hlen:x.ZG.ZM.length<=y.ZG.ZM.length:=hX.c.length_le;have aE:∀k,k<x.ZG.ZM.length->nth y.ZG.ZM k=nth x.ZG.ZM k:=fun k hk=>by
    obtain⟨c,hc⟩:=hX.c;rw[<-hc,yU,if_pos hk]
  have hp:=hq.p;obtain⟨a1,a2,a3⟩:=MH (f:=a.Frame) (s:=x.ZG) (gu:=dx) (i:=(i:Int)) zAA (k0:=0) hq.z (Nat.zero_le _);obtain⟨b1,b2,b3⟩:=MH (f:=b.Frame) (s:=y.ZG) (gu:=dy) (i:=(i:Int)) zAA (k0:=0) hu (Nat.zero_le _);obtain⟨k0,k1,k2,k3⟩:=Gq b.Frame dy (s:=y.ZG) zAA;rw[hu]at k1;have hk0:k0=0:=zAA;subst hk0;have hto:=fun j (hj:j<y.ZG.ZM.length)=>rN hI.t zAA k3 (y.ZG.ZM.length-1-j) j zAA (Nat.zero_le _);have hc:=hq.c;rw[ca,cl]at b2 b3 hto;apply Int.le_antisymm
  · rcases a3 with h|⟨j,_,j2,j3,j4⟩
    · have h1:=b2 (x.ZG.ZM.length-1) (Nat.zero_le _) zAA (by rw[aE _ zAA,hc];omega);rw[aE _ zAA]at h1;have h2:=hq.t (x.ZG.ZM.length-1) zAA;omega
    · grind
  · rcases b3 with h|⟨j,_,j2,j3,j4⟩
    · omega
    · by_cases hj:j<x.ZG.ZM.length
      · grind
      · have h1:=hX.t j zAA j2;have h2:=hto j j2;omega
theorem Ef{α:Type}[Inhabited α]{l m:List α}(h:l <+: m)(hi:i<l.length):nth m i=nth l i:=by
  obtain⟨c,hc⟩:=h;rw[<-hc,yU,if_pos hi]
theorem rQ{a b:ZF}{P:Nat->Int}(ha:PlI ba a)(hb:PlI bb b)(hn:a.Frame.Now<=b.Frame.Now)(cl:b.Frame.XJ=a.Frame.XJ)(hI:HsI b y P T)(hX:HsX a.Frame.Now x y T)(ix:JS x=true)(iy:JS y=true)(px:nth x.ZG.ZI 0=Yf x.Sig)(p2:2<=x.ZG.ZI.length)
    (hq:HsQ a.Frame x.ZG (XU x.ZG x.Doc)) (hu:Je b.Frame y.ZG (XU y.ZG y.Doc)=0) (hv:(yD a.Frame x).Code=1):(yD b.Frame y).Code=1:=by
  have sx:=U3 ix
  have sy:=U3 iy
  obtain⟨ca1,ca2,ca3,_⟩:=PE ha
  obtain⟨cb1,cb2,cb3,_⟩:=PE hb
  have hK:b.Frame.Zt=a.Frame.Zt:=cb1.trans ca1.symm
  have hA:b.Frame.ZC=a.Frame.ZC:=cb2.trans ca2.symm
  have hM:b.Frame.Methods=a.Frame.Methods:=cb3.trans ca3.symm
  have hbk:∀k,YJ b.Frame k=YJ a.Frame k:=fun k=>by unfold YJ;rw[hK,hM]
  have cG:x.ZG.ZI.length<=y.ZG.ZI.length:=hX.p.length_le
  have aE:∀i,i<x.ZG.ZI.length->nth y.ZG.ZI i=nth x.ZG.ZI i:=fun i hi=>Ef hX.p hi
  have hbd:∀i,i<x.ZG.ZI.length->Zz b.Frame (ZU y) (Z3 (ZU y) y.Doc) (nth x.ZG.ZI i)=Zz a.Frame (ZU x) (Z3 (ZU x) x.Doc) (nth x.ZG.ZI i):=fun i hi=>by
    rw[tS sx hi,<-oF hI hX hn hA cl sx sy hq hu hi,<-tS sy zAA,aE i hi]
  obtain⟨c,h⟩:=(C9 _ _).1 hv
  have hB:=hbd 0 zAA
  rw[px]at hB
  have cp:(Zq b.Frame (ZU y) (Z3 (ZU y) y.Doc)).Perm (y.ZG.ZI.filter (fun p=>QT b.Frame.Zt p&&decide (Zz b.Frame (ZU y) (Z3 (ZU y) y.Doc) p<YJ b.Frame p.Key))):=rJ sy
  have dV:(Zq a.Frame (ZU x) (Z3 (ZU x) x.Doc)).Perm (x.ZG.ZI.filter (fun p=>QT a.Frame.Zt p&&decide (Zz a.Frame (ZU x) (Z3 (ZU x) x.Doc) p<YJ a.Frame p.Key))):=rJ sx
  have hold:∀p∈x.ZG.ZI,(QT b.Frame.Zt p&&decide (Zz b.Frame (ZU y) (Z3 (ZU y) y.Doc) p<YJ b.Frame p.Key))=(QT a.Frame.Zt p&&decide (Zz a.Frame (ZU x) (Z3 (ZU x) x.Doc) p<YJ a.Frame p.Key)):=fun p hp=>by
    obtain⟨i,hi,rfl⟩:=List.mem_iff_getElem.1 hp
    have:=hbd i hi
    rw[XQ hi]at this
    rw[this,hK,hbk]
  have hkind:∀p∈y.ZG.ZI,(Jp p).2=false:=fun p hp=>by
    obtain⟨i,hi,rfl⟩:=List.mem_iff_getElem.1 hp
    rw[<-XQ hi]
    have hk:Yp (nth y.ZG.ZI i)≠105:=by
      by_cases h0:i=0
      · rw[h0,hI.p0,oL];decide
      · by_cases h1:i=1
        · obtain⟨c,hc⟩:=hI.p1
          rw[h1,hc,oW];decide
        · obtain⟨st,e,_⟩:=hI.st i zAA hi
          rw[e,tV];decide
    unfold Jp
    grind
  have gG:∀v u,Xv b.Frame (ZU y) v x.Sig=Xv a.Frame (ZU x) u x.Sig:=fun v u=>by rw[AT,AT,hK]
  have hul:(Zq a.Frame (ZU x) (Z3 (ZU x) x.Doc)).length<=1000:=by
    rw[dV.length_eq]
    have:=(kH sx).1
    exact Nat.le_trans (List.length_filter_le _ _) zAA
  have hvm:∀p,p∈Zq b.Frame (ZU y) (Z3 (ZU y) y.Doc)->p∈y.ZG.ZI/\Zz b.Frame (ZU y) (Z3 (ZU y) y.Doc) p<YJ b.Frame p.Key:=fun p hp=>by
    grind
  have huv:∀p,p∈Zq a.Frame (ZU x) (Z3 (ZU x) x.Doc)->p∈Zq b.Frame (ZU y) (Z3 (ZU y) y.Doc):=fun p hp=>by
    have:=List.mem_filter.1 (dV.mem_iff.1 hp)
    exact cp.mem_iff.2 (List.mem_filter.2 ⟨hX.p.subset this.1,by rw[hold p this.1];exact this.2⟩)
  have hvu:∀p,p∈Zq b.Frame (ZU y) (Z3 (ZU y) y.Doc)->p∈Zq a.Frame (ZU x) (Z3 (ZU x) x.Doc)\/∃st,p=Yq st:=fun p hp=>by
    have h1:=List.mem_filter.1 (cp.mem_iff.1 hp)
    obtain⟨i,hi,rfl⟩:=List.mem_iff_getElem.1 h1.1
    by_cases hix:i<x.ZG.ZI.length
    · left
      have hm:y.ZG.ZI[i]∈x.ZG.ZI:=by
        rw[<-XQ hi,aE i hix,XQ hix];exact List.getElem_mem hix
      grind
    · right
      obtain⟨st,e,_⟩:=hI.st i zAA hi
      exact⟨st,by rw[<-XQ hi];exact e⟩
  have hfil:(Zq b.Frame (ZU y) (Z3 (ZU y) y.Doc)).Perm (Zq a.Frame (ZU x) (Z3 (ZU x) x.Doc)++(y.ZG.ZI.drop x.ZG.ZI.length).filter (fun p=>QT b.Frame.Zt p&&decide (Zz b.Frame (ZU y) (Z3 (ZU y) y.Doc) p<YJ b.Frame p.Key))):=by
    refine cp.trans ?_
    obtain⟨N,hN⟩:=hX.p
    have e:y.ZG.ZI.drop x.ZG.ZI.length=N:=by rw[<-hN,List.drop_left]
    rw[e]
    rw[show List.filter (fun p=>QT b.Frame.Zt p&&decide (Zz b.Frame (ZU y) (Z3 (ZU y) y.Doc) p<YJ b.Frame p.Key)) y.ZG.ZI=List.filter (fun p=>QT b.Frame.Zt p&&decide (Zz b.Frame (ZU y) (Z3 (ZU y) y.Doc) p<YJ b.Frame p.Key)) (x.ZG.ZI++N)by rw[hN],List.filter_append]
    refine List.Perm.append_right _ ?_
    rw[List.filter_congr hold]
    exact dV.symm
  have eu:∀p∈y.ZG.ZI.drop x.ZG.ZI.length,Pz b.Frame x.Sig p=false:=fun p hp=>by
    obtain⟨i,hi,rfl⟩:=List.mem_iff_getElem.1 hp
    rw[List.getElem_drop]
    rw[List.length_drop]at hi
    obtain⟨st,e,_⟩:=hI.st (x.ZG.ZI.length+i) zAA zAA
    rw[XQ zAA]at e
    rw[e]
    unfold Pz YD
    rw[tV]
    rfl
  have ag:=hX.s
  refine(C9 _ _).2 ⟨c,?_⟩
  rw[ag,hB]
  generalize Zq b.Frame (ZU y) (Z3 (ZU y) y.Doc)=v at cp hvm huv hvu hfil gG⊢
  generalize Zq a.Frame (ZU x) (Z3 (ZU x) x.Doc)=u at h dV hul huv hvu hfil gG
  rw[gG v u]
  generalize Zz a.Frame (ZU x) (Z3 (ZU x) x.Doc) (Yf x.Sig)=B at h hB⊢
  generalize Xv a.Frame (ZU x) u x.Sig=r at h gG⊢
  have hC:∀s p,p∈v->XB p=(s,true)->∃i,P i<YJ b.Frame s.Z4/\HsS b (Yq s) (P i):=fun s p hp e=>by
    obtain⟨h1,h2⟩:=hvm p hp
    obtain⟨i,hi,hpi⟩:=List.mem_iff_getElem.1 h1
    rw[<-XQ hi]at hpi
    have hk:Yp p=102:=by
      unfold XB at e
      grind
    have i2:2<=i:=by
      apply Classical.byContradiction
      intro iQ
      have:i=0\/i=1:=zAA
      rcases this with rfl|rfl
      · rw[<-hpi,hI.p0,oL]at hk;cases hk
      · obtain⟨c,hc⟩:=hI.p1
        rw[<-hpi,hc,oW]at hk;cases hk
    have h3:=hI.st i i2 hi
    have h4:=sI hI sy hi
    rw[hpi]at h3 h4
    obtain⟨st,e2,h5⟩:=h3
    rw[e2,AX]at e
    have e3:st=s:=congrArg (·.1) e
    subst e3
    refine⟨i,?_,st,rfl,h5⟩
    have e4:p.Key=st.Z4:=by rw[e2];rfl
    rw[e4]at h2
    omega
  obtain⟨q,hq1⟩:=tR hul (by rw[h.a9])
  have hcq:c=(YD q).1:=by
    have:=BP hq1
    rw[h.a9]at this
    exact congrArg (·.1) this
  have hq2:v.filter (Pz b.Frame x.Sig)=[q]:=by
    have e1:Pz b.Frame x.Sig=Pz a.Frame x.Sig:=by
      funext p;unfold Pz;rw[hK]
    have k:=hfil.filter (Pz b.Frame x.Sig)
    have e0:∀g:ZT->Bool,List.filter (Pz b.Frame x.Sig) (List.filter g (y.ZG.ZI.drop x.ZG.ZI.length))=[]:=fun g=>List.filter_eq_nil_iff.2 (fun p hp=>by rw[eu p (List.mem_filter.1 hp).1];simp)
    rw[List.filter_append,e0,List.append_nil,e1,hq1]at k
    rw[e1]
    exact List.perm_singleton.1 k
  have aw:=IH.1 h.b3
  obtain⟨e1,e2,e3,e4,e5,e6⟩:=aw
  have cH:=(zi _).1 e1
  dsimp only at cH e4 e5 e6
  have hP:∀s,s∈QB u c->s∈QB v c:=fun s hs=>by
    obtain⟨p,hp,k⟩:=Hf.1 hs
    exact Hf.2 ⟨p,huv p hp,k⟩
  have hrng:∀s∈QB v c,s.Zw<=10001/\s.xw<=10000:=fun s hs=>by
    obtain⟨p,hp,k,_⟩:=Hf.1 hs
    obtain⟨i,_,st,e,hr,_⟩:=hC s p hp k
    have:s=st:=by
      have:=congrArg (fun p=>(XB p).1) e
      rw[AX,AX]at this
      exact this
    rw[this];omega
  have ei:=py (fun s hs=>(hrng s (hP s hs)).1) zAA e6
  have hfact:∀s∈QB v c,∃t:Int,t<YJ b.Frame s.Z4/\s.Za=c.Za/\((s.xw=t/\((s.Zw=-1/\(nth b.Zw (c.Za-1).toNat=-1\/t+1<=nth b.Zw (c.Za-1).toNat))\/(0<=s.Zw/\s.Zw=nth b.Zw (c.Za-1).toNat)))\/(s.Zw=-1/\YJ b.Frame s.Z4<=t)):=fun s hs=>by
    obtain⟨p,hp,k,k2,_⟩:=Hf.1 hs
    obtain⟨i,hi,st,e,_,hc⟩:=hC s p hp k
    have:s=st:=by
      have:=congrArg (fun p=>(XB p).1) e
      rw[AX,AX]at this
      exact this
    subst this
    rw[k2]at hc
    exact⟨P i,hi,k2,hc⟩
  have hB2:hsB (QB v c) c.Za B:=by
    refine⟨fun s hs hn h0=>?_,?_⟩
    · obtain⟨t,t1,t2,t3⟩:=hfact s hs
      rcases ei.2 with⟨s0,z1,z2,z3⟩|⟨s0,z1,z2,z3,z4⟩
      · have z5:=ei.1 s0 z1 z2 z3
        grind
      · grind
    · rcases ei.2 with⟨s0,z1,z2⟩|⟨s0,z1,z2⟩
      · exact .inl ⟨s0,hP s0 z1,z2⟩
      · exact .inr ⟨s0,hP s0 z1,z2⟩
  obtain⟨g1,g2,g3⟩:=sD hrng zAA zAA hB2
  refine⟨hb.w.fr,by rw[ag];exact h.a2,by rw[ag,hX.d];exact h.a3,by rw[ag,hX.d];exact h.a4,by rw[ag,hK];exact h.a5,by rw[ag,hK];exact h.a6,by rw[ag,hbk];exact h.a7,by rw[ag,hM];exact h.a8,by rw[ag,hcq];exact BP hq2,h.b1,Ci e2 e4 e5 g3,IH.2 ⟨e1,e2,⟨zAA,g2⟩,e4,e5,g1⟩,?_⟩
  have m1:K1 v=[]:=vp (fun p hp=>hkind p (hvm p hp).1)
  have m2:K1 u=[]:=vp (fun p hp=>hkind p (hvm p (huv p hp)).1)
  have h4:=h.b4
  rw[m2]at h4
  rw[m1,ag,hK]
  exact h4
theorem o6{a b:ZF}(ha:PlI ba a)(hb:PlI bb b)(hz:HsW z a)(h:HsW a b)(hv:(Yr a id).Code=1)(hs:Vv a.Frame (nth (nth a.ZA (ZK a id).1.toNat).ZB (ZK a id).2.toNat).ZG (XU (nth (nth a.ZA (ZK a id).1.toNat).ZB (ZK a id).2.toNat).ZG (nth (nth a.ZA (ZK a id).1.toNat).ZB (ZK a id).2.toNat).Doc)=true)(hu:zM b id=true):(Yr b id).Code=1:=by
  have fa:0<=(ZK a id).1:=by
    apply Classical.byContradiction;intro hn;unfold Yr at hv;rw[decide_eq_true zAA,XA]at hv;cases hv
  have fb:0<=(ZK b id).1:=by
    apply Classical.byContradiction;intro hn;unfold zM at hu;rw[decide_eq_true zAA,XA]at hu;cases hu
  unfold Yr at hv⊢;unfold zM at hu;rw[decide_eq_false zAA,XE]at hv hu⊢;obtain⟨a1,a2,a3⟩:=Lb fa;obtain⟨b1,b2,b3⟩:=Lb fb;have mx:=Ov a1 a2
  have my:=Ov b1 b2;have ix:=V2 ha.w a1 a2;have iy:=V2 hb.w b1 b2;generalize nth (nth a.ZA (ZK a id).1.toNat).ZB (ZK a id).2.toNat=x at hv hs a3 mx ix;generalize nth (nth b.ZA (ZK b id).1.toNat).ZB (ZK b id).2.toNat=y at hu b3 my iy⊢;obtain⟨P,T,h1,h2⟩:=h.g y my;obtain⟨_,_,h3,_⟩:=hz.g x mx;unfold K4 at hu;rw[Bool.and_eq_true,beq_iff_eq]at hu;exact rQ ha hb h.nw h.li h1 (h2 x mx (a3.trans b3.symm)) ix iy h3.p0 h3.p2 (wi hs) hu.2 hv
theorem nv{a0:List UInt8}{z w:ZF}{bw bx:Int}{v:Nat}(h1:PlI bw w)(h2:PlI bx (YF w (nth (ZP a0).2 v)).1)(h3:HsW z w)(h4:HsW w (YF w (nth (ZP a0).2 v)).1):∀n k,SN a0 v w.Frame.Zt w.Frame.ZC w.Frame.Methods w.Frame.XJ w.Frame.Now w.Zd w.Zw w.ZA w.Y2 w.Yc w.Next w.YL n k= .inr ()
  |0,k=>rfl
  |n+1,k=>by
    rw[SN,nv h1 h2 h3 h4 n (k+1)]
    refine Z1 (p:=fun r:Sum Bool Unit=>r= .inr ()) (fun hc=>?_) (fun _=>rfl)
    refine Z1 (p:=fun r:Sum Bool Unit=>r= .inr ()) (fun hd=>?_) (fun _=>rfl)
    exfalso
    have hc:=of_decide_eq_true hc
    rw[Bool.and_eq_true,Bool.and_eq_true]at hd
    have hv:(Yr w (nth (Zn w) k)).Code=1:=By (w:=w) (id:=nth (Zn w) k) (by
      have hc:(k:Int)<((Zn w).length:Int):=hc
      rw[XQ zAA];exact List.getElem_mem _)
    have hf:(Yr (YF w (nth (ZP a0).2 v)).1 (nth (Zn w) k)).Code=1:=o6 h1 h2 h3 h4 hv hd.1.1 hd.1.2
    have hg:((Yr (YF w (nth (ZP a0).2 v)).1 (nth (Zn w) k)).Code !=1)=true:=hd.2
    rw[hf]at hg
    cases hg
theorem nr{a0:List UInt8}{z:ZF}(he:Sm 40 (ZP a0).2):∀(n v:Nat)(w:ZF),(ZP a0).2.length<n+v->v<=(ZP a0).2.length->PlI (40*(v:Int)) w->HsW z w->Sm (40+v) w->∃w',Tz a0 n v w.Frame.Zt w.Frame.ZC w.Frame.Methods w.Frame.XJ w.Frame.Now w.Zd w.Zw w.ZA w.Y2 w.Yc w.Next w.YL= .inr (plU w')
  |0,v,w,hn,hv,_,_,_=>zAA
  |n+1,v,w,hn,hv,h1,h2,h3=>by
    have hlen:=YQ he
    rw[Tz]
    by_cases iQ:v<(ZP a0).2.length
    · have hm:nth (ZP a0).2 v∈(ZP a0).2:=zBp
      have hs:=he.2 _ hm
      have hi:=YQ (Zx.wz hs)
      rw[decide_eq_true (show(v:Int)<((ZP a0).2.length:Int)by omega),XA]
      have k1:=rD (e:=nth (ZP a0).2 v) (n:=40) h1 zAA zAA
      have k2:=BE (e:=nth (ZP a0).2 v) h1 h2 zAA
      have k6:=BE (e:=nth (ZP a0).2 v) h1 (pP h1 h2) zAA
      have k3:=JY (n:=40+v) zAA h3 (ZQ zAA hs) zAA
      have k4:=sS k1 k2
      have k5:=I3 w (nth (ZP a0).2 v) (ZQ (by unfold maxLen;omega) h3)
      have k7:=fun m=>nv h1 k1 h2 k6 m 0
      obtain⟨w',g1⟩:=nr (z:=z) he n (v+1) (YF w (nth (ZP a0).2 v)).1 zAA iQ (by rw[show 40*((v+1:Nat):Int)=40*v+40 by omega];exact k1) k2 k3
      refine⟨w',Eq.trans ?_ g1⟩
      rw[k7]
      show(bif(!((YF w (nth (ZP a0).2 v)).2==(xT w (nth (ZP a0).2 v)).2))then _ else(bif(!decide (Vt (YF w (nth (ZP a0).2 v)).1=(⟨#[]⟩:ByteArray)))then _ else _))=_
      rw[k5,k4,BEq.rfl,Bool.not_true,XE,decide_eq_true rfl,Bool.not_true,XE]
    · rw[decide_eq_false (show ¬(v:Int)<((ZP a0).2.length:Int)by omega),XE]
      exact⟨w,rfl⟩
theorem Du(a0:List UInt8):Ni a0=true:=by
  have s1:=Z2 (n:=40) (a0:=a0) zAD;have d1:PlI 0 (ZP a0).1:=nE _;have d2:HsW (ZP a0).1 (ZP a0).1:=pd _;obtain⟨w,e1⟩:=nr s1.2 ((ZP a0).2.length+1) 0 (ZP a0).1 zAA (Nat.zero_le _) d1 d2 s1.1;unfold Ni;refine Zk (p:=(·=true)) rfl ?_;rw[e1]
end Go.Mo
