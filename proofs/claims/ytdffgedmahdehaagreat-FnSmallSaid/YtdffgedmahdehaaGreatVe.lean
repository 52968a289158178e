/- An abstract machine Uw the model of Go, by value, and that it is sound: part Ve. No condition. -/
import Derived.Test.YtdffgedmahdehaaGreatVd
set_option linter.unusedVariables false
set_option linter.unusedSimpArgs false
namespace Go.Vm
open Go.RowKit
open Go.RowKit
theorem fK{p:Prop}(h:p:=by(repeat' apply And.intro)<;>kernel_rfl):p:=h
theorem fL{p:Prop}(h:p:=by kernel_rfl):p:=h
variable{P:Program}{res rows args wM news wD:List (List D)}{σ σ':St}{f:FuncId}{d b size t j id n dj i u:Nat}{o:OpI}{A:QT}{l:Q9}{p q r1 r2:Prop}{h:Nat->Nat->Hd}{wN ds r:List D}{k:Fr}{B X' X S:Nat->Prop}{c cl:Call}{dp want g:Bool}{Q:Exit->Act->World->Prop}{T0 T:CS}{a:Act}{x0 x y:Operand}{w w':World}{v:Value}{hd:Hd}
def IH(σ:St):V->Option Nat
 |.one (.d (.sl _ rows))=>some rows.length
 |.one (.sref t j _ len)=>(match σ.ob t j with|.arr _ _ _=>some len|_=>none)
 |.fix _ (.one (.sref t j _ len))=>(match σ.ob t j with|.arr _ _ _=>some len|_=>none)
 |_=>none
def xx(σ:St):Prop:=∀t n,IH σ (σ.get t)=some n->n<=9223372036854775807
theorem IU:∀{v:V}{val:Value}{n:Nat},IH σ v=some n->Yu T h σ.ob w v val->n<=maxLen
 |.one (.d (.sl s rows)),val,n,hn,hv=>by simp only[IH]at hn;cases hn;obtain⟨base,cap,_,h1,h2⟩:=ND (r:=(show Rd T w val (.sl s rows)from hv));omega
 |.one (.sref u j lo len),val,n,hn,hv=>by
  simp only[IH]at hn;split at hn
  ·rename_i q s rows ho;cases hn;have hh:=(show Zf T h σ.ob w (.sref u j lo len) val from hv).2.1 _ _ _ ho
   obtain⟨_,_,_,base,cap,_,h1,h2,_⟩:=hh;omega
  ·cases hn
 |.fix u0 (.one (.sref u j lo len)),val,n,hn,hv=>by
  simp only[IH]at hn;split at hn
  ·rename_i q s rows ho;cases hn;have hh:=(show Zf T h σ.ob w (.sref u j lo len) val from hv.2).2.1 _ _ _ ho
   obtain⟨_,_,_,base,cap,_,h1,h2,_⟩:=hh;omega
  ·cases hn
theorem Pd(r:Xx T0 B σ a w):xx σ:=by obtain⟨X,h,r⟩:=r;intro t n hn;exact IU hn (r.get t)
theorem Rw{c:Code}{Q:Exit->St->Prop}(h:xx σ->AWP P c Q σ):AWP P c Q σ:=fun T0 B a w r=>h (Pd r) T0 B a w r
theorem GS{b:Bool}{x y:KA}(ht:xx σ->b=true->@WI P σ x k)(hf:xx σ->b=false->@WI P σ y k):@CI P b σ x y k:=
 ⟨fun h=>Rw fun hk=>xU (ht hk h),fun h=>Rw fun hk=>xU (hf hk h)⟩
theorem Sf{b c:Bool}{x y:KA}(hc:c=b)(ht:xx σ->c=true->@WI P σ x k)(hf:xx σ->c=false->@WI P σ y k):@CI P b σ x y k:=by subst hc;exact GS ht hf
theorem okL{c:KA}(h:xx σ->@jN P σ c k):@jN P σ c k:=Rw h
theorem okD(h:xx σ->@DI P id σ A k):@DI P id σ A k:=Rw h
def Rg:Op->Bool
 |.call _=>true
 |_=>false
theorem Ox(wA:Rg o.o.op=false)(hg:o.o.guard=some (j,want))(hd:o.o.dst=some d)
  (vk:(A.ops[j]?).bind (·.dst)=some dj) (vz:zE want (σ.get dj)=some g) (wO:dj<σ.length)
  (ht:g=true->((evV P σ o.o.op o.o.type).1/\gOf (evV P σ o.o.op o.o.type).2=true/\(unc (evV P σ o.o.op o.o.type).2).flat=true)/\@EI P (σ.put d (.cnd true (unc (evV P σ o.o.op o.o.type).2))) A l k)
  (hf:g=false->@EI P (σ.put d (.cnd false .any)) A l k):@SI P σ A o l k:=by
 have step:∀v,(g=true->(evV P σ o.o.op o.o.type).1/\gOf (evV P σ o.o.op o.o.type).2=true/\v=unc (evV P σ o.o.op o.o.type).2/\v.flat=true)->Z1 P A.ops o.o σ (σ.put d (.cnd g v)):=by
  intro v hv;unfold Z1;simp only[hg];refine⟨dj,d,g,v,vk,wO,hd,vz,fun rn=>?_,rfl⟩;obtain⟨h1,h2,h3,h4⟩:=hv rn;have base:∃v0,Zj P σ o.o.op o.o.type v0/\gOf v0=true/\v=unc v0/\v.flat=true:=⟨_,NM h1,h2,h3,h4⟩
  unfold VK;split
  ·rename_i c hc;rw[hc]at wA;cases wA
  ·exact base
 cases g with
 |true=>obtain⟨⟨h1,h2,h3⟩,h4⟩:=ht rfl;exact⟨_,.inl (step _ fun _=>⟨h1,h2,rfl,h3⟩),XI h4⟩
 |false=>exact⟨_,.inl (step .any (fun h=>by cases h)),XI (hf rfl)⟩
theorem HP(hg:o.o.guard=some (j,want))(hd:o.o.dst=some d)
  (vk:(A.ops[j]?).bind (·.dst)=some dj) (vz:zE want (σ.get dj)=some g) (wO:dj<σ.length) (nc:g=false)
  (h:@EI P (σ.put d (.cnd false .any)) A l k):@SI P σ A o l k:=by
 subst nc;refine⟨_,.inl ?_,XI h⟩;unfold Z1;simp only[hg];exact⟨dj,d,false,.any,vk,wO,hd,vz,(fun h=>by cases h),rfl⟩
def nth{α:Type}[Inhabited α](l:List α)(i:Nat):α:=l.getD i default
theorem ZI{α:Type}[Inhabited α]{f:α->List D}{l:List α}(h:i<l.length):rowAt (l.map f) i=f (nth l i):=by simp[rowAt,nth,h]
theorem Ri{α:Type}{f:α->List D}{l:List α}{x:α}(h:r=f x):(l.map f).set i r=(l.set i x).map f:=by rw[h,List.map_set]
abbrev W(x:Int):Int:=IntKind.i64.wrap x
theorem Ya{x:Int}(h1: -9223372036854775808<=x)(h2:x<=9223372036854775807):IntKind.i64.wrap x=x:=by
 have hr:IntKind.i64.min<=x/\x<=IntKind.i64.max:=by
  constructor
  ·show-9223372036854775808<=x;exact h1
  ·show x<=9223372036854775807;exact h2
 simp only[IntKind.wrap];first
  |(simp[IntKind.bits,IntKind.signed];omega)
  |omega
attribute [simp] St.fresh Qo V.ref V.Wr Zu xl
open Go.RowKit
attribute [simp] St.HR R9 NU At.Gs GR
open Go.RowKit
variable{fn:Func}{parts:Array (Nat×Operand)}{l2 L PT F l1:List (Nat×Nat)}{K:Act->World->Prop}{wc:List (List Value)}{vs:List Value}
def At.isP(t:Nat):At->Bool
 |.tref u _ _ _ _=>u==t
 |.ptr u _ _ _=>u==t
 |_=>false
theorem Rel.Ho(r:Rel T0 B σ a w X h){rows:List (List At)}(ho:σ.ob t 0= .lit size rows)(uC:Xn σ rows=some news)(wT:XU σ rows)
  (hL:YF rows.flatten=L) (vA:L.Nodup) (nM:(t,0)∉L) (hp:(σ.ZV L).Je (At.isP t)=false):Xx T0 B ((σ.ZV L).ZT t 0 (.arr true size news)) a w:=by
 have wW:σ.ob t 0≠ .none:=fi;have h0:=r.obj t 0;rw[ho]at h0;obtain⟨e,xs,uX,hz,wE⟩:=h0;obtain⟨gd,iB,gf⟩:=Qu uC;have wI:=Wz r wE gd (QR wT) (by rw[hL];exact vA);rw[hL]at wI;have r1:=r.ZV L;have vJ:=r.zN L;have uc:∀b',(h t 0).u b'->KX σ h L b'->False:=by rintro b' v5 ⟨p,pq,wC,my⟩;obtain⟨q1,q2⟩:=r.inj t 0 p.1 p.2 b' wW wC v5 my;exact nM (by rw[q1,q2];exact pq)
 have rQ:(σ.ZV L).ob t 0= .lit size rows:=by rw[St.Xg,if_neg nM,ho]
 have pB:(σ.ZV L).ob t 0≠ .none:=by rw[rQ];simp
 have vG:∀u i,¬(u=t/\i=0)->((σ.ZV L).ZT t 0 (.arr true size news)).ob u i=(σ.ZV L).ob u i:=by intro u i wC;rw[St.YU _ t 0 _ u i pB,if_neg wC]
 have w6:((σ.ZV L).ZT t 0 (.arr true size news)).ob t 0= .arr true size news:=by rw[St.YU _ t 0 _ t 0 pB];simp
 generalize hσ:(σ.ZV L).ZT t 0 (.arr true size news)=σ2 at*;generalize hσ1:σ.ZV L=σ1 at*;have hlen:σ2.length=σ1.length:=by rw[<-hσ,St.YD]
 have vD:∀u,σ2.get u=σ1.get u:=fun u=>by rw[<-hσ,St.Yf]
 let wL:Hd:=⟨(h t 0).v,fun k=>(xs[k]?).getD undef,fun b=>(h t 0).u b\/KX σ h L b⟩
 let h':Nat->Nat->Hd:=fun u i=>if u=t/\i=0 then wL else h u i
 have tH:∀u i,¬(u=t/\i=0)->h' u i=h u i:=fun u i wC=>if_neg wC;have nh:h' t 0=wL:=by simp[h']
 have hv:∀u i,(h' u i).v=(h u i).v:=by
  intro u i;by_cases hc:u=t/\i=0
  ·obtain⟨rfl,rfl⟩:=hc;rw[nh]
  ·rw[tH u i hc]
 have at_:∀{x:At}{v:Value},At.isP t x=false->Zf (Tof T0 X) h σ1.ob w x v->Zf (Tof T0 X) h' σ2.ob w x v:=by
  intro x v nN rx;cases x with
  |any=>exact rx
  |d x=>exact rx
  |nil s=>exact rx
  |sref u i lo len=>
   refine⟨rx.1,fun q s rws hq=>?_,fun s rws hq=>?_⟩
   ·by_cases hc:u=t/\i=0
    ·obtain⟨rfl,rfl⟩:=hc;rw[w6]at hq;cases hq;rw[hv,<-iB];exact rx.2.2 _ _ rQ
    ·rw[vG u i hc]at hq;rw[hv];exact rx.2.1 _ _ _ hq
   ·by_cases hc:u=t/\i=0
    ·obtain⟨rfl,rfl⟩:=hc;rw[w6]at hq;cases hq
    ·rw[vG u i hc]at hq;rw[hv];exact rx.2.2 _ _ hq
  |ptr u i k c=>
   refine⟨rx.1,fun q s rws hq=>?_⟩;have hc:¬(u=t/\i=0):=fun hc=>by simp[At.isP,hc.1]at nN
   rw[vG u i hc]at hq;rw[hv];exact rx.2 _ _ _ hq
  |bptr u c=>
   refine⟨rx.1,fun cells hq=>?_⟩;by_cases hc:u=t
   ·subst hc;rw[w6]at hq;cases hq
   ·rw[vG u 0 (fun hh=>hc hh.1)]at hq;rw[hv];exact rx.2 _ hq
  |fn f u=>
   refine⟨rx.1,fun cells hq=>?_⟩;by_cases hc:u=t
   ·subst hc;rw[w6]at hq;cases hq
   ·rw[vG u 0 (fun hh=>hc hh.1)]at hq;rw[hv];exact rx.2 _ hq
  |tref u i k c o=>
   refine⟨rx.1,fun s rws hq=>?_⟩;have hc:¬(u=t/\i=0):=fun hc=>by simp[At.isP,hc.1]at nN
   rw[vG u i hc]at hq;rw[tH u i hc];exact rx.2 _ _ hq
  |rptr rr c=>exact rx
 have vI:∀u i,σ2.ob u i≠ .none->σ1.ob u i≠ .none:=by
  intro u i hn;by_cases hc:u=t/\i=0
  ·obtain⟨rfl,rfl⟩:=hc;exact pB
  ·rw[vG u i hc]at hn;exact hn
 refine⟨X,h',by rw[r1.size,hlen],r1.defers,r1.hB,r1.hX,r1.hT,fun u hu=>?_,fun u i=>?_,fun u i b hn hb=>?_,fun u i b hn hb=>?_,fun u i u' i' b hn wv hb wP=>?_⟩
 ·rw[hlen]at hu;rw[vD];exact Yu.map at_ (St.TC hp u) (r1.slot u hu)
 ·by_cases hc:u=t/\i=0
  ·obtain⟨rfl,rfl⟩:=hc;rw[w6,nh];refine⟨e,xs,by rw[<-iB];exact uX,gf size hz,wI.mono (fun b hb=>⟨.inr hb,fun uo=>uc b (r.ub u 0 b wW uo) hb⟩),fun k x d hx _ _=>by simp[wL,hx]⟩
  ·rw[vG u i hc,tH u i hc];exact Xo.map at_ (fun b k v hb hc=>⟨hc,hb⟩) (fun ho b=>r1.ub u i b ho) (fun _ _ _=>rfl) (St.Ry hp u i) (r1.obj u i)
 ·by_cases hc:u=t/\i=0
  ·obtain⟨rfl,rfl⟩:=hc;rw[nh]at hb⊢;exact .inl (r.ub u 0 b wW hb)
  ·rw[tH u i hc]at hb⊢;exact r1.ub u i b (vI u i hn) hb
 ·by_cases hc:u=t/\i=0
  ·obtain⟨rfl,rfl⟩:=hc;rw[nh]at hb;rcases hb with hb|hb
   ·exact r.own u 0 b wW hb
   ·have:=vJ b hb;exact⟨this.1,this.2.1,this.2.2.1⟩
  ·rw[tH u i hc]at hb;exact r1.own u i b (vI u i hn) hb
 ·have key:∀u i b,¬(u=t/\i=0)->σ1.ob u i≠ .none->(h u i).u b->(h' t 0).u b->False:=by
   intro u i b hc hn hb wP;rw[nh]at wP;rcases wP with wP|wP
   ·exact hc (r1.inj u i t 0 b hn pB hb wP)
   ·exact(vJ b wP).2.2.2 u i hn hb
  by_cases hc:u=t/\i=0
  ·by_cases wk:u'=t/\i'=0
   ·exact⟨hc.1.trans wk.1.symm,hc.2.trans wk.2.symm⟩
   ·obtain⟨rfl,rfl⟩:=hc;rw[tH u' i' wk]at wP;exact(key u' i' b wk (vI u' i' wv) wP hb).elim
  ·rw[tH u i hc]at hb;by_cases wk:u'=t/\i'=0
   ·obtain⟨rfl,rfl⟩:=wk;exact(key u i b hc (vI u i hn) hb wP).elim
   ·rw[tH u' i' wk]at wP;exact r1.inj u i u' i' b (vI u i hn) (vI u' i' wv) hb wP
theorem GC{T:TypeId}(wA:o.o.op= .buildSlice T n parts)(hg:o.o.guard=none)(hd:o.o.dst=some d)(wu:A.bar o.o=true)
  (h1:(σ.fresh d=true/\d<σ.length)/\Zy P T=true/\YR P (ZD P T)=true/\0<P.cellsOf (ZD P T)/\parts.toList.length=n/\n*P.cellsOf (ZD P T)<=16777216) (h2:(X5 P σ (ZD P T) (P.cellsOf (ZD P T)) parts.toList 0).1)
  (h3:Zd d (X5 P σ (ZD P T) (P.cellsOf (ZD P T)) parts.toList 0).2.flatten=false)
  (h4:Xn (σ.new d (.one (.sref d 0 0 (X5 P σ (ZD P T) (P.cellsOf (ZD P T)) parts.toList 0).2.length)) [.lit (P.cellsOf (ZD P T)) (X5 P σ (ZD P T) (P.cellsOf (ZD P T)) parts.toList 0).2]) (X5 P σ (ZD P T) (P.cellsOf (ZD P T)) parts.toList 0).2=some news/\
   XU (σ.new d (.one (.sref d 0 0 (X5 P σ (ZD P T) (P.cellsOf (ZD P T)) parts.toList 0).2.length)) [.lit (P.cellsOf (ZD P T)) (X5 P σ (ZD P T) (P.cellsOf (ZD P T)) parts.toList 0).2]) (X5 P σ (ZD P T) (P.cellsOf (ZD P T)) parts.toList 0).2)
  (h5:YF (X5 P σ (ZD P T) (P.cellsOf (ZD P T)) parts.toList 0).2.flatten=L/\L.Nodup/\(d,0)∉L)
  (h6:((σ.new d (.one (.sref d 0 0 (X5 P σ (ZD P T) (P.cellsOf (ZD P T)) parts.toList 0).2.length)) [.lit (P.cellsOf (ZD P T)) (X5 P σ (ZD P T) (P.cellsOf (ZD P T)) parts.toList 0).2]).ZV L).Je (At.isP d)=false)
  (h:@EI P (((σ.new d (.one (.sref d 0 0 (X5 P σ (ZD P T) (P.cellsOf (ZD P T)) parts.toList 0).2.length)) [.lit (P.cellsOf (ZD P T)) (X5 P σ (ZD P T) (P.cellsOf (ZD P T)) parts.toList 0).2]).ZV L).ZT d 0 (.arr true (P.cellsOf (ZD P T)) news)) A l k):@SI P σ A o l k:=by
 refine⟨_,.inr ⟨wu,?_,fun d' wL hc=>XV (QQ (xe (fun e=>wL (by rw[hd,e])) hc)),fun hh=>by simp[xM,wA]at hh,fun hh=>by first|(simp[z6,wA]at hh;done)|(unfold z6 at hh;rw[wA]at hh;split at hh<;>simp_all),fun hh _=>by first|(simp[QJ,wA]at hh;done)|(unfold QJ at hh;rw[wA]at hh;split at hh<;>simp_all)⟩,XI h⟩;rintro T0 B a w K Q' ⟨X,hh,r⟩ hK;have hw:Region.wanted o.o (yielded A.ops a.tmps)=true:=eR
 rw[if_pos hw];refine ql r wA hd h1.1.1 h1.2.1 h1.2.2.1 h1.2.2.2.1 h1.2.2.2.2.1 h1.2.2.2.2.2 (U5 h2) h3 (fun a' w' hr nd=>hK a' w' ?_ nd);obtain⟨X',tH,r'⟩:=hr;exact Rel.Ho r' (by rw[St.Xj,if_pos ⟨rfl,h1.1.2⟩];rfl) h4.1 h4.2 h5.1 h5.2.1 h5.2.2 h6
attribute [simp] At.isP
theorem Zp.own(hs:Zp P f args res):Y0 P f true args res:=by
 refine⟨hs.1,fun T w wm hT ha=>(hs.2 T w wm hT ha).mono ?_⟩;rintro e w' ⟨vs,wc,he,hb,hf,hl,⟨hlen,Sk,h1,h2,h3⟩⟩;refine⟨vs,wc,fun b=>(w.heap.size<=b/\b<w'.heap.size)/\∀(k:Nat)(c:Value)(d:D),wc.flatten[k]?=some c->res.flatten[k]?=some d->d.scalar=false->blk c≠some b,he,hb,fun b hb=>hb.1,hf,KE hl (fun k x d hx hd=>?_),fun _=>⟨fun i c d b hc hd vH r7=>?_,fun i j c c' d d' b hc hd wk wL vH po r7 lS=>?_⟩⟩
 ·simp only[J5,if_true];have ho:=h1 k x d hx hd
  cases ho with
  |int k n=>exact .int _ _
  |bool b=>exact .bool _
  |str s=>exact .str _
  |unk v h=>exact .unk _ h
  |sl v size rows S e' xs rf ho hz wP gm hk rz wL=>
   refine⟨e',xs,ho,hz,ZU.Jq gm (fun i y dd hy uf=>(hk i y dd hy uf).rd (fun b k' hb=>.inr ⟨h2 k b (rz i b hb).1,fun k2 c2 d2 tv tg r9 nf=>?_⟩))⟩;have ug:=h1 k2 c2 d2 tv tg
   have rb:Sk k2 b:=by
    cases ug with
    |int k n=>cases r9
    |bool b=>cases r9
    |str s=>cases r9
    |unk=>cases r9
    |sl v2 pW wz S2 e2 iH iI ug oS wo rH tn wJ ni=>exact wo b nf
   have:=h3 k k2 b (rz i b hb).1 rb;subst this;rw[hx]at tv;cases tv;exact(rz i b hb).2 nf
 ·have ug:=h1 i c d hc hd;have rb:Sk i b:=by
   cases ug with
   |int k n=>cases vH
   |bool b=>cases vH
   |str s=>cases vH
   |unk=>cases vH
   |sl v2 pW wz S2 e2 iH iI ug oS wo rH tn wJ ni=>exact wo b r7
  have:=h2 i b rb;exact⟨this.1,this.2,fun hy=>hy.2 i c d hc hd vH r7⟩
 ·have rb:∀(i:Nat)(c:Value)(d:D),wc.flatten[i]?=some c->res.flatten[i]?=some d->d.scalar=false->blk c=some b->Sk i b:=by
   intro i c d hc hd vH r7;have ug:=h1 i c d hc hd
   cases ug with
   |int k n=>cases vH
   |bool b=>cases vH
   |str s=>cases vH
   |unk=>cases vH
   |sl v2 pW wz S2 e2 iH iI ug oS wo rH tn wJ ni=>exact wo b r7
  exact h3 i j b (rb i c d hc hd vH r7) (rb j c' d' wk wL po lS)
open Go.RowKit
def Su(σ:St)(F:List (Nat×Nat)):At->At
 |.sref t j lo len=>if inF F t j then(match σ.ob t j with|.arr _ s rows=>.d (.sl s (cut rows lo len))|_=>.any)else .sref t j lo len
 |.ptr t j i c=>if inF F t j then .any else .ptr t j i c
 |.tref t j i c o=>if inF F t j then .any else .tref t j i c o
 |x=>x
def GD(σ:St)(F:List (Nat×Nat)):V->V
 |.one x=>.one (Su σ F x)
 |.agg xs=>.agg (xs.map (Su σ F))
 |.fix u (.one x)=>.fix u (.one (Su σ F x))
 |.fix u (.agg xs)=>.fix u (.agg (xs.map (Su σ F)))
 |_=>.any
def I7(σ:St)(F:List (Nat×Nat))(t j:Nat)(o:Ob):Ob:=
 if inF F t j then .none else match o with|.box cs=>.box (cs.map (Su σ F))|.lit _ _=>.none|o=>o
def NW(σ:St)(F:List (Nat×Nat))(t:Nat):List Ob->Nat->List Ob
 |[],_=>[]
 |o::os,j=>I7 σ F t j o::NW σ F t os (j+1)
def WC(σ:St)(F:List (Nat×Nat)):List Ent->Nat->List Ent
 |[],_=>[]
 |e::es,t=>(GD σ F e.1,NW σ F t e.2 0)::WC σ F es (t+1)
def St.frz(σ:St)(F:List (Nat×Nat)):St:=WC σ F σ 0
theorem Sy{F:List (Nat×Nat)}:∀{σ0:St}{es:List Ent}{t d:Nat},YG es d=true->YG (WC σ0 F es t) d=true
 |σ0,[],t,d,h=>by simp[YG]at h
 |σ0,e::es,t,0,h=>by
  rw[JJ]at h⊢;rcases h with h|⟨x,h⟩
  ·left;simp only[List.getElem?_cons_zero,Option.some.injEq]at h;subst h;rfl
  ·right;simp only[List.getElem?_cons_zero,Option.some.injEq]at h;subst h;exact⟨x,rfl⟩
 |σ0,e::es,t,d+1,h=>by
  have:YG es d=true:=by rw[JJ]at h⊢;simpa using h
  have:=Sy (F:=F) (σ0:=σ0) (es:=es) (t:=t+1) this;rw[JJ]at this⊢;simpa[WC]using this
theorem Hy(wu:A.bar o.o=true)(hw:Wk σ σ')(hc:∀d,YG σ d=true->YG σ' d=true)(tb:xM o.o=false)(lQ:z6 o.o=false)(u4:QJ P o.o=false\/jA A.bar o.o=false)(h:@SI P σ' A o l k):@SI P σ A o l k:=by
 obtain⟨σ'',hs,hr⟩:=h;refine⟨σ'',.inr ⟨wu,fun T0 B a w K Q vN hK=>qf hs T0 B a w K Q (hw T0 B a w vN) hK,fun d hd wb=>?_,fun hh=>(by rw[tb]at hh;cases hh),fun hh=>(by rw[lQ]at hh;cases hh),fun hh ho=>(by rcases u4 with u4|u4<;>(first|(rw[u4]at hh;cases hh)|(rw[u4]at ho;cases ho)))⟩,hr⟩;have h1:=hc d wb
 rcases hs with hs|hs
 ·exact Uv hs hd h1
 ·exact hs.2.2.1 d hd h1
theorem IE(F:List (Nat×Nat))(wu:A.bar o.o=true)(hw:jW σ [] F σ (σ.frz F) 0)(h:@SI P (σ.frz F) A o l k)(tb:xM o.o=false:=by exact rfl)(lQ:z6 o.o=false:=by exact rfl)(u4:QJ P o.o=false\/jA A.bar o.o=false:=by first|exact .inl rfl|exact .inr rfl):@SI P σ A o l k:=
 Hy wu (Y2 [] F rfl hw) (fun _ hd=>Sy hd) tb lQ u4 h
attribute [simp] Su GD I7 NW WC St.frz
open Go.RowKit
variable{vj:List Ob}
abbrev ptr(b:Nat):Value:=.pointer (some ⟨b,0,none⟩)
abbrev OC(T:CS)(w:World)(wm:List Value)(args:List (List D)):Prop:=ZU (fun v row=>∃cs,Qq v cs/\ZU (Rd T w) cs row) wm args
def KB(n:Nat)(pre:List (List D))(v:Value)(cells:List At)(vj:List Ob)(post:List (List D)):St:=
 kn pre++(.fix v (.one (.bptr pre.length 0)),.box cells::vj)::(kn post++List.replicate (n-(pre.length+1+post.length)) (V.any,[]))
theorem Mr(post:List (List D))(m t:Nat):∃x,(match(kn post++List.replicate m ((V.any,[]):Ent))[t]? with|some e=>e|none=>(V.any,[]))=(x,[])/\(x= .any\/∃r,post[t]?=some r/\x=vOf (r.map .d)):=by
 rcases Nat.lt_or_ge t post.length with h|h
 ·rw[List.getElem?_append_left ed,jM,List.getElem?_eq_getElem h];exact⟨_,rfl,.inr ⟨_,rfl,rfl⟩⟩
 ·rw[List.getElem?_append_right ed,List.getElem?_replicate];refine⟨.any,?_,.inl rfl⟩;split
  ·rename_i e he;split at he
   ·cases he;rfl
   ·cases he
  ·rfl
theorem Lm(n:Nat)(pre:List (List D))(v:Value)(cells:List At)(vj:List Ob)(post:List (List D))(t:Nat):
  (t=pre.length/\(KB n pre v cells vj post)[t]?=some (.fix v (.one (.bptr pre.length 0)),.box cells::vj))\/
  (t≠pre.length/\(∀j,(KB n pre v cells vj post).ob t j= .none)/\((KB n pre v cells vj post).get t= .any\/∃r,(KB n pre v cells vj post).get t=vOf (r.map .d)/\((t<pre.length/\pre[t]?=some r)\/(pre.length<t/\post[t-pre.length-1]?=some r)))):=by
 rcases Nat.lt_trichotomy t pre.length with h|h|h
 ·refine .inr ⟨fJ,?_⟩;have:(KB n pre v cells vj post)[t]?=some (vOf (pre[t].map .d),[]):=by unfold KB;rw[List.getElem?_append_left ed,jM,List.getElem?_eq_getElem h];rfl
  refine⟨fun j=>by unfold St.ob;rw[this];simp[Zq],.inr ⟨pre[t],by unfold St.get;rw[this],.inl ⟨h,List.getElem?_eq_getElem h⟩⟩⟩
 ·refine .inl ⟨h,?_⟩;unfold KB;rw[List.getElem?_append_right (by rw[Yz];omega),Yz,h,Nat.sub_self];rfl
 ·refine .inr ⟨fJ,?_⟩;have e1:(KB n pre v cells vj post)[t]?=(kn post++List.replicate (n-(pre.length+1+post.length)) ((V.any,[]):Ent))[t-pre.length-1]?:=by unfold KB;rw[List.getElem?_append_right (by rw[Yz];omega),Yz,show t-pre.length=(t-pre.length-1)+1 by omega,List.getElem?_cons_succ];rfl
  obtain⟨x,hx,hr⟩:=Mr post (n-(pre.length+1+post.length)) (t-pre.length-1);rw[<-e1]at hx;constructor
  ·intro j;unfold St.ob;cases hq:(KB n pre v cells vj post)[t]? with
   |none=>rfl
   |some e=>rw[hq]at hx;simp only at hx;rw[hx];simp[Zq]
  ·have hg:(KB n pre v cells vj post).get t=x:=by
    unfold St.get;cases hq:(KB n pre v cells vj post)[t]? with
    |none=>rw[hq]at hx;simp only at hx;injection hx
    |some e=>rw[hq]at hx;simp only at hx;rw[hx]
   rcases hr with rfl|⟨r,hr,rfl⟩
   ·exact .inl hg
   ·exact .inr ⟨r,hg,.inr ⟨h,hr⟩⟩
theorem MX{pre post:List (List D)}{cells:List At}{vX vp:List Value}(hd:Nat->Hd)
  (hT:∀k i,T k i->k<w.heap.size/\k≠b/\¬S k) (hS:∀k,S k->k<w.heap.size/\k≠b) (hb:b<w.heap.size) (h0:hd 0=Hd.of (ptr b))
  (uB:∀(h:Nat->Nat->Hd)(ob:Nat->Nat->Ob),(∀j,h pre.length j=hd j)->(∀j,ob pre.length j=Zq (.box cells::vj) j)->Xo (Tof T (fun _=>False)) h ob w (hd 0) (.box cells))
  (vG:∀(h:Nat->Nat->Hd)(ob:Nat->Nat->Ob)(j:Nat),Xo (Tof T (fun _=>False)) h ob w (hd (j+1)) (Zq vj j))
  (vR:∀j k,Zq vj j≠ .none->blk (hd (j+1)).v=some k->(hd (j+1)).u k) (wI:∀j k,Zq vj j≠ .none->(hd (j+1)).u k->S k)
  (rT:∀i j k,Zq vj i≠ .none->Zq vj j≠ .none->(hd (i+1)).u k->(hd (j+1)).u k->i=j) (nZ:OC T w vX pre) (l7:OC T w vp post):
  Xx T (fun k=>k<w.heap.size/\k≠b/\¬S k) (KB n pre (ptr b) cells vj post) {tmps:=(vX++ptr b::vp).toArray++Array.replicate (n-(vX++ptr b::vp).toArray.size) undef,defers:=[]} w:=by
 have nY:=nZ.length;have rH:=l7.length;have uz:=Lm n pre (ptr b) cells vj post;have vS:∀j,(KB n pre (ptr b) cells vj post).ob pre.length j=Zq (.box cells::vj) j:=by
  intro j;rcases uz pre.length with⟨_,h⟩|⟨h,_⟩
  ·unfold St.ob;rw[h]
  ·exact absurd rfl h
 have rX:∀t j,(KB n pre (ptr b) cells vj post).ob t j≠ .none->t=pre.length:=by
  intro t j hn;rcases uz t with⟨h,_⟩|⟨_,h,_⟩
  ·exact h
  ·exact absurd (h j) hn
 have se:∀b k v,T b k->w.cell? ⟨b,k,none⟩=some v->w.cell? ⟨b,k,none⟩=some v/\Tof T (fun _=>False) b k:=fun b k v hb hc=>⟨hc,.inl hb⟩;have lX:∀k,(hd 0).u k↔k=b:=fun k=>by rw[h0];simp[Hd.of,blk,eq_comm]
 have v8:∀j,Zq (.box cells::vj) j≠ .none->(j=0\/∃i,j=i+1/\Zq vj i≠ .none):=by
  intro j hn;cases j with
  |zero=>exact .inl rfl
  |succ j=>exact .inr ⟨j,rfl,by rw[W5]at hn;exact hn⟩
 have gi:∀j k,Zq (.box cells::vj) j≠ .none->(hd j).u k->k=b\/S k:=by
  intro j k hn hu;rcases v8 j hn with rfl|⟨i,rfl,hi⟩
  ·exact .inl ((lX k).1 hu)
  ·exact .inr (wI i k hi hu)
 have pT:∀{wm:List Value}{args:List (List D)}{t:Nat}{r:List D},OC T w wm args->args[t]?=some r->∃v,wm[t]?=some v/\Yu (Tof T (fun _=>False)) (fun t j=>if t=pre.length then hd j else Hd.of undef) (KB n pre (ptr b) cells vj post).ob w (vOf (r.map .d)) v:=by intro wm args t r ha hr;obtain⟨v,hv,cs,hf,wE⟩:=ha.get' t r hr;exact⟨v,hv,(Uk hf (yS (wE.imp fun _ _=>Rd.mono se))).up⟩
 refine⟨fun _=>False,fun t j=>if t=pre.length then hd j else Hd.of undef,?_⟩;refine⟨?_,rfl,(fun k hk=>hk.1),(fun b hb=>hb.elim),(fun k i hk=>hT k i hk),fun t ht=>?_,fun t j=>?_,fun t j k hn hk=>?_,fun t j k hn hk=>?_,fun t j t' j' k hn wv hk pA=>?_⟩
 ·simp[KB,Yz,nY,rH];omega
 ·rcases uz t with⟨rfl,h⟩|⟨wC,_,h⟩
  ·have uV:((vX++ptr b::vp).toArray++Array.replicate (n-(vX++ptr b::vp).toArray.size) undef).getD pre.length undef=ptr b:=by rw[Array.getD_eq_getD_getElem?,Array.getElem?_append_left fc];simp[<-nY]
   rw[uV];unfold St.get;rw[h];exact⟨rfl,rfl,fun wG _=>⟨b,by simp[h0,Hd.of],rfl⟩⟩
  ·rcases h with h|⟨r,h,hr⟩
   ·rw[h];trivial
   ·rw[h];rcases hr with⟨wO,hr⟩|⟨wO,hr⟩
    ·obtain⟨v,hv,vN⟩:=pT nZ hr;have uV:((vX++ptr b::vp).toArray++Array.replicate (n-(vX++ptr b::vp).toArray.size) undef).getD t undef=v:=by rw[Array.getD_eq_getD_getElem?,Array.getElem?_append_left fc];simp[List.getElem?_append_left (show t<vX.length by omega),hv]
     simp only[uV];exact vN
    ·obtain⟨v,hv,vN⟩:=pT l7 hr;have mY:=(List.getElem?_eq_some_iff.1 hv).1
     have uV:((vX++ptr b::vp).toArray++Array.replicate (n-(vX++ptr b::vp).toArray.size) undef).getD t undef=v:=by rw[Array.getD_eq_getD_getElem?,Array.getElem?_append_left fc];simp only[List.getElem?_toArray];rw[List.getElem?_append_right fJ,show t-vX.length=(t-pre.length-1)+1 by omega,List.getElem?_cons_succ,hv];rfl
     simp only[uV];exact vN
 ·by_cases hn:(KB n pre (ptr b) cells vj post).ob t j= .none
  ·rw[hn];trivial
  ·obtain rfl:=rX t j hn;rw[vS];simp only[if_true];cases j with
   |zero=>exact uB _ _ (fun j=>fM) vS
   |succ j=>rw[W5];exact vG _ _ j
 ·obtain rfl:=rX t j hn;rw[vS]at hn;simp only[if_true]at hk⊢;rcases v8 j hn with rfl|⟨i,rfl,hi⟩
  ·rw[h0]at hk⊢;exact hk
  ·exact vR i k hi hk
 ·obtain rfl:=rX t j hn;rw[vS]at hn;simp only[if_true]at hk;rcases gi j k hn hk with rfl|hs
  ·exact⟨fun hh=>hh.2.1 rfl,fun hh=>hh,hb⟩
  ·exact⟨fun hh=>hh.2.2 hs,fun hh=>hh,(hS k hs).1⟩
 ·obtain rfl:=rX t j hn;obtain rfl:=rX t' j' wv;rw[vS]at hn wv;simp only[if_true]at hk pA;refine⟨rfl,?_⟩;rcases v8 j hn with rfl|⟨i,rfl,hi⟩
  ·rcases v8 j' wv with rfl|⟨i',rfl,vW⟩
   ·rfl
   ·exact absurd ((lX k).1 hk) (hS k (wI i' k vW pA)).2
  ·rcases v8 j' wv with rfl|⟨i',rfl,vW⟩
   ·exact absurd ((lX k).1 pA) (hS k (wI i k hi hk)).2
   ·rw[rT i i' k hi vW hk pA]
open Go.RowKit
def HO(dp:Bool)(T:CS)(w:World)(b:Nat)(wN:List D)(res:List (List D))(e:Ending)(w':World):Prop:=
 ∃(vs:List Value)(wc:List (List Value))(Y:Nat->Prop),e= .returned (qz vs)/\YL (fun k=>k<w.heap.size/\k≠b) w w'/\(∀k,Y k->w.heap.size<=k/\k<w'.heap.size)/\
  (∃cs e',w'.heap[b]?=some (.cells cs e' (0,0))/\ZU (Rd (Tof T Y) w') cs.toList wN)/\ZU Qq vs wc/\ZU (fun(cs:List Value)(row:List D)=>cs.length=row.length) wc res/\
  (if dp then Qk w' wc.flatten res.flatten (fun k=>w.heap.size<=k/\k<w'.heap.size/\¬Y k)else ZU (fun cs row=>ZU (Rd (Tof T Y) w') cs row) wc res)
def Xe(P:Program)(f:FuncId)(dp:Bool)(row:List D)(args:List (List D))(wN:List D)(res:List (List D)):Prop:=
 j4 P f=true/\∀(T:CS)(w:World)(b:Nat)(wm:List Value),(∀k i,T k i->k<w.heap.size/\k≠b)->b<w.heap.size->(∃cs e,w.heap[b]?=some (.cells cs e (0,0))/\ZU (Rd T w) cs.toList row)->
  OC T w wm args->Calls P f (ptr b::wm).toArray w (HO dp T w b wN res)
def Hl(P:Program)(fn:Func)(v:Value)(dp:Bool)(wN:List D)(res:List (List D))(e:Exit)(σ:St):Prop:=
 (e= .ret\/e= .normal)/\(∃vj,σ.head?=some (.fix v (.one (.bptr 0 0)),.box (wN.map .d)::vj))/\∃vL,qe P σ fn.results.toList vL/\
  (if dp then Xn σ vL=some res/\XU σ vL/\(YF vL.flatten).Nodup else zI σ vL=some res)
def VN(P:Program)(f:FuncId)(args:List (List D))(wN:List D):Prop:=
 j4 P f=true/\∀(T:CS)(w:World)(wm:List Value),(∀k i,T k i->k<w.heap.size)->OC T w wm args->
  Calls P f wm.toArray w fun e w'=>∃b Y,e= .returned (ptr b)/\Below w.heap.size w w'/\w.heap.size<=b/\b<w'.heap.size/\(∀k,Y k->w.heap.size<=k/\k<w'.heap.size/\k≠b)/\∃cs e',w'.heap[b]?=some (.cells cs e' (0,0))/\ZU (Rd (Tof T Y) w') cs.toList wN
def He(P:Program)(fn:Func)(wN:List D)(e:Exit)(σ:St):Prop:=
 (e= .ret\/e= .normal)/\∃u,qe P σ fn.results.toList [[.bptr u 0]]/\σ.ob u 0= .box (wN.map .d)
theorem jK{T:CS}{ob:Nat->Nat->Ob}:∀{row:List D}{cs:List Value},ZU (Zf T h ob w) (row.map .d) cs->ZU (Rd T w) cs row
 |[],_,wE=>by cases wE;exact .nil
 |_::_,_,wE=>by cases wE with|cons h1 h2=>exact .cons h1 (jK h2)
theorem SR{c:Code}(hf:P.funcs[f]?=some fn)(hb:fn.body=some c)(wT:j4 P f=true){row:List D}
  (hw:∀v,AWP P c (Hl P fn v dp wN res) (KB fn.ntmps [] v (row.map .d) [] args)):Xe P f dp row args wN res:=by
 refine⟨wT,fun T w b wm hT wP ⟨ga,e0,lN,oH⟩ wH=>calls_of_wp hf hb ?_⟩;have pU:=MX (w:=w) (T:=T) (S:=fun _=>False) (n:=fn.ntmps) (b:=b) (pre:=[]) (post:=args) (cells:=row.map .d) (vj:=[]) (vX:=[]) (vp:=wm) (fun _=>Hd.of (ptr b))
  (fun k i hk=>⟨(hT k i hk).1,(hT k i hk).2,fun hh=>hh⟩) (fun k hk=>hk.elim) wP rfl
  (fun h ob _ _=>⟨b,ga,e0,rfl,lN,yS (oH.imp fun _ _=>Rd.mono (fun b k v hb hc=>⟨hc,.inl hb⟩))⟩) (fun h ob j=>by simp[Zq,Xo]) (fun j k hn=>by simp[Zq]at hn) (fun j k hn=>by simp[Zq]at hn) (fun i j k hn=>by simp[Zq]at hn) .nil wH
 simp only[List.nil_append]at pU;refine wp_mono (hw (ptr b) T _ _ w pU) ?_;rintro e a' w' ⟨σ',⟨he,⟨vj,rV⟩,vL,vf,wF⟩,⟨X,h,r⟩,wZ⟩;obtain⟨vs,wc,wU,wj,wE⟩:=y9 r vf;have w7:0<σ'.length:=by
  cases σ' with
  |nil=>simp at rV
  |cons e σ=>simp
 have ma:σ'.get 0= .fix (ptr b) (.one (.bptr 0 0)):=by
  cases σ' with
  |nil=>simp at rV
  |cons e σ=>simp at rV;simp[St.get,rV]
 have vB:σ'.ob 0 0= .box (wN.map .d):=by
  cases σ' with
  |nil=>simp at rV
  |cons e σ=>simp at rV;simp[St.ob,rV,Zq]
 have pV:=r.slot 0 w7;rw[ma]at pV;obtain⟨lV,v3⟩:=pV;obtain⟨b1,vP,vF⟩:=v3.2 _ vB;rw[lV]at vF;have uo:b1=b:=by injection vF with vF;injection vF with vF;injection vF with vF;exact vF.symm
 subst uo;have v8:=r.obj 0 0
 rw[vB]at v8;obtain⟨b2,pS,e',wo,tH,tV⟩:=v8;rw[vP]at wo;have uo:b2=b1:=fl
 subst uo;have rY:YL (fun k=>k<w.heap.size/\k≠b2) w w':=⟨wZ.os,wZ.tape,wZ.output,wZ.size,fun k hk=>wZ.block k ⟨hk.1,hk.2,fun hh=>hh⟩⟩
 have gj:∀k,X k->k=b2->False:=by
  rintro k hx rfl;have vR:=r.ub 0 0 k ee (by rw[vP];rfl)
  exact(r.own 0 0 k ee vR).2.1 hx
 have lY:∀k,X k->w.heap.size<=k/\k<w'.heap.size:=by
  intro k hk;have h1:=r.hX k hk
  refine⟨?_,h1.2⟩;rcases Nat.lt_or_ge k w.heap.size with wO|ur
  ·exact absurd ⟨wO,fun hh=>gj k hk hh,fun hh=>hh⟩ h1.1
  ·exact ur
 have goal:a'.defers=[]/\∃v,(results fn a'.tmps).run P w'= .ok v w'/\HO dp T w b2 wN res (.returned v) w':=by
  refine⟨r.defers,_,wU,?_⟩;cases dp with
  |true=>
   simp only[if_true]at wF;obtain⟨uC,uq,vA⟩:=wF;refine⟨vs,wc,X,rfl,rY,lY,⟨pS,e',tH,jK tV⟩,wj,?_,?_⟩
   ·clear vA uq vf wU wj hw;induction wE generalizing res with
    |nil=>simp[Xn]at uC;subst uC;exact .nil
    |cons h1 _ ih=>
     simp only[Xn]at uC;split at uC
     ·rename_i row rs wg uO;cases uC;exact .cons (by rw[<-h1.length];exact(zP wg).1) (ih uO)
     ·cases uC
   ·simp only[if_true];refine(Wz r (J2 wE) (Qu uC).1 (QR uq) vA).mono (fun k hk=>?_);have hg:=r.zN _ k hk
    refine⟨?_,hg.2.2.1,hg.2.1⟩;rcases Nat.lt_or_ge k w.heap.size with wO|ur
    ·refine absurd ⟨wO,?_,fun hh=>hh⟩ hg.1;rintro rfl;obtain⟨p,hp,wC,hu⟩:=hk;have vR:=r.ub 0 0 k ee (by rw[vP];rfl)
     obtain⟨e1,e2⟩:=r.inj p.1 p.2 0 0 k wC ee hu vR;obtain⟨i,lo,len,hx⟩:=VJ hp;have hm:=jB (QR uq) i _ hx
     rw[e1,e2]at hm;obtain⟨d,hd,iC⟩:=(ZU.get (R:=fun x d=>mvD σ' x=some d) (ZU.Jq (zP (Qu uC).1).1 (fun i a b h1 h2=>(zP (Qu uC).1).2 i a b h1 h2)) i _ hx);rw[e1,e2]at iC;simp[mvD,vB]at iC
    ·exact ur
  |false=>
   simp only[Bool.false_eq_true,if_false]at wF;refine⟨vs,wc,fun k=>w.heap.size<=k/\k<w'.heap.size,rfl,rY,fun k hk=>hk,⟨pS,e',tH,(jK tV).imp fun _ _=>Rd.mono (fun k i v hk hc=>⟨hc,?_⟩)⟩,wj,?_,?_⟩
   ·rcases hk with hk|hk
    ·exact .inl hk
    ·exact .inr (lY k hk)
   ·clear vf wU wj hw;induction wE generalizing res with
    |nil=>simp[zI]at wF;subst wF;exact .nil
    |cons h1 _ ih=>
     simp only[zI]at wF;split at wF
     ·rename_i row rs wg uO;cases wF;exact .cons ((r.rowOf false wg h1 (fun hh=>by cases hh)).length) (ih uO)
     ·cases wF
   ·simp only[Bool.false_eq_true,if_false];refine qA r (fun k i hk=>?_) wF wE;rcases hk with hk|⟨t,j,q,size,rows,ho,hk⟩
    ·rcases hk with hk|hk
     ·exact .inl hk
     ·exact .inr (lY k hk)
    ·have wC:σ'.ob t j≠ .none:=fi;have wI:=r.own t j k wC hk;refine .inr ⟨?_,wI.2.2⟩;rcases Nat.lt_or_ge k w.heap.size with wO|ur
     ·refine absurd ⟨wO,?_,fun hh=>hh⟩ wI.1;rintro rfl;have vR:=r.ub 0 0 k ee (by rw[vP];rfl)
      obtain⟨e1,e2⟩:=r.inj t j 0 0 k wC ee hk vR;rw[e1,e2,vB]at ho;cases ho
     ·exact ur
 rcases he with rfl|rfl
 ·exact goal
 ·exact goal
theorem SA{c:Code}(hf:P.funcs[f]?=some fn)(hb:fn.body=some c)(wT:j4 P f=true)
  (hw:AWP P c (He P fn wN) (K0 fn.ntmps args)):VN P f args wN:=by
 refine⟨wT,fun T w wm hT wH=>calls_of_wp hf hb ?_⟩;refine wp_mono (hw T (fun b=>b<w.heap.size) _ w (Ta hT wH)) ?_;rintro e a' w' ⟨σ',⟨he,u,vf,oJ⟩,⟨X,h,r⟩,wZ⟩;have vY:Below w.heap.size w w':=⟨wZ.os,wZ.tape,wZ.output,wZ.size,wZ.block⟩
 obtain⟨vs,wc,wU,wj,wE⟩:=y9 r vf;cases wE with
 |cons h1 wE=>
  cases wE;cases h1 with
  |@cons _ c0 _ _ hx h1=>
   cases h1;cases wj with
   |@cons v0 _ _ _ hu hn=>
    cases hn;have v5:v0=c0:=by
     rcases hu with⟨c',oc,rfl,_⟩|⟨hn,_⟩
     ·cases oc;rfl
     ·simp at hn
    subst v5;obtain⟨b,vP,hv⟩:=hx.2 _ oJ;have v8:=r.obj u 0
    rw[oJ]at v8;obtain⟨b2,pS,e',wo,tH,tV⟩:=v8;rw[vP]at wo;have uo:b2=b:=fl
    subst uo;have wC:σ'.ob u 0≠ .none:=by rw[oJ];simp
    have vR:=r.ub u 0 b2 wC (by rw[vP];rfl);have wI:=r.own u 0 b2 wC vR;have goal:a'.defers=[]/\∃v,(results fn a'.tmps).run P w'= .ok v w'/\∃b Y,Ending.returned v= .returned (ptr b)/\Below w.heap.size w w'/\w.heap.size<=b/\b<w'.heap.size/\(∀k,Y k->w.heap.size<=k/\k<w'.heap.size/\k≠b)/\∃cs e',w'.heap[b]?=some (.cells cs e' (0,0))/\ZU (Rd (Tof T Y) w') cs.toList wN:=by
     refine⟨r.defers,_,wU,b2,X,by rw[hv];rfl,vY,by have:=wI.1;omega,wI.2.2,fun k hk=>?_,pS,e',tH,jK tV⟩;have pA:=r.hX k hk
     refine⟨by have:=pA.1;omega,pA.2,?_⟩;rintro rfl;exact wI.2.1 hk
    rcases he with rfl|rfl
    ·exact goal
    ·exact goal
open Go.RowKit
variable{ts:List TypeId}{ops:Array Oper}{rv:List ResultVar}{qs:List Bool}
theorem IX{ob:Nat->Nat->Ob}(hr:Xo T h ob w hd (.arr true size rows))(hf:∀r∈rows,∀x∈r,x.scalar=true):Xo T h ob w hd (.arr false size rows):=by
 obtain⟨e,xs,ho,hz,⟨hl,Sk,hk,_,_⟩,_⟩:=hr;refine⟨e,xs,ho,hz,ZU.Jq hl (fun k x d hx hd=>?_)⟩;obtain⟨r0,um,hdr⟩:=List.mem_flatten.1 (List.mem_of_getElem? hd);have vH:=hf r0 um d hdr
 have:=hk k x d hx hd;cases this with
 |int k n=>exact .int _ _
 |bool b=>exact .bool _
 |str s=>exact .str _
 |unk v h=>exact .unk _ h
 |sl=>cases vH
theorem Rel.Hc(r:Rel T0 B σ a w X h)(hf:σ.fresh d=true)(M:Nat->Prop)(hM:∀b,M b->¬B b/\¬X b/\b<w.heap.size/\∀t j,σ.ob t j≠ .none->¬(h t j).u b)(qs:List Bool)
  (wj:ZU Qq vs wc) (hlen:ZU (fun(cs:List Value)(row:List D)=>cs.length=row.length) wc res) (wI:Qk w wc.flatten res.flatten M) (hq:zC qs res.flatten):Xx T0 B (σ.new d (Kp d res) (Zr qs res.flatten)) (a.put (some d) (qz vs)) w:=by
 have wO:=St.JG hf;obtain⟨pR,Sk,k1,k2,k3,k4⟩:=Il wI;have wW:∀j,(σ.new d (Kp d res) (Zr qs res.flatten)).ob d j=Zq (Zr qs res.flatten) j:=fun j=>by rw[St.Xj];simp[wO]
 have lZ:=wI.top (T:=Tof T0 X);have vq:ZU (fun cs row=>ZU (zW (Tof T0 X) w) cs row) wc res:=KE hlen (fun k x d hx hd=>by
  obtain⟨c,hc,ht⟩:=lZ.get' k d hd;rw[hx]at hc;cases hc;exact ht)
 refine⟨X,fun t j=>if t=d then pR j else h t j,?_⟩;refine r.IY hf M (Nat.le_refl _) (fun _ _ _=>rfl) (fun b hb=>⟨(hM b hb).1,(hM b hb).2.1,fun t j _ hn=>(hM b hb).2.2.2 t j hn⟩) (fun b hb=>hb) (fun b hb=>.inl hb) (Kp d res) (qz vs) (Zr qs res.flatten) pR ?_ (fun j=>?_) (fun j b wC hb=>?_) (fun j b wC hb=>?_) (fun j j' b wC wq hb wP=>?_)
 ·exact Ts (h:=fun t j=>if t=d then pR j else h t j) (ob:=(σ.new d (Kp d res) (Zr qs res.flatten)).ob) (t:=d) wj vq (fun i size rows hi=>by
   obtain⟨q,tU,_⟩:=(Z8 qs res.flatten i hq).1 size rows hi;exact⟨q,by rw[wW];exact tU⟩) (fun i c hi=>by simp only[if_true];exact k1 i c hi)
 ·by_cases wC:Zq (Zr qs res.flatten) j= .none
  ·rw[wC];trivial
  ·obtain⟨size,rows,hj⟩:=(Z8 qs res.flatten j hq).2 wC;obtain⟨q,tU,mz⟩:=(Z8 qs res.flatten j hq).1 size rows hj;rw[tU];have:=(k4 j size rows hj).2.2 (Tof T0 X) (fun t j=>if t=d then pR j else h t j) (σ.new d (Kp d res) (Zr qs res.flatten)).ob
   cases q with
   |true=>exact this
   |false=>exact IX this (mz rfl)
 ·obtain⟨size,rows,hj⟩:=(Z8 qs res.flatten j hq).2 wC;exact(k4 j size rows hj).2.1 b hb
 ·obtain⟨size,rows,hj⟩:=(Z8 qs res.flatten j hq).2 wC;have:=k2 j b ((k4 j size rows hj).1 b hb)
  exact⟨.inr this,(hM b this).2.1,(hM b this).2.2.1⟩
 ·obtain⟨size,rows,hj⟩:=(Z8 qs res.flatten j hq).2 wC;obtain⟨wi,wQ,uh⟩:=(Z8 qs res.flatten j' hq).2 wq;exact k3 j j' b ((k4 j size rows hj).1 b hb) ((k4 j' wi wQ uh).1 b wP)
theorem Rel.Mf(r:Rel T0 B σ a w X h){cells:List At}(ho:σ.ob t 0= .box cells)(hv:(h t 0).v=ptr b)(vK:w.heap.size<=w'.heap.size)(hw:∀k,k<w.heap.size->k≠b->w'.heap[k]?=w.heap[k]?)
  (hX:∀b,X b->X' b) (sh:∀b,X' b->X b\/(w.heap.size<=b/\b<w'.heap.size)) (tQ:∃cs e,w'.heap[b]?=some (.cells cs e (0,0))/\ZU (Rd (Tof T0 X') w') cs.toList wN):Rel T0 B (σ.ZT t 0 (.box (wN.map .d))) a w' X' h:=by
 have wW:σ.ob t 0≠ .none:=fi;have vM:blk (h t 0).v=some b:=by rw[hv];rfl
 have vR:=r.ub t 0 b wW vM;have iD:=r.own t 0 b wW vR;have hT:∀k i v,Tof T0 X k i->w.cell? ⟨k,i,none⟩=some v->w'.cell? ⟨k,i,none⟩=some v/\Tof T0 X' k i:=by
  intro k i v hk hc;refine⟨?_,hk.imp id (hX k)⟩;have wC:k≠b:=by
   rintro rfl;rcases hk with hk|hk
   ·exact iD.1 (r.hT _ _ hk)
   ·exact iD.2.1 hk
  rw[World.cell?_of_block (hw k (r.Tlt hk) wC)];exact hc
 have vG:∀u i,¬(u=t/\i=0)->(σ.ZT t 0 (.box (wN.map .d))).ob u i=σ.ob u i:=by intro u i wC;rw[St.YU σ t 0 _ u i wW,if_neg wC]
 have w6:(σ.ZT t 0 (.box (wN.map .d))).ob t 0= .box (wN.map .d):=by rw[St.YU σ t 0 _ t 0 wW];simp
 have m9:∀u i,Cpt h h σ.ob (σ.ZT t 0 (.box (wN.map .d))).ob u i:=by
  intro u i;by_cases hu:u=t/\i=0
  ·obtain⟨rfl,rfl⟩:=hu;refine⟨fun q size rows wV=>?_,fun size rows wV=>?_,fun wG wV=>⟨rfl,cells,ho⟩⟩
   ·rw[w6]at wV;cases wV
   ·rw[w6]at wV;cases wV
  ·exact Cpt.same rfl (vG u i hu)
 have at_:∀{x:At}{v:Value},(fun _=>false:At->Bool) x=false->Zf (Tof T0 X) h σ.ob w x v->Zf (Tof T0 X') h (σ.ZT t 0 (.box (wN.map .d))).ob w' x v:=fun _ rx=>Zf.LU hT m9 rx;have vI:∀u i,(σ.ZT t 0 (.box (wN.map .d))).ob u i≠ .none->σ.ob u i≠ .none:=by
  intro u i hn;by_cases hu:u=t/\i=0
  ·obtain⟨rfl,rfl⟩:=hu;exact wW
  ·rw[vG u i hu]at hn;exact hn
 refine⟨by rw[r.size,St.YD],r.defers,fun b hb=>Nat.lt_of_lt_of_le (r.hB b hb) vK,fun k hk=>?_,r.hT,fun u hu=>?_,fun u i=>?_,fun u i k hn=>r.ub u i k (vI u i hn),fun u i k hn hk=>?_,fun u i u' i' k hn wv=>r.inj u i u' i' k (vI u i hn) (vI u' i' wv)⟩
 ·rcases sh k hk with hk|hk
  ·have:=r.hX k hk;exact⟨this.1,fJ⟩
  ·exact⟨fun uo=>by have:=r.hB k uo;omega,hk.2⟩
 ·rw[St.YD]at hu;rw[St.Yf];exact Yu.map at_ (KQ _) (r.slot u hu)
 ·by_cases hu:u=t/\i=0
  ·obtain⟨rfl,rfl⟩:=hu;rw[w6];obtain⟨cs,e,hh,wE⟩:=tQ;exact⟨b,cs,e,hv,hh,yS wE⟩
  ·rw[vG u i hu];exact Xo.map at_ hT (fun ho b=>r.ub u i b ho) (fun hn k hk=>hw k (r.own u i k hn hk).2.2 (fun e=>by
    rw[e]at hk;obtain⟨e1,e2⟩:=r.inj u i t 0 b hn wW hk vR;exact hu ⟨e1,e2⟩)) (z8 _) (r.obj u i)
 ·have:=r.own u i k (vI u i hn) hk;refine⟨this.1,fun hx=>?_,fJ⟩;rcases sh k hx with hx|hx
  ·exact this.2.1 hx
  ·omega
def OT(dp:Bool)(σ:St)(d:Nat)(res:List (List D))(qs:List Bool):St:=match dp with|true=>σ.new d (Kp d res) (Zr qs res.flatten)|false=>σ.put d (Ki res)
theorem Vw(r:Rel T0 B σ a w X h){o:Oper}{xs:List Operand}{t0:TypeId}{row:List D}(qs:List Bool)(wA:o.op= .call cl)(hc:cl.callee= .value (.func f))(hd:o.dst=some d)
  (ha:cl.args.toList=x0::xs) (hg:gOf (look P σ t0 x0)=true) (hx:unc (look P σ t0 x0)= .one (.bptr t 0)) (ho:σ.ob t 0= .box (row.map .d)) (wH:Yq P σ xs ts wM) (wY:Zl P σ xs ts=true) (hs:Xe P f dp row wM wN res)
  (w8:dp=true->(σ.ZT t 0 (.box (wN.map .d))).fresh d=true/\zC qs res.flatten)
  (hK:∀a' w',Xx T0 B (OT dp (σ.ZT t 0 (.box (wN.map .d))) d res qs) a' w'->YL B w w'->K a' w'):o.wp P a w K Q:=by
 have wW:σ.ob t 0≠ .none:=fi;have gk:=r.arg (P:=P) t0 x0 hx hg;obtain⟨b,vP,hv⟩:=gk.2 _ ho;have v8:=r.obj t 0;rw[ho]at v8;obtain⟨b2,cs,e,wo,hh,wE⟩:=v8;rw[vP]at wo;have uo:b2=b:=fl;subst uo;have vM:blk (h t 0).v=some b2:=by rw[vP];rfl
 have vR:=r.ub t 0 b2 wW vM;have wI:=r.own t 0 b2 wW vR;have tW:=r.Yq true wH (fun _=>wY);simp only[if_true]at tW;unfold Oper.wp;rw[yg wA hc hs.1,Oper.upon_enter];rw[show(cl.args.toList.map a.eval).toArray=(ptr b2::xs.map a.eval).toArray by rw[ha];simp[hv]];have hT:∀k i,Tof T0 X k i->k<w.heap.size/\k≠b2:=by
  intro k i hk;refine⟨r.Tlt hk,?_⟩;rintro rfl;rcases hk with hk|hk
  ·exact wI.1 (r.hT _ _ hk)
  ·exact wI.2.1 hk
 refine(hs.2 (Tof T0 X) w b2 _ hT wI.2.2 ⟨cs,e,hh,jK wE⟩ tW).mono ?_;rintro e' w' ⟨vs,wc,Y,rfl,wZ,hY,⟨pS,e2,tH,tV⟩,wj,hlen,vf⟩;rw[hd];have se:∀{v:Value}{x:D},Rd (Tof (Tof T0 X) Y) w' v x->Rd (Tof T0 (fun k=>X k\/Y k)) w' v x:=fun hr=>hr.mono (fun k i v hk hc=>⟨hc,by
  rcases hk with(hk|hk)|hk
  ·exact .inl hk
  ·exact .inr (.inl hk)
  ·exact .inr (.inr hk)⟩)
 have r1:=r.Mf (w':=w') (X':=fun k=>X k\/Y k) (wN:=wN) ho vP wZ.size (fun k hk wC=>wZ.block k ⟨hk,wC⟩) (fun k hk=>.inl hk) (fun k hk=>hk.imp id (hY k)) ⟨pS,e2,tH,tV.imp fun _ _=>se⟩;have iE:YL B w w':=⟨wZ.os,wZ.tape,wZ.output,wZ.size,fun k hk=>wZ.block k ⟨r.hB k hk,fun e=>wI.1 (e▸hk)⟩⟩;cases dp with
 |false=>simp only[Bool.false_eq_true,if_false]at vf;exact hK _ _ ⟨_,_,r1.put d _ _ (Sv wj (Vj (fun _ _ _ _ _=>se) vf))⟩ iE
 |true=>
  simp only[if_true]at vf;obtain⟨lW,hq⟩:=w8 rfl;refine hK _ _ (r1.Hc lW (fun k=>w.heap.size<=k/\k<w'.heap.size/\¬Y k) (fun k hk=>⟨fun hb=>by have:=r.hB k hb;omega,?_,hk.2.1,fun u j hn hu=>?_⟩) qs wj hlen vf hq) iE
  ·rintro(hx|hy)
   ·have:=(r.hX k hx).2;omega
   ·exact hk.2.2 hy
  ·have wv:σ.ob u j≠ .none:=by
    by_cases hc:u=t/\j=0
    ·obtain⟨rfl,rfl⟩:=hc;exact wW
    ·rw[St.YU σ t 0 _ u j wW,if_neg hc]at hn;exact hn
   have:=(r.own u j k wv hu).2.2;omega
theorem Px(r:Rel T0 B σ a w X h){o:Oper}(wA:o.op= .call cl)(hc:cl.callee= .value (.func f))(hd:o.dst=some d)(w8:σ.fresh d=true)
  (wH:Yq P σ cl.args.toList cl.argTypes.toList wM) (wY:Zl P σ cl.args.toList cl.argTypes.toList=true) (hs:VN P f wM wN)
  (hK:∀a' w',Xx T0 B (σ.new d (.one (.bptr d 0)) [.box (wN.map .d)]) a' w'->YL B w w'->K a' w'):o.wp P a w K Q:=by
 have wO:=St.JG w8;have tW:=r.Yq true wH (fun _=>wY);simp only[if_true]at tW;unfold Oper.wp;rw[yg wA hc hs.1,Oper.upon_enter];refine(hs.2 (Tof T0 X) w _ (fun k i hk=>r.Tlt hk) tW).mono ?_;rintro e' w' ⟨b,Y,rfl,vY,vP,wo,hY,pS,e2,tH,tV⟩;rw[hd];have se:∀{v:Value}{x:D},Rd (Tof (Tof T0 X) Y) w' v x->Rd (Tof T0 (fun k=>X k\/Y k)) w' v x:=fun hr=>hr.mono (fun k i v hk hc=>⟨hc,by
  rcases hk with(hk|hk)|hk
  ·exact .inl hk
  ·exact .inr (.inl hk)
  ·exact .inr (.inr hk)⟩)
 have wW:(σ.new d (.one (.bptr d 0)) [.box (wN.map .d)]).ob d 0= .box (wN.map .d):=eC;refine hK _ _ ⟨fun k=>X k\/Y k,fun t j=>if t=d then Hd.of (ptr b)else h t j,?_⟩ (YL.WH vY r.hB);refine r.new w8 (Below.grownBy vY) (fun k hk=>.inl hk) (fun k hk=>hk.imp id (fun hy=>⟨(hY k hy).1,(hY k hy).2.1⟩)) _ _ _ (fun _=>Hd.of (ptr b)) ⟨rfl,fun cells _=>⟨b,by simp[Hd.of],rfl⟩⟩ (fun j=>?_) (fun j k _ hk=>hk) (fun j k _ hk=>?_) (fun i j k hi hj _ _=>?_)
 ·cases j with
  |zero=>exact⟨b,pS,e2,rfl,tH,yS (tV.imp fun _ _=>se)⟩
  |succ j=>simp[Zq,Xo]
 ·simp[Hd.of,blk]at hk;subst hk;refine⟨vP,?_,wo⟩;rintro(hx|hy)
  ·have:=(r.hX _ hx).2;omega
  ·exact(hY _ hy).2.2 rfl
 ·have hz:∀j,Zq [Ob.box (wN.map .d)] j≠ .none->j=0:=by
   intro j hj;cases j with
   |zero=>rfl
   |succ j=>simp[Zq]at hj
  rw[hz i hi,hz j hj]
section
theorem U4{d':Nat}(wC:d≠d')(wb:YG σ d=true):YG (OT dp σ d' res qs) d=true:=by
 cases dp with
 |false=>exact MK wC wb
 |true=>exact xe wC wb
attribute [simp] OT
theorem Ym{c:Code}(hf:P.funcs[f]?=some fn)(hb:fn.body=some c)(wT:j4 P f=true){row:List D}
  (hw:∀v,@WI P (KB fn.ntmps [] v (row.map .d) [] args) ⟨c⟩ (.fin (Hl P fn v dp wN res))):Xe P f dp row args wN res:=SR hf hb wT (fun v=>xU (hw v))
theorem KU(hf:fn.results=rv.toArray)(h:(Qv P σ rv).1/\σ.head?=some (.fix v (.one (.bptr 0 0)),.box (wN.map .d)::(σ.head?.map (fun e=>e.2.tail)).getD [])/\
  (if dp then Xn σ (Qv P σ rv).2=some res/\XU σ (Qv P σ rv).2/\(YF (Qv P σ rv).2.flatten).Nodup else zI σ (Qv P σ rv).2=some res)):Hl P fn v dp wN res .ret σ:=
 ⟨.inl rfl,⟨_,h.2.1⟩,_,by rw[hf];exact jf h.1,h.2.2⟩
theorem Mi{c:Code}(hf:P.funcs[f]?=some fn)(hb:fn.body=some c)(wT:j4 P f=true)
  (hw:@WI P (K0 fn.ntmps args) ⟨c⟩ (.fin (He P fn wN))):VN P f args wN:=SA hf hb wT (xU hw)
theorem Gw(u:Nat)(hf:fn.results=rv.toArray)(h:(Qv P σ rv).1/\(Qv P σ rv).2=[[.bptr u 0]]/\σ.ob u 0= .box (wN.map .d)):He P fn wN .ret σ:=
 ⟨.inl rfl,u,by rw[hf,<-h.2.1];exact jf h.1,h.2.2⟩
theorem NA{o:Oper}{xs:List Operand}{t0:TypeId}{row:List D}(qs:List Bool)(wA:o.op= .call cl)(hc:cl.callee= .value (.func f))(sK:o.guard=none)(hd:o.dst=some d)
  (ha:cl.args.toList=x0::xs) (hs:Xe P f dp row wM wN res) (hg:gOf (look P σ t0 x0)=true) (hx:unc (look P σ t0 x0)= .one (.bptr t 0)) (ho:σ.ob t 0= .box (row.map .d))
  (wH:Yq P σ xs ts wM) (wY:Zl P σ xs ts=true) (w8:dp=true->(σ.ZT t 0 (.box (wN.map .d))).fresh d=true/\zC qs res.flatten):H6 P ops o σ (OT dp (σ.ZT t 0 (.box (wN.map .d))) d res qs):=by
 have hm:∀z∈x0::xs,z∈o.op.operands.toList:=fun z hz=>by rw[wA];exact QX (by rw[ha];exact hz)
 refine⟨d,t,row.map .d,wN.map .d,cond dp (Kp d res) (Ki res),cond dp (some (Zr qs res.flatten)) none,hd,ho,⟨x0,xs,⟨f,cl.argTypes,?_⟩,t0,hx⟩,fun u=>⟨yp _,yp _⟩,fun u hu=>?_,fun hn=>?_,?_,fun σ2 hl tZ wW lT=>?_⟩
 ·rw[wA];obtain⟨c1,c2,c3⟩:=cl;simp only at hc ha⊢;rw[hc,<-ha]
 ·cases dp with
  |true=>have hu:=hu.resolve_left fM;exact⟨Tc hu res,fun l hl=>by cases hl;exact Qx u qs _⟩
  |false=>exact⟨RJ u res,fun l hl=>by cases hl⟩
 ·cases dp with
  |true=>exact(w8 rfl).1
  |false=>exact absurd rfl hn
 ·cases dp<;>rfl
 ·have we:Sub P o.op.operands.toList σ σ2:=⟨hl,tZ,wW⟩;have iF:Sub P xs σ σ2:=⟨hl,fun z hz=>tZ z (hm z (by simp[hz])),fun z hz=>wW z (hm z (by simp[hz]))⟩;have h0:=tZ x0 (hm x0 fM) t0;have ug:σ2.ob t 0= .box (row.map .d):=by rw[<-ho];exact wW x0 (hm x0 fM) t0 t (YS hx fb) 0 fi
  have e:Qy t d (wN.map .d) (cond dp (Kp d res) (Ki res)) (cond dp (some (Zr qs res.flatten)) none) σ2=OT dp (σ2.ZT t 0 (.box (wN.map .d))) d res qs:=by cases dp<;>rfl
  rw[e];refine⟨?_,fun d' wL wb=>U4 (fun e=>wL (by rw[hd,e])) (XV wb)⟩;rintro T0 B a w K Q' ⟨X,hh,r⟩ hK;have hw:Region.wanted o (yielded ops a.tmps)=true:=by simp[Region.wanted,sK]
  rw[if_pos hw];refine Vw r qs wA hc hd ha (by rw[<-h0];exact hg) (by rw[<-h0];exact hx) ug (zS iF wH) (by rw[zH iF];exact wY) hs (fun l8=>⟨?_,(w8 l8).2⟩) hK;subst l8;exact lT fM
theorem I9{xs:List Operand}{t0:TypeId}{row:List D}(qs:List Bool)(wA:o.o.op= .call cl)(hc:cl.callee= .value (.func f))(sK:o.o.guard=none)(hd:o.o.dst=some d)(wu:A.bar o.o=true)
  (ha:cl.args.toList=x0::xs) (gZ:cl.argTypes.toList=t0::ts) (hs:Xe P f dp row wM wN res) (hx:gOf (look P σ t0 x0)=true/\unc (look P σ t0 x0)= .one (.bptr t 0)) (ho:σ.ob t 0= .box (row.map .d))
  (wH:(YA P σ xs ts).1) (wR:(YA P σ xs ts).2=some wM) (wY:Zl P σ xs ts=true) (w8:dp=true->(σ.ZT t 0 (.box (wN.map .d))).fresh d=true/\zC qs res.flatten)
  (h:@EI P (OT dp (σ.ZT t 0 (.box (wN.map .d))) d res qs) A l k):@SI P σ A o l k:=by
 refine⟨_,.inr ⟨wu,?_,fun d' wL wb=>U4 (fun e=>wL (by rw[hd,e])) (XV wb),fun hh=>by simp[xM,wA]at hh,fun hh=>by first|(simp[z6,wA]at hh;done)|(unfold z6 at hh;rw[wA]at hh;split at hh<;>simp_all),fun _ _=>NA qs wA hc sK hd ha hs hx.1 hx.2 ho (Kb wH wR) wY w8⟩,XI h⟩;rintro T0 B a w K Q' ⟨X,hh,r⟩ hK;have hw:Region.wanted o.o (yielded A.ops a.tmps)=true:=by simp[Region.wanted,sK]
 rw[if_pos hw];exact Vw r qs wA hc hd ha hx.1 hx.2 ho (Kb wH wR) wY hs w8 hK
theorem GQ(wA:o.o.op= .call cl)(hc:cl.callee= .value (.func f))(sK:o.o.guard=none)(hd:o.o.dst=some d)(wu:A.bar o.o=true)(hs:VN P f wM wN)
  (wH:(YA P σ cl.args.toList cl.argTypes.toList).1) (wR:(YA P σ cl.args.toList cl.argTypes.toList).2=some wM) (wY:Zl P σ cl.args.toList cl.argTypes.toList=true) (w8:σ.fresh d=true)
  (h:@EI P (σ.new d (.one (.bptr d 0)) [.box (wN.map .d)]) A l k) (u4:QJ P o.o=false:=by exact rfl):@SI P σ A o l k:=by
 refine⟨_,.inr ⟨wu,?_,fun d' wL wb=>xe (fun e=>wL (by rw[hd,e])) wb,fun hh=>by simp[xM,wA]at hh,fun hh=>by first|(simp[z6,wA]at hh;done)|(unfold z6 at hh;rw[wA]at hh;split at hh<;>simp_all),fun hh _=>by rw[u4]at hh;cases hh⟩,XI h⟩;rintro T0 B a w K Q' ⟨X,hh,r⟩ hK;have hw:Region.wanted o.o (yielded A.ops a.tmps)=true:=by simp[Region.wanted,sK]
 rw[if_pos hw];exact Px r wA hc hd w8 (Kb wH wR) wY hs hK
end
open Go.RowKit
def GM(n sz:Nat)(rows:List (List D))(args:List (List D)):St:=(.one (.sref 0 0 0 rows.length),[.arr false sz rows])::(kn args++List.replicate (n-(args.length+1)) (V.any,[]))
def At.isO(u:Nat):At->Bool
 |.sref t _ _ _=>t==u
 |.ptr t _ _ _=>t==u
 |.tref t _ _ _ _=>t==u
 |_=>false
open Go.RowKit
attribute [simp] KB GM At.isO
open Go.RowKit
open Go.RowKit
theorem cR{own:Bool}(hs:Y0 P f own rows res)(h:@EI P (σ.put d (Ki res)) A l k)(wA:o.o.op= .call c:=by exact rfl)(hc:c.callee= .value (.func f):=by exact rfl)(hg:o.o.guard=none:=by exact rfl)(hd:o.o.dst=some d:=by exact rfl)
  (wR:(YA P σ c.args.toList c.argTypes.toList).2=some rows:=by simp) (wH:(YA P σ c.args.toList c.argTypes.toList).1:=by simp) (wY:Zl P σ c.args.toList c.argTypes.toList=true\/X4 own res:=by simp):@SI P σ A o l k:=
 Rb wA hc hg hd hs wR wH wY h
@[simp] abbrev eI (t : Nat) (n : Int) : Nat × V × List Ob := (t, .one (.d (.int .i64 n)), [])
@[simp] abbrev eB (t : Nat) (b : Bool) : Nat × V × List Ob := (t, .one (.d (.bool b)), [])
@[simp] abbrev eL {α : Type} (t s : Nat) (l : List α) (f : α -> List D) : Nat × V × List Ob := (t, .one (.d (.sl s (l.map f))), [])
@[simp] abbrev eP (t u c : Nat) : Nat × V × List Ob := (t, .one (.bptr u c), [])
@[simp] abbrev eG (t : Nat) (xs : List At) : Nat × V × List Ob := (t, .agg xs, [])
@[simp] abbrev eX (t : Nat) (xs : List At) : Nat × V × List Ob := (t, .one (.bptr t 0), [.box xs])
open Go.RowKit
variable{br bar:Oper->Bool}{xc yc:KA}
structure Me{α:Type}(x y:α):Prop where
 h:x=y
structure Bx(p:Prop):Prop where
 h:p
theorem me{α:Type}{x y:α}(h:x=y):Me x y:=⟨h⟩
theorem ms{α β:Type}{x y y':α}{l r:β}(f:Me x y)(e:Me l r)(h:l=r->y=y':=by intro e;simp only[e];exact rfl):Me x y':=⟨f.h.trans (h e.h)⟩
theorem an(h:p)(k:q):p/\q:=⟨h,k⟩
theorem ix{α:Type}{v:Nat}{l:List α}(h:decide ((v:Int)<(l.length:Int))=true):v<l.length:=eS
theorem ml{α:Type}(l:List α)(m:q)(h:q->l.length<=9223372036854775807:=by intro m;simpa using m):l.length<=9223372036854775807:=h m
theorem wr(n:Nat)(h:(n:Int)+1<=9223372036854775807:=by first|omega|(simp only[decide_eq_true_eq,decide_eq_false_iff_not,beq_iff_eq,beq_eq_false_iff_ne,bne_iff_ne,ne_eq,Bool.or_eq_false_iff,Bool.or_eq_true,Bool.and_eq_true,Bool.not_eq_true',Bool.not_eq_false']at*;omega)):IntKind.i64.wrap ((n:Int)+1)=(n:Int)+1:=Ya fJ fJ
theorem so{own:Bool}{args res:List (List D)}(hf:P.funcs[f]?=some fn)(hn:fn.ntmps=n)(h:p){c:Code}(hb:fn.body=some c:=by exact rfl)(wT:j4 P f=true:=by kernel_rfl)
  (kk:Bx p->@WI P (K0 n args) ⟨c⟩ (.fin (Mt P fn own res)):=by exact eg):Y0 P f own args res:=LJ hf hb wT (by rw[hn];exact kk ⟨h⟩)
theorem soD{args res:List (List D)}(hf:P.funcs[f]?=some fn)(hn:fn.ntmps=n)(h:p){c:Code}(hb:fn.body=some c:=by exact rfl)(wT:j4 P f=true:=by kernel_rfl)
  (kk:Bx p->@WI P (K0 n args) ⟨c⟩ (.fin (Lz P fn res)):=by exact eg):Zp P f args res:=Mm hf hb wT (by rw[hn];exact kk ⟨h⟩)
theorem cF{α:Type}{u y z:α}{b c:Bool}{xc yc:KA}(f:Me u (bif c then y else z))(ht:xx σ->c=true->Me u y->p)(hf:xx σ->c=false->Me u z->q)(hc:c=b:=by simp)(kt:Bx p->@WI P σ xc k:=by exact eg)(kf:Bx q->@WI P σ yc k:=by exact eg):@CI P b σ xc yc k:=
 Sf hc (fun s h=>kt ⟨ht s h ⟨f.h.trans eH⟩⟩) (fun s h=>kf ⟨hf s h ⟨f.h.trans eH⟩⟩)
theorem cFt{α:Type}{u y z:α}{b c:Bool}{xc:KA}(f:Me u (bif c then y else z))(ht:xx σ->c=true->Me u y->p)(hf:xx σ->c=false->Me u z->@WI P σ yc k)(hc:c=b:=by simp)(kt:Bx p->@WI P σ xc k:=by exact eg):@CI P b σ xc yc k:=
 Sf hc (fun s h=>kt ⟨ht s h ⟨f.h.trans eH⟩⟩) (fun s h=>hf s h ⟨f.h.trans eH⟩)
theorem cFf{α:Type}{u y z:α}{b c:Bool}{yc:KA}(f:Me u (bif c then y else z))(ht:xx σ->c=true->Me u y->@WI P σ xc k)(hf:xx σ->c=false->Me u z->q)(hc:c=b:=by simp)(kf:Bx q->@WI P σ yc k:=by exact eg):@CI P b σ xc yc k:=
 Sf hc (fun s h=>ht s h ⟨f.h.trans eH⟩) (fun s h=>kf ⟨hf s h ⟨f.h.trans eH⟩⟩)
theorem cFo{α:Type}{u y z:α}{b c:Bool}(f:Me u (bif c then y else z))(ht:xx σ->c=true->Me u y->@WI P σ xc k)(hf:xx σ->c=false->Me u z->@WI P σ yc k)(hc:c=b:=by simp):@CI P b σ xc yc k:=
 Sf hc (fun s h=>ht s h ⟨f.h.trans eH⟩) (fun s h=>hf s h ⟨f.h.trans eH⟩)
theorem cK{α:Type}{u y z:α}{b c:Bool}{xc yc:KA}(f:Me u (bif c then y else z))(ht:xx σ->c=true->Me u y->p)(hf:xx σ->c=false->Me u z->q)(hc:c=b:=by first|(simp[G];done)|grind)(kt:Bx p->@WI P σ xc k:=by exact ei)(kf:Bx q->@WI P σ yc k:=by exact ei):@CI P b σ xc yc k:=
 Sf hc (fun s h=>kt ⟨ht s h ⟨f.h.trans eH⟩⟩) (fun s h=>kf ⟨hf s h ⟨f.h.trans eH⟩⟩)
theorem cKo{α:Type}{u y z:α}{b c:Bool}(f:Me u (bif c then y else z))(ht:xx σ->c=true->Me u y->@WI P σ xc k)(hf:xx σ->c=false->Me u z->@WI P σ yc k)(hc:c=b:=by first|(simp[G];done)|grind):@CI P b σ xc yc k:=
 Sf hc (fun s h=>ht s h ⟨f.h.trans eH⟩) (fun s h=>hf s h ⟨f.h.trans eH⟩)
theorem cRs{A:QT}{l:Q9}{d:Nat}{own:Bool}(hs:Y0 P f own rows res)(h:p)(wA:o.o.op= .call c:=by exact rfl)(hc:c.callee= .value (.func f):=by exact rfl)(hg:o.o.guard=none:=by exact rfl)(hd:o.o.dst=some d:=by exact rfl)(wR:(YA P σ c.args.toList c.argTypes.toList).2=some rows:=by simp)(wH:(YA P σ c.args.toList c.argTypes.toList).1:=by simp)(wY:Zl P σ c.args.toList c.argTypes.toList=true\/X4 own res:=by simp)(kk:Bx p->@EI P (σ.put d (Ki res)) A l k:=by exact eg):@SI P σ A o l k:=Rb wA hc hg hd hs wR wH wY (kk ⟨h⟩)
theorem cRf{A:QT}{l:Q9}{d:Nat}{own:Bool}(F:q)(hs:Y0 P f own rows res)(h:p)(wA:o.o.op= .call c:=by exact rfl)(hc:c.callee= .value (.func f):=by exact rfl)(hg:o.o.guard=none:=by exact rfl)(hd:o.o.dst=some d:=by exact rfl)(wR:(YA P σ c.args.toList c.argTypes.toList).2=some rows:=by simp)(wH:(YA P σ c.args.toList c.argTypes.toList).1:=by simp)(wY:Zl P σ c.args.toList c.argTypes.toList=true\/X4 own res:=by simp)(kk:q->Bx p->@EI P (σ.put d (Ki res)) A l k:=by(intro F z;simp[F,Go.Vm.ZI];(repeat(with_reducible refine Go.Mo.sd ?_));exact z.h)):@SI P σ A o l k:=Rb wA hc hg hd hs wR wH wY (kk F ⟨h⟩)
theorem cOs{A:QT}{l:Q9}{d:Nat}(hs:Y0 P f true rows res)(h:p)(wA:o.o.op= .call c:=by exact rfl)(hc:c.callee= .value (.func f):=by exact rfl)(hg:o.o.guard=none:=by exact rfl)(hd:o.o.dst=some d:=by exact rfl)(wR:(YA P σ c.args.toList c.argTypes.toList).2=some rows:=by simp)(wH:(YA P σ c.args.toList c.argTypes.toList).1:=by simp)(wY:Zl P σ c.args.toList c.argTypes.toList=true\/X4 true res:=by simp)(hf:σ.fresh d=true:=by simp)(kk:Bx p->@EI P (σ.new d (Kp d res) (JV res.flatten)) A l k:=by exact eg):@SI P σ A o l k:=Lq wA hc hg hd hs wR wH wY hf (kk ⟨h⟩)
theorem cDg{A:QT}{l:Q9}{d:Nat}(qs:List Bool)(hs:Zp P f rows res)(h:p)(wA:o.o.op= .call c:=by exact rfl)(hc:c.callee= .value (.func f):=by exact rfl)(hg:o.o.guard=none:=by exact rfl)(hd:o.o.dst=some d:=by exact rfl)(wR:(YA P σ c.args.toList c.argTypes.toList).2=some rows:=by simp)(wH:(YA P σ c.args.toList c.argTypes.toList).1:=by simp)(hq:zC qs res.flatten:=by simp[-Bool.exists_bool,-Bool.forall_bool])(hf:σ.fresh d=true:=by simp)(kk:Bx p->@EI P (σ.new d (Kp d res) (Zr qs res.flatten)) A l k:=by exact ei):@SI P σ A o l k:=O8 qs wA hc hg hd hs wR wH hq hf (kk ⟨h⟩)
theorem cDs{A:QT}{l:Q9}{d:Nat}(qs:List Bool)(hs:Zp P f rows res)(h:p)(wA:o.o.op= .call c:=by exact rfl)(hc:c.callee= .value (.func f):=by exact rfl)(hg:o.o.guard=none:=by exact rfl)(hd:o.o.dst=some d:=by exact rfl)(wR:(YA P σ c.args.toList c.argTypes.toList).2=some rows:=by simp)(wH:(YA P σ c.args.toList c.argTypes.toList).1:=by simp)(hq:zC qs res.flatten:=by simp[-Bool.exists_bool,-Bool.forall_bool])(hf:σ.fresh d=true:=by simp)(kk:Bx p->@EI P (σ.new d (Kp d res) (Zr qs res.flatten)) A l k:=by exact eg):@SI P σ A o l k:=O8 qs wA hc hg hd hs wR wH hq hf (kk ⟨h⟩)
theorem cDf{A:QT}{l:Q9}{d:Nat}(F:q)(qs:List Bool)(hs:Zp P f rows res)(h:p)(wA:o.o.op= .call c:=by exact rfl)(hc:c.callee= .value (.func f):=by exact rfl)(hg:o.o.guard=none:=by exact rfl)(hd:o.o.dst=some d:=by exact rfl)(wR:(YA P σ c.args.toList c.argTypes.toList).2=some rows:=by simp)(wH:(YA P σ c.args.toList c.argTypes.toList).1:=by simp)(hq:zC qs res.flatten:=by simp[-Bool.exists_bool,-Bool.forall_bool])(hf:σ.fresh d=true:=by simp)(kk:q->Bx p->@EI P (σ.new d (Kp d res) (Zr qs res.flatten)) A l k:=by(intro F z;simp[F,Go.Vm.ZI];(repeat(with_reducible refine Go.Mo.sd ?_));exact z.h)):@SI P σ A o l k:=O8 qs wA hc hg hd hs wR wH hq hf (kk F ⟨h⟩)
theorem cGo{j dj:Nat}{want own:Bool}{res:List D}(hs:g=true->Y0 P f own rows [res])(h:@EI P (σ.put d (.cnd g (Ki [res]))) A l k)(wA:o.o.op= .call c:=by exact rfl)(hc:c.callee= .value (.func f):=by exact rfl)(hg:o.o.guard=some (j,want):=by exact rfl)(hd:o.o.dst=some d:=by exact rfl)(vk:(A.ops[j]?).bind (·.dst)=some dj:=by exact rfl)(vz:zE want (σ.get dj)=some g:=by exact rfl)(wR:(YA P σ c.args.toList c.argTypes.toList).2=some rows:=by first|(simp;done)|(simp[G];done)|(simp[G];omega)|(simp_all;done))(wO:dj<σ.length:=by first|(simp;done)|(simp[G];done)|(simp[G];omega)|(simp_all;done))(wH:g=true->(YA P σ c.args.toList c.argTypes.toList).1:=by first|(simp;done)|(simp[G];done)|(simp[G];omega)|(simp_all;done))(wY:Zl P σ c.args.toList c.argTypes.toList=true\/X4 own [res]:=by first|(simp;done)|(simp[G];done)|(simp[G];omega)|(simp_all;done)):@SI P σ A o l k:=NQ wA hc hg hd vk vz hs wR wO wH wY h
theorem cGg{A:QT}{l:Q9}{d:Nat}{j dj:Nat}{want own:Bool}{res:List D}(hs:g=true->Y0 P f own rows [res])(h:p)(wA:o.o.op= .call c:=by exact rfl)(hc:c.callee= .value (.func f):=by exact rfl)(hg:o.o.guard=some (j,want):=by exact rfl)(hd:o.o.dst=some d:=by exact rfl)(vk:(A.ops[j]?).bind (·.dst)=some dj:=by exact rfl)(vz:zE want (σ.get dj)=some g:=by exact rfl)(wR:(YA P σ c.args.toList c.argTypes.toList).2=some rows:=by first|(simp;done)|(simp[G];done)|(simp[G];omega)|(simp_all;done))(wO:dj<σ.length:=by first|(simp;done)|(simp[G];done)|(simp[G];omega)|(simp_all;done))(wH:g=true->(YA P σ c.args.toList c.argTypes.toList).1:=by first|(simp;done)|(simp[G];done)|(simp[G];omega)|(simp_all;done))(wY:Zl P σ c.args.toList c.argTypes.toList=true\/X4 own [res]:=by first|(simp;done)|(simp[G];done)|(simp[G];omega)|(simp_all;done))(kk:Bx p->@EI P (σ.put d (.cnd g (Ki [res]))) A l k:=by exact ei):@SI P σ A o l k:=NQ wA hc hg hd vk vz hs wR wO wH wY (kk ⟨h⟩)
theorem cGs{A:QT}{l:Q9}{d:Nat}{j dj:Nat}{want own:Bool}{res:List D}(hs:g=true->Y0 P f own rows [res])(h:p)(wA:o.o.op= .call c:=by exact rfl)(hc:c.callee= .value (.func f):=by exact rfl)(hg:o.o.guard=some (j,want):=by exact rfl)(hd:o.o.dst=some d:=by exact rfl)(vk:(A.ops[j]?).bind (·.dst)=some dj:=by exact rfl)(vz:zE want (σ.get dj)=some g:=by exact rfl)(wR:(YA P σ c.args.toList c.argTypes.toList).2=some rows:=by simp)(wO:dj<σ.length:=by simp)(wH:g=true->(YA P σ c.args.toList c.argTypes.toList).1:=by simp)(wY:Zl P σ c.args.toList c.argTypes.toList=true\/X4 own [res]:=by simp)(kk:Bx p->@EI P (σ.put d (.cnd g (Ki [res]))) A l k:=by exact eg):@SI P σ A o l k:=NQ wA hc hg hd vk vz hs wR wO wH wY (kk ⟨h⟩)
theorem cBo{x0:Operand}{xs:List Operand}{t0:TypeId}{ts:List TypeId}{row:List D}(qs:List Bool)(hs:Xe P f dp row wM wN res)(h:@EI P (OT dp (σ.ZT t 0 (.box (wN.map .d))) d res qs) A l k)(wA:o.o.op= .call cl:=by exact rfl)(hc:cl.callee= .value (.func f):=by exact rfl)(sK:o.o.guard=none:=by exact rfl)(hd:o.o.dst=some d:=by exact rfl)(wu:A.bar o.o=true:=by exact rfl)(ha:cl.args.toList=x0::xs:=by exact rfl)(uz:cl.argTypes.toList=t0::ts:=by exact rfl)(hx:gOf (look P σ t0 x0)=true/\unc (look P σ t0 x0)= .one (.bptr t 0):=by exact⟨rfl,rfl⟩)(ho:σ.ob t 0= .box (row.map .d):=by simp)(wH:(YA P σ xs ts).1:=by simp)(wR:(YA P σ xs ts).2=some wM:=by simp)(wY:Zl P σ xs ts=true:=by simp)(w8:dp=true->(σ.ZT t 0 (.box (wN.map .d))).fresh d=true/\zC qs res.flatten:=by simp[-Bool.exists_bool,-Bool.forall_bool]):@SI P σ A o l k:=I9 qs wA hc sK hd wu ha uz hs hx ho wH wR wY w8 h
theorem cBs{A:QT}{l:Q9}{d:Nat}{x0:Operand}{xs:List Operand}{t0:TypeId}{ts:List TypeId}{row:List D}{t:Nat}(qs:List Bool)(hs:Xe P f dp row wM wN res)(h:p)(wA:o.o.op= .call cl:=by exact rfl)(hc:cl.callee= .value (.func f):=by exact rfl)(sK:o.o.guard=none:=by exact rfl)(hd:o.o.dst=some d:=by exact rfl)(wu:A.bar o.o=true:=by exact rfl)(ha:cl.args.toList=x0::xs:=by exact rfl)(uz:cl.argTypes.toList=t0::ts:=by exact rfl)(hx:gOf (look P σ t0 x0)=true/\unc (look P σ t0 x0)= .one (.bptr t 0):=by exact⟨rfl,rfl⟩)(ho:σ.ob t 0= .box (row.map .d):=by simp)(wH:(YA P σ xs ts).1:=by simp)(wR:(YA P σ xs ts).2=some wM:=by simp)(wY:Zl P σ xs ts=true:=by simp)(w8:dp=true->(σ.ZT t 0 (.box (wN.map .d))).fresh d=true/\zC qs res.flatten:=by simp[-Bool.exists_bool,-Bool.forall_bool])(kk:Bx p->@EI P (OT dp (σ.ZT t 0 (.box (wN.map .d))) d res qs) A l k:=by exact eg):@SI P σ A o l k:=I9 qs wA hc sK hd wu ha uz hs hx ho wH wR wY w8 (kk ⟨h⟩)
theorem cNs{A:QT}{l:Q9}{d:Nat}(hs:VN P f wM wN)(h:p)(wA:o.o.op= .call cl:=by exact rfl)(hc:cl.callee= .value (.func f):=by exact rfl)(sK:o.o.guard=none:=by exact rfl)(hd:o.o.dst=some d:=by exact rfl)(wu:A.bar o.o=true:=by exact rfl)(wH:(YA P σ cl.args.toList cl.argTypes.toList).1:=by simp)(wR:(YA P σ cl.args.toList cl.argTypes.toList).2=some wM:=by simp)(wY:Zl P σ cl.args.toList cl.argTypes.toList=true:=by simp)(w8:σ.fresh d=true:=by simp)(u4:QJ P o.o=false:=by exact rfl)(kk:Bx p->@EI P (σ.new d (.one (.bptr d 0)) [.box (wN.map .d)]) A l k:=by exact eg):@SI P σ A o l k:=GQ wA hc sK hd wu hs wH wR wY w8 (kk ⟨h⟩) u4
theorem dIo{id:Nat}{l:List Oper}{br:Oper->Bool}(hm:P.follows .mixedOrders=true)(h:@EI P σ ⟨⟨l⟩,fun _=>false⟩ ⟨l⟩ k)(hdr:Vv P ⟨l⟩ (fun i=>i) (fun _=>false)=true:=by kernel_rfl)(wb:Qi ⟨l⟩ (fun i=>i) σ=true:=by kernel_rfl):@DI P id σ ⟨⟨l⟩,br⟩ k:=HE hm hdr wb h
theorem dIs{id:Nat}{l:List Oper}{br:Oper->Bool}(hm:P.follows .mixedOrders=true)(h:p)(hdr:Vv P ⟨l⟩ (fun i=>i) (fun _=>false)=true:=by kernel_rfl)(wb:Qi ⟨l⟩ (fun i=>i) σ=true:=by kernel_rfl)(kk:Bx p->@EI P σ ⟨⟨l⟩,fun _=>false⟩ ⟨l⟩ k:=by(intro z;(try simp);(repeat(with_reducible refine Go.Mo.sd ?_));exact z.h)):@DI P id σ ⟨⟨l⟩,br⟩ k:=HE hm hdr wb (kk ⟨h⟩)
theorem eIs{A:QT}{l:Q9}{d:Nat}(h:p)(hp:RM o.o=true:=by exact rfl)(hg:o.o.guard=none:=by exact rfl)(hd:o.o.dst=some d:=by exact rfl)(kk:Bx p->(evS P σ o.o d).1/\@EI P (evS P σ o.o d).2 A l k:=by exact eg):@SI P σ A o l k:=evI hp hg hd (kk ⟨h⟩)
theorem sGo{dj:Nat}{g:Bool}(h:@EI P (σ.put d (.cnd false .any)) A l k)(hg:o.o.guard=some (j,want):=by exact rfl)(hd:o.o.dst=some d:=by exact rfl)(vk:(A.ops[j]?).bind (·.dst)=some dj:=by exact rfl)(vz:zE want (σ.get dj)=some g:=by exact rfl)(wO:dj<σ.length:=by simp)(nc:g=false:=by simp[G]):@SI P σ A o l k:=HP hg hd vk vz wO nc h
theorem sGg{A:QT}{l:Q9}{dj d:Nat}{g:Bool}(h:p)(hg:o.o.guard=some (j,want):=by exact rfl)(hd:o.o.dst=some d:=by exact rfl)(vk:(A.ops[j]?).bind (·.dst)=some dj:=by exact rfl)(vz:zE want (σ.get dj)=some g:=by exact rfl)(wO:dj<σ.length:=by simp)(nc:g=false:=by simp[G])(kk:Bx p->@EI P (σ.put d (.cnd false .any)) A l k:=by exact ei):@SI P σ A o l k:=HP hg hd vk vz wO nc (kk ⟨h⟩)
theorem gIf{j dj:Nat}{want g:Bool}(ht:r1->((evV P σ o.o.op o.o.type).1/\gOf (evV P σ o.o.op o.o.type).2=true/\(unc (evV P σ o.o.op o.o.type).2).flat=true)/\@EI P (σ.put d (.cnd true (unc (evV P σ o.o.op o.o.type).2))) A l k)(hf:r2->q)(wA:Rg o.o.op=false:=by exact rfl)(hg:o.o.guard=some (j,want):=by exact rfl)(hd:o.o.dst=some d:=by exact rfl)(vk:(A.ops[j]?).bind (·.dst)=some dj:=by exact rfl)(vz:zE want (σ.get dj)=some g:=by exact rfl)(wO:dj<σ.length:=by simp)(k1:g=true->r1:=by exact ej)(k2:g=false->r2:=by exact ej)(kf:r2->Bx q->@EI P (σ.put d (.cnd false .any)) A l k:=by(intro G z;simp[G,Go.Vm.ZI];(repeat(with_reducible refine Go.Mo.sdg ?_));exact z.h)):@SI P σ A o l k:=Ox wA hg hd vk vz wO (fun h=>ht (k1 h)) (fun h=>(fun G=>kf G ⟨hf G⟩) (k2 h))
theorem gIo{j dj:Nat}{want g:Bool}(ht:r1->((evV P σ o.o.op o.o.type).1/\gOf (evV P σ o.o.op o.o.type).2=true/\(unc (evV P σ o.o.op o.o.type).2).flat=true)/\@EI P (σ.put d (.cnd true (unc (evV P σ o.o.op o.o.type).2))) A l k)(hf:r2->@EI P (σ.put d (.cnd false .any)) A l k)(wA:Rg o.o.op=false:=by exact rfl)(hg:o.o.guard=some (j,want):=by exact rfl)(hd:o.o.dst=some d:=by exact rfl)(vk:(A.ops[j]?).bind (·.dst)=some dj:=by exact rfl)(vz:zE want (σ.get dj)=some g:=by exact rfl)(wO:dj<σ.length:=by simp)(k1:g=true->r1:=by exact ej)(k2:g=false->r2:=by exact ej):@SI P σ A o l k:=Ox wA hg hd vk vz wO (fun h=>ht (k1 h)) (fun h=>hf (k2 h))
theorem gK{j dj:Nat}{want g:Bool}(ht:r1->((evV P σ o.o.op o.o.type).1/\gOf (evV P σ o.o.op o.o.type).2=true/\(unc (evV P σ o.o.op o.o.type).2).flat=true)/\@EI P (σ.put d (.cnd true (unc (evV P σ o.o.op o.o.type).2))) A l k)(wA:Rg o.o.op=false:=by exact rfl)(hg:o.o.guard=some (j,want):=by exact rfl)(hd:o.o.dst=some d:=by exact rfl)(vk:(A.ops[j]?).bind (·.dst)=some dj:=by exact rfl)(vz:zE want (σ.get dj)=some g:=by exact rfl)(wO:dj<σ.length:=by simp)(k1:g=true->r1:=by exact ej)(k2:g=false->False:=by first|(intro g0;simp at g0;done)|(intro g0;simp[G]at g0;done)):@SI P σ A o l k:=Ox wA hg hd vk vz wO (fun h=>ht (k1 h)) (fun h=>(k2 h).elim)
theorem rt{α:Type}{x y:α}{res:List (List D)}(rv:List ResultVar)(f:Me x y)(hf:fn.results=rv.toArray:=by exact rfl)(h:x=y->(Qv P σ rv).1/\zI σ (Qv P σ rv).2=some res:=by(intro f;simp[f])):Mt P fn false res .ret σ:=HF hf (h f.h)
theorem rtg{α:Type}{x y:α}{res:List (List D)}(rv:List ResultVar)(f:Me x y)(hf:fn.results=rv.toArray:=by exact rfl)(h:x=y->(Qv P σ rv).1/\zI σ (Qv P σ rv).2=some res:=by(intro f;simp[f,G])):Mt P fn false res .ret σ:=HF hf (h f.h)
theorem rtD{α:Type}{x y:α}{res:List (List D)}(rv:List ResultVar)(f:Me x y)(hf:fn.results=rv.toArray:=by exact rfl)(h:x=y->(Qv P σ rv).1/\Xn σ (Qv P σ rv).2=some res/\XU σ (Qv P σ rv).2/\(YF (Qv P σ rv).2.flatten).Nodup:=by(intro f;simp[f,-Bool.exists_bool,-Bool.forall_bool])):Lz P fn res .ret σ:=Gj hf (h f.h)
class NxI where
 p:St->Prop
def Nx(σ:St)[n:NxI]:Prop:=n.p σ
theorem kZ{c:KA}{n n':St->Prop}(hn:∀σ',n σ'->n' σ')(h:@WI P σ c (.nxt n k)):AWP P c.c (Fr.run P (.nxt n' k)) σ:=
 Ps (fun e σ' hq=>by cases e<;>first|exact hn _ hq|exact hq) (xU h)
abbrev Q1{R:Type}{A0:Type}(L:Nat->A0->R)(S:A0->St)(I:Nat->A0->Prop)(t:R)(b:Nat):NxI:=⟨fun τ=>∃a0,Me t (L b a0)/\(1<=b/\I b a0)/\Wk τ (S a0)⟩
theorem nx1{R:Type}{A0:Type}{L:Nat->A0->R}{S:A0->St}{I:Nat->A0->Prop}{t:R}{a0:A0}(e:Me t (L b a0))(hI:1<=b/\I b a0:=by exact eh)(hw:Wk σ (S a0):=by exact Qb fM):@Nx σ (Q1 L S I t b):=⟨a0,e,hI,hw⟩
theorem ny1{R:Type}{A0:Type}{L:Nat->A0->R}{S:A0->St}{I:Nat->A0->Prop}{t:R}{a0:A0}(F:q)(e:Me t (L b a0))(hI:1<=b/\I b a0:=by exact eh)(kw:q->Wk σ (S a0):=by(intro F;exact Qb (by simp[F]))):@Nx σ (Q1 L S I t b):=⟨a0,e,hI,kw F⟩
theorem lp1{c:KA}{R:Type}{A0:Type}{L B:Nat->A0->R}(hL:∀(a0:A0)(n:Nat),L (Nat.succ n) a0=B n a0)(S:A0->St)(I:Nat->A0->Prop)(n0:Nat)(b0:A0){p:Nat->A0->Prop}
  (round:∀n (a0:A0),Me (L n0 b0) (B n a0)->1<=n+1/\I (n+1) a0->p n a0) (hI:1<=n0/\I n0 b0:=by first|omega|(dsimp only;omega)|simp) (h0:Wk σ (S b0):=by exact Qb fM) (kk:∀n (a0:A0),Bx (p n a0)->@WI P (S a0) c (.nxt (fun σ'=>@Nx σ' (Q1 L S I (L n0 b0) n)) k):=by(intro n_ ng z;simp;(repeat(with_reducible refine Go.Mo.sd ?_));exact z.h)):@jN P σ c k:=by
 refine yT (ι:={s:Nat×A0//Me (L n0 b0) (L s.1 s.2)/\(1<=s.1/\I s.1 s.2)}) (fun s=>S s.1.2) (fun s=>s.1.1) ⟨(n0,b0),⟨rfl⟩,hI⟩ h0 ?_;rintro⟨⟨n1,a0⟩,e,j⟩;obtain⟨n,rfl⟩:∃q,n1=q+1:=⟨n1-1,by have:=j.1;(try dsimp only at this);omega⟩;refine kZ (fun σ' hn=>?_) (kk n a0 ⟨round n a0 ⟨by have:=e.h;(try dsimp only at this);rw[this,hL]⟩ j⟩);obtain⟨c0,e2,j2,w2⟩:=hn;exact⟨⟨(n,c0),e2,j2⟩,Nat.lt_succ_self n,w2⟩
theorem Gp{c:KA}{R:Type}{A0:Type}{L B:Nat->A0->R}(hL:∀(a0:A0)(n:Nat),L (Nat.succ n) a0=B n a0)(S:A0->St)(I:Nat->A0->Prop)(n0:Nat)(b0:A0)
  (round:∀n (a0:A0),Me (L n0 b0) (B n a0)->1<=n+1/\I (n+1) a0->@WI P (S a0) c (.nxt (fun σ'=>@Nx σ' (Q1 L S I (L n0 b0) n)) k)) (hI:1<=n0/\I n0 b0:=by first|omega|(dsimp only;omega)|simp) (h0:Wk σ (S b0):=by exact Qb fM):@jN P σ c k:=by
 refine yT (ι:={s:Nat×A0//Me (L n0 b0) (L s.1 s.2)/\(1<=s.1/\I s.1 s.2)}) (fun s=>S s.1.2) (fun s=>s.1.1) ⟨(n0,b0),⟨rfl⟩,hI⟩ h0 ?_;rintro⟨⟨n1,a0⟩,e,j⟩;obtain⟨n,rfl⟩:∃q,n1=q+1:=⟨n1-1,by have:=j.1;(try dsimp only at this);omega⟩;refine kZ (fun σ' hn=>?_) (round n a0 ⟨by have:=e.h;(try dsimp only at this);rw[this,hL]⟩ j);obtain⟨c0,e2,j2,w2⟩:=hn;exact⟨⟨(n,c0),e2,j2⟩,Nat.lt_succ_self n,w2⟩
abbrev Q2{R:Type}{A0 A1:Type}(L:Nat->A0->A1->R)(S:A0->A1->St)(I:Nat->A0->A1->Prop)(t:R)(b:Nat):NxI:=⟨fun τ=>∃a0 a1,Me t (L b a0 a1)/\(1<=b/\I b a0 a1)/\Wk τ (S a0 a1)⟩
theorem nx2{R:Type}{A0 A1:Type}{L:Nat->A0->A1->R}{S:A0->A1->St}{I:Nat->A0->A1->Prop}{t:R}{a0:A0}{a1:A1}(e:Me t (L b a0 a1))(hI:1<=b/\I b a0 a1:=by exact eh)(hw:Wk σ (S a0 a1):=by exact Qb fM):@Nx σ (Q2 L S I t b):=⟨a0,a1,e,hI,hw⟩
theorem ny2{R:Type}{A0 A1:Type}{L:Nat->A0->A1->R}{S:A0->A1->St}{I:Nat->A0->A1->Prop}{t:R}{a0:A0}{a1:A1}(F:q)(e:Me t (L b a0 a1))(hI:1<=b/\I b a0 a1:=by exact eh)(kw:q->Wk σ (S a0 a1):=by(intro F;exact Qb (by simp[F]))):@Nx σ (Q2 L S I t b):=⟨a0,a1,e,hI,kw F⟩
theorem lp2{c:KA}{R:Type}{A0 A1:Type}{L B:Nat->A0->A1->R}(hL:∀(a0:A0)(a1:A1)(n:Nat),L (Nat.succ n) a0 a1=B n a0 a1)(S:A0->A1->St)(I:Nat->A0->A1->Prop)(n0:Nat)(b0:A0)(b1:A1){p:Nat->A0->A1->Prop}
  (round:∀n (a0:A0)(a1:A1),Me (L n0 b0 b1) (B n a0 a1)->1<=n+1/\I (n+1) a0 a1->p n a0 a1) (hI:1<=n0/\I n0 b0 b1:=by first|omega|(dsimp only;omega)|simp) (h0:Wk σ (S b0 b1):=by exact Qb fM) (kk:∀n (a0:A0)(a1:A1),Bx (p n a0 a1)->@WI P (S a0 a1) c (.nxt (fun σ'=>@Nx σ' (Q2 L S I (L n0 b0 b1) n)) k):=by(intro n_ ng nw z;simp;(repeat(with_reducible refine Go.Mo.sd ?_));exact z.h)):@jN P σ c k:=by
 refine yT (ι:={s:Nat×A0×A1//Me (L n0 b0 b1) (L s.1 s.2.1 s.2.2)/\(1<=s.1/\I s.1 s.2.1 s.2.2)}) (fun s=>S s.1.2.1 s.1.2.2) (fun s=>s.1.1) ⟨(n0,b0,b1),⟨rfl⟩,hI⟩ h0 ?_;rintro⟨⟨n1,a0,a1⟩,e,j⟩;obtain⟨n,rfl⟩:∃q,n1=q+1:=⟨n1-1,by have:=j.1;(try dsimp only at this);omega⟩;refine kZ (fun σ' hn=>?_) (kk n a0 a1 ⟨round n a0 a1 ⟨by have:=e.h;(try dsimp only at this);rw[this,hL]⟩ j⟩);obtain⟨c0,c1,e2,j2,w2⟩:=hn;exact⟨⟨(n,c0,c1),e2,j2⟩,Nat.lt_succ_self n,w2⟩
abbrev Q3{R:Type}{A0 A1 A2:Type}(L:Nat->A0->A1->A2->R)(S:A0->A1->A2->St)(I:Nat->A0->A1->A2->Prop)(t:R)(b:Nat):NxI:=⟨fun τ=>∃a0 a1 a2,Me t (L b a0 a1 a2)/\(1<=b/\I b a0 a1 a2)/\Wk τ (S a0 a1 a2)⟩
theorem nx3{R:Type}{A0 A1 A2:Type}{L:Nat->A0->A1->A2->R}{S:A0->A1->A2->St}{I:Nat->A0->A1->A2->Prop}{t:R}{a0:A0}{a1:A1}{a2:A2}(e:Me t (L b a0 a1 a2))(hI:1<=b/\I b a0 a1 a2:=by exact eh)(hw:Wk σ (S a0 a1 a2):=by exact Qb fM):@Nx σ (Q3 L S I t b):=⟨a0,a1,a2,e,hI,hw⟩
theorem ny3{R:Type}{A0 A1 A2:Type}{L:Nat->A0->A1->A2->R}{S:A0->A1->A2->St}{I:Nat->A0->A1->A2->Prop}{t:R}{a0:A0}{a1:A1}{a2:A2}(F:q)(e:Me t (L b a0 a1 a2))(hI:1<=b/\I b a0 a1 a2:=by exact eh)(kw:q->Wk σ (S a0 a1 a2):=by(intro F;exact Qb (by simp[F]))):@Nx σ (Q3 L S I t b):=⟨a0,a1,a2,e,hI,kw F⟩
theorem lp3{c:KA}{R:Type}{A0 A1 A2:Type}{L B:Nat->A0->A1->A2->R}(hL:∀(a0:A0)(a1:A1)(a2:A2)(n:Nat),L (Nat.succ n) a0 a1 a2=B n a0 a1 a2)(S:A0->A1->A2->St)(I:Nat->A0->A1->A2->Prop)(n0:Nat)(b0:A0)(b1:A1)(b2:A2){p:Nat->A0->A1->A2->Prop}
  (round:∀n (a0:A0)(a1:A1)(a2:A2),Me (L n0 b0 b1 b2) (B n a0 a1 a2)->1<=n+1/\I (n+1) a0 a1 a2->p n a0 a1 a2) (hI:1<=n0/\I n0 b0 b1 b2:=by first|omega|(dsimp only;omega)|simp) (h0:Wk σ (S b0 b1 b2):=by exact Qb fM) (kk:∀n (a0:A0)(a1:A1)(a2:A2),Bx (p n a0 a1 a2)->@WI P (S a0 a1 a2) c (.nxt (fun σ'=>@Nx σ' (Q3 L S I (L n0 b0 b1 b2) n)) k):=by(intro n_ ng nw lU z;simp;(repeat(with_reducible refine Go.Mo.sd ?_));exact z.h)):@jN P σ c k:=by
 refine yT (ι:={s:Nat×A0×A1×A2//Me (L n0 b0 b1 b2) (L s.1 s.2.1 s.2.2.1 s.2.2.2)/\(1<=s.1/\I s.1 s.2.1 s.2.2.1 s.2.2.2)}) (fun s=>S s.1.2.1 s.1.2.2.1 s.1.2.2.2) (fun s=>s.1.1) ⟨(n0,b0,b1,b2),⟨rfl⟩,hI⟩ h0 ?_;rintro⟨⟨n1,a0,a1,a2⟩,e,j⟩;obtain⟨n,rfl⟩:∃q,n1=q+1:=⟨n1-1,by have:=j.1;(try dsimp only at this);omega⟩;refine kZ (fun σ' hn=>?_) (kk n a0 a1 a2 ⟨round n a0 a1 a2 ⟨by have:=e.h;(try dsimp only at this);rw[this,hL]⟩ j⟩);obtain⟨c0,c1,c2,e2,j2,w2⟩:=hn;exact⟨⟨(n,c0,c1,c2),e2,j2⟩,Nat.lt_succ_self n,w2⟩
abbrev Q5{R:Type}{A0 A1 A2 A3 A4:Type}(L:Nat->A0->A1->A2->A3->A4->R)(S:A0->A1->A2->A3->A4->St)(I:Nat->A0->A1->A2->A3->A4->Prop)(t:R)(b:Nat):NxI:=⟨fun τ=>∃a0 a1 a2 a3 a4,Me t (L b a0 a1 a2 a3 a4)/\(1<=b/\I b a0 a1 a2 a3 a4)/\Wk τ (S a0 a1 a2 a3 a4)⟩
theorem nx5{R:Type}{A0 A1 A2 A3 A4:Type}{L:Nat->A0->A1->A2->A3->A4->R}{S:A0->A1->A2->A3->A4->St}{I:Nat->A0->A1->A2->A3->A4->Prop}{t:R}{a0:A0}{a1:A1}{a2:A2}{a3:A3}{a4:A4}(e:Me t (L b a0 a1 a2 a3 a4))(hI:1<=b/\I b a0 a1 a2 a3 a4:=by exact eh)(hw:Wk σ (S a0 a1 a2 a3 a4):=by exact Qb fM):@Nx σ (Q5 L S I t b):=⟨a0,a1,a2,a3,a4,e,hI,hw⟩
theorem lp5{c:KA}{R:Type}{A0 A1 A2 A3 A4:Type}{L B:Nat->A0->A1->A2->A3->A4->R}(hL:∀(a0:A0)(a1:A1)(a2:A2)(a3:A3)(a4:A4)(n:Nat),L (Nat.succ n) a0 a1 a2 a3 a4=B n a0 a1 a2 a3 a4)(S:A0->A1->A2->A3->A4->St)(I:Nat->A0->A1->A2->A3->A4->Prop)(n0:Nat)(b0:A0)(b1:A1)(b2:A2)(b3:A3)(b4:A4){p:Nat->A0->A1->A2->A3->A4->Prop}
  (round:∀n (a0:A0)(a1:A1)(a2:A2)(a3:A3)(a4:A4),Me (L n0 b0 b1 b2 b3 b4) (B n a0 a1 a2 a3 a4)->1<=n+1/\I (n+1) a0 a1 a2 a3 a4->p n a0 a1 a2 a3 a4) (hI:1<=n0/\I n0 b0 b1 b2 b3 b4:=by first|omega|(dsimp only;omega)|simp) (h0:Wk σ (S b0 b1 b2 b3 b4):=by exact Qb fM) (kk:∀n (a0:A0)(a1:A1)(a2:A2)(a3:A3)(a4:A4),Bx (p n a0 a1 a2 a3 a4)->@WI P (S a0 a1 a2 a3 a4) c (.nxt (fun σ'=>@Nx σ' (Q5 L S I (L n0 b0 b1 b2 b3 b4) n)) k):=by(intro n_ ng nw lU l9 iA z;simp;(repeat(with_reducible refine Go.Mo.sd ?_));exact z.h)):@jN P σ c k:=by
 refine yT (ι:={s:Nat×A0×A1×A2×A3×A4//Me (L n0 b0 b1 b2 b3 b4) (L s.1 s.2.1 s.2.2.1 s.2.2.2.1 s.2.2.2.2.1 s.2.2.2.2.2)/\(1<=s.1/\I s.1 s.2.1 s.2.2.1 s.2.2.2.1 s.2.2.2.2.1 s.2.2.2.2.2)}) (fun s=>S s.1.2.1 s.1.2.2.1 s.1.2.2.2.1 s.1.2.2.2.2.1 s.1.2.2.2.2.2) (fun s=>s.1.1) ⟨(n0,b0,b1,b2,b3,b4),⟨rfl⟩,hI⟩ h0 ?_;rintro⟨⟨n1,a0,a1,a2,a3,a4⟩,e,j⟩;obtain⟨n,rfl⟩:∃q,n1=q+1:=⟨n1-1,by have:=j.1;(try dsimp only at this);omega⟩;refine kZ (fun σ' hn=>?_) (kk n a0 a1 a2 a3 a4 ⟨round n a0 a1 a2 a3 a4 ⟨by have:=e.h;(try dsimp only at this);rw[this,hL]⟩ j⟩);obtain⟨c0,c1,c2,c3,c4,e2,j2,w2⟩:=hn;exact⟨⟨(n,c0,c1,c2,c3,c4),e2,j2⟩,Nat.lt_succ_self n,w2⟩
abbrev Q6{R:Type}{A0 A1 A2 A3 A4 A5:Type}(L:Nat->A0->A1->A2->A3->A4->A5->R)(S:A0->A1->A2->A3->A4->A5->St)(I:Nat->A0->A1->A2->A3->A4->A5->Prop)(t:R)(b:Nat):NxI:=⟨fun τ=>∃a0 a1 a2 a3 a4 a5,Me t (L b a0 a1 a2 a3 a4 a5)/\(1<=b/\I b a0 a1 a2 a3 a4 a5)/\Wk τ (S a0 a1 a2 a3 a4 a5)⟩
theorem nx6{R:Type}{A0 A1 A2 A3 A4 A5:Type}{L:Nat->A0->A1->A2->A3->A4->A5->R}{S:A0->A1->A2->A3->A4->A5->St}{I:Nat->A0->A1->A2->A3->A4->A5->Prop}{t:R}{a0:A0}{a1:A1}{a2:A2}{a3:A3}{a4:A4}{a5:A5}(e:Me t (L b a0 a1 a2 a3 a4 a5))(hI:1<=b/\I b a0 a1 a2 a3 a4 a5:=by exact eh)(hw:Wk σ (S a0 a1 a2 a3 a4 a5):=by exact Qb fM):@Nx σ (Q6 L S I t b):=⟨a0,a1,a2,a3,a4,a5,e,hI,hw⟩
theorem lp6{c:KA}{R:Type}{A0 A1 A2 A3 A4 A5:Type}{L B:Nat->A0->A1->A2->A3->A4->A5->R}(hL:∀(a0:A0)(a1:A1)(a2:A2)(a3:A3)(a4:A4)(a5:A5)(n:Nat),L (Nat.succ n) a0 a1 a2 a3 a4 a5=B n a0 a1 a2 a3 a4 a5)(S:A0->A1->A2->A3->A4->A5->St)(I:Nat->A0->A1->A2->A3->A4->A5->Prop)(n0:Nat)(b0:A0)(b1:A1)(b2:A2)(b3:A3)(b4:A4)(b5:A5){p:Nat->A0->A1->A2->A3->A4->A5->Prop}
  (round:∀n (a0:A0)(a1:A1)(a2:A2)(a3:A3)(a4:A4)(a5:A5),Me (L n0 b0 b1 b2 b3 b4 b5) (B n a0 a1 a2 a3 a4 a5)->1<=n+1/\I (n+1) a0 a1 a2 a3 a4 a5->p n a0 a1 a2 a3 a4 a5) (hI:1<=n0/\I n0 b0 b1 b2 b3 b4 b5:=by first|omega|(dsimp only;omega)|simp) (h0:Wk σ (S b0 b1 b2 b3 b4 b5):=by exact Qb fM) (kk:∀n (a0:A0)(a1:A1)(a2:A2)(a3:A3)(a4:A4)(a5:A5),Bx (p n a0 a1 a2 a3 a4 a5)->@WI P (S a0 a1 a2 a3 a4 a5) c (.nxt (fun σ'=>@Nx σ' (Q6 L S I (L n0 b0 b1 b2 b3 b4 b5) n)) k):=by(intro n_ ng nw lU l9 iA gb z;simp;(repeat(with_reducible refine Go.Mo.sd ?_));exact z.h)):@jN P σ c k:=by
 refine yT (ι:={s:Nat×A0×A1×A2×A3×A4×A5//Me (L n0 b0 b1 b2 b3 b4 b5) (L s.1 s.2.1 s.2.2.1 s.2.2.2.1 s.2.2.2.2.1 s.2.2.2.2.2.1 s.2.2.2.2.2.2)/\(1<=s.1/\I s.1 s.2.1 s.2.2.1 s.2.2.2.1 s.2.2.2.2.1 s.2.2.2.2.2.1 s.2.2.2.2.2.2)}) (fun s=>S s.1.2.1 s.1.2.2.1 s.1.2.2.2.1 s.1.2.2.2.2.1 s.1.2.2.2.2.2.1 s.1.2.2.2.2.2.2) (fun s=>s.1.1) ⟨(n0,b0,b1,b2,b3,b4,b5),⟨rfl⟩,hI⟩ h0 ?_;rintro⟨⟨n1,a0,a1,a2,a3,a4,a5⟩,e,j⟩;obtain⟨n,rfl⟩:∃q,n1=q+1:=⟨n1-1,by have:=j.1;(try dsimp only at this);omega⟩;refine kZ (fun σ' hn=>?_) (kk n a0 a1 a2 a3 a4 a5 ⟨round n a0 a1 a2 a3 a4 a5 ⟨by have:=e.h;(try dsimp only at this);rw[this,hL]⟩ j⟩);obtain⟨c0,c1,c2,c3,c4,c5,e2,j2,w2⟩:=hn;exact⟨⟨(n,c0,c1,c2,c3,c4,c5),e2,j2⟩,Nat.lt_succ_self n,w2⟩
abbrev Q7{R:Type}{A0 A1 A2 A3 A4 A5 A6:Type}(L:Nat->A0->A1->A2->A3->A4->A5->A6->R)(S:A0->A1->A2->A3->A4->A5->A6->St)(I:Nat->A0->A1->A2->A3->A4->A5->A6->Prop)(t:R)(b:Nat):NxI:=⟨fun τ=>∃a0 a1 a2 a3 a4 a5 a6,Me t (L b a0 a1 a2 a3 a4 a5 a6)/\(1<=b/\I b a0 a1 a2 a3 a4 a5 a6)/\Wk τ (S a0 a1 a2 a3 a4 a5 a6)⟩
theorem nx7{R:Type}{A0 A1 A2 A3 A4 A5 A6:Type}{L:Nat->A0->A1->A2->A3->A4->A5->A6->R}{S:A0->A1->A2->A3->A4->A5->A6->St}{I:Nat->A0->A1->A2->A3->A4->A5->A6->Prop}{t:R}{a0:A0}{a1:A1}{a2:A2}{a3:A3}{a4:A4}{a5:A5}{a6:A6}(e:Me t (L b a0 a1 a2 a3 a4 a5 a6))(hI:1<=b/\I b a0 a1 a2 a3 a4 a5 a6:=by exact eh)(hw:Wk σ (S a0 a1 a2 a3 a4 a5 a6):=by exact Qb fM):@Nx σ (Q7 L S I t b):=⟨a0,a1,a2,a3,a4,a5,a6,e,hI,hw⟩
theorem lp7{c:KA}{R:Type}{A0 A1 A2 A3 A4 A5 A6:Type}{L B:Nat->A0->A1->A2->A3->A4->A5->A6->R}(hL:∀(a0:A0)(a1:A1)(a2:A2)(a3:A3)(a4:A4)(a5:A5)(a6:A6)(n:Nat),L (Nat.succ n) a0 a1 a2 a3 a4 a5 a6=B n a0 a1 a2 a3 a4 a5 a6)(S:A0->A1->A2->A3->A4->A5->A6->St)(I:Nat->A0->A1->A2->A3->A4->A5->A6->Prop)(n0:Nat)(b0:A0)(b1:A1)(b2:A2)(b3:A3)(b4:A4)(b5:A5)(b6:A6){p:Nat->A0->A1->A2->A3->A4->A5->A6->Prop}
  (round:∀n (a0:A0)(a1:A1)(a2:A2)(a3:A3)(a4:A4)(a5:A5)(a6:A6),Me (L n0 b0 b1 b2 b3 b4 b5 b6) (B n a0 a1 a2 a3 a4 a5 a6)->1<=n+1/\I (n+1) a0 a1 a2 a3 a4 a5 a6->p n a0 a1 a2 a3 a4 a5 a6) (hI:1<=n0/\I n0 b0 b1 b2 b3 b4 b5 b6:=by first|omega|(dsimp only;omega)|simp) (h0:Wk σ (S b0 b1 b2 b3 b4 b5 b6):=by exact Qb fM) (kk:∀n (a0:A0)(a1:A1)(a2:A2)(a3:A3)(a4:A4)(a5:A5)(a6:A6),Bx (p n a0 a1 a2 a3 a4 a5 a6)->@WI P (S a0 a1 a2 a3 a4 a5 a6) c (.nxt (fun σ'=>@Nx σ' (Q7 L S I (L n0 b0 b1 b2 b3 b4 b5 b6) n)) k):=by(intro n_ ng nw lU l9 iA gb fI z;simp;(repeat(with_reducible refine Go.Mo.sd ?_));exact z.h)):@jN P σ c k:=by
 refine yT (ι:={s:Nat×A0×A1×A2×A3×A4×A5×A6//Me (L n0 b0 b1 b2 b3 b4 b5 b6) (L s.1 s.2.1 s.2.2.1 s.2.2.2.1 s.2.2.2.2.1 s.2.2.2.2.2.1 s.2.2.2.2.2.2.1 s.2.2.2.2.2.2.2)/\(1<=s.1/\I s.1 s.2.1 s.2.2.1 s.2.2.2.1 s.2.2.2.2.1 s.2.2.2.2.2.1 s.2.2.2.2.2.2.1 s.2.2.2.2.2.2.2)}) (fun s=>S s.1.2.1 s.1.2.2.1 s.1.2.2.2.1 s.1.2.2.2.2.1 s.1.2.2.2.2.2.1 s.1.2.2.2.2.2.2.1 s.1.2.2.2.2.2.2.2) (fun s=>s.1.1) ⟨(n0,b0,b1,b2,b3,b4,b5,b6),⟨rfl⟩,hI⟩ h0 ?_;rintro⟨⟨n1,a0,a1,a2,a3,a4,a5,a6⟩,e,j⟩;obtain⟨n,rfl⟩:∃q,n1=q+1:=⟨n1-1,by have:=j.1;(try dsimp only at this);omega⟩;refine kZ (fun σ' hn=>?_) (kk n a0 a1 a2 a3 a4 a5 a6 ⟨round n a0 a1 a2 a3 a4 a5 a6 ⟨by have:=e.h;(try dsimp only at this);rw[this,hL]⟩ j⟩);obtain⟨c0,c1,c2,c3,c4,c5,c6,e2,j2,w2⟩:=hn;exact⟨⟨(n,c0,c1,c2,c3,c4,c5,c6),e2,j2⟩,Nat.lt_succ_self n,w2⟩
theorem jU{T:TypeId}(h:@EI P (σ.new d (.one (.sref d 0 0 (X5 P σ (ZD P T) (P.cellsOf (ZD P T)) parts.toList 0).2.length)) [.lit (P.cellsOf (ZD P T)) (X5 P σ (ZD P T) (P.cellsOf (ZD P T)) parts.toList 0).2]) A l k)(wA:o.o.op= .buildSlice T n parts:=by exact rfl)(hg:o.o.guard=none:=by exact rfl)(hd:o.o.dst=some d:=by exact rfl)
  (h1:σ.fresh d=true/\Zy P T=true/\YR P (ZD P T)=true/\0<P.cellsOf (ZD P T)/\parts.toList.length=n/\n*P.cellsOf (ZD P T)<=16777216:=by simp) (h2:(X5 P σ (ZD P T) (P.cellsOf (ZD P T)) parts.toList 0).1:=by simp)
  (h3:Zd d (X5 P σ (ZD P T) (P.cellsOf (ZD P T)) parts.toList 0).2.flatten=false:=by simp)
  :@SI P σ A o l k:=Gl wA hg hd h1 h2 h3 h
theorem jy{t:TypeId}(h:@EI P ((σ.ZV (l1++l2)).new d (.one (.sref d 0 0 (wD.length+news.length))) [.arr true size (wD++news)]) A l k)(wA:o.o.op= .call ⟨.builtin .append,#[x,y],#[t,t]⟩:=by exact rfl)(hg:o.o.guard=none:=by exact rfl)(hd:o.o.dst=some d:=by exact rfl)(wu:A.bar o.o=true:=by exact rfl)
  (vK:size=P.cellsOf (ZD P t):=by simp) (h1:gOf (look P σ t x)=true/\gOf (look P σ t y)=true/\Zy P t=true/\YR P (ZD P t)=true/\0<P.cellsOf (ZD P t):=by simp)
  (h2:(yy σ (unc (look P σ t x)) size).1/\(yy σ (unc (look P σ t x)) size).2=(wD,l1):=by simp) (h3:(KT σ (unc (look P σ t y)) size).1/\(KT σ (unc (look P σ t y)) size).2=(news,l2):=by simp)
  (h4:(l1++l2).Nodup/\(σ.ZV (l1++l2)).fresh d=true:=by simp) (h5:(wD.length+news.length)*P.bytesOf (ZD P t)<=140737488355328/\wD.length+news.length<=9223372036854775807:=by(simp<;>omega))
  :@SI P σ A o l k:=Gv wA hg hd wu vK h1 h2 h3 h4 h5 h
theorem wkS{σ:St}(ρ:Ren)(F:List (Nat×Nat))(wT:yr σ' ρ ρ=true:=by exact rfl)(h:jW σ ρ F σ σ' 0:=by simp):Wk σ σ':=Y2 ρ F wT h
theorem drJ{id:Nat}{l:List Oper}{br:Oper->Bool}(bs:List Nat)(hm:P.follows .mixedOrders=true)(h:@EI P σ ⟨⟨l⟩,xF bs⟩ ⟨l⟩ k)(hdr:Vm.Vv P ⟨l⟩ (fun i=>i) (xF bs)=true:=by kernel_rfl)(wb:Qi ⟨l⟩ (fun i=>i) σ=true:=by kernel_rfl):@DI P id σ ⟨⟨l⟩,br⟩ k:=GP bs hm hdr wb h
theorem bsD{T:TypeId}(h:@EI P (σ.put d (.one (.d (.sl (P.cellsOf (ZD P T)) (KV P σ (ZD P T) (P.cellsOf (ZD P T)) parts.toList 0).2)))) A l k)(wA:o.o.op= .buildSlice T n parts:=by exact rfl)(hg:o.o.guard=none:=by exact rfl)(hd:o.o.dst=some d:=by exact rfl)
  (h1:Zy P T=true/\YR P (ZD P T)=true/\0<P.cellsOf (ZD P T)/\parts.toList.length=n/\n*P.cellsOf (ZD P T)<=16777216:=by simp) (h2:(KV P σ (ZD P T) (P.cellsOf (ZD P T)) parts.toList 0).1:=by simp):@SI P σ A o l k:=Gt wA hg hd h1 h2 h
theorem rpS{g:Prop}(h:p)(kk:Bx p->g:=by(intro z;(repeat(with_reducible refine Go.Mo.sd ?_));exact z.h)):g:=kk ⟨h⟩
theorem ek{g:Prop}(h:p)(kk:Bx p->g:=by(intro z;(repeat(with_reducible refine Yk ?_));exact z.h)):g:=kk ⟨h⟩
theorem rpG{g:Prop}(h:p)(kk:Bx p->g:=by(intro z;(repeat(with_reducible refine Go.Mo.sdg ?_));exact z.h)):g:=kk ⟨h⟩
theorem xs(u:q)(h:q->p:=by(intro u;simp(maxDischargeDepth:=12) [u])):p:=h u
@[simp] abbrev rI (x : Int) : List D := [.int .i64 x]
@[simp] abbrev rB (b : Bool) : List D := [.bool b]
@[simp] abbrev rS (s : ByteArray) : List D := [.str s]
@[simp] abbrev rL {α : Type} (n : Nat) (f : α -> List D) (l : List α) : List D := [.sl n (l.map f)]
def Pq(l:List Bool):List At:=l.map (fun b=>.d (.bool b))
def zB(n:Nat):List Bool:=List.replicate n false
@[simp] theorem Hx (n : Nat) : (zB n).length = n := List.length_replicate ..
@[simp] theorem Nm (σ : St) (ρ : Ren) (F : List (Nat × Nat)) : ∀ l : List Bool, qi σ ρ F (Pq l) (Pq l) = True
 |[]=>by simp[Pq,qi]
 |b::l=>by have h:=Nm σ ρ F l;simp only[Pq,List.map_cons,qi,T1]at h⊢;simp[h]
@[simp] theorem OW (t : Nat) : ∀ l : List Bool, Zd t (Pq l) = false
 |[]=>by simp[Pq,Zd]
 |b::l=>by have h:=OW t l;simp only[Pq,List.map_cons]at h⊢;simp[Zd,At.ref]at h⊢;exact h
open Go.RowKit
variable{rest:List Oper}{ord NB:List Nat}
theorem Rel.Ix(r:Rel T0 B σ a w X h){c:Nat}{s:List (List D)}(ho:σ.ob u j= .arr true size rows)(hi:i<rows.length)(hc:(rowAt rows i)[c]?=some (.sl n s)):
  ∃(h':Nat->Nat->Hd)(M:Nat->Prop)(v:Value),Rel T0 B (σ.ZT u j (.arr true size (rows.set i (place (rowAt rows i) c [.unk])))) a w X h'/\
   (∀b,M b->¬B b/\¬X b/\b<w.heap.size/\(h u j).u b/\∀t i',(σ.ZT u j (.arr true size (rows.set i (place (rowAt rows i) c [.unk])))).ob t i'≠ .none->¬(h' t i').u b)/\(∀t i' b,(h' t i').u b->(h t i').u b)/\
   Own w v (.sl n s) M/\(h u j).n (i*size+c)=v/\v.oneCell'=true:=by
 have wW:σ.ob u j≠ .none:=fi;have h0:=r.obj u j;rw[ho]at h0;obtain⟨e,zs,uX,hz,⟨lG,Sk,o1,o2,o3⟩,hn⟩:=h0;have wg:rows[i]?=some (rowAt rows i):=by simp[rowAt,List.getD_eq_getElem?_getD,List.getElem?_eq_getElem hi]
 have tG:(rowAt rows i).length=size:=hz _ (List.mem_of_getElem? wg);have uM:c<size:=by rw[<-tG];exact(List.getElem?_eq_some_iff.1 hc).1
 have vV:rows.flatten.length=rows.length*size:=Zg rows size hz;have hmul:i*size+size<=rows.length*size:=ft;have gl:(rows.set i (place (rowAt rows i) c [.unk])).flatten=place rows.flatten (i*size+c) [.unk]:=JN size c [.unk] fc rows i _ wg hz;have w6:rows.set i (place (rowAt rows i) c [.sl n s])=rows:=by
  have e1:place (rowAt rows i) c [.sl n s]=rowAt rows i:=by
   unfold place;have:=List.getElem?_eq_some_iff.1 hc
   rw[List.append_assoc,<-this.2];simp
  rw[e1];obtain⟨h1,h2⟩:=List.getElem?_eq_some_iff.1 wg;rw[<-h2];simp
 have iG:rows.flatten[i*size+c]?=some (.sl n s):=by
  have h1:rows.flatten=place rows.flatten (i*size+c) [.sl n s]:=by rw[<-JN size c [.sl n s] fc rows i _ wg hz,w6]
  rw[h1];unfold place;rw[List.append_assoc,List.getElem?_append_right eO,List.length_take,Nat.min_eq_left fJ,Nat.sub_self];rfl
 have ue:∀q∈rows.set i (place (rowAt rows i) c [.unk]),q.length=size:=by
  intro q hq;rcases List.mem_or_eq_of_mem_set hq with hq|hq
  ·exact hz q hq
  ·rw[hq,Yo _ _ _ fc,tG]
 have lM:i*size+c<zs.length:=by rw[lG,vV];omega
 have nJ:zs[i*size+c]?=some zs[i*size+c]:=List.getElem?_eq_getElem lM;have rW:=o1 _ _ _ nJ iG;let M:Nat->Prop:=Sk (i*size+c)
 let wL:Hd:=⟨(h u j).v,(h u j).n,fun b=>(h u j).u b/\¬M b⟩
 have ny:∀b,M b->(h u j).u b/\blk (h u j).v≠some b:=fun b hk=>o2 _ b hk;have hg:∀k d,(rows.set i (place (rowAt rows i) c [.unk])).flatten[k]?=some d->(k=i*size+c/\d= .unk)\/(k≠i*size+c/\rows.flatten[k]?=some d):=by
  intro k d hd;rw[gl]at hd;rcases yO _ _ _ (by show i*size+c+1<=_;omega) k d hd with⟨h1,h2,h3⟩|⟨h1,h2⟩
  ·simp at h2;have hk:k=i*size+c:=fJ
   subst hk;simp at h3;exact .inl ⟨rfl,h3.symm⟩
  ·exact .inr ⟨fun e=>h1 fc,h2⟩
 have hr:=r.change (w':=w) wW rfl (fun _ _=>rfl) (fun _=>False) (fun _ hh=>hh.elim) (.arr true size (rows.set i (place (rowAt rows i) c [.unk]))) (by rw[ho];exact⟨rfl,rfl,fM⟩) wL rfl (fun b hb=>.inl hb.1)
  (fun b hb=>⟨r.ub u j b wW hb,fun wP=>(ny b wP).2 hb⟩) (fun _=>false) (St.KQ σ) (.inr rfl) (by
   refine⟨e,zs,by rw[List.length_set];exact uX,ue,⟨?_,fun k=>if k=i*size+c then(fun _=>False)else Sk k,fun k x d hx hd=>?_,fun k b hb=>?_,fun k k' b hb wP=>?_⟩,fun k x d hx hd vH=>?_⟩
   ·rw[lG,Zg _ size ue,List.length_set,vV]
   ·rcases hg k d hd with⟨h1,rfl⟩|⟨h1,h2⟩
    ·subst h1;rw[nJ]at hx;cases hx;exact .unk _ rW.YN _
    ·simp only[h1,if_false];exact o1 k x d hx h2
   ·dsimp only at hb;split at hb
    ·exact hb.elim
    ·rename_i hk;exact⟨⟨(o2 k b hb).1,fun h3=>hk (o3 k _ b hb h3)⟩,(o2 k b hb).2⟩
   ·dsimp only at hb wP;split at hb
    ·exact hb.elim
    ·split at wP
     ·exact wP.elim
     ·exact o3 k k' b hb wP
   ·rcases hg k d hd with⟨h1,rfl⟩|⟨h1,h2⟩
    ·cases vH
    ·exact hn k x d hx h2 vH)
 refine⟨_,M,zs[i*size+c],hr,fun b hb=>?_,fun t i' b hb=>?_,rW,hn _ _ _ nJ iG rfl,rW.YN⟩
 ·have h1:=r.own u j b wW (ny b hb).1;refine⟨h1.1,h1.2.1,h1.2.2,(ny b hb).1,fun t i' wC wP=>?_⟩;split at wP
  ·exact wP.2 hb
  ·rename_i wk;have wq:σ.ob t i'≠ .none:=by rw[St.YU σ u j _ t i' wW,if_neg wk]at wC;exact wC
   exact wk (r.inj t i' u j b wq wW wP (ny b hb).1)
 ·split at hb
  ·rename_i wk;rw[wk.1,wk.2];exact hb.1
  ·exact hb
theorem SD(r:Rel T0 B σ a w X h){o:Oper}{t:TypeId}{c:Nat}(wA:o.op= .call ⟨.builtin .append,#[x,y],#[t,t]⟩)(hd:o.dst=some d)
  (tc:gOf (look P σ t x)=true) (te:gOf (look P σ t y)=true) (ht:Zy P t=true) (hz:YR P (ZD P t)=true) (w7:0<P.cellsOf (ZD P t))
  (hx:unc (look P σ t x)= .one (.tref u j i c none)) (ho:σ.ob u j= .arr true size rows) (hi:i<rows.length) (hc:(rowAt rows i)[c]?=some (.sl (P.cellsOf (ZD P t)) wD)) (vg:Ph σ (unc (look P σ t y)) (P.cellsOf (ZD P t)) news l2) (pO:(u,j)∉l2) (vA:l2.Nodup)
  (w8:((σ.ZT u j (.arr true size (rows.set i (place (rowAt rows i) c [.unk])))).ZV l2).fresh d=true) (w9:(wD.length+news.length)*P.bytesOf (ZD P t)<=140737488355328) (tx:wD.length+news.length<=9223372036854775807)
  (hK:∀a' w',Xx T0 B (((σ.ZT u j (.arr true size (rows.set i (place (rowAt rows i) c [.unk])))).ZV l2).new d (.one (.sref d 0 0 (wD.length+news.length))) [.arr true (P.cellsOf (ZD P t)) (wD++news)]) a' w'->YL B w w'->K a' w'):o.wp P a w K Q:=by
 obtain⟨ti,hu,vW,uU⟩:=YM ht;obtain⟨i0,z,row,nx,uv,uG,uW,tE,vi,uF⟩:=Jl hz;rw[vW]at nx;cases nx;have r4:P.bytesOf (ZD P t)=ti.bytes:=by simp[Program.bytesOf,vW]
 rw[r4]at w9;rw[<-vi]at hc vg w7 hK;have sf:=r.arg (P:=P) t x rfl tc
 have oB:=r.arg (P:=P) t y rfl te;obtain⟨t2,j2,wz,mw,tN,uC,uq,rH⟩:∃t2 j2 wz,unc (look P σ t y)= .one (.sref t2 j2 0 wz.length)/\σ.ob t2 j2= .lit ti.size wz/\Xn σ wz=some news/\XU σ wz/\l2=YF wz.flatten:=by
  unfold Ph at vg;split at vg
  ·rename_i t2 j2 lo len heq;obtain⟨wz,ug,rfl,rfl,hm,hk,rfl⟩:=vg;exact⟨t2,j2,wz,heq,ug,hm,hk,rfl⟩
  ·exact vg.elim
 subst rH;obtain⟨py,rJ,pz⟩:=Qu uC;have rP:=QR uq
 rw[mw]at oB;have h0:=r.obj t2 j2
 rw[tN]at h0;obtain⟨e2,ys,v7,oS,uY⟩:=h0;obtain⟨_,tz,_⟩:=oB.2.2 _ _ tN;have oE:a.eval y=(h t2 j2).v:=tz rfl rfl
 have pP:∀q∈news,q.length=ti.size:=pz _ oS;have uL:=Wz r uY py rP vA;obtain⟨h',M,v,r0,hM,v5,rW,gh,v3⟩:=r.Ix ho hi hc;have wW:σ.ob u j≠ .none:=fi;generalize hσ1:σ.ZT u j (.arr true size (rows.set i (place (rowAt rows i) c [.unk])))=σ1 at*;rw[hx]at sf;have rK:Zf (Tof T0 X) h σ.ob w (.tref u j i c none) (a.eval x):=sf;have hex:a.eval x=v:=by rw[<-gh];exact rK.2 _ _ ho
 have vt:ys.length=news.length*ti.size:=by rw[uL.1,Zg news ti.size pP]
 have vJ:=r.zN (YF wz.flatten);have wY:∀t' i',(σ1.ZV (YF wz.flatten)).ob t' i'≠ .none->(σ.ZV (YF wz.flatten)).ob t' i'≠ .none:=by
  intro t' i' wC;rw[St.Xg]at wC⊢;split at wC
  ·exact absurd rfl wC
  ·rename_i uN;rw[if_neg uN];rw[<-hσ1,St.YU σ u j _ t' i' wW]at wC;split at wC
   ·rename_i wk;rw[wk.1,wk.2];exact wW
   ·exact wC
 have hN:∀b,(M b\/KX σ h (YF wz.flatten) b)->¬B b/\¬X b/\b<w.heap.size/\∀u' i',(σ1.ZV (YF wz.flatten)).ob u' i'≠ .none->¬(h' u' i').u b:=by
  rintro b (hb|hb)
  ·obtain⟨q1,q2,q3,_,q4⟩:=hM b hb;refine⟨q1,q2,q3,fun u' i' wC=>q4 u' i' ?_⟩;rw[St.Xg]at wC;split at wC
   ·exact absurd rfl wC
   ·exact wC
  ·obtain⟨q1,q2,q3,q4⟩:=vJ b hb;exact⟨q1,q2,q3,fun u' i' wC wP=>q4 u' i' (wY u' i' wC) (v5 u' i' b wP)⟩
 have uc:∀b,M b->KX σ h (YF wz.flatten) b->False:=by intro b hb hg;refine(vJ b hg).2.2.2 u j ?_ (hM b hb).2.2.2.1;rw[St.Xg,if_neg pO];exact wW
 have hv:∃base cap,a.eval y= .slice base news.length cap/\(base=none->cap=0/\news.length=0)/\∀ad,base=some ad->∀k v,ys[k]?=some v->w.cell? (ad.add k)=some v:=by
  rw[oE];rcases v7.2 with⟨m3,nK⟩|⟨g2,p8,m5,vF,_,uH,m6,m7,m8,p9⟩
  ·have nW:news.length=0:=by rw[<-rJ];exact nK
   exact⟨none,0,by rw[m3,nW],fun _=>⟨rfl,nW⟩,fun ad hh=>by cases hh⟩
  ·refine⟨_,p8,by rw[vF,rJ],fun hh=>(by cases hh),fun ad hh k v hk=>?_⟩;cases hh;rw[KL];refine Qp uH _ _ ?_;rw[<-p9,List.getElem?_take]at hk;split at hk
   ·simpa using hk
   ·cases hk
 obtain⟨base,cap,rj,sQ,wF⟩:=hv;cases rW with
 |sl _ _ _ _ e0 xs Sk uX nO hb hl hk hs wL=>
  have vn:∀b,blk (a.eval x)=some b->M b:=fun b wP=>hb b (by rw[<-hex];exact wP);have s9:∀b,KX σ h (YF wz.flatten) b->blk (a.eval x)≠some b:=fun b hg e=>uc b (vn b e) hg;have rF:Qk w xs wD.flatten (fun b=>M b/\blk (a.eval x)≠some b):=⟨hl,Sk,hk,fun k b wP=>by rw[hex];exact hs k b wP,wL⟩;refine P8 (r0.ZV (YF wz.flatten)) (N:=fun b=>M b\/KX σ h (YF wz.flatten) b) wA hd hu vW uv tE w7 w8 w9 tx (by rw[hex];exact uX) (fun b wP=>.inl (vn b wP)) hN rj sQ vt wF
   (fun u v5=>by
    obtain⟨x',_,tF⟩:=uY.mem v5;exact Zf.YN tF) (List.length_append ..) (fun q hq=>(List.mem_append.1 hq).elim (nO q) (pP q)) ?_ hK
  rw[List.flatten_append];exact(rF.append uL (fun b vP wo=>uc b vP.1 wo)).mono (fun b wP=>wP.elim (fun wP=>⟨.inl wP.1,wP.2⟩) (fun wP=>⟨.inr wP,s9 b wP⟩))
theorem LZ{o:Oper}{Q:St->Prop}{t:TypeId}{c:Nat}(wA:o.op= .call ⟨.builtin .append,#[x,y],#[t,t]⟩)(hg:o.guard=none)(hd:o.dst=some d)(wu:bar o=true)
  (vK:n=P.cellsOf (ZD P t)) (h1:gOf (look P σ t x)=true/\gOf (look P σ t y)=true/\Zy P t=true/\YR P (ZD P t)=true/\0<P.cellsOf (ZD P t))
  (h2:unc (look P σ t x)= .one (.tref u j i c none)) (ho:σ.ob u j= .arr true size rows) (hi:i<rows.length) (hc:(rowAt rows i)[c]?=some (.sl n wD)) (h3:(KT σ (unc (look P σ t y)) n).1/\(KT σ (unc (look P σ t y)) n).2=(news,l2)) (pO:(u,j)∉l2/\l2.Nodup)
  (h4:((σ.ZT u j (.arr true size (rows.set i (place (rowAt rows i) c [.unk])))).ZV l2).fresh d=true) (h5:(wD.length+news.length)*P.bytesOf (ZD P t)<=140737488355328/\wD.length+news.length<=9223372036854775807)
  (h:Ev P ops bar rest (((σ.ZT u j (.arr true size (rows.set i (place (rowAt rows i) c [.unk])))).ZV l2).new d (.one (.sref d 0 0 (wD.length+news.length))) [.arr true n (wD++news)]) Q):Ks P ops bar o rest σ Q:=by
 subst vK;have e2:=S7 h3.1
 rw[h3.2]at e2;generalize hR:rows.set i (place (rowAt rows i) c [.unk])=R at*;have cl:∀σ0:St,kp o σ0 (((σ0.ZT u j (.arr true size R)).ZV l2).new d (.one (.sref d 0 0 (wD.length+news.length))) [.arr true (P.cellsOf (ZD P t)) (wD++news)]):=fun σ0 d' wL hc=>xe (fun e=>wL (by rw[hd,e])) (QQ (XV hc))
 have go:∀l:List (Nat×V),(∀p∈l,p.1≠d/\Ws o p.1=true/\p.2.ref d=false)->qv P ops o (σ.XK l) ((((σ.XK l).ZT u j (.arr true size R)).ZV l2).new d (.one (.sref d 0 0 (wD.length+news.length))) [.arr true (P.cellsOf (ZD P t)) (wD++news)]):=by
  rintro l hl T0 B a w K Q' ⟨X,hh,r⟩ hK;have hw:Region.wanted o (yielded ops a.tmps)=true:=eR
  rw[if_pos hw];have lx:look P (σ.XK l) t x=look P σ t x:=xw l σ (fun p hp=>(jj wA (hl p hp).2.1).1)
  have ly:look P (σ.XK l) t y=look P σ t y:=xw l σ (fun p hp=>(jj wA (hl p hp).2.1).2);subst hR;refine SD r wA hd (by rw[lx];exact h1.1) (by rw[ly];exact h1.2.1) h1.2.2.1 h1.2.2.2.1 h1.2.2.2.2 (by rw[lx];exact h2) (by rw[Wp];exact ho) hi hc (by rw[ly];exact Nu (Wp l σ) e2) pO.1 pO.2 ?_ h5.1 h5.2 hK;rw[qJ,Q0];exact ke l (fun p hp=>(hl p hp).2.2) h4
 have wW:σ.ob u j≠ .none:=fi;have mj:qv P ops o σ (((σ.ZT u j (.arr true size R)).ZV l2).new d (.one (.sref d 0 0 (wD.length+news.length))) [.arr true (P.cellsOf (ZD P t)) (wD++news)]):=go [] (fun p hp=>by cases hp);refine⟨_,.inr ⟨wu,mj,cl σ,fun hh=>by simp[xM,wA]at hh,fun _=>OV hd (by rw[St.Ja,St.YD]) (fun t=>by rw[St.Kh,St.Yf]) (fun t i cells hb=>?_) (fun t i q s wQ hb=>?_) h4 (fun l hl=>?_) (fun l=>?_),fun hh _=>by first|(simp[QJ,wA]at hh;done)|(unfold QJ at hh;rw[wA]at hh;split at hh<;>simp_all)⟩,XI h⟩
 ·have hb:=Pl hb;rw[St.YU σ u j _ t i wW]at hb;split at hb
  ·cases hb
  ·exact hb
 ·have hb:=Od hb;rw[St.YU σ u j _ t i wW]at hb;split at hb
  ·rename_i hc;cases hb;rw[hc.1,hc.2];exact⟨rows,ho⟩
  ·exact⟨wQ,hb⟩
 ·rw[<-Q0,<-qJ];exact go l hl
 ·rw[<-Q0,<-qJ];exact cl _
theorem M4{s:Nat}(h:YG σ d=true):YG (σ.put s .any) d=true:=by
 induction σ generalizing s d with
 |nil=>exact h
 |cons e σ ih=>
  cases s with
  |zero=>
   cases d with
   |zero=>rw[JJ]at h⊢;rcases h with h|⟨x,h⟩<;>(simp at h;subst h;left;rfl)
   |succ d=>exact h
  |succ s=>
   cases d with
   |zero=>exact h
   |succ d=>exact ih (s:=s) (d:=d) h
def St.J8:St->List Nat->St
 |σ,[]=>σ
 |σ,s::l=>St.J8 (σ.put s .any) l
theorem UH{d:Nat}:∀(l:List Nat){σ:St},YG σ d=true->YG (σ.J8 l) d=true
 |[],_,h=>h
 |_::l,_,h=>UH l (M4 h)
attribute [simp] St.J8
theorem apN{o:OpI}{x y:Operand}{t:TypeId}{c:Nat}(h:@EI P (((σ.ZT u j (.arr true size (rows.set i (place (rowAt rows i) c [.unk])))).ZV l2).new d (.one (.sref d 0 0 (wD.length+news.length))) [.arr true n (wD++news)]) A l k)
  (hi:i<rows.length:=by(simp;try omega)) (wA:o.o.op= .call ⟨.builtin .append,#[x,y],#[t,t]⟩:=by exact rfl) (hg:o.o.guard=none:=by exact rfl) (hd:o.o.dst=some d:=by exact rfl) (wu:A.bar o.o=true:=by exact rfl)
  (vK:n=P.cellsOf (ZD P t):=by simp) (h1:gOf (look P σ t x)=true/\gOf (look P σ t y)=true/\Zy P t=true/\YR P (ZD P t)=true/\0<P.cellsOf (ZD P t):=by simp)
  (h2:unc (look P σ t x)= .one (.tref u j i c none):=by simp) (ho:σ.ob u j= .arr true size rows:=by simp) (hc:(rowAt rows i)[c]?=some (.sl n wD):=by simp) (h3:(KT σ (unc (look P σ t y)) n).1/\(KT σ (unc (look P σ t y)) n).2=(news,l2):=by simp) (pO:(u,j)∉l2/\l2.Nodup:=by simp)
  (h4:((σ.ZT u j (.arr true size (rows.set i (place (rowAt rows i) c [.unk])))).ZV l2).fresh d=true:=by simp) (h5:(wD.length+news.length)*P.bytesOf (ZD P t)<=140737488355328/\wD.length+news.length<=9223372036854775807:=by(simp<;>omega)):@SI P σ A o l k:=
 LZ wA hg hd wu vK h1 h2 ho hi hc h3 pO h4 h5 h
theorem Mk{c:Nat}{x:D}(hi:i<rows.length)(hc:c<(rowAt rows i).length)(ds:List D)(h1:ds.length=1):(rows.set i (place (rowAt rows i) c [x])).set i (place (rowAt (rows.set i (place (rowAt rows i) c [x])) i) c ds)=rows.set i (place (rowAt rows i) c ds):=by
 have e:rowAt (rows.set i (place (rowAt rows i) c [x])) i=place (rowAt rows i) c [x]:=by simp[rowAt,hi]
 rw[e,List.set_set];congr 1;generalize rowAt rows i=r at*;unfold place;rw[h1,List.length_singleton];have l1:(r.take c).length=c:=eO
 have e1:(r.take c++[x]++r.drop (c+1)).take c=r.take c:=by rw[List.append_assoc];exact List.take_left' l1
 have e2:(r.take c++[x]++r.drop (c+1)).drop (c+1)=r.drop (c+1):=List.drop_left' (by rw[List.length_append,l1,List.length_singleton]);rw[e1,e2]
theorem Sx:∀(l:List Nat)(σ:St)(u:Nat),(σ.J8 l).get u=σ.get u\/(σ.J8 l).get u= .any
 |[],_,_=>.inl rfl
 |s::l,σ,u=>by
  rcases Sx l (σ.put s .any) u with e|e
  ·rw[St.J8,e,St.Xm];split
   ·exact .inr rfl
   ·exact .inl rfl
  ·exact .inr e
theorem Ik(σ:St)(s:Nat):Wk σ (σ.put s .any):=by
 rintro T0 B a w ⟨X,h,r⟩;refine⟨X,h,by rw[r.size,St.YY],r.defers,r.hB,r.hX,r.hT,fun t ht=>?_,fun t j=>?_,fun t j b=>?_,fun t j b=>?_,fun t j t' j' b=>?_⟩
 ·rw[St.YY]at ht;rw[St.Xm,St.YV];split
  ·trivial
  ·exact r.slot t ht
 ·rw[St.YV];exact r.obj t j
 ·rw[St.YV];exact r.ub t j b
 ·rw[St.YV];exact r.own t j b
 ·rw[St.YV];exact r.inj t j t' j' b
theorem Pm:∀(l:List Nat)(σ:St),Wk σ (σ.J8 l)
 |[],_=>fun _ _ _ _ h=>h
 |s::l,σ=>fun T0 B a w h=>Pm l _ T0 B a w (Ik σ s T0 B a w h)
theorem L4{o:Oper}{Q:St->Prop}{T:TypeId}{c:Nat}{l:List (Nat×Nat)}(ks:List Nat)(hw:Wk σ (σ.J8 ks))(wA:o.op= .store T x y)(hg:o.guard=none)(hd:o.dst=none)(wu:bar o=true)(vm:Oh bar o=true)
  (hm:StM P (σ.J8 ks) T x y t j i c size rows ds l) (h:Ev P ops bar rest (((σ.J8 ks).ZV l).ZT t j (.arr true size (rows.set i (place (rowAt rows i) c ds)))) Q):Ks P ops bar o rest σ Q:=by
 refine⟨_,.inr ⟨wu,fun T0 B a w K Q' vN hK=>VS wA hg hd hm T0 B a w K Q' (hw T0 B a w vN) hK,fun d' _ hc=>XV (QQ (UH ks hc)),fun _=>.inr ⟨vm,fun u=>?_⟩,fun hh=>by simp[z6,wA]at hh,fun hh _=>by simp[QJ,wA]at hh⟩,XI h⟩;rw[St.Yf,St.Kh];exact Sx ks σ u
theorem stU{o:OpI}{T:TypeId}{x y:Operand}{c:Nat}{d:D}(ks:List Nat)(h:@EI P (((σ.J8 ks).ZV L).ZT t j (.arr true size (rows.set i (place (rowAt rows i) c [d])))) A l k)(wb:c<(rowAt rows i).length)
  (hi:i<rows.length:=by(simp;try omega)) (wA:o.o.op= .store T x y:=by exact rfl) (hg:o.o.guard=none:=by exact rfl) (hd:o.o.dst=none:=by exact rfl) (wu:A.bar o.o=true:=by exact rfl) (vm:Oh A.bar o.o=true:=by exact rfl)
  (hx:unc (look P (σ.J8 ks) 0 x)= .one (.ptr t j i c):=by simp) (ho:(σ.J8 ks).ob t j= .arr true size (rows.set i (place (rowAt rows i) c [.unk])):=by simp) (h1:Kk P T=true/\gOf (look P (σ.J8 ks) 0 x)=true/\gOf (look P (σ.J8 ks) T y)=true/\(unc (look P (σ.J8 ks) T y)).flat=true:=by simp)
  (h2:QD (σ.J8 ks) (unc (look P (σ.J8 ks) T y)).cells=some [d]:=by simp) (h3:XO (σ.J8 ks) (unc (look P (σ.J8 ks) T y)).cells:=by simp) (h4:YF (unc (look P (σ.J8 ks) T y)).cells=L:=by simp) (h5:L.Nodup/\(t,j)∉L/\((σ.J8 ks).ZV L).Je (At.isT t)=false:=by simp) (h6:[d].length=P.cellsOf T/\c+P.cellsOf T<=size:=by simp)
  :@SI P σ A o l k:=by
 rw[<-Mk (x:=.unk) hi wb [d] rfl]at h;exact L4 ks (Pm ks σ) wA hg hd wu vm ⟨hx,ho,by rw[List.length_set];exact hi,h1,h2,h3,h4,h5,h6⟩ h
theorem M1{Q:Exit->St->Prop}(vx:∀(i:Nat)(o:Oper)(σ σ':St),ops[i]?=some o->X1 P ops bar o σ σ'->VC PT NB σ->VC PT NB σ')(v9:VC PT NB σ)(hm:P.follows .mixedOrders=true)(ho:P9 ops.size ord=true)(hdr:Te P ops (posOf ord) bar PT NB (qX ops.toList [])=true)(wb:Qi ops (posOf ord) σ=true)(h:OH P ops bar ord σ (Q .normal)):AWP P (.region id ops true) Q σ:=by
 intro T0 B a w vN;refine wp_region_any hm ?_;have wx:=List.all_eq_true.1 hdr
 simp only[P9,Bool.and_eq_true,beq_iff_eq,List.all_eq_true,decide_eq_true_eq,List.mem_range,List.contains_iff_mem]at ho;obtain⟨⟨⟨o1,o2⟩,o3⟩,o4⟩:=ho;refine VM (T0:=T0) (B:=B) (w0:=w) (PT:=PT) (NB:=NB) vx hdr (Qa:=Q .normal) (fun σ' a' w' hq hr hb=>⟨σ',hq,hr,hb⟩) ops.size ord _ σ a _ o1 fM (Nc o2) (fun i=>?_) o3 (fun m om sG hm=>absurd (o4 m (Array.getElem?_eq_some_iff.1 sG).1) hm) ?_ v9 h (Vg vN) ⟨rfl,rfl,rfl,Nat.le_refl _,fun _ _=>rfl⟩
 ·rw[Array.getD_eq_getD_getElem?,Array.getElem?_replicate];constructor
  ·intro hh;rw[if_pos (o3 i hh)];rfl
  ·intro hh;split at hh
   ·rename_i wO;exact o4 i wO
   ·cases hh
 ·intro j hj hl;have ru:=o3 j hj
  have hb:=wx j (List.mem_range.2 ru);simp only[Bool.and_eq_true,Bool.or_eq_true,Bool.not_eq_true']at hb;refine⟨hb.2.resolve_left eY,?_⟩;have hc:=List.all_eq_true.1 wb j (List.mem_range.2 ru);unfold xS at hl;simp only[hl,Bool.not_true,Bool.false_or]at hc;rw[Array.getElem?_eq_getElem ru]at hc;simp only[Option.bind_some]at hc;cases hd:ops[j].dst with
  |none=>rw[hd]at hc;cases hc
  |some d=>rw[hd]at hc;exact⟨_,d,Array.getElem?_eq_getElem ru,hd,hc⟩
theorem GG{o:Oper}{l:List Oper}(PT:List (Nat×Nat))(NB bs ord:List Nat)(hm:P.follows .mixedOrders=true)(ho:P9 (o::l).length ord=true)(hdr:Te P ⟨o::l⟩ (posOf ord) (xF bs) PT NB (qX (o::l) [])=true)(wb:Qi ⟨o::l⟩ (posOf ord) σ=true)(sy:qu ⟨o::l⟩ PT=true)(hp:ptB PT σ=true)(vr:WE P ⟨o::l⟩ NB=true)(oa:nbB NB σ=true)(s3:((o::l).all fun o=>!xF bs o||xM o||z6 o||(QJ P o&&jA (xF bs) o))=true)
  (h:@EI P σ ⟨⟨o::l⟩,xF bs⟩ ⟨Nw (o::l) o ord⟩ k):@DI P id σ ⟨⟨o::l⟩,br⟩ k:=by
 have h2:∀i∈ord,i<(o::l).length:=by simp only[P9,Bool.and_eq_true,List.all_eq_true,decide_eq_true_eq]at ho;exact ho.1.2
 exact M1 (bar:=xF bs) (PT:=PT) (NB:=NB) (fun _ _ _ _ hi hs hq=>⟨Lu sy s3 hi hs hq.1,LO vr s3 hi hs hq.2⟩) ⟨NY hp,II oa⟩ hm ho hdr wb (VZ h2 (XI h))
end Go.Vm
