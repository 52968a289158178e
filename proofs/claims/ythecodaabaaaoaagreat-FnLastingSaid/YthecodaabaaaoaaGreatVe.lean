/- An abstract machine M1 the model of Go, by value, and that it is sound: part Ve. No condition. -/
import Derived.Test.YthecodaabaaaoaaGreatVd
set_option linter.unusedVariables false
set_option linter.unusedSimpArgs false
namespace Go.Vm
open Go.RowKit
open Go.RowKit
theorem zAH{p:Prop}(h:p:=by(repeat' apply And.intro)<;>kernel_rfl):p:=h
theorem zAV{p:Prop}(h:p:=by kernel_rfl):p:=h
variable{f:FuncId}{res rows args nz news:List (List D)}{o:OpI}{A:KX}{P:Program}{l:K6}{d b t dj j id size n i u tf:Nat}{σ σ':St}{p q r1 r2 s:Prop}{nj ds r:List D}{h:Nat->Nat->Hd}{c cl:Call}{Q:Exit->Act->World->Prop}{k:Fr}{B X' X S:Nat->Prop}{want dp g qq:Bool}{x0 x:Operand}{T0 T:CS}{a:Act}{w w':World}{xc yc y:y5}{v:Value}{hf:Nat->Hd}{hd:Hd}
def u7(σ:St):V->Option Nat
 |.one (.d (.sl _ rows))=>some rows.length
 |.one (.sref t j _ len)=>(match σ.ob t j with|.arr _ _ _=>some len|_=>none)
 |.fix _ (.one (.sref t j _ len))=>(match σ.ob t j with|.arr _ _ _=>some len|_=>none)
 |_=>none
def W9(σ:St):Prop:=∀t n,u7 σ (σ.get t)=some n->n<=9223372036854775807
theorem tb:∀{v:V}{val:Value}{n:Nat},u7 σ v=some n->JB T h σ.ob w v val->n<=maxLen
 |.one (.d (.sl s rows)),val,n,hn,hv=>by simp only[u7]at hn;cases hn;obtain⟨base,cap,_,h1,h2⟩:=Aa (r:=(show Rd T w val (.sl s rows)from hv));omega
 |.one (.sref u j lo len),val,n,hn,hv=>by
  simp only[u7]at hn;split at hn
  ·rename_i q s rows ho;cases hn;have hh:=(show YL T h σ.ob w (.sref u j lo len) val from hv).2.1 _ _ _ ho
   obtain⟨_,_,_,base,cap,_,h1,h2,_⟩:=hh;omega
  ·cases hn
 |.fix u0 (.one (.sref u j lo len)),val,n,hn,hv=>by
  simp only[u7]at hn;split at hn
  ·rename_i q s rows ho;cases hn;have hh:=(show YL T h σ.ob w (.sref u j lo len) val from hv.2).2.1 _ _ _ ho
   obtain⟨_,_,_,base,cap,_,h1,h2,_⟩:=hh;omega
  ·cases hn
theorem BG(r:Jq T0 B σ a w):W9 σ:=by obtain⟨X,h,r⟩:=r;intro t n hn;exact tb hn (r.get t)
theorem DK{c:Code}{Q:Exit->St->Prop}(h:W9 σ->AWP P c Q σ):AWP P c Q σ:=fun T0 B a w r=>h (BG r) T0 B a w r
theorem pK{b:Bool}{x:y5}(ht:W9 σ->b=true->@WI P σ x k)(hf:W9 σ->b=false->@WI P σ y k):@CI P b σ x y k:=
 ⟨fun h=>DK fun hk=>Vv (ht hk h),fun h=>DK fun hk=>Vv (hf hk h)⟩
theorem NW{b c:Bool}{x:y5}(hc:c=b)(ht:W9 σ->c=true->@WI P σ x k)(hf:W9 σ->c=false->@WI P σ y k):@CI P b σ x y k:=by subst hc;exact pK ht hf
theorem okL{c:y5}(h:W9 σ->@Sy P σ c k):@Sy P σ c k:=DK h
theorem okD(h:W9 σ->@DI P id σ A k):@DI P id σ A k:=DK h
def My:Op->Bool
 |.call _=>true
 |_=>false
theorem Hg(na:My o.o.op=false)(hg:o.o.guard=some (j,want))(hd:o.o.dst=some d)
  (lj:(A.ops[j]?).bind (·.dst)=some dj) (l4:qj want (σ.get dj)=some g) (nn:dj<σ.length)
  (ht:g=true->((evV P σ o.o.op o.o.type).1/\gOf (evV P σ o.o.op o.o.type).2=true/\(unc (evV P σ o.o.op o.o.type).2).flat=true)/\@EI P (σ.put d (.cnd true (unc (evV P σ o.o.op o.o.type).2))) A l k)
  (hf:g=false->@EI P (σ.put d (.cnd false .any)) A l k):@SI P σ A o l k:=by
 have step:∀v,(g=true->(evV P σ o.o.op o.o.type).1/\gOf (evV P σ o.o.op o.o.type).2=true/\v=unc (evV P σ o.o.op o.o.type).2/\v.flat=true)->Xm P A.ops o.o σ (σ.put d (.cnd g v)):=by
  intro v hv;unfold Xm;simp only[hg];refine⟨dj,d,g,v,lj,nn,hd,l4,fun eH=>?_,rfl⟩;obtain⟨h1,h2,h3,h4⟩:=hv eH;have base:∃v0,Yh P σ o.o.op o.o.type v0/\gOf v0=true/\v=unc v0/\v.flat=true:=⟨_,Av h1,h2,h3,h4⟩
  unfold MH;split
  ·rename_i c hc;rw[hc]at na;cases na
  ·exact base
 cases g with
 |true=>obtain⟨⟨h1,h2,h3⟩,h4⟩:=ht rfl;exact⟨_,.inl (step _ fun _=>⟨h1,h2,rfl,h3⟩),JW h4⟩
 |false=>exact⟨_,.inl (step .any (fun h=>by cases h)),JW (hf rfl)⟩
theorem s5(hg:o.o.guard=some (j,want))(hd:o.o.dst=some d)
  (lj:(A.ops[j]?).bind (·.dst)=some dj) (l4:qj want (σ.get dj)=some g) (nn:dj<σ.length) (hgf:g=false)
  (h:@EI P (σ.put d (.cnd false .any)) A l k):@SI P σ A o l k:=by
 subst hgf;refine⟨_,.inl ?_,JW h⟩;unfold Xm;simp only[hg];exact⟨dj,d,false,.any,lj,nn,hd,l4,(fun h=>by cases h),rfl⟩
def nth{α:Type}[Inhabited α](l:List α)(i:Nat):α:=l.getD i default
theorem ZF{α:Type}[Inhabited α]{f:α->List D}{l:List α}(h:i<l.length):rowAt (l.map f) i=f (nth l i):=by simp[rowAt,nth,h]
theorem Kh{α:Type}{f:α->List D}{l:List α}{x:α}(h:r=f x):(l.map f).set i r=(l.set i x).map f:=by rw[h,List.map_set]
abbrev W(x:Int):Int:=IntKind.i64.wrap x
theorem YZ{x:Int}(h1: -9223372036854775808<=x)(h2:x<=9223372036854775807):IntKind.i64.wrap x=x:=by
 have hr:IntKind.i64.min<=x/\x<=IntKind.i64.max:=by
  constructor
  ·show-9223372036854775808<=x;exact h1
  ·show x<=9223372036854775807;exact h2
 simp only[IntKind.wrap];first
  |(simp[IntKind.bits,IntKind.signed];omega)
  |omega
theorem OZ(i:Nat):((i:Int)-1).toNat=i-1:=zAD
attribute [simp] St.fresh yG V.ref V.Ow XE Tf
open Go.RowKit
attribute [simp] St.ri Dk B7 At.oI pb
open Go.RowKit
variable{fn:Func}{K:Act->World->Prop}{L F l1 l2:List (Nat×Nat)}{parts:Array (Nat×Operand)}{mM:List (List Value)}{vs:List Value}{e:Exit}
def At.isP(t:Nat):At->Bool
 |.tref u _ _ _ _=>u==t
 |.ptr u _ _ _=>u==t
 |_=>false
theorem Rel.pE(r:Rel T0 B σ a w X h){rows:List (List At)}(ho:σ.ob t 0= .lit size rows)(l9:Km σ rows=some news)(mH:KP σ rows)
  (hL:XL rows.flatten=L) (mu:L.Nodup) (cV:(t,0)∉L) (hp:(σ.Z8 L).yV (At.isP t)=false):Jq T0 B ((σ.Z8 L).Z1 t 0 (.arr true size news)) a w:=by
 have n9:σ.ob t 0≠ .none:=zAw;have h0:=r.obj t 0;rw[ho]at h0;obtain⟨e,xs,iJ,hz,ni⟩:=h0;obtain⟨hm1,bV,hm3⟩:=xb l9;have nk:=RU r ni hm1 (xC mH) (by rw[hL];exact mu);rw[hL]at nk;have r1:=r.Z8 L;have mg:=r.zu L;have iA:∀b',(h t 0).u b'->zF σ h L b'->False:=by rintro b' iO ⟨p,ee,nf,aw⟩;obtain⟨q1,q2⟩:=r.inj t 0 p.1 p.2 b' n9 nf iO aw;exact cV (by rw[q1,q2];exact ee)
 have hG:(σ.Z8 L).ob t 0= .lit size rows:=by rw[St.KY,if_neg cV,ho]
 have iD:(σ.Z8 L).ob t 0≠ .none:=by rw[hG];simp
 have lH:∀u i,¬(u=t/\i=0)->((σ.Z8 L).Z1 t 0 (.arr true size news)).ob u i=(σ.Z8 L).ob u i:=by intro u i nf;rw[St.Xz _ t 0 _ u i iD,if_neg nf]
 have lE:((σ.Z8 L).Z1 t 0 (.arr true size news)).ob t 0= .arr true size news:=by rw[St.Xz _ t 0 _ t 0 iD];simp
 generalize hσ:(σ.Z8 L).Z1 t 0 (.arr true size news)=σ2 at*;generalize hσ1:σ.Z8 L=σ1 at*;have hlen:σ2.length=σ1.length:=by rw[<-hσ,St.Xf]
 have lB:∀u,σ2.get u=σ1.get u:=fun u=>by rw[<-hσ,St.QL]
 let nu:Hd:=⟨(h t 0).v,fun k=>(xs[k]?).getD undef,fun b=>(h t 0).u b\/zF σ h L b⟩
 let h':Nat->Nat->Hd:=fun u i=>if u=t/\i=0 then nu else h u i
 have hP:∀u i,¬(u=t/\i=0)->h' u i=h u i:=fun u i nf=>if_neg nf;have hht:h' t 0=nu:=by simp[h']
 have hv:∀u i,(h' u i).v=(h u i).v:=by
  intro u i;by_cases hc:u=t/\i=0
  ·obtain⟨rfl,rfl⟩:=hc;rw[hht]
  ·rw[hP u i hc]
 have at_:∀{x:At}{v:Value},At.isP t x=false->YL (Tof T0 X) h σ1.ob w x v->YL (Tof T0 X) h' σ2.ob w x v:=by
  intro x v dw rx;cases x with
  |any=>exact rx
  |d x=>exact rx
  |nil s=>exact rx
  |sref u i lo len=>
   refine⟨rx.1,fun q s rws hq=>?_,fun s rws hq=>?_⟩
   ·by_cases hc:u=t/\i=0
    ·obtain⟨rfl,rfl⟩:=hc;rw[lE]at hq;cases hq;rw[hv,<-bV];exact rx.2.2 _ _ hG
    ·rw[lH u i hc]at hq;rw[hv];exact rx.2.1 _ _ _ hq
   ·by_cases hc:u=t/\i=0
    ·obtain⟨rfl,rfl⟩:=hc;rw[lE]at hq;cases hq
    ·rw[lH u i hc]at hq;rw[hv];exact rx.2.2 _ _ hq
  |ptr u i k c=>
   refine⟨rx.1,fun q s rws hq=>?_⟩;have hc:¬(u=t/\i=0):=fun hc=>by simp[At.isP,hc.1]at dw
   rw[lH u i hc]at hq;rw[hv];exact rx.2 _ _ _ hq
  |bptr u c=>
   refine⟨rx.1,fun cells hq=>?_⟩;by_cases hc:u=t
   ·subst hc;rw[lE]at hq;cases hq
   ·rw[lH u 0 (fun hh=>hc hh.1)]at hq;rw[hv];exact rx.2 _ hq
  |fn f u=>
   refine⟨rx.1,fun cells hq=>?_⟩;by_cases hc:u=t
   ·subst hc;rw[lE]at hq;cases hq
   ·rw[lH u 0 (fun hh=>hc hh.1)]at hq;rw[hv];exact rx.2 _ hq
  |tref u i k c o=>
   refine⟨rx.1,fun s rws hq=>?_⟩;have hc:¬(u=t/\i=0):=fun hc=>by simp[At.isP,hc.1]at dw
   rw[lH u i hc]at hq;rw[hP u i hc];exact rx.2 _ _ hq
  |rptr rr c=>exact rx
 have lI:∀u i,σ2.ob u i≠ .none->σ1.ob u i≠ .none:=by
  intro u i hn;by_cases hc:u=t/\i=0
  ·obtain⟨rfl,rfl⟩:=hc;exact iD
  ·rw[lH u i hc]at hn;exact hn
 refine⟨X,h',by rw[r1.size,hlen],r1.defers,r1.hB,r1.hX,r1.hT,fun u hu=>?_,fun u i=>?_,fun u i b hn hb=>?_,fun u i b hn hb=>?_,fun u i u' i' b hn mc hb n7=>?_⟩
 ·rw[hlen]at hu;rw[lB];exact JB.map at_ (St.Nf hp u) (r1.slot u hu)
 ·by_cases hc:u=t/\i=0
  ·obtain⟨rfl,rfl⟩:=hc;rw[lE,hht];refine⟨e,xs,by rw[<-bV];exact iJ,hm3 size hz,nk.mono (fun b hb=>⟨.inr hb,fun iY=>iA b (r.ub u 0 b n9 iY) hb⟩),fun k x d hx _ _=>by simp[nu,hx]⟩
  ·rw[lH u i hc,hP u i hc];exact Jx.map at_ (fun b k v hb hc=>⟨hc,hb⟩) (fun ho b=>r1.ub u i b ho) (fun _ _ _=>rfl) (St.It hp u i) (r1.obj u i)
 ·by_cases hc:u=t/\i=0
  ·obtain⟨rfl,rfl⟩:=hc;rw[hht]at hb⊢;exact .inl (r.ub u 0 b n9 hb)
  ·rw[hP u i hc]at hb⊢;exact r1.ub u i b (lI u i hn) hb
 ·by_cases hc:u=t/\i=0
  ·obtain⟨rfl,rfl⟩:=hc;rw[hht]at hb;rcases hb with hb|hb
   ·exact r.own u 0 b n9 hb
   ·have:=mg b hb;exact⟨this.1,this.2.1,this.2.2.1⟩
  ·rw[hP u i hc]at hb;exact r1.own u i b (lI u i hn) hb
 ·have key:∀u i b,¬(u=t/\i=0)->σ1.ob u i≠ .none->(h u i).u b->(h' t 0).u b->False:=by
   intro u i b hc hn hb n7;rw[hht]at n7;rcases n7 with n7|n7
   ·exact hc (r1.inj u i t 0 b hn iD hb n7)
   ·exact(mg b n7).2.2.2 u i hn hb
  by_cases hc:u=t/\i=0
  ·by_cases mZ:u'=t/\i'=0
   ·exact⟨hc.1.trans mZ.1.symm,hc.2.trans mZ.2.symm⟩
   ·obtain⟨rfl,rfl⟩:=hc;rw[hP u' i' mZ]at n7;exact(key u' i' b mZ (lI u' i' mc) n7 hb).elim
  ·rw[hP u i hc]at hb;by_cases mZ:u'=t/\i'=0
   ·obtain⟨rfl,rfl⟩:=mZ;exact(key u i b hc (lI u i hn) hb n7).elim
   ·rw[hP u' i' mZ]at n7;exact r1.inj u i u' i' b (lI u i hn) (lI u' i' mc) hb n7
theorem wS{T:TypeId}(na:o.o.op= .buildSlice T n parts)(hg:o.o.guard=none)(hd:o.o.dst=some d)(mP:A.bar o.o=true)
  (h1:(σ.fresh d=true/\d<σ.length)/\Xl P T=true/\Qb P (ZT P T)=true/\0<P.cellsOf (ZT P T)/\parts.toList.length=n/\n*P.cellsOf (ZT P T)<=16777216) (h2:(zG P σ (ZT P T) (P.cellsOf (ZT P T)) parts.toList 0).1)
  (h3:Yf d (zG P σ (ZT P T) (P.cellsOf (ZT P T)) parts.toList 0).2.flatten=false)
  (h4:Km (σ.new d (.one (.sref d 0 0 (zG P σ (ZT P T) (P.cellsOf (ZT P T)) parts.toList 0).2.length)) [.lit (P.cellsOf (ZT P T)) (zG P σ (ZT P T) (P.cellsOf (ZT P T)) parts.toList 0).2]) (zG P σ (ZT P T) (P.cellsOf (ZT P T)) parts.toList 0).2=some news/\
   KP (σ.new d (.one (.sref d 0 0 (zG P σ (ZT P T) (P.cellsOf (ZT P T)) parts.toList 0).2.length)) [.lit (P.cellsOf (ZT P T)) (zG P σ (ZT P T) (P.cellsOf (ZT P T)) parts.toList 0).2]) (zG P σ (ZT P T) (P.cellsOf (ZT P T)) parts.toList 0).2)
  (h5:XL (zG P σ (ZT P T) (P.cellsOf (ZT P T)) parts.toList 0).2.flatten=L/\L.Nodup/\(d,0)∉L)
  (h6:((σ.new d (.one (.sref d 0 0 (zG P σ (ZT P T) (P.cellsOf (ZT P T)) parts.toList 0).2.length)) [.lit (P.cellsOf (ZT P T)) (zG P σ (ZT P T) (P.cellsOf (ZT P T)) parts.toList 0).2]).Z8 L).yV (At.isP d)=false)
  (h:@EI P (((σ.new d (.one (.sref d 0 0 (zG P σ (ZT P T) (P.cellsOf (ZT P T)) parts.toList 0).2.length)) [.lit (P.cellsOf (ZT P T)) (zG P σ (ZT P T) (P.cellsOf (ZT P T)) parts.toList 0).2]).Z8 L).Z1 d 0 (.arr true (P.cellsOf (ZT P T)) news)) A l k):@SI P σ A o l k:=by
 refine⟨_,.inr ⟨mP,?_,fun d' nu hc=>Qh (JE (kV (fun e=>nu zBy) hc)),fun hh=>by simp[V4,na]at hh,fun hh=>by first|(simp[kP,na]at hh;done)|(unfold kP at hh;rw[na]at hh;split at hh<;>simp_all),fun hh _=>by first|(simp[KK,na]at hh;done)|(unfold KK at hh;rw[na]at hh;split at hh<;>simp_all)⟩,JW h⟩;rintro T0 B a w K Q' ⟨X,hh,r⟩ hK;have hw:Region.wanted o.o (yielded A.ops a.tmps)=true:=zBW
 rw[if_pos hw];refine RI r na hd h1.1.1 h1.2.1 h1.2.2.1 h1.2.2.2.1 h1.2.2.2.2.1 h1.2.2.2.2.2 (HI h2) h3 (fun a' w' hr hkp=>hK a' w' ?_ hkp);obtain⟨X',hP,r'⟩:=hr;exact Rel.pE r' (by rw[St.Ji,if_pos ⟨rfl,h1.1.2⟩];rfl) h4.1 h4.2 h5.1 h5.2.1 h5.2.2 h6
attribute [simp] At.isP
theorem Yb.own(hs:Yb P f args res):Q0 P f true args res:=by
 refine⟨hs.1,fun T w mY hT ha=>(hs.2 T w mY hT ha).mono ?_⟩;rintro e w' ⟨vs,mM,he,hb,hf,hl,⟨hlen,Sk,h1,h2,h3⟩⟩;refine⟨vs,mM,fun b=>(w.heap.size<=b/\b<w'.heap.size)/\∀(k:Nat)(c:Value)(d:D),mM.flatten[k]?=some c->res.flatten[k]?=some d->d.scalar=false->blk c≠some b,he,hb,fun b hb=>hb.1,hf,ql hl (fun k x d hx hd=>?_),fun _=>⟨fun i c d b hc hd lA dz=>?_,fun i j c c' d d' b hc hd mZ nu lA bC dz hbl'=>?_⟩⟩
 ·simp only[qY,if_true];have ho:=h1 k x d hx hd
  cases ho with
  |int k n=>exact .int _ _
  |bool b=>exact .bool _
  |str s=>exact .str _
  |unk v h=>exact .unk _ h
  |sl v size rows S e' xs db ho hz n7 hl' hk dv nu=>
   refine⟨e',xs,ho,hz,YF.xS hl' (fun i y dd hy iE=>(hk i y dd hy iE).rd (fun b k' hb=>.inr ⟨h2 k b (dv i b hb).1,fun k2 c2 d2 fS fN cE hbl2=>?_⟩))⟩;have iS:=h1 k2 c2 d2 fS fN
   have dh:Sk k2 b:=by
    cases iS with
    |int k n=>cases cE
    |bool b=>cases cE
    |str s=>cases cE
    |unk=>cases cE
    |sl v2 cj ck S2 e2 xs2 Sk2 iS bJ mQ eu ej nt hd2'=>exact mQ b hbl2
   have:=h3 k k2 b (dv i b hb).1 dh;subst this;rw[hx]at fS;cases fS;exact(dv i b hb).2 hbl2
 ·have iS:=h1 i c d hc hd;have dh:Sk i b:=by
   cases iS with
   |int k n=>cases lA
   |bool b=>cases lA
   |str s=>cases lA
   |unk=>cases lA
   |sl v2 cj ck S2 e2 xs2 Sk2 iS bJ mQ eu ej nt hd2'=>exact mQ b dz
  have:=h2 i b dh;exact⟨this.1,this.2,fun hy=>hy.2 i c d hc hd lA dz⟩
 ·have dh:∀(i:Nat)(c:Value)(d:D),mM.flatten[i]?=some c->res.flatten[i]?=some d->d.scalar=false->blk c=some b->Sk i b:=by
   intro i c d hc hd lA dz;have iS:=h1 i c d hc hd
   cases iS with
   |int k n=>cases lA
   |bool b=>cases lA
   |str s=>cases lA
   |unk=>cases lA
   |sl v2 cj ck S2 e2 xs2 Sk2 iS bJ mQ eu ej nt hd2'=>exact mQ b dz
  exact h3 i j b (dh i c d hc hd lA dz) (dh j c' d' mZ nu bC hbl')
open Go.RowKit
def Ei(σ:St)(F:List (Nat×Nat)):At->At
 |.sref t j lo len=>if inF F t j then(match σ.ob t j with|.arr _ s rows=>.d (.sl s (cut rows lo len))|_=>.any)else .sref t j lo len
 |.ptr t j i c=>if inF F t j then .any else .ptr t j i c
 |.tref t j i c o=>if inF F t j then .any else .tref t j i c o
 |x=>x
def pd(σ:St)(F:List (Nat×Nat)):V->V
 |.one x=>.one (Ei σ F x)
 |.agg xs=>.agg (xs.map (Ei σ F))
 |.fix u (.one x)=>.fix u (.one (Ei σ F x))
 |.fix u (.agg xs)=>.fix u (.agg (xs.map (Ei σ F)))
 |_=>.any
def rD(σ:St)(F:List (Nat×Nat))(t j:Nat)(o:Ob):Ob:=
 if inF F t j then .none else match o with|.box cs=>.box (cs.map (Ei σ F))|.lit _ _=>.none|o=>o
def Al(σ:St)(F:List (Nat×Nat))(t:Nat):List Ob->Nat->List Ob
 |[],_=>[]
 |o::os,j=>rD σ F t j o::Al σ F t os (j+1)
def NA(σ:St)(F:List (Nat×Nat)):List Ent->Nat->List Ent
 |[],_=>[]
 |e::es,t=>(pd σ F e.1,Al σ F t e.2 0)::NA σ F es (t+1)
def St.frz(σ:St)(F:List (Nat×Nat)):St:=NA σ F σ 0
theorem Eg{F:List (Nat×Nat)}:∀{σ0:St}{es:List Ent}{t d:Nat},Xt es d=true->Xt (NA σ0 F es t) d=true
 |σ0,[],t,d,h=>by simp[Xt]at h
 |σ0,e::es,t,0,h=>by
  rw[qX]at h⊢;rcases h with h|⟨x,h⟩
  ·left;simp only[List.getElem?_cons_zero,Option.some.injEq]at h;subst h;rfl
  ·right;simp only[List.getElem?_cons_zero,Option.some.injEq]at h;subst h;exact⟨x,rfl⟩
 |σ0,e::es,t,d+1,h=>by
  have:Xt es d=true:=by rw[qX]at h⊢;simpa using h
  have:=Eg (F:=F) (σ0:=σ0) (es:=es) (t:=t+1) this;rw[qX]at this⊢;simpa[NA]using this
theorem pf(mP:A.bar o.o=true)(hw:Wk σ σ')(hc:∀d,Xt σ d=true->Xt σ' d=true)(fL:V4 o.o=false)(hna:kP o.o=false)(gk:KK P o.o=false\/Pp A.bar o.o=false)(h:@SI P σ' A o l k):@SI P σ A o l k:=by
 obtain⟨σ'',hs,hr⟩:=h;refine⟨σ'',.inr ⟨mP,fun T0 B a w K Q lh hK=>PG hs T0 B a w K Q (hw T0 B a w lh) hK,fun d hd mK=>?_,fun hh=>(by rw[fL]at hh;cases hh),fun hh=>(by rw[hna]at hh;cases hh),fun hh ho=>(by rcases gk with gk|gk<;>(first|(rw[gk]at hh;cases hh)|(rw[gk]at ho;cases ho)))⟩,hr⟩;have h1:=hc d mK
 rcases hs with hs|hs
 ·exact HE hs hd h1
 ·exact hs.2.2.1 d hd h1
theorem UU(F:List (Nat×Nat))(mP:A.bar o.o=true)(hw:RV σ [] F σ (σ.frz F) 0)(h:@SI P (σ.frz F) A o l k)(fL:V4 o.o=false:=by exact rfl)(hna:kP o.o=false:=by exact rfl)(gk:KK P o.o=false\/Pp A.bar o.o=false:=by first|exact .inl rfl|exact .inr rfl):@SI P σ A o l k:=
 pf mP (XN [] F rfl hw) (fun _ hd=>Eg hd) fL hna gk h
attribute [simp] Ei pd rD Al NA St.frz
theorem pj(P:Program)(q2:Bool)(eH:σ.get d= .one (.sref u j 0 n))(ho:σ.ob u j= .arr qq size rows)(hle:n<=rows.length)(hqq:q2=true->qq=true)(mf:(σ.Z1 u j .none).fresh d=true)
  (h:Wk ((σ.Z1 u j .none).new d (.one (.sref d 0 0 (rows.take n).length)) [.arr q2 size (rows.take n)]) σ'):Wk σ σ':=by
 have e:(rows.take n).length=n:=zBL;rw[e]at h;rintro T0 B a w ⟨X,hh,r⟩;refine h T0 B a w ?_;have hv : Yh P σ (Oper.mk (some d) (.move (.tmp d)) 0 "" #[] none).op 0 (.one (.sref u j 0 n)) := by
  show V.one (.sref u j 0 n)=look P σ 0 (.tmp d);rw[<-eH];rfl
 have key : ∀ (K : Act -> World -> Prop) (Q : Exit -> Act -> World -> Prop), (∀ a' w', Jq T0 B ((σ.Z1 u j .none).new d (.one (.sref d 0 0 n)) [.arr q2 size (rows.take n)]) a' w' -> XI B w w' -> K a' w') -> (Oper.mk (some d) (.move (.tmp d)) 0 "" #[] none).wp P a w K Q := by
  intro K Q hK;cases qq with
  |false=>
   cases q2 with
   |false=>exact vL r rfl hv ho hle mf hK
   |true=>cases hqq rfl
  |true=>
   cases q2 with
   |false=>exact wj r rfl hv ho hle mf hK
   |true=>exact vO r rfl hv ho hle mf hK
 have k2:=key (fun a' w'=>w'=w->Jq T0 B ((σ.Z1 u j .none).new d (.one (.sref d 0 0 n)) [.arr q2 size (rows.take n)]) a' w') (fun _ _ _=>True) (fun a' w' hr _ _=>hr);unfold Oper.wp at k2;simp only[execOp,Sem.run_pure,Oper.upon_value]at k2;have k3:=k2 trivial;have e2:a.put (some d) (a.eval (.tmp d))=a:=by
  show {a with tmps:=a.tmps.setIfInBounds d (a.tmps.getD d undef)}=a;have:a.tmps.setIfInBounds d (a.tmps.getD d undef)=a.tmps:=by
   apply Array.ext
   ·simp
   ·intro i h1 h2;rw[Array.getElem_setIfInBounds];split
    ·rename_i hi;subst hi;simp[Array.getD,h2]
    ·rfl
  rw[this]
 rw[e2]at k3;exact k3
open Go.RowKit
variable{lz:List Ob}
abbrev ptr(b:Nat):Value:=.pointer (some ⟨b,0,none⟩)
abbrev Ee(T:CS)(w:World)(mY:List Value)(args:List (List D)):Prop:=YF (fun v row=>∃cs,yT v cs/\YF (Rd T w) cs row) mY args
def xh(n:Nat)(pre:List (List D))(v:Value)(cells:List At)(lz:List Ob)(post:List (List D)):St:=
 Oj pre++(.fix v (.one (.bptr pre.length 0)),.box cells::lz)::(Oj post++List.replicate (n-(pre.length+1+post.length)) (V.any,[]))
theorem vg(post:List (List D))(m t:Nat):∃x,(match(Oj post++List.replicate m ((V.any,[]):Ent))[t]? with|some e=>e|none=>(V.any,[]))=(x,[])/\(x= .any\/∃r,post[t]?=some r/\x=vOf (r.map .d)):=by
 rcases Nat.lt_or_ge t post.length with h|h
 ·rw[List.getElem?_append_left zB7,Rr,List.getElem?_eq_getElem h];exact⟨_,rfl,.inr ⟨_,rfl,rfl⟩⟩
 ·rw[List.getElem?_append_right zB7,List.getElem?_replicate];refine⟨.any,?_,.inl rfl⟩;split
  ·rename_i e he;split at he
   ·cases he;rfl
   ·cases he
  ·rfl
theorem tJ(n:Nat)(pre:List (List D))(v:Value)(cells:List At)(lz:List Ob)(post:List (List D))(t:Nat):
  (t=pre.length/\(xh n pre v cells lz post)[t]?=some (.fix v (.one (.bptr pre.length 0)),.box cells::lz))\/
  (t≠pre.length/\(∀j,(xh n pre v cells lz post).ob t j= .none)/\((xh n pre v cells lz post).get t= .any\/∃r,(xh n pre v cells lz post).get t=vOf (r.map .d)/\((t<pre.length/\pre[t]?=some r)\/(pre.length<t/\post[t-pre.length-1]?=some r)))):=by
 rcases Nat.lt_trichotomy t pre.length with h|h|h
 ·refine .inr ⟨zAD,?_⟩;have:(xh n pre v cells lz post)[t]?=some (vOf (pre[t].map .d),[]):=by unfold xh;rw[List.getElem?_append_left zB7,Rr,List.getElem?_eq_getElem h];rfl
  refine⟨fun j=>by unfold St.ob;rw[this];simp[Yp],.inr ⟨pre[t],by unfold St.get;rw[this],.inl ⟨h,List.getElem?_eq_getElem h⟩⟩⟩
 ·refine .inl ⟨h,?_⟩;unfold xh;rw[List.getElem?_append_right (by rw[JQ];omega),JQ,h,Nat.sub_self];rfl
 ·refine .inr ⟨zAD,?_⟩;have e1:(xh n pre v cells lz post)[t]?=(Oj post++List.replicate (n-(pre.length+1+post.length)) ((V.any,[]):Ent))[t-pre.length-1]?:=by unfold xh;rw[List.getElem?_append_right (by rw[JQ];omega),JQ,show t-pre.length=(t-pre.length-1)+1 by omega,List.getElem?_cons_succ];rfl
  obtain⟨x,hx,hr⟩:=vg post (n-(pre.length+1+post.length)) (t-pre.length-1);rw[<-e1]at hx;constructor
  ·intro j;unfold St.ob;cases hq:(xh n pre v cells lz post)[t]? with
   |none=>rfl
   |some e=>rw[hq]at hx;simp only at hx;rw[hx];simp[Yp]
  ·have hg:(xh n pre v cells lz post).get t=x:=by
    unfold St.get;cases hq:(xh n pre v cells lz post)[t]? with
    |none=>rw[hq]at hx;simp only at hx;injection hx
    |some e=>rw[hq]at hx;simp only at hx;rw[hx]
   rcases hr with rfl|⟨r,hr,rfl⟩
   ·exact .inl hg
   ·exact .inr ⟨r,hg,.inr ⟨h,hr⟩⟩
theorem E0{pre post:List (List D)}{cells:List At}{lg l6:List Value}(hd:Nat->Hd)
  (hT:∀k i,T k i->k<w.heap.size/\k≠b/\¬S k) (hS:∀k,S k->k<w.heap.size/\k≠b) (hb:b<w.heap.size) (h0:hd 0=Hd.of (ptr b))
  (iW:∀(h:Nat->Nat->Hd)(ob:Nat->Nat->Ob),(∀j,h pre.length j=hd j)->(∀j,ob pre.length j=Yp (.box cells::lz) j)->Jx (Tof T (fun _=>False)) h ob w (hd 0) (.box cells))
  (lH:∀(h:Nat->Nat->Hd)(ob:Nat->Nat->Ob)(j:Nat),Jx (Tof T (fun _=>False)) h ob w (hd (j+1)) (Yp lz j))
  (lF:∀j k,Yp lz j≠ .none->blk (hd (j+1)).v=some k->(hd (j+1)).u k) (nk:∀j k,Yp lz j≠ .none->(hd (j+1)).u k->S k)
  (dH:∀i j k,Yp lz i≠ .none->Yp lz j≠ .none->(hd (i+1)).u k->(hd (j+1)).u k->i=j) (ha1:Ee T w lg pre) (ha2:Ee T w l6 post):
  Jq T (fun k=>k<w.heap.size/\k≠b/\¬S k) (xh n pre (ptr b) cells lz post) {tmps:=(lg++ptr b::l6).toArray++Array.replicate (n-(lg++ptr b::l6).toArray.size) undef,defers:=[]} w:=by
 have hl1:=ha1.length;have eu:=ha2.length;have hH:=tJ n pre (ptr b) cells lz post;have mq:∀j,(xh n pre (ptr b) cells lz post).ob pre.length j=Yp (.box cells::lz) j:=by
  intro j;rcases hH pre.length with⟨_,h⟩|⟨h,_⟩
  ·unfold St.ob;rw[h]
  ·exact absurd rfl h
 have dJ:∀t j,(xh n pre (ptr b) cells lz post).ob t j≠ .none->t=pre.length:=by
  intro t j hn;rcases hH t with⟨h,_⟩|⟨_,h,_⟩
  ·exact h
  ·exact absurd (h j) hn
 have eg:∀b k v,T b k->w.cell? ⟨b,k,none⟩=some v->w.cell? ⟨b,k,none⟩=some v/\Tof T (fun _=>False) b k:=fun b k v hb hc=>⟨hc,.inl hb⟩;have bd:∀k,(hd 0).u k↔k=b:=fun k=>by rw[h0];simp[Hd.of,blk,eq_comm]
 have lD:∀j,Yp (.box cells::lz) j≠ .none->(j=0\/∃i,j=i+1/\Yp lz i≠ .none):=by
  intro j hn;cases j with
  |zero=>exact .inl rfl
  |succ j=>exact .inr ⟨j,rfl,by rw[kd]at hn;exact hn⟩
 have hS':∀j k,Yp (.box cells::lz) j≠ .none->(hd j).u k->k=b\/S k:=by
  intro j k hn hu;rcases lD j hn with rfl|⟨i,rfl,hi⟩
  ·exact .inl ((bd k).1 hu)
  ·exact .inr (nk i k hi hu)
 have cg:∀{mY:List Value}{args:List (List D)}{t:Nat}{r:List D},Ee T w mY args->args[t]?=some r->∃v,mY[t]?=some v/\JB (Tof T (fun _=>False)) (fun t j=>if t=pre.length then hd j else Hd.of undef) (xh n pre (ptr b) cells lz post).ob w (vOf (r.map .d)) v:=by intro mY args t r ha hr;obtain⟨v,hv,cs,hf,ni⟩:=ha.get' t r hr;exact⟨v,hv,(Iy hf (VM (ni.imp fun _ _=>Rd.mono eg))).up⟩
 refine⟨fun _=>False,fun t j=>if t=pre.length then hd j else Hd.of undef,?_⟩;refine⟨?_,rfl,(fun k hk=>hk.1),(fun b hb=>hb.elim),(fun k i hk=>hT k i hk),fun t ht=>?_,fun t j=>?_,fun t j k hn hk=>?_,fun t j k hn hk=>?_,fun t j t' j' k hn mc hk ld=>?_⟩
 ·simp[xh,JQ,hl1,eu];omega
 ·rcases hH t with⟨rfl,h⟩|⟨nf,_,h⟩
  ·have hU:((lg++ptr b::l6).toArray++Array.replicate (n-(lg++ptr b::l6).toArray.size) undef).getD pre.length undef=ptr b:=by rw[Array.getD_eq_getD_getElem?,Array.getElem?_append_left zAx];simp[<-hl1]
   rw[hU];unfold St.get;rw[h];exact⟨rfl,rfl,fun nq _=>⟨b,by simp[h0,Hd.of],rfl⟩⟩
  ·rcases h with h|⟨r,h,hr⟩
   ·rw[h];trivial
   ·rw[h];rcases hr with⟨nn,hr⟩|⟨nn,hr⟩
    ·obtain⟨v,hv,lh⟩:=cg ha1 hr;have hU:((lg++ptr b::l6).toArray++Array.replicate (n-(lg++ptr b::l6).toArray.size) undef).getD t undef=v:=by rw[Array.getD_eq_getD_getElem?,Array.getElem?_append_left zAx];simp[List.getElem?_append_left (show t<lg.length by omega),hv]
     simp only[hU];exact lh
    ·obtain⟨v,hv,lh⟩:=cg ha2 hr;have hlt2:=(List.getElem?_eq_some_iff.1 hv).1
     have hU:((lg++ptr b::l6).toArray++Array.replicate (n-(lg++ptr b::l6).toArray.size) undef).getD t undef=v:=by rw[Array.getD_eq_getD_getElem?,Array.getElem?_append_left zAx];simp only[List.getElem?_toArray];rw[List.getElem?_append_right zAD,show t-lg.length=(t-pre.length-1)+1 by omega,List.getElem?_cons_succ,hv];rfl
     simp only[hU];exact lh
 ·by_cases hn:(xh n pre (ptr b) cells lz post).ob t j= .none
  ·rw[hn];trivial
  ·obtain rfl:=dJ t j hn;rw[mq];simp only[if_true];cases j with
   |zero=>exact iW _ _ (fun j=>zAG) mq
   |succ j=>rw[kd];exact lH _ _ j
 ·obtain rfl:=dJ t j hn;rw[mq]at hn;simp only[if_true]at hk⊢;rcases lD j hn with rfl|⟨i,rfl,hi⟩
  ·rw[h0]at hk⊢;exact hk
  ·exact lF i k hi hk
 ·obtain rfl:=dJ t j hn;rw[mq]at hn;simp only[if_true]at hk;rcases hS' j k hn hk with rfl|hs
  ·exact⟨fun hh=>hh.2.1 rfl,fun hh=>hh,hb⟩
  ·exact⟨fun hh=>hh.2.2 hs,fun hh=>hh,(hS k hs).1⟩
 ·obtain rfl:=dJ t j hn;obtain rfl:=dJ t' j' mc;rw[mq]at hn mc;simp only[if_true]at hk ld;refine⟨rfl,?_⟩;rcases lD j hn with rfl|⟨i,rfl,hi⟩
  ·rcases lD j' mc with rfl|⟨i',rfl,lN⟩
   ·rfl
   ·exact absurd ((bd k).1 hk) (hS k (nk i' k lN ld)).2
  ·rcases lD j' mc with rfl|⟨i',rfl,lN⟩
   ·exact absurd ((bd k).1 ld) (hS k (nk i k hi hk)).2
   ·rw[dH i i' k hi lN hk ld]
open Go.RowKit
variable{fZ:Array Value}
def s8(dp:Bool)(T:CS)(w:World)(b:Nat)(nj:List D)(res:List (List D))(e:Ending)(w':World):Prop:=
 ∃(vs:List Value)(mM:List (List Value))(Y:Nat->Prop),e= .returned (R6 vs)/\XI (fun k=>k<w.heap.size/\k≠b) w w'/\(∀k,Y k->w.heap.size<=k/\k<w'.heap.size)/\
  (∃cs e',w'.heap[b]?=some (.cells cs e' (0,0))/\YF (Rd (Tof T Y) w') cs.toList nj)/\YF yT vs mM/\YF (fun(cs:List Value)(row:List D)=>cs.length=row.length) mM res/\
  (if dp then KJ w' mM.flatten res.flatten (fun k=>w.heap.size<=k/\k<w'.heap.size/\¬Y k)else YF (fun cs row=>YF (Rd (Tof T Y) w') cs row) mM res)
def xQ(P:Program)(f:FuncId)(dp:Bool)(row:List D)(args:List (List D))(nj:List D)(res:List (List D)):Prop:=
 TX P f=true/\∀(T:CS)(w:World)(b:Nat)(mY:List Value),(∀k i,T k i->k<w.heap.size/\k≠b)->b<w.heap.size->(∃cs e,w.heap[b]?=some (.cells cs e (0,0))/\YF (Rd T w) cs.toList row)->
  Ee T w mY args->Calls P f (ptr b::mY).toArray w (s8 dp T w b nj res)
def pB(P:Program)(fn:Func)(v:Value)(dp:Bool)(nj:List D)(res:List (List D))(e:Exit)(σ:St):Prop:=
 (e= .ret\/e= .normal)/\(∃lz,σ.head?=some (.fix v (.one (.bptr 0 0)),.box (nj.map .d)::lz))/\∃lK,T5 P σ fn.results.toList lK/\
  (if dp then Km σ lK=some res/\KP σ lK/\(XL lK.flatten).Nodup else kl σ lK=some res)
def MS(P:Program)(f:FuncId)(args:List (List D))(nj:List D):Prop:=
 TX P f=true/\∀(T:CS)(w:World)(mY:List Value),(∀k i,T k i->k<w.heap.size)->Ee T w mY args->
  Calls P f mY.toArray w fun e w'=>∃b Y,e= .returned (ptr b)/\Below w.heap.size w w'/\w.heap.size<=b/\b<w'.heap.size/\(∀k,Y k->w.heap.size<=k/\k<w'.heap.size/\k≠b)/\∃cs e',w'.heap[b]?=some (.cells cs e' (0,0))/\YF (Rd (Tof T Y) w') cs.toList nj
def ry(P:Program)(fn:Func)(nj:List D)(e:Exit)(σ:St):Prop:=
 (e= .ret\/e= .normal)/\∃u,T5 P σ fn.results.toList [[.bptr u 0]]/\σ.ob u 0= .box (nj.map .d)
theorem Rq{T:CS}{ob:Nat->Nat->Ob}:∀{row:List D}{cs:List Value},YF (YL T h ob w) (row.map .d) cs->YF (Rd T w) cs row
 |[],_,ni=>by cases ni;exact .nil
 |_::_,_,ni=>by cases ni with|cons h1 h2=>exact .cons h1 (Rq h2)
theorem FQ{c:Code}(hf:P.funcs[f]?=some fn)(hb:fn.body=some c)(mH:TX P f=true){row:List D}
  (hw:∀v,AWP P c (pB P fn v dp nj res) (xh fn.ntmps [] v (row.map .d) [] args)):xQ P f dp row args nj res:=by
 refine⟨mH,fun T w b mY hT n7 ⟨cs0,e0,hh0,bX⟩ np=>calls_of_wp hf hb ?_⟩;have fq:=E0 (w:=w) (T:=T) (S:=fun _=>False) (n:=fn.ntmps) (b:=b) (pre:=[]) (post:=args) (cells:=row.map .d) (lz:=[]) (lg:=[]) (l6:=mY) (fun _=>Hd.of (ptr b))
  (fun k i hk=>⟨(hT k i hk).1,(hT k i hk).2,fun hh=>hh⟩) (fun k hk=>hk.elim) n7 rfl
  (fun h ob _ _=>⟨b,cs0,e0,rfl,hh0,VM (bX.imp fun _ _=>Rd.mono (fun b k v hb hc=>⟨hc,.inl hb⟩))⟩) (fun h ob j=>by simp[Yp,Jx]) (fun j k hn=>by simp[Yp]at hn) (fun j k hn=>by simp[Yp]at hn) (fun i j k hn=>by simp[Yp]at hn) .nil np
 simp only[List.nil_append]at fq;refine wp_mono (hw (ptr b) T _ _ w fq) ?_;rintro e a' w' ⟨σ',⟨he,⟨lz,dI⟩,lK,lq,nr⟩,⟨X,h,r⟩,n8⟩;obtain⟨vs,mM,mB,mV,ni⟩:=WV r lq;have mn:0<σ'.length:=by
  cases σ' with
  |nil=>simp at dI
  |cons e σ=>simp
 have cT:σ'.get 0= .fix (ptr b) (.one (.bptr 0 0)):=by
  cases σ' with
  |nil=>simp at dI
  |cons e σ=>simp at dI;simp[St.get,dI]
 have m9:σ'.ob 0 0= .box (nj.map .d):=by
  cases σ' with
  |nil=>simp at dI
  |cons e σ=>simp at dI;simp[St.ob,dI,Yp]
 have fB:=r.slot 0 mn;rw[cT]at fB;obtain⟨bY,iM⟩:=fB;obtain⟨b1,lC,mv⟩:=iM.2 _ m9;rw[bY]at mv;have iY:b1=b:=zBa;subst iY;have lD:=r.obj 0 0;rw[m9]at lD;obtain⟨b2,fZ,e',mQ,hP,ga⟩:=lD;rw[lC]at mQ;have iY:b2=b1:=zAq;subst iY;have dK:XI (fun k=>k<w.heap.size/\k≠b2) w w':=⟨n8.os,n8.tape,n8.output,n8.size,fun k hk=>n8.block k ⟨hk.1,hk.2,fun hh=>hh⟩⟩;have hnX:∀k,X k->k=b2->False:=by
  rintro k hx rfl;have lF:=r.ub 0 0 k zBs zCB
  exact(r.own 0 0 k zBs lF).2.1 hx
 have hXn:∀k,X k->w.heap.size<=k/\k<w'.heap.size:=by
  intro k hk;have h1:=r.hX k hk
  refine⟨?_,h1.2⟩;rcases Nat.lt_or_ge k w.heap.size with nn|gM
  ·exact absurd ⟨nn,fun hh=>hnX k hk hh,fun hh=>hh⟩ h1.1
  ·exact gM
 have goal:a'.defers=[]/\∃v,(results fn a'.tmps).run P w'= .ok v w'/\s8 dp T w b2 nj res (.returned v) w':=by
  refine⟨r.defers,_,mB,?_⟩;cases dp with
  |true=>
   simp only[if_true]at nr;obtain⟨l9,iN,mu⟩:=nr;refine⟨vs,mM,X,rfl,dK,hXn,⟨fZ,e',hP,Rq ga⟩,mV,?_,?_⟩
   ·clear mu iN lq mB mV hw;induction ni generalizing res with
    |nil=>simp[Km]at l9;subst l9;exact .nil
    |cons h1 _ ih=>
     simp only[Km]at l9;split at l9
     ·rename_i row rs mN iw;cases l9;exact .cons (by rw[<-h1.length];exact(qS mN).1) (ih iw)
     ·cases l9
   ·simp only[if_true];refine(RU r (qI ni) (xb l9).1 (xC iN) mu).mono (fun k hk=>?_);have hg:=r.zu _ k hk
    refine⟨?_,hg.2.2.1,hg.2.1⟩;rcases Nat.lt_or_ge k w.heap.size with nn|gM
    ·refine absurd ⟨nn,?_,fun hh=>hh⟩ hg.1;rintro rfl;obtain⟨p,hp,nf,hu⟩:=hk;have lF:=r.ub 0 0 k zBs zCB
     obtain⟨e1,e2⟩:=r.inj p.1 p.2 0 0 k nf zBs hu lF;obtain⟨i,lo,len,hx⟩:=PV hp;have hm:=R0 (xC iN) i _ hx
     rw[e1,e2]at hm;obtain⟨d,hd,hmd⟩:=(YF.get (R:=fun x d=>mvD σ' x=some d) (YF.xS (qS (xb l9).1).1 (fun i a b h1 h2=>(qS (xb l9).1).2 i a b h1 h2)) i _ hx);rw[e1,e2]at hmd;simp[mvD,m9]at hmd
    ·exact gM
  |false=>
   simp only[Bool.false_eq_true,if_false]at nr;refine⟨vs,mM,fun k=>w.heap.size<=k/\k<w'.heap.size,rfl,dK,fun k hk=>hk,⟨fZ,e',hP,(Rq ga).imp fun _ _=>Rd.mono (fun k i v hk hc=>⟨hc,?_⟩)⟩,mV,?_,?_⟩
   ·rcases hk with hk|hk
    ·exact .inl hk
    ·exact .inr (hXn k hk)
   ·clear lq mB mV hw;induction ni generalizing res with
    |nil=>simp[kl]at nr;subst nr;exact .nil
    |cons h1 _ ih=>
     simp only[kl]at nr;split at nr
     ·rename_i row rs mN iw;cases nr;exact .cons ((r.rowOf false mN h1 (fun hh=>by cases hh)).length) (ih iw)
     ·cases nr
   ·simp only[Bool.false_eq_true,if_false];refine SK r (fun k i hk=>?_) nr ni;rcases hk with hk|⟨t,j,q,size,rows,ho,hk⟩
    ·rcases hk with hk|hk
     ·exact .inl hk
     ·exact .inr (hXn k hk)
    ·have nf:σ'.ob t j≠ .none:=zAw;have nk:=r.own t j k nf hk;refine .inr ⟨?_,nk.2.2⟩;rcases Nat.lt_or_ge k w.heap.size with nn|gM
     ·refine absurd ⟨nn,?_,fun hh=>hh⟩ nk.1;rintro rfl;have lF:=r.ub 0 0 k zBs zCB
      obtain⟨e1,e2⟩:=r.inj t j 0 0 k nf zBs hk lF;rw[e1,e2,m9]at ho;cases ho
     ·exact gM
 rcases he with rfl|rfl
 ·exact goal
 ·exact goal
theorem EA{c:Code}(hf:P.funcs[f]?=some fn)(hb:fn.body=some c)(mH:TX P f=true)
  (hw:AWP P c (ry P fn nj) (ji fn.ntmps args)):MS P f args nj:=by
 refine⟨mH,fun T w mY hT np=>calls_of_wp hf hb ?_⟩;refine wp_mono (hw T (fun b=>b<w.heap.size) _ w (Gk hT np)) ?_;rintro e a' w' ⟨σ',⟨he,u,lq,bZ⟩,⟨X,h,r⟩,n8⟩;have lu:Below w.heap.size w w':=⟨n8.os,n8.tape,n8.output,n8.size,n8.block⟩
 obtain⟨vs,mM,mB,mV,ni⟩:=WV r lq;cases ni with
 |cons h1 ni=>
  cases ni;cases h1 with
  |@cons _ c0 _ _ hx h1=>
   cases h1;cases mV with
   |@cons v0 _ _ _ hu hn=>
    cases hn;have iO:v0=c0:=by
     rcases hu with⟨c',he',rfl,_⟩|⟨hn,_⟩
     ·cases he';rfl
     ·simp at hn
    subst iO;obtain⟨b,lC,hv⟩:=hx.2 _ bZ;have lD:=r.obj u 0
    rw[bZ]at lD;obtain⟨b2,fZ,e',mQ,hP,ga⟩:=lD;rw[lC]at mQ;have iY:b2=b:=zAq
    subst iY;have nf:σ'.ob u 0≠ .none:=by rw[bZ];simp
    have lF:=r.ub u 0 b2 nf zCB;have nk:=r.own u 0 b2 nf lF;have goal:a'.defers=[]/\∃v,(results fn a'.tmps).run P w'= .ok v w'/\∃b Y,Ending.returned v= .returned (ptr b)/\Below w.heap.size w w'/\w.heap.size<=b/\b<w'.heap.size/\(∀k,Y k->w.heap.size<=k/\k<w'.heap.size/\k≠b)/\∃cs e',w'.heap[b]?=some (.cells cs e' (0,0))/\YF (Rd (Tof T Y) w') cs.toList nj:=by
     refine⟨r.defers,_,mB,b2,X,by rw[hv];rfl,lu,by have:=nk.1;omega,nk.2.2,fun k hk=>?_,fZ,e',hP,Rq ga⟩;have ld:=r.hX k hk
     refine⟨by have:=ld.1;omega,ld.2,?_⟩;rintro rfl;exact nk.2.1 hk
    rcases he with rfl|rfl
    ·exact goal
    ·exact goal
open Go.RowKit
variable{ts:List TypeId}{qs:List Bool}{rv:List ResultVar}{ops:Array Oper}
theorem wZ{ob:Nat->Nat->Ob}(hr:Jx T h ob w hd (.arr true size rows))(hf:∀r∈rows,∀x∈r,x.scalar=true):Jx T h ob w hd (.arr false size rows):=by
 obtain⟨e,xs,ho,hz,⟨hl,Sk,hk,_,_⟩,_⟩:=hr;refine⟨e,xs,ho,hz,YF.xS hl (fun k x d hx hd=>?_)⟩;obtain⟨r0,gR,hdr⟩:=List.mem_flatten.1 (List.mem_of_getElem? hd);have lA:=hf r0 gR d hdr
 have:=hk k x d hx hd;cases this with
 |int k n=>exact .int _ _
 |bool b=>exact .bool _
 |str s=>exact .str _
 |unk v h=>exact .unk _ h
 |sl=>cases lA
theorem Rel.rp(r:Rel T0 B σ a w X h)(hf:σ.fresh d=true)(M:Nat->Prop)(hM:∀b,M b->¬B b/\¬X b/\b<w.heap.size/\∀t j,σ.ob t j≠ .none->¬(h t j).u b)(qs:List Bool)
  (mV:YF yT vs mM) (hlen:YF (fun(cs:List Value)(row:List D)=>cs.length=row.length) mM res) (nk:KJ w mM.flatten res.flatten M) (hq:y6 qs res.flatten):Jq T0 B (σ.new d (jf d res) (YY qs res.flatten)) (a.put (some d) (R6 vs)) w:=by
 have nn:=St.K2 hf;obtain⟨eV,Sk,k1,k2,k3,k4⟩:=DC nk;have n9:∀j,(σ.new d (jf d res) (YY qs res.flatten)).ob d j=Yp (YY qs res.flatten) j:=fun j=>by rw[St.Ji];simp[nn]
 have htop:=nk.top (T:=Tof T0 X);have iI:YF (fun cs row=>YF (kq (Tof T0 X) w) cs row) mM res:=ql hlen (fun k x d hx hd=>by
  obtain⟨c,hc,ht⟩:=htop.get' k d hd;rw[hx]at hc;cases hc;exact ht)
 refine⟨X,fun t j=>if t=d then eV j else h t j,?_⟩;refine r.B5 hf M (Nat.le_refl _) (fun _ _ _=>rfl) (fun b hb=>⟨(hM b hb).1,(hM b hb).2.1,fun t j _ hn=>(hM b hb).2.2.2 t j hn⟩) (fun b hb=>hb) (fun b hb=>.inl hb) (jf d res) (R6 vs) (YY qs res.flatten) eV ?_ (fun j=>?_) (fun j b nf hb=>?_) (fun j b nf hb=>?_) (fun j j' b nf ma hb n7=>?_)
 ·exact H4 (h:=fun t j=>if t=d then eV j else h t j) (ob:=(σ.new d (jf d res) (YY qs res.flatten)).ob) (t:=d) mV iI (fun i size rows hi=>by
   obtain⟨q,iL,_⟩:=(Y5 qs res.flatten i hq).1 size rows hi;exact⟨q,by rw[n9];exact iL⟩) (fun i c hi=>by simp only[if_true];exact k1 i c hi)
 ·by_cases nf:Yp (YY qs res.flatten) j= .none
  ·rw[nf];trivial
  ·obtain⟨size,rows,hj⟩:=(Y5 qs res.flatten j hq).2 nf;obtain⟨q,iL,az⟩:=(Y5 qs res.flatten j hq).1 size rows hj;rw[iL];have:=(k4 j size rows hj).2.2 (Tof T0 X) (fun t j=>if t=d then eV j else h t j) (σ.new d (jf d res) (YY qs res.flatten)).ob
   cases q with
   |true=>exact this
   |false=>exact wZ this (az rfl)
 ·obtain⟨size,rows,hj⟩:=(Y5 qs res.flatten j hq).2 nf;exact(k4 j size rows hj).2.1 b hb
 ·obtain⟨size,rows,hj⟩:=(Y5 qs res.flatten j hq).2 nf;have:=k2 j b ((k4 j size rows hj).1 b hb)
  exact⟨.inr this,(hM b this).2.1,(hM b this).2.2.1⟩
 ·obtain⟨size,rows,hj⟩:=(Y5 qs res.flatten j hq).2 nf;obtain⟨mC,nv,gA⟩:=(Y5 qs res.flatten j' hq).2 ma;exact k3 j j' b ((k4 j size rows hj).1 b hb) ((k4 j' mC nv gA).1 b n7)
theorem Rel.vQ(r:Rel T0 B σ a w X h){cells:List At}(ho:σ.ob t 0= .box cells)(hv:(h t 0).v=ptr b)(m0:w.heap.size<=w'.heap.size)(hw:∀k,k<w.heap.size->k≠b->w'.heap[k]?=w.heap[k]?)
  (hX:∀b,X b->X' b) (fR:∀b,X' b->X b\/(w.heap.size<=b/\b<w'.heap.size)) (gP:∃cs e,w'.heap[b]?=some (.cells cs e (0,0))/\YF (Rd (Tof T0 X') w') cs.toList nj):Rel T0 B (σ.Z1 t 0 (.box (nj.map .d))) a w' X' h:=by
 have n9:σ.ob t 0≠ .none:=zAw;have mJ:blk (h t 0).v=some b:=by rw[hv];rfl
 have lF:=r.ub t 0 b n9 mJ;have hbB:=r.own t 0 b n9 lF;have hT:∀k i v,Tof T0 X k i->w.cell? ⟨k,i,none⟩=some v->w'.cell? ⟨k,i,none⟩=some v/\Tof T0 X' k i:=by
  intro k i v hk hc;refine⟨?_,hk.imp id (hX k)⟩;have nf:k≠b:=by
   rintro rfl;rcases hk with hk|hk
   ·exact hbB.1 (r.hT _ _ hk)
   ·exact hbB.2.1 hk
  rw[World.cell?_of_block (hw k (r.Tlt hk) nf)];exact hc
 have lH:∀u i,¬(u=t/\i=0)->(σ.Z1 t 0 (.box (nj.map .d))).ob u i=σ.ob u i:=by intro u i nf;rw[St.Xz σ t 0 _ u i n9,if_neg nf]
 have lE:(σ.Z1 t 0 (.box (nj.map .d))).ob t 0= .box (nj.map .d):=by rw[St.Xz σ t 0 _ t 0 n9];simp
 have hcp:∀u i,Cpt h h σ.ob (σ.Z1 t 0 (.box (nj.map .d))).ob u i:=by
  intro u i;by_cases hu:u=t/\i=0
  ·obtain⟨rfl,rfl⟩:=hu;refine⟨fun q size rows mG=>?_,fun size rows mG=>?_,fun nq mG=>⟨rfl,cells,ho⟩⟩
   ·rw[lE]at mG;cases mG
   ·rw[lE]at mG;cases mG
  ·exact Cpt.same rfl (lH u i hu)
 have at_:∀{x:At}{v:Value},(fun _=>false:At->Bool) x=false->YL (Tof T0 X) h σ.ob w x v->YL (Tof T0 X') h (σ.Z1 t 0 (.box (nj.map .d))).ob w' x v:=fun _ rx=>YL.uI hT hcp rx;have lI:∀u i,(σ.Z1 t 0 (.box (nj.map .d))).ob u i≠ .none->σ.ob u i≠ .none:=by
  intro u i hn;by_cases hu:u=t/\i=0
  ·obtain⟨rfl,rfl⟩:=hu;exact n9
  ·rw[lH u i hu]at hn;exact hn
 refine⟨by rw[r.size,St.Xf],r.defers,fun b hb=>Nat.lt_of_lt_of_le (r.hB b hb) m0,fun k hk=>?_,r.hT,fun u hu=>?_,fun u i=>?_,fun u i k hn=>r.ub u i k (lI u i hn),fun u i k hn hk=>?_,fun u i u' i' k hn mc=>r.inj u i u' i' k (lI u i hn) (lI u' i' mc)⟩
 ·rcases fR k hk with hk|hk
  ·have:=r.hX k hk;exact⟨this.1,zAD⟩
  ·exact⟨fun iY=>by have:=r.hB k iY;omega,hk.2⟩
 ·rw[St.Xf]at hu;rw[St.QL];exact JB.map at_ (xi _) (r.slot u hu)
 ·by_cases hu:u=t/\i=0
  ·obtain⟨rfl,rfl⟩:=hu;rw[lE];obtain⟨cs,e,hh,ni⟩:=gP;exact⟨b,cs,e,hv,hh,VM ni⟩
  ·rw[lH u i hu];exact Jx.map at_ hT (fun ho b=>r.ub u i b ho) (fun hn k hk=>hw k (r.own u i k hn hk).2.2 (fun e=>by
    rw[e]at hk;obtain⟨e1,e2⟩:=r.inj u i t 0 b hn n9 hk lF;exact hu ⟨e1,e2⟩)) (W3 _) (r.obj u i)
 ·have:=r.own u i k (lI u i hn) hk;refine⟨this.1,fun hx=>?_,zAD⟩;rcases fR k hx with hx|hx
  ·exact this.2.1 hx
  ·omega
def C8(dp:Bool)(σ:St)(d:Nat)(res:List (List D))(qs:List Bool):St:=match dp with|true=>σ.new d (jf d res) (YY qs res.flatten)|false=>σ.put d (qe res)
theorem Lf(r:Rel T0 B σ a w X h){o:Oper}{xs:List Operand}{t0:TypeId}{row:List D}(qs:List Bool)(na:o.op= .call cl)(hc:cl.callee= .value (.func f))(hd:o.dst=some d)
  (ha:cl.args.toList=x0::xs) (hg:gOf (look P σ t0 x0)=true) (hx:unc (look P σ t0 x0)= .one (.bptr t 0)) (ho:σ.ob t 0= .box (row.map .d)) (np:Qs P σ xs ts nz) (mF:Yi P σ xs ts=true) (hs:xQ P f dp row nz nj res)
  (mf:dp=true->(σ.Z1 t 0 (.box (nj.map .d))).fresh d=true/\y6 qs res.flatten)
  (hK:∀a' w',Jq T0 B (C8 dp (σ.Z1 t 0 (.box (nj.map .d))) d res qs) a' w'->XI B w w'->K a' w'):o.wp P a w K Q:=by
 have n9:σ.ob t 0≠ .none:=zAw;have har:=r.arg (P:=P) t0 x0 hx hg;obtain⟨b,lC,hv⟩:=har.2 _ ho;have lD:=r.obj t 0;rw[ho]at lD;obtain⟨b2,cs,e,mQ,hh,ni⟩:=lD;rw[lC]at mQ;have iY:b2=b:=zAq;subst iY;have mJ:blk (h t 0).v=some b2:=zCB;have lF:=r.ub t 0 b2 n9 mJ;have nk:=r.own t 0 b2 n9 lF;have ir:=r.Qs true np (fun _=>mF);simp only[if_true]at ir;unfold Oper.wp;rw[V2 na hc hs.1,Oper.upon_enter];rw[show(cl.args.toList.map a.eval).toArray=(ptr b2::xs.map a.eval).toArray by rw[ha];simp[hv]];have hT:∀k i,Tof T0 X k i->k<w.heap.size/\k≠b2:=by
  intro k i hk;refine⟨r.Tlt hk,?_⟩;rintro rfl;rcases hk with hk|hk
  ·exact nk.1 (r.hT _ _ hk)
  ·exact nk.2.1 hk
 refine(hs.2 (Tof T0 X) w b2 _ hT nk.2.2 ⟨cs,e,hh,Rq ni⟩ ir).mono ?_;rintro e' w' ⟨vs,mM,Y,rfl,n8,hY,⟨fZ,e2,hP,ga⟩,mV,hlen,lq⟩;rw[hd];have eg:∀{v:Value}{x:D},Rd (Tof (Tof T0 X) Y) w' v x->Rd (Tof T0 (fun k=>X k\/Y k)) w' v x:=fun hr=>hr.mono (fun k i v hk hc=>⟨hc,by
  rcases hk with(hk|hk)|hk
  ·exact .inl hk
  ·exact .inr (.inl hk)
  ·exact .inr (.inr hk)⟩)
 have r1:=r.vQ (w':=w') (X':=fun k=>X k\/Y k) (nj:=nj) ho lC n8.size (fun k hk nf=>n8.block k ⟨hk,nf⟩) (fun k hk=>.inl hk) (fun k hk=>hk.imp id (hY k)) ⟨fZ,e2,hP,ga.imp fun _ _=>eg⟩;have hBk:XI B w w':=⟨n8.os,n8.tape,n8.output,n8.size,fun k hk=>n8.block k ⟨r.hB k hk,fun e=>nk.1 (e▸hk)⟩⟩;cases dp with
 |false=>simp only[Bool.false_eq_true,if_false]at lq;exact hK _ _ ⟨_,_,r1.put d _ _ (En mV (MI (fun _ _ _ _ _=>eg) lq))⟩ hBk
 |true=>
  simp only[if_true]at lq;obtain⟨hfr1,hq⟩:=mf rfl;refine hK _ _ (r1.rp hfr1 (fun k=>w.heap.size<=k/\k<w'.heap.size/\¬Y k) (fun k hk=>⟨fun hb=>by have:=r.hB k hb;omega,?_,hk.2.1,fun u j hn hu=>?_⟩) qs mV hlen lq hq) hBk
  ·rintro(hx|hy)
   ·have:=(r.hX k hx).2;omega
   ·exact hk.2.2 hy
  ·have mc:σ.ob u j≠ .none:=by
    by_cases hc:u=t/\j=0
    ·obtain⟨rfl,rfl⟩:=hc;exact n9
    ·rw[St.Xz σ t 0 _ u j n9,if_neg hc]at hn;exact hn
   have:=(r.own u j k mc hu).2.2;omega
theorem BP(r:Rel T0 B σ a w X h){o:Oper}(na:o.op= .call cl)(hc:cl.callee= .value (.func f))(hd:o.dst=some d)(mf:σ.fresh d=true)
  (np:Qs P σ cl.args.toList cl.argTypes.toList nz) (mF:Yi P σ cl.args.toList cl.argTypes.toList=true) (hs:MS P f nz nj)
  (hK:∀a' w',Jq T0 B (σ.new d (.one (.bptr d 0)) [.box (nj.map .d)]) a' w'->XI B w w'->K a' w'):o.wp P a w K Q:=by
 have nn:=St.K2 mf;have ir:=r.Qs true np (fun _=>mF);simp only[if_true]at ir;unfold Oper.wp;rw[V2 na hc hs.1,Oper.upon_enter];refine(hs.2 (Tof T0 X) w _ (fun k i hk=>r.Tlt hk) ir).mono ?_;rintro e' w' ⟨b,Y,rfl,lu,lC,mQ,hY,fZ,e2,hP,ga⟩;rw[hd];have eg:∀{v:Value}{x:D},Rd (Tof (Tof T0 X) Y) w' v x->Rd (Tof T0 (fun k=>X k\/Y k)) w' v x:=fun hr=>hr.mono (fun k i v hk hc=>⟨hc,by
  rcases hk with(hk|hk)|hk
  ·exact .inl hk
  ·exact .inr (.inl hk)
  ·exact .inr (.inr hk)⟩)
 have n9:(σ.new d (.one (.bptr d 0)) [.box (nj.map .d)]).ob d 0= .box (nj.map .d):=zBB;refine hK _ _ ⟨fun k=>X k\/Y k,fun t j=>if t=d then Hd.of (ptr b)else h t j,?_⟩ (XI.NV lu r.hB);refine r.new mf (Below.grownBy lu) (fun k hk=>.inl hk) (fun k hk=>hk.imp id (fun hy=>⟨(hY k hy).1,(hY k hy).2.1⟩)) _ _ _ (fun _=>Hd.of (ptr b)) ⟨rfl,fun cells _=>⟨b,by simp[Hd.of],rfl⟩⟩ (fun j=>?_) (fun j k _ hk=>hk) (fun j k _ hk=>?_) (fun i j k hi hj _ _=>?_)
 ·cases j with
  |zero=>exact⟨b,fZ,e2,rfl,hP,VM (ga.imp fun _ _=>eg)⟩
  |succ j=>simp[Yp,Jx]
 ·simp[Hd.of,blk]at hk;subst hk;refine⟨lC,?_,mQ⟩;rintro(hx|hy)
  ·have:=(r.hX _ hx).2;omega
  ·exact(hY _ hy).2.2 rfl
 ·have hz:∀j,Yp [Ob.box (nj.map .d)] j≠ .none->j=0:=by
   intro j hj;cases j with
   |zero=>rfl
   |succ j=>simp[Yp]at hj
  rw[hz i hi,hz j hj]
section
theorem HD{d':Nat}(nf:d≠d')(mK:Xt σ d=true):Xt (C8 dp σ d' res qs) d=true:=by
 cases dp with
 |false=>exact Mk nf mK
 |true=>exact kV nf mK
attribute [simp] C8
theorem yK{c:Code}(hf:P.funcs[f]?=some fn)(hb:fn.body=some c)(mH:TX P f=true){row:List D}
  (hw:∀v,@WI P (xh fn.ntmps [] v (row.map .d) [] args) ⟨c⟩ (.fin (pB P fn v dp nj res))):xQ P f dp row args nj res:=FQ hf hb mH (fun v=>Vv (hw v))
theorem qA(hf:fn.results=rv.toArray)(h:(J8 P σ rv).1/\σ.head?=some (.fix v (.one (.bptr 0 0)),.box (nj.map .d)::(σ.head?.map (fun e=>e.2.tail)).getD [])/\
  (if dp then Km σ (J8 P σ rv).2=some res/\KP σ (J8 P σ rv).2/\(XL (J8 P σ rv).2.flatten).Nodup else kl σ (J8 P σ rv).2=some res)):pB P fn v dp nj res .ret σ:=
 ⟨.inl rfl,⟨_,h.2.1⟩,_,by rw[hf];exact Tu h.1,h.2.2⟩
theorem vH{c:Code}(hf:P.funcs[f]?=some fn)(hb:fn.body=some c)(mH:TX P f=true)
  (hw:@WI P (ji fn.ntmps args) ⟨c⟩ (.fin (ry P fn nj))):MS P f args nj:=EA hf hb mH (Vv hw)
theorem oF(u:Nat)(hf:fn.results=rv.toArray)(h:(J8 P σ rv).1/\(J8 P σ rv).2=[[.bptr u 0]]/\σ.ob u 0= .box (nj.map .d)):ry P fn nj .ret σ:=
 ⟨.inl rfl,u,by rw[hf,<-h.2.1];exact Tu h.1,h.2.2⟩
theorem AQ{o:Oper}{xs:List Operand}{t0:TypeId}{row:List D}(qs:List Bool)(na:o.op= .call cl)(hc:cl.callee= .value (.func f))(gL:o.guard=none)(hd:o.dst=some d)
  (ha:cl.args.toList=x0::xs) (hs:xQ P f dp row nz nj res) (hg:gOf (look P σ t0 x0)=true) (hx:unc (look P σ t0 x0)= .one (.bptr t 0)) (ho:σ.ob t 0= .box (row.map .d))
  (np:Qs P σ xs ts nz) (mF:Yi P σ xs ts=true) (mf:dp=true->(σ.Z1 t 0 (.box (nj.map .d))).fresh d=true/\y6 qs res.flatten):pW P ops o σ (C8 dp (σ.Z1 t 0 (.box (nj.map .d))) d res qs):=by
 have hm:∀z∈x0::xs,z∈o.op.operands.toList:=fun z hz=>by rw[na];exact zx (by rw[ha];exact hz)
 refine⟨d,t,row.map .d,nj.map .d,cond dp (jf d res) (qe res),cond dp (some (YY qs res.flatten)) none,hd,ho,⟨x0,xs,⟨f,cl.argTypes,?_⟩,t0,hx⟩,fun u=>⟨V0 _,V0 _⟩,fun u hu=>?_,fun hn=>?_,?_,fun σ2 hl fO n9 hfr2=>?_⟩
 ·rw[na];obtain⟨c1,c2,c3⟩:=cl;simp only at hc ha⊢;rw[hc,<-ha]
 ·cases dp with
  |true=>have hu:=hu.resolve_left zAG;exact⟨GK hu res,fun l hl=>by cases hl;exact yb u qs _⟩
  |false=>exact⟨EN u res,fun l hl=>by cases hl⟩
 ·cases dp with
  |true=>exact(mf rfl).1
  |false=>exact absurd rfl hn
 ·cases dp<;>rfl
 ·have mL:Sub P o.op.operands.toList σ σ2:=⟨hl,fO,n9⟩;have hsx:Sub P xs σ σ2:=⟨hl,fun z hz=>fO z (hm z (by simp[hz])),fun z hz=>n9 z (hm z (by simp[hz]))⟩;have h0:=fO x0 (hm x0 zAG) t0;have iS:σ2.ob t 0= .box (row.map .d):=by rw[<-ho];exact n9 x0 (hm x0 zAG) t0 t (QZ hx zAy) 0 zAw
  have e:ya t d (nj.map .d) (cond dp (jf d res) (qe res)) (cond dp (some (YY qs res.flatten)) none) σ2=C8 dp (σ2.Z1 t 0 (.box (nj.map .d))) d res qs:=by cases dp<;>rfl
  rw[e];refine⟨?_,fun d' nu mK=>HD (fun e=>nu zBy) (Qh mK)⟩;rintro T0 B a w K Q' ⟨X,hh,r⟩ hK;have hw:Region.wanted o (yielded ops a.tmps)=true:=zBq
  rw[if_pos hw];refine Lf r qs na hc hd ha (by rw[<-h0];exact hg) (by rw[<-h0];exact hx) iS (kv hsx np) (by rw[kR hsx];exact mF) hs (fun hdp=>⟨?_,(mf hdp).2⟩) hK;subst hdp;exact hfr2 zAG
theorem rP{xs:List Operand}{t0:TypeId}{row:List D}(qs:List Bool)(na:o.o.op= .call cl)(hc:cl.callee= .value (.func f))(gL:o.o.guard=none)(hd:o.o.dst=some d)(mP:A.bar o.o=true)
  (ha:cl.args.toList=x0::xs) (_hat:cl.argTypes.toList=t0::ts) (hs:xQ P f dp row nz nj res) (hx:gOf (look P σ t0 x0)=true/\unc (look P σ t0 x0)= .one (.bptr t 0)) (ho:σ.ob t 0= .box (row.map .d))
  (np:(Xb P σ xs ts).1) (ny:(Xb P σ xs ts).2=some nz) (mF:Yi P σ xs ts=true) (mf:dp=true->(σ.Z1 t 0 (.box (nj.map .d))).fresh d=true/\y6 qs res.flatten)
  (h:@EI P (C8 dp (σ.Z1 t 0 (.box (nj.map .d))) d res qs) A l k):@SI P σ A o l k:=by
 refine⟨_,.inr ⟨mP,?_,fun d' nu mK=>HD (fun e=>nu zBy) (Qh mK),fun hh=>by simp[V4,na]at hh,fun hh=>by first|(simp[kP,na]at hh;done)|(unfold kP at hh;rw[na]at hh;split at hh<;>simp_all),fun _ _=>AQ qs na hc gL hd ha hs hx.1 hx.2 ho (qU np ny) mF mf⟩,JW h⟩;rintro T0 B a w K Q' ⟨X,hh,r⟩ hK;have hw:Region.wanted o.o (yielded A.ops a.tmps)=true:=zBq
 rw[if_pos hw];exact Lf r qs na hc hd ha hx.1 hx.2 ho (qU np ny) mF hs mf hK
theorem pe(na:o.o.op= .call cl)(hc:cl.callee= .value (.func f))(gL:o.o.guard=none)(hd:o.o.dst=some d)(mP:A.bar o.o=true)(hs:MS P f nz nj)
  (np:(Xb P σ cl.args.toList cl.argTypes.toList).1) (ny:(Xb P σ cl.args.toList cl.argTypes.toList).2=some nz) (mF:Yi P σ cl.args.toList cl.argTypes.toList=true) (mf:σ.fresh d=true)
  (h:@EI P (σ.new d (.one (.bptr d 0)) [.box (nj.map .d)]) A l k) (gk:KK P o.o=false:=by exact rfl):@SI P σ A o l k:=by
 refine⟨_,.inr ⟨mP,?_,fun d' nu mK=>kV (fun e=>nu zBy) mK,fun hh=>by simp[V4,na]at hh,fun hh=>by first|(simp[kP,na]at hh;done)|(unfold kP at hh;rw[na]at hh;split at hh<;>simp_all),fun hh _=>by rw[gk]at hh;cases hh⟩,JW h⟩;rintro T0 B a w K Q' ⟨X,hh,r⟩ hK;have hw:Region.wanted o.o (yielded A.ops a.tmps)=true:=zBq
 rw[if_pos hw];exact BP r na hc hd mf (qU np ny) mF hs hK
end
open Go.RowKit
variable{gx:List At}
def s7(w:World)(S:Nat->Prop)(b:Nat)(nj:List D)(e:Ending)(w':World):Prop:=
 e= .returned (.tuple #[])/\XI (fun k=>k<w.heap.size/\k≠b/\¬S k) w w'/\∃cs e',w'.heap[b]?=some (.cells cs e' (0,0))/\KJ w' cs.toList nj (fun k=>(S k\/(w.heap.size<=k/\k<w'.heap.size))/\k≠b)
def HM(P:Program)(f:FuncId)(args:List (List D))(row nj:List D):Prop:=
 TX P f=true/\∀(T:CS)(S:Nat->Prop)(w:World)(b:Nat)(mY:List Value),(∀k i,T k i->k<w.heap.size/\k≠b/\¬S k)->(∀k,S k->k<w.heap.size/\k≠b)->b<w.heap.size->
  (∃cs e,w.heap[b]?=some (.cells cs e (0,0))/\KJ w cs.toList row S)->Ee T w mY args->Calls P f (mY++[ptr b]).toArray w (s7 w S b nj)
def rk(P:Program)(fn:Func)(p:Nat)(v:Value)(nj:List D)(e:Exit)(σ:St):Prop:=
 (e= .ret\/e= .normal)/\T5 P σ fn.results.toList []/\∃gx lz,σ[p]?=some (.fix v (.one (.bptr p 0)),.box gx::lz)/\Jz σ gx=some nj/\Qc σ gx/\(XL gx).Nodup
def pq(n sz:Nat)(rows:List (List D))(args:List (List D)):St:=(.one (.sref 0 0 0 rows.length),[.arr false sz rows])::(Oj args++List.replicate (n-(args.length+1)) (V.any,[]))
def At.isO(u:Nat):At->Bool
 |.sref t _ _ _=>t==u
 |.ptr t _ _ _=>t==u
 |.tref t _ _ _ _=>t==u
 |_=>false
theorem wW{row:List D}(hq:y6 qs row)(k4:∀j size rows,row[j]?=some (.sl size rows)->∀T h ob,Jx T h ob w (hf j) (.arr true size rows))(T:CS)(ob:Nat->Nat->Ob)(j:Nat):Jx T h ob w (hf j) (Yp (YY qs row) j):=by
 by_cases nf:Yp (YY qs row) j= .none
 ·rw[nf];trivial
 ·obtain⟨size,rows,hj⟩:=(Y5 qs row j hq).2 nf;obtain⟨q,iL,az⟩:=(Y5 qs row j hq).1 size rows hj;rw[iL];have:=k4 j size rows hj T h ob
  cases q with
  |true=>exact this
  |false=>exact wZ this (az rfl)
theorem F8{c:Code}(hf:P.funcs[f]?=some fn)(hb:fn.body=some c)(mH:TX P f=true){row:List D}(qs:List Bool)(hq:y6 qs row)
  (hw:∀v,AWP P c (rk P fn args.length v nj) (xh fn.ntmps args v (Kj args.length 1 row) (YY qs row) [])):HM P f args row nj:=by
 refine⟨mH,fun T S w b mY hT hS n7 ⟨cs0,e0,hh0,gj⟩ np=>calls_of_wp hf hb ?_⟩;obtain⟨eV,Sk,k1,k2,k3,k4⟩:=DC gj;have fq:=E0 (w:=w) (T:=T) (S:=S) (n:=fn.ntmps) (b:=b) (pre:=args) (post:=[]) (cells:=Kj args.length 1 row) (lz:=YY qs row) (lg:=mY) (l6:=[]) (fun j=>match j with|0=>Hd.of (ptr b)|j+1=>eV j)
  hT hS n7 rfl (fun h ob hh n9=>⟨b,cs0,e0,rfl,hh0,SQ gj.top (fun i size rows hi=>by
    obtain⟨q,iL,_⟩:=(Y5 qs row i hq).1 size rows hi;exact⟨q,by rw[n9,Nat.add_comm,kd];exact iL⟩) (fun i c hc=>by rw[hh,Nat.add_comm];exact k1 i c hc)⟩)
  (fun h ob j=>wW hq (fun j size rows hj=>(k4 j size rows hj).2.2) _ _ j)
  (fun j k hn hk=>by
   obtain⟨size,rows,hj⟩:=(Y5 qs row j hq).2 hn;exact(k4 j size rows hj).2.1 k hk)
  (fun j k hn hk=>by
   obtain⟨size,rows,hj⟩:=(Y5 qs row j hq).2 hn;exact k2 j k ((k4 j size rows hj).1 k hk))
  (fun i j k hn mc hk ld=>by
   obtain⟨size,rows,hj⟩:=(Y5 qs row i hq).2 hn;obtain⟨mC,nv,gA⟩:=(Y5 qs row j hq).2 mc;exact k3 i j k ((k4 i size rows hj).1 k hk) ((k4 j mC nv gA).1 k ld)) np .nil
 refine wp_mono (hw (ptr b) T _ _ w fq) ?_;rintro e a' w' ⟨σ',⟨he,lq,gx,lz,hH,l9,iN,mu⟩,⟨X,h,r⟩,n8⟩;obtain⟨vs,mM,mB,mV,ni⟩:=WV r lq;cases ni;cases mV;have mn:args.length<σ'.length:=(List.getElem?_eq_some_iff.1 hH).1
 have cT:σ'.get args.length= .fix (ptr b) (.one (.bptr args.length 0)):=by unfold St.get;rw[hH]
 have m9:σ'.ob args.length 0= .box gx:=by unfold St.ob;rw[hH];rfl
 have fB:=r.slot _ mn;rw[cT]at fB;obtain⟨bY,iM⟩:=fB;obtain⟨b1,lC,mv⟩:=iM.2 _ m9;rw[bY]at mv;have iY:b1=b:=zBa;subst iY;have lD:=r.obj args.length 0;rw[m9]at lD;obtain⟨b2,fZ,e',mQ,hP,ga⟩:=lD;rw[lC]at mQ;have iY:b2=b1:=zAq;subst iY;have lF:=r.ub args.length 0 b2 zBs zCB;have goal:a'.defers=[]/\∃v,(results fn a'.tmps).run P w'= .ok v w'/\s7 w S b2 nj (.returned v) w':=by
  refine⟨r.defers,_,mB,rfl,n8,fZ,e',hP,(RU r ga l9 iN mu).mono (fun k hk=>?_)⟩;have hg:=r.zu _ k hk
  have nf:k≠b2:=by rintro rfl;obtain⟨p,hp,nf,hu⟩:=hk;obtain⟨e1,e2⟩:=r.inj p.1 p.2 args.length 0 k nf zBs hu lF;obtain⟨i,lo,len,hx⟩:=PV hp;obtain⟨d,hd,hmd⟩:=(YF.get (R:=fun x d=>mvD σ' x=some d) (YF.xS (qS l9).1 (fun i a b h1 h2=>(qS l9).2 i a b h1 h2)) i _ hx);rw[e1,e2]at hmd;simp[mvD,m9]at hmd
  refine⟨?_,nf⟩;by_cases hs:S k
  ·exact .inl hs
  ·refine .inr ⟨?_,hg.2.2.1⟩;rcases Nat.lt_or_ge k w.heap.size with nn|gM
   ·exact absurd ⟨nn,nf,hs⟩ hg.1
   ·exact gM
 rcases he with rfl|rfl
 ·exact goal
 ·exact goal
theorem Rel.pL(r:Rel T0 B σ a w X h){cells:List At}(ho:σ.ob u 0= .box cells)(hv:(h u 0).v=ptr b)(nn:u<σ.length)(M S':Nat->Prop)(m0:w.heap.size<=w'.heap.size)(hw:∀k,k<w.heap.size->k≠b->¬M k->w'.heap[k]?=w.heap[k]?)
  (hm:∀k,M k->¬B k/\¬X k/\∀t j,σ.ob t j≠ .none->¬(h t j).u k) (eU:(σ.Z1 u 0 .none).yV (At.isO u)=false) (hq:y6 qs nj) {e':TypeId} (hP:w'.heap[b]?=some (.cells fZ e' (0,0)))
  (nk:KJ w' fZ.toList nj S') (hS':∀k,S' k->(w.heap.size<=k\/M k)/\k<w'.heap.size/\k≠b):Jq T0 B (σ.new u (σ.get u) (.box (Kj u 1 nj)::YY qs nj)) a w':=by
 have n9:σ.ob u 0≠ .none:=zAw;have mJ:blk (h u 0).v=some b:=by rw[hv];rfl
 have lF:=r.ub u 0 b n9 mJ;have hbB:=r.own u 0 b n9 lF;obtain⟨eV,Sk,k1,k2,k3,k4⟩:=DC nk;generalize hσ:σ.new u (σ.get u) (.box (Kj u 1 nj)::YY qs nj)=σ2;have fc:∀j,σ2.ob u j=Yp (.box (Kj u 1 nj)::YY qs nj) j:=fun j=>by rw[<-hσ,St.Ji];simp[nn]
 have iD:∀t j,t≠u->σ2.ob t j=σ.ob t j:=fun t j nf=>by rw[<-hσ,St.Ji,if_neg (fun hh=>nf hh.1)]
 have lB:∀t,σ2.get t=σ.get t:=by
  intro t;rw[<-hσ,St.VA];split
  ·rename_i hh;rw[hh.1]
  ·rfl
 have hlen:σ2.length=σ.length:=by rw[<-hσ,St.ki]
 let nu:Nat->Hd:=fun j=>match j with|0=>h u 0|j+1=>eV j
 let h':Nat->Nat->Hd:=fun t j=>if t=u then nu j else h t j
 have hT:∀k i v,Tof T0 X k i->w.cell? ⟨k,i,none⟩=some v->w'.cell? ⟨k,i,none⟩=some v/\Tof T0 X k i:=by
  intro k i v hk hc;refine⟨?_,hk⟩;have nf:k≠b:=by
   rintro rfl;rcases hk with hk|hk
   ·exact hbB.1 (r.hT _ _ hk)
   ·exact hbB.2.1 hk
  have dr:¬M k:=by
   intro aL;rcases hk with hk|hk
   ·exact(hm k aL).1 (r.hT _ _ hk)
   ·exact(hm k aL).2.1 hk
  rw[World.cell?_of_block (hw k (r.Tlt hk) nf dr)];exact hc
 have at_:∀{x:At}{v:Value},At.isO u x=false->YL (Tof T0 X) h σ.ob w x v->YL (Tof T0 X) h' σ2.ob w' x v:=by
  intro x v dw rx;cases x with
  |any=>exact rx
  |d x=>exact Rd.mono hT rx
  |nil s=>exact rx
  |sref t j lo len=>
   have nf:t≠u:=by simpa[At.isO]using dw
   simp only[YL,h',if_neg nf,iD t j nf];exact rx
  |ptr t j i c=>
   have nf:t≠u:=by simpa[At.isO]using dw
   simp only[YL,h',if_neg nf,iD t j nf];exact rx
  |tref t j i c o=>
   have nf:t≠u:=by simpa[At.isO]using dw
   simp only[YL,h',if_neg nf,iD t j nf];exact rx
  |bptr t c=>
   by_cases hc:t=u
   ·subst hc;refine⟨rx.1,fun nq _=>?_⟩;simp only[h',if_true,nu];exact rx.2 _ ho
   ·simp only[YL,h',if_neg hc,iD t 0 hc];exact rx
  |fn f t=>
   by_cases hc:t=u
   ·subst hc;refine⟨rx.1,fun nq _=>?_⟩;simp only[h',if_true,nu];exact rx.2 _ ho
   ·simp only[YL,h',if_neg hc,iD t 0 hc];exact rx
  |rptr rr c=>obtain⟨b,off,g,e,hk⟩:=rx;exact⟨b,off,g,e,fun k d hd=>⟨(hT _ _ _ (hk k d hd).2.1 (hk k d hd).1).1,(hk k d hd).2.1,Rd.mono hT (hk k d hd).2.2⟩⟩
 have lD:∀j,Yp (.box (Kj u 1 nj)::YY qs nj) j≠ .none->j=0\/∃i size rows,j=i+1/\nj[i]?=some (.sl size rows):=by
  intro j hn;cases j with
  |zero=>exact .inl rfl
  |succ j=>rw[kd]at hn;obtain⟨size,rows,hj⟩:=(Y5 qs nj j hq).2 hn;exact .inr ⟨j,size,rows,rfl,hj⟩
 have bd:∀k,(h u 0).u k->k<w.heap.size/\¬M k/\¬B k/\¬X k:=fun k hk=>⟨(r.own u 0 k n9 hk).2.2,fun aL=>(hm k aL).2.2 u 0 n9 hk,(r.own u 0 k n9 hk).1,(r.own u 0 k n9 hk).2.1⟩;have hfu:∀i size rows k,nj[i]?=some (.sl size rows)->(eV i).u k->(w.heap.size<=k\/M k)/\k<w'.heap.size/\k≠b:=fun i size rows k hi hk=>hS' k (k2 i k ((k4 i size rows hi).1 k hk));have bg:∀t j,t≠u->σ.ob t j≠ .none->∀k,(h t j).u k->w'.heap[k]?=w.heap[k]?:=by intro t j nf hn k hk;refine hw k (r.own t j k hn hk).2.2 ?_ (fun aL=>(hm k aL).2.2 t j hn hk);rintro rfl;exact nf (r.inj t j u 0 k hn n9 hk lF).1
 refine⟨X,h',by rw[r.size,hlen],r.defers,fun k hk=>Nat.lt_of_lt_of_le (r.hB k hk) m0,fun k hk=>⟨(r.hX k hk).1,Nat.lt_of_lt_of_le (r.hX k hk).2 m0⟩,r.hT,fun t ht=>?_,fun t j=>?_,fun t j k hn hk=>?_,fun t j k hn hk=>?_,fun t j t' j' k hn mc hk ld=>?_⟩
 ·rw[hlen]at ht;rw[lB];have hp:(σ.get t).yV (At.isO u)=false:=by have:=St.Nf eU t;rwa[St.QL]at this
  exact JB.map at_ hp (r.slot t ht)
 ·by_cases hc:t=u
  ·subst hc;rw[fc];cases j with
   |zero=>
    simp only[h',if_true,nu,EL];exact⟨b,fZ,e',hv,hP,SQ nk.top (fun i size rows hi=>by
     obtain⟨q,iL,_⟩:=(Y5 qs nj i hq).1 size rows hi;exact⟨q,by rw[fc,Nat.add_comm,kd];exact iL⟩) (fun i c hc=>by simp only[if_true,Nat.add_comm 1 i];exact k1 i c hc)⟩
   |succ j=>simp only[h',if_true,nu,kd];exact wW hq (fun j size rows hj=>(k4 j size rows hj).2.2) _ _ j
  ·rw[iD t j hc];simp only[h',if_neg hc];by_cases hn:σ.ob t j= .none
   ·rw[hn];trivial
   ·have hp:yp (At.isO u) [σ.ob t j]=false:=by have:=St.It eU t j;rwa[St.TE,if_neg (fun hh=>hc hh.1)]at this
    exact Jx.map at_ hT (fun ho b=>r.ub t j b ho) (fun hn k hk=>bg t j hc hn k hk) hp (r.obj t j)
 ·by_cases hc:t=u
  ·subst hc;rw[fc]at hn;rcases lD j hn with rfl|⟨i,size,rows,rfl,hi⟩
   ·simp only[h',if_true,nu]at hk⊢;exact r.ub t 0 k n9 hk
   ·simp only[h',if_true,nu]at hk⊢;exact(k4 i size rows hi).2.1 k hk
  ·rw[iD t j hc]at hn;simp only[h',if_neg hc]at hk⊢;exact r.ub t j k hn hk
 ·by_cases hc:t=u
  ·subst hc;rw[fc]at hn;rcases lD j hn with rfl|⟨i,size,rows,rfl,hi⟩
   ·simp only[h',if_true,nu]at hk;have:=bd k hk;exact⟨this.2.2.1,this.2.2.2,zAD⟩
   ·simp only[h',if_true,nu]at hk;have:=hfu i size rows k hi hk
    rcases this.1 with h1|h1
    ·exact⟨fun hb=>by have:=r.hB k hb;omega,fun hx=>by have:=(r.hX k hx).2;omega,this.2.1⟩
    ·exact⟨(hm k h1).1,(hm k h1).2.1,this.2.1⟩
  ·rw[iD t j hc]at hn;simp only[h',if_neg hc]at hk;have:=r.own t j k hn hk;exact⟨this.1,this.2.1,zAD⟩
 ·have key:∀t j i k,t≠u->σ.ob t j≠ .none->(h t j).u k->Yp (.box (Kj u 1 nj)::YY qs nj) i≠ .none->(nu i).u k->False:=by
   intro t j i k nf hn hk mc ld;rcases lD i mc with rfl|⟨i,size,rows,rfl,hi⟩
   ·exact nf (r.inj t j u 0 k hn n9 hk ld).1
   ·have h1:=hfu i size rows k hi ld;have h2:=r.own t j k hn hk;rcases h1.1 with h3|h3
    ·omega
    ·exact(hm k h3).2.2 t j hn hk
  by_cases hc:t=u
  ·by_cases mZ:t'=u
   ·subst hc;subst mZ;rw[fc]at hn mc;simp only[h',if_true]at hk ld;refine⟨rfl,?_⟩;rcases lD j hn with rfl|⟨i,size,rows,rfl,hi⟩
    ·rcases lD j' mc with rfl|⟨i',mC,nv,rfl,lN⟩
     ·rfl
     ·have h1:=bd k hk;have h2:=hfu i' mC nv k lN ld;rcases h2.1 with h3|h3
      ·omega
      ·exact absurd h3 h1.2.1
    ·rcases lD j' mc with rfl|⟨i',mC,nv,rfl,lN⟩
     ·have h1:=bd k ld;have h2:=hfu i size rows k hi hk;rcases h2.1 with h3|h3
      ·omega
      ·exact absurd h3 h1.2.1
     ·rw[k3 i i' k ((k4 i size rows hi).1 k hk) ((k4 i' mC nv lN).1 k ld)]
   ·subst hc;rw[fc]at hn;rw[iD t' j' mZ]at mc;simp only[h',if_true,if_neg mZ]at hk ld;exact(key t' j' j k mZ mc ld hn hk).elim
  ·rw[iD t j hc]at hn;simp only[h',if_neg hc]at hk;by_cases mZ:t'=u
   ·subst mZ;rw[fc]at mc;simp only[h',if_true]at ld;exact(key t j j' k hc hn hk mc ld).elim
   ·rw[iD t' j' mZ]at mc;simp only[h',if_neg mZ]at ld;exact r.inj t j t' j' k hn mc hk ld
open Go.RowKit
theorem B0{o:Oper}{x:Value}(na:o.op= .call c)(hc:c.callee= .value (.tmp t))(hv:a.tmps.getD t undef= .func (.func f) #[] #[x])(hf:TX P f=true):
  (execOp a.eval o).run P w= .ok (.enter f (c.args.toList.map a.eval++[x]).toArray) w:=by
 unfold TX at hf;split at hf
 ·rename_i fn aM;simp only[Bool.and_eq_true,bne_iff_ne,ne_eq]at hf;obtain⟨cd,hb⟩:=Option.isSome_iff_exists.1 hf.1;obtain⟨callee,args,gx⟩:=c;simp only at hc;subst hc;have hm:(args.toList.map a.eval++[x]).toArray=args.map a.eval++#[x]:=by apply Array.toList_inj.1;simp
  have he:a.eval (.tmp t)= .func (.func f) #[] #[x]:=hv;rw[hm];simp[execOp,na,resolve,he,Deferred.ofValue,invoke,callFunc,aM,hf.2,hb]
 ·cases hf
theorem Cb(r:Rel T0 B σ a w X h){o:Oper}{row:List D}{cells:List At}(qs:List Bool)(na:o.op= .call cl)(hc:cl.callee= .value (.tmp tf))(hx:σ.get tf= .one (.fn f u))(ho:σ.ob u 0= .box cells)(nn:u<σ.length)
  (np:Qs P σ cl.args.toList cl.argTypes.toList nz) (mF:Yi P σ cl.args.toList cl.argTypes.toList=true) (hs:HM P f nz row nj) (l9:Jz σ cells=some row) (iN:Qc σ cells) (mu:(XL cells).Nodup) (hnu:(u,0)∉XL cells)
  (eU:((σ.Z8 (XL cells)).Z1 u 0 .none).yV (At.isO u)=false) (hq:y6 qs nj)
  (hK:∀a' w',Jq T0 B (match o.dst with|some d=>((σ.Z8 (XL cells)).new u (σ.get u) (.box (Kj u 1 nj)::YY qs nj)).put d .any|none=>(σ.Z8 (XL cells)).new u (σ.get u) (.box (Kj u 1 nj)::YY qs nj)) a' w'->XI B w w'->K a' w'):o.wp P a w K Q:=by
 have n9:σ.ob u 0≠ .none:=zAw;have aM:=r.get tf;rw[hx]at aM;obtain⟨b,lC,hv⟩:=aM.2 _ ho;have lD:=r.obj u 0;rw[ho]at lD;obtain⟨b2,cs,e,mQ,hh,ni⟩:=lD;rw[lC]at mQ;have iY:b2=b:=zAq;subst iY;have lF:=r.ub u 0 b2 n9 zCB;have nk:=r.own u 0 b2 n9 lF;have ir:=r.Qs true np (fun _=>mF);simp only[if_true]at ir;have eR:∀k,zF σ h (XL cells) k->k<w.heap.size/\k≠b2:=by rintro k ⟨p,hp,nf,hu⟩;refine⟨(r.own _ _ k nf hu).2.2,?_⟩;rintro rfl;obtain⟨e1,e2⟩:=r.inj p.1 p.2 u 0 k nf n9 hu lF;exact hnu (by rw[<-e1,<-e2];exact hp)
 have mg:=r.zu (XL cells);have hT:∀k i,Tof T0 X k i->k<w.heap.size/\k≠b2/\¬zF σ h (XL cells) k:=by
  intro k i hk;refine⟨r.Tlt hk,?_,fun hg=>?_⟩
  ·rintro rfl;rcases hk with hk|hk
   ·exact nk.1 (r.hT _ _ hk)
   ·exact nk.2.1 hk
  ·rcases hk with hk|hk
   ·exact(mg k hg).1 (r.hT _ _ hk)
   ·exact(mg k hg).2.1 hk
 unfold Oper.wp;rw[B0 na hc hv hs.1,Oper.upon_enter];refine(hs.2 (Tof T0 X) (zF σ h (XL cells)) w b2 _ hT eR nk.2.2 ⟨cs,e,hh,RU r ni l9 iN mu⟩ ir).mono ?_;rintro e' w' ⟨rfl,n8,fZ,e2,hP,mh⟩;have r1:=r.Z8 (XL cells)
 have ho1:(σ.Z8 (XL cells)).ob u 0= .box cells:=by rw[St.KY,if_neg hnu,ho]
 have R:=r1.pL (w':=w') (nj:=nj) (qs:=qs) ho1 lC (by rw[St.KR];exact nn) (zF σ h (XL cells)) _ n8.size (fun k hk nf hg=>n8.block k ⟨hk,nf,hg⟩) (fun k hk=>⟨(mg k hk).1,(mg k hk).2.1,(mg k hk).2.2.2⟩) eU hq hP mh (fun k hk=>⟨hk.1.elim .inr (fun h1=>.inl h1.1),by
  rcases hk.1 with h1|h1
  ·have:=(eR k h1).1;have:=n8.size;omega
  ·exact h1.2,hk.2⟩)
 rw[St.yg]at R;have hBk:XI B w w':=⟨n8.os,n8.tape,n8.output,n8.size,fun k hk=>n8.block k ⟨r.hB k hk,fun e=>nk.1 (e▸hk),fun hg=>(mg k hg).1 hk⟩⟩
 cases hd:o.dst with
 |none=>rw[hd]at hK;exact hK _ _ R hBk
 |some d=>rw[hd]at hK;obtain⟨X2,h2,R2⟩:=R;exact hK _ _ ⟨X2,h2,R2.put d .any _ trivial⟩ hBk
theorem B8(r:Rel T0 B σ a w X h){o:Oper}(na:o.op= .makeFunc (.func f) #[] #[x])(hd:o.dst=some d)(hg:gOf (look P σ 0 x)=true)(hx:unc (look P σ 0 x)= .one (.bptr t 0)){cells:List At}(ho:σ.ob t 0= .box cells)
  (hK:∀a' w',Jq T0 B (σ.put d (.one (.fn f t))) a' w'->XI B w w'->K a' w'):o.wp P a w K Q:=by
 have har:=r.arg (P:=P) 0 x hx hg;obtain⟨b,lC,hv⟩:=har.2 _ ho;exact Uj (v:=.one (.fn f t)) r hd ⟨.func (.func f) #[] #[a.eval x],by simp[execOp,na,Instr.makeFunc],⟨rfl,fun nq _=>⟨b,lC,by rw[hv]⟩⟩⟩ hK
theorem pR{cells:List At}(na:o.o.op= .makeFunc (.func f) #[] #[x])(gL:o.o.guard=none)(hd:o.o.dst=some d)(mP:A.bar o.o=true)(hx:gOf (look P σ 0 x)=true/\unc (look P σ 0 x)= .one (.bptr t 0))(ho:σ.ob t 0= .box cells)
  (h:@EI P (σ.put d (.one (.fn f t))) A l k):@SI P σ A o l k:=by
 refine⟨_,.inr ⟨mP,?_,fun d' nu mK=>Mk (fun e=>nu zBy) mK,fun hh=>by simp[V4,na]at hh,fun hh=>by first|(simp[kP,na]at hh;done)|(unfold kP at hh;rw[na]at hh;split at hh<;>simp_all),fun hh _=>by first|(simp[KK,na]at hh;done)|(unfold KK at hh;rw[na]at hh;split at hh<;>simp_all)⟩,JW h⟩;rintro T0 B a w K Q' ⟨X,hh,r⟩ hK;have hw:Region.wanted o.o (yielded A.ops a.tmps)=true:=zBq
 rw[if_pos hw];exact B8 r na hd hx.1 hx.2 ho hK
theorem vZ{c:Code}(hf:P.funcs[f]?=some fn)(hb:fn.body=some c)(mH:TX P f=true){row:List D}(qs:List Bool)(hq:y6 qs row)
  (hw:∀v,@WI P (xh fn.ntmps args v (Kj args.length 1 row) (YY qs row) []) ⟨c⟩ (.fin (rk P fn args.length v nj))):HM P f args row nj:=F8 hf hb mH qs hq (fun v=>Vv (hw v))
theorem po{p:Nat}(hf:fn.results=#[])(h:σ[p]?=some (.fix v (.one (.bptr p 0)),.box gx::((σ[p]?).map (fun e=>e.2.tail)).getD [])/\Jz σ gx=some nj/\Qc σ gx/\(XL gx).Nodup)(he:e= .ret\/e= .normal):rk P fn p v nj e σ:=
 ⟨he,by rw[hf];rfl,gx,_,h.1,h.2.1,h.2.2.1,h.2.2.2⟩
theorem Hf{row:List D}{cells:List At}(qs:List Bool)(na:o.o.op= .call cl)(hc:cl.callee= .value (.tmp tf))(gL:o.o.guard=none)(mP:A.bar o.o=true)(hs:HM P f nz row nj)(hx:σ.get tf= .one (.fn f u))(ho:σ.ob u 0= .box cells)(nn:u<σ.length)
  (np:(Xb P σ cl.args.toList cl.argTypes.toList).1) (ny:(Xb P σ cl.args.toList cl.argTypes.toList).2=some nz) (mF:Yi P σ cl.args.toList cl.argTypes.toList=true) (l9:Jz σ cells=some row) (iN:Qc σ cells) (mu:(XL cells).Nodup) (hnu:(u,0)∉XL cells) (mK:Xt σ u=false)
  (eU:((σ.Z8 (XL cells)).Z1 u 0 .none).yV (At.isO u)=false) (hq:y6 qs nj)
  (h:@EI P (match o.o.dst with|some d=>((σ.Z8 (XL cells)).new u (σ.get u) (.box (Kj u 1 nj)::YY qs nj)).put d .any|none=>(σ.Z8 (XL cells)).new u (σ.get u) (.box (Kj u 1 nj)::YY qs nj)) A l k):@SI P σ A o l k:=by
 refine⟨_,.inr ⟨mP,?_,fun d' nu mZ=>?_,fun hh=>by simp[V4,na]at hh,fun hh=>by first|(simp[kP,na]at hh;done)|(unfold kP at hh;rw[na]at hh;split at hh<;>simp_all),fun hh _=>by first|(simp[KK,na]at hh;done)|(unfold KK at hh;rw[na]at hh;split at hh<;>simp_all)⟩,JW h⟩
 ·rintro T0 B a w K Q' ⟨X,hh,r⟩ hK;have hw:Region.wanted o.o (yielded A.ops a.tmps)=true:=zBq
  rw[if_pos hw];exact Cb r qs na hc hx ho nn (qU np ny) mF hs l9 iN mu hnu eU hq hK
 ·have h1:=kV (v:=σ.get u) (os:=.box (Kj u 1 nj)::YY qs nj) (fun e=>by rw[e,mK]at mZ;cases mZ) (JE (l:=XL cells) mZ);cases hd:o.o.dst with
  |none=>exact h1
  |some d=>exact Mk (fun e=>nu zBy) h1
attribute [simp] xh pq At.isO
open Go.RowKit
open Go.RowKit
theorem cR{own:Bool}(hs:Q0 P f own rows res)(h:@EI P (σ.put d (qe res)) A l k)(na:o.o.op= .call c:=by exact rfl)(hc:c.callee= .value (.func f):=by exact rfl)(hg:o.o.guard=none:=by exact rfl)(hd:o.o.dst=some d:=by exact rfl)
  (ny:(Xb P σ c.args.toList c.argTypes.toList).2=some rows:=by simp) (np:(Xb P σ c.args.toList c.argTypes.toList).1:=by simp) (mF:Yi P σ c.args.toList c.argTypes.toList=true\/KW own res:=by simp):@SI P σ A o l k:=
 I0 na hc hg hd hs ny np mF h
theorem cD(qs:List Bool)(hs:Yb P f rows res)(h:@EI P (σ.new d (jf d res) (YY qs res.flatten)) A l k)(na:o.o.op= .call c:=by exact rfl)(hc:c.callee= .value (.func f):=by exact rfl)(hg:o.o.guard=none:=by exact rfl)(hd:o.o.dst=some d:=by exact rfl)
  (ny:(Xb P σ c.args.toList c.argTypes.toList).2=some rows:=by simp) (np:(Xb P σ c.args.toList c.argTypes.toList).1:=by simp) (hq:y6 qs res.flatten:=by simp) (hf:σ.fresh d=true:=by simp):@SI P σ A o l k:=CT qs na hc hg hd hs ny np hq hf h
theorem cC{b:Bool}{x:y5}(c:Bool)(ht:W9 σ->c=true->@WI P σ x k)(hf:W9 σ->c=false->@WI P σ y k)(hc:c=b:=by simp):@CI P b σ x y k:=NW hc ht hf
@[simp] abbrev eI (t : Nat) (n : Int) : Nat × V × List Ob := (t, .one (.d (.int .i64 n)), [])
@[simp] abbrev eB (t : Nat) (b : Bool) : Nat × V × List Ob := (t, .one (.d (.bool b)), [])
@[simp] abbrev eL {α : Type} (t s : Nat) (l : List α) (f : α -> List D) : Nat × V × List Ob := (t, .one (.d (.sl s (l.map f))), [])
@[simp] abbrev eP (t u c : Nat) : Nat × V × List Ob := (t, .one (.bptr u c), [])
@[simp] abbrev eG (t : Nat) (xs : List At) : Nat × V × List Ob := (t, .agg xs, [])
@[simp] abbrev eX (t : Nat) (xs : List At) : Nat × V × List Ob := (t, .one (.bptr t 0), [.box xs])
open Go.RowKit
variable{br:Oper->Bool}
structure Me{α:Type}(x y:α):Prop where
 h:x=y
structure Bx(p:Prop):Prop where
 h:p
theorem me{α:Type}{x y:α}(h:x=y):Me x y:=⟨h⟩
theorem ms{α β:Type}{x y y':α}{l r:β}(f:Me x y)(e:Me l r)(h:l=r->y=y':=by intro e;simp only[e];exact rfl):Me x y':=⟨f.h.trans (h e.h)⟩
theorem an(h:p)(k:q):p/\q:=⟨h,k⟩
theorem ix{α:Type}{v:Nat}{l:List α}(h:decide ((v:Int)<(l.length:Int))=true):v<l.length:=zBr
theorem ml{α:Type}(l:List α)(m:q)(h:q->l.length<=9223372036854775807:=by intro m;simpa using m):l.length<=9223372036854775807:=h m
theorem wr(n:Nat)(h:(n:Int)+1<=9223372036854775807:=by first|omega|(simp only[decide_eq_true_eq,decide_eq_false_iff_not,beq_iff_eq,beq_eq_false_iff_ne,bne_iff_ne,ne_eq,Bool.or_eq_false_iff,Bool.or_eq_true,Bool.and_eq_true,Bool.not_eq_true',Bool.not_eq_false']at*;omega)):IntKind.i64.wrap ((n:Int)+1)=(n:Int)+1:=YZ zAD zAD
theorem so{own:Bool}{args res:List (List D)}(hf:P.funcs[f]?=some fn)(hn:fn.ntmps=n)(h:p){c:Code}(hb:fn.body=some c:=by exact rfl)(mH:TX P f=true:=by kernel_rfl)
  (kk:Bx p->@WI P (ji n args) ⟨c⟩ (.fin (Br P fn own res)):=by exact zCD):Q0 P f own args res:=tA hf hb mH (by rw[hn];exact kk ⟨h⟩)
theorem soD{args res:List (List D)}(hf:P.funcs[f]?=some fn)(hn:fn.ntmps=n)(h:p){c:Code}(hb:fn.body=some c:=by exact rfl)(mH:TX P f=true:=by kernel_rfl)
  (kk:Bx p->@WI P (ji n args) ⟨c⟩ (.fin (vY P fn res)):=by exact zCD):Yb P f args res:=vM hf hb mH (by rw[hn];exact kk ⟨h⟩)
theorem cF{α:Type}{u y z:α}{b c:Bool}{xc yc:y5}(f:Me u (bif c then y else z))(ht:W9 σ->c=true->Me u y->p)(hf:W9 σ->c=false->Me u z->q)(hc:c=b:=by simp)(kt:Bx p->@WI P σ xc k:=by exact zCD)(kf:Bx q->@WI P σ yc k:=by exact zCD):@CI P b σ xc yc k:=
 NW hc (fun s h=>kt ⟨ht s h ⟨f.h.trans zBR⟩⟩) (fun s h=>kf ⟨hf s h ⟨f.h.trans zBR⟩⟩)
theorem cFt{α:Type}{u y z:α}{b c:Bool}{xc:y5}(f:Me u (bif c then y else z))(ht:W9 σ->c=true->Me u y->p)(hf:W9 σ->c=false->Me u z->@WI P σ yc k)(hc:c=b:=by simp)(kt:Bx p->@WI P σ xc k:=by exact zCD):@CI P b σ xc yc k:=
 NW hc (fun s h=>kt ⟨ht s h ⟨f.h.trans zBR⟩⟩) (fun s h=>hf s h ⟨f.h.trans zBR⟩)
theorem cFf{α:Type}{u y z:α}{b c:Bool}{yc:y5}(f:Me u (bif c then y else z))(ht:W9 σ->c=true->Me u y->@WI P σ xc k)(hf:W9 σ->c=false->Me u z->q)(hc:c=b:=by simp)(kf:Bx q->@WI P σ yc k:=by exact zCD):@CI P b σ xc yc k:=
 NW hc (fun s h=>ht s h ⟨f.h.trans zBR⟩) (fun s h=>kf ⟨hf s h ⟨f.h.trans zBR⟩⟩)
theorem cFo{α:Type}{u y z:α}{b c:Bool}(f:Me u (bif c then y else z))(ht:W9 σ->c=true->Me u y->@WI P σ xc k)(hf:W9 σ->c=false->Me u z->@WI P σ yc k)(hc:c=b:=by simp):@CI P b σ xc yc k:=
 NW hc (fun s h=>ht s h ⟨f.h.trans zBR⟩) (fun s h=>hf s h ⟨f.h.trans zBR⟩)
theorem cK{α:Type}{u y z:α}{b c:Bool}{xc yc:y5}(f:Me u (bif c then y else z))(ht:W9 σ->c=true->Me u y->p)(hf:W9 σ->c=false->Me u z->q)(hc:c=b:=by first|(simp[G];done)|grind)(kt:Bx p->@WI P σ xc k:=by exact zCG)(kf:Bx q->@WI P σ yc k:=by exact zCG):@CI P b σ xc yc k:=
 NW hc (fun s h=>kt ⟨ht s h ⟨f.h.trans zBR⟩⟩) (fun s h=>kf ⟨hf s h ⟨f.h.trans zBR⟩⟩)
theorem cKt{α:Type}{u y z:α}{b c:Bool}{xc:y5}(f:Me u (bif c then y else z))(ht:W9 σ->c=true->Me u y->p)(hf:W9 σ->c=false->Me u z->@WI P σ yc k)(hc:c=b:=by first|(simp[G];done)|grind)(kt:Bx p->@WI P σ xc k:=by exact zCG):@CI P b σ xc yc k:=
 NW hc (fun s h=>kt ⟨ht s h ⟨f.h.trans zBR⟩⟩) (fun s h=>hf s h ⟨f.h.trans zBR⟩)
theorem cKo{α:Type}{u y z:α}{b c:Bool}(f:Me u (bif c then y else z))(ht:W9 σ->c=true->Me u y->@WI P σ xc k)(hf:W9 σ->c=false->Me u z->@WI P σ yc k)(hc:c=b:=by first|(simp[G];done)|grind):@CI P b σ xc yc k:=
 NW hc (fun s h=>ht s h ⟨f.h.trans zBR⟩) (fun s h=>hf s h ⟨f.h.trans zBR⟩)
theorem cY{c b:Bool}{xc yc:y5}(h:c=true)(kk:p)(hc:c=b:=by simp)(kt:Bx p->@WI P σ xc k:=by exact zCD):@CI P b σ xc yc k:=NW hc (fun _ g=>kt ⟨kk⟩) (fun _ g=>absurd (h.symm.trans g) zAE)
theorem cRg{A:KX}{l:K6}{d:Nat}{own:Bool}(hs:Q0 P f own rows res)(h:p)(na:o.o.op= .call c:=by exact rfl)(hc:c.callee= .value (.func f):=by exact rfl)(hg:o.o.guard=none:=by exact rfl)(hd:o.o.dst=some d:=by exact rfl)(ny:(Xb P σ c.args.toList c.argTypes.toList).2=some rows:=by simp)(np:(Xb P σ c.args.toList c.argTypes.toList).1:=by simp)(mF:Yi P σ c.args.toList c.argTypes.toList=true\/KW own res:=by simp)(kk:Bx p->@EI P (σ.put d (qe res)) A l k:=by exact zCG):@SI P σ A o l k:=I0 na hc hg hd hs ny np mF (kk ⟨h⟩)
theorem cRs{A:KX}{l:K6}{d:Nat}{own:Bool}(hs:Q0 P f own rows res)(h:p)(na:o.o.op= .call c:=by exact rfl)(hc:c.callee= .value (.func f):=by exact rfl)(hg:o.o.guard=none:=by exact rfl)(hd:o.o.dst=some d:=by exact rfl)(ny:(Xb P σ c.args.toList c.argTypes.toList).2=some rows:=by simp)(np:(Xb P σ c.args.toList c.argTypes.toList).1:=by simp)(mF:Yi P σ c.args.toList c.argTypes.toList=true\/KW own res:=by simp)(kk:Bx p->@EI P (σ.put d (qe res)) A l k:=by exact zCD):@SI P σ A o l k:=I0 na hc hg hd hs ny np mF (kk ⟨h⟩)
theorem cRf{A:KX}{l:K6}{d:Nat}{own:Bool}(F:q)(hs:Q0 P f own rows res)(h:p)(na:o.o.op= .call c:=by exact rfl)(hc:c.callee= .value (.func f):=by exact rfl)(hg:o.o.guard=none:=by exact rfl)(hd:o.o.dst=some d:=by exact rfl)(ny:(Xb P σ c.args.toList c.argTypes.toList).2=some rows:=by simp)(np:(Xb P σ c.args.toList c.argTypes.toList).1:=by simp)(mF:Yi P σ c.args.toList c.argTypes.toList=true\/KW own res:=by simp)(kk:q->Bx p->@EI P (σ.put d (qe res)) A l k:=by(intro F z;simp[F,Go.Vm.ZF];(repeat(with_reducible refine Go.Mo.sd ?_));exact z.h)):@SI P σ A o l k:=I0 na hc hg hd hs ny np mF (kk F ⟨h⟩)
theorem cOs{A:KX}{l:K6}{d:Nat}(hs:Q0 P f true rows res)(h:p)(na:o.o.op= .call c:=by exact rfl)(hc:c.callee= .value (.func f):=by exact rfl)(hg:o.o.guard=none:=by exact rfl)(hd:o.o.dst=some d:=by exact rfl)(ny:(Xb P σ c.args.toList c.argTypes.toList).2=some rows:=by simp)(np:(Xb P σ c.args.toList c.argTypes.toList).1:=by simp)(mF:Yi P σ c.args.toList c.argTypes.toList=true\/KW true res:=by simp)(hf:σ.fresh d=true:=by simp)(kk:Bx p->@EI P (σ.new d (jf d res) (xR res.flatten)) A l k:=by exact zCD):@SI P σ A o l k:=ua na hc hg hd hs ny np mF hf (kk ⟨h⟩)
theorem cDg{A:KX}{l:K6}{d:Nat}(qs:List Bool)(hs:Yb P f rows res)(h:p)(na:o.o.op= .call c:=by exact rfl)(hc:c.callee= .value (.func f):=by exact rfl)(hg:o.o.guard=none:=by exact rfl)(hd:o.o.dst=some d:=by exact rfl)(ny:(Xb P σ c.args.toList c.argTypes.toList).2=some rows:=by simp)(np:(Xb P σ c.args.toList c.argTypes.toList).1:=by simp)(hq:y6 qs res.flatten:=by simp[-Bool.exists_bool,-Bool.forall_bool])(hf:σ.fresh d=true:=by simp)(kk:Bx p->@EI P (σ.new d (jf d res) (YY qs res.flatten)) A l k:=by exact zCG):@SI P σ A o l k:=CT qs na hc hg hd hs ny np hq hf (kk ⟨h⟩)
theorem cDs{A:KX}{l:K6}{d:Nat}(qs:List Bool)(hs:Yb P f rows res)(h:p)(na:o.o.op= .call c:=by exact rfl)(hc:c.callee= .value (.func f):=by exact rfl)(hg:o.o.guard=none:=by exact rfl)(hd:o.o.dst=some d:=by exact rfl)(ny:(Xb P σ c.args.toList c.argTypes.toList).2=some rows:=by simp)(np:(Xb P σ c.args.toList c.argTypes.toList).1:=by simp)(hq:y6 qs res.flatten:=by simp[-Bool.exists_bool,-Bool.forall_bool])(hf:σ.fresh d=true:=by simp)(kk:Bx p->@EI P (σ.new d (jf d res) (YY qs res.flatten)) A l k:=by exact zCD):@SI P σ A o l k:=CT qs na hc hg hd hs ny np hq hf (kk ⟨h⟩)
theorem cDf{A:KX}{l:K6}{d:Nat}(F:q)(qs:List Bool)(hs:Yb P f rows res)(h:p)(na:o.o.op= .call c:=by exact rfl)(hc:c.callee= .value (.func f):=by exact rfl)(hg:o.o.guard=none:=by exact rfl)(hd:o.o.dst=some d:=by exact rfl)(ny:(Xb P σ c.args.toList c.argTypes.toList).2=some rows:=by simp)(np:(Xb P σ c.args.toList c.argTypes.toList).1:=by simp)(hq:y6 qs res.flatten:=by simp[-Bool.exists_bool,-Bool.forall_bool])(hf:σ.fresh d=true:=by simp)(kk:q->Bx p->@EI P (σ.new d (jf d res) (YY qs res.flatten)) A l k:=by(intro F z;simp[F,Go.Vm.ZF];(repeat(with_reducible refine Go.Mo.sd ?_));exact z.h)):@SI P σ A o l k:=CT qs na hc hg hd hs ny np hq hf (kk F ⟨h⟩)
theorem cGo{j dj:Nat}{want own:Bool}{res:List D}(hs:g=true->Q0 P f own rows [res])(h:@EI P (σ.put d (.cnd g (qe [res]))) A l k)(na:o.o.op= .call c:=by exact rfl)(hc:c.callee= .value (.func f):=by exact rfl)(hg:o.o.guard=some (j,want):=by exact rfl)(hd:o.o.dst=some d:=by exact rfl)(lj:(A.ops[j]?).bind (·.dst)=some dj:=by exact rfl)(l4:qj want (σ.get dj)=some g:=by exact rfl)(ny:(Xb P σ c.args.toList c.argTypes.toList).2=some rows:=by first|(simp;done)|(simp[G];done)|(simp[G];omega)|(simp_all;done))(nn:dj<σ.length:=by first|(simp;done)|(simp[G];done)|(simp[G];omega)|(simp_all;done))(np:g=true->(Xb P σ c.args.toList c.argTypes.toList).1:=by first|(simp;done)|(simp[G];done)|(simp[G];omega)|(simp_all;done))(mF:Yi P σ c.args.toList c.argTypes.toList=true\/KW own [res]:=by first|(simp;done)|(simp[G];done)|(simp[G];omega)|(simp_all;done)):@SI P σ A o l k:=DP na hc hg hd lj l4 hs ny nn np mF h
theorem cGg{A:KX}{l:K6}{d:Nat}{j dj:Nat}{want own:Bool}{res:List D}(hs:g=true->Q0 P f own rows [res])(h:p)(na:o.o.op= .call c:=by exact rfl)(hc:c.callee= .value (.func f):=by exact rfl)(hg:o.o.guard=some (j,want):=by exact rfl)(hd:o.o.dst=some d:=by exact rfl)(lj:(A.ops[j]?).bind (·.dst)=some dj:=by exact rfl)(l4:qj want (σ.get dj)=some g:=by exact rfl)(ny:(Xb P σ c.args.toList c.argTypes.toList).2=some rows:=by first|(simp;done)|(simp[G];done)|(simp[G];omega)|(simp_all;done))(nn:dj<σ.length:=by first|(simp;done)|(simp[G];done)|(simp[G];omega)|(simp_all;done))(np:g=true->(Xb P σ c.args.toList c.argTypes.toList).1:=by first|(simp;done)|(simp[G];done)|(simp[G];omega)|(simp_all;done))(mF:Yi P σ c.args.toList c.argTypes.toList=true\/KW own [res]:=by first|(simp;done)|(simp[G];done)|(simp[G];omega)|(simp_all;done))(kk:Bx p->@EI P (σ.put d (.cnd g (qe [res]))) A l k:=by exact zCG):@SI P σ A o l k:=DP na hc hg hd lj l4 hs ny nn np mF (kk ⟨h⟩)
theorem cGs{A:KX}{l:K6}{d:Nat}{j dj:Nat}{want own:Bool}{res:List D}(hs:g=true->Q0 P f own rows [res])(h:p)(na:o.o.op= .call c:=by exact rfl)(hc:c.callee= .value (.func f):=by exact rfl)(hg:o.o.guard=some (j,want):=by exact rfl)(hd:o.o.dst=some d:=by exact rfl)(lj:(A.ops[j]?).bind (·.dst)=some dj:=by exact rfl)(l4:qj want (σ.get dj)=some g:=by exact rfl)(ny:(Xb P σ c.args.toList c.argTypes.toList).2=some rows:=by simp)(nn:dj<σ.length:=by simp)(np:g=true->(Xb P σ c.args.toList c.argTypes.toList).1:=by simp)(mF:Yi P σ c.args.toList c.argTypes.toList=true\/KW own [res]:=by simp)(kk:Bx p->@EI P (σ.put d (.cnd g (qe [res]))) A l k:=by exact zCD):@SI P σ A o l k:=DP na hc hg hd lj l4 hs ny nn np mF (kk ⟨h⟩)
theorem cBo{x0:Operand}{xs:List Operand}{t0:TypeId}{ts:List TypeId}{row:List D}(qs:List Bool)(hs:xQ P f dp row nz nj res)(h:@EI P (C8 dp (σ.Z1 t 0 (.box (nj.map .d))) d res qs) A l k)(na:o.o.op= .call cl:=by exact rfl)(hc:cl.callee= .value (.func f):=by exact rfl)(gL:o.o.guard=none:=by exact rfl)(hd:o.o.dst=some d:=by exact rfl)(mP:A.bar o.o=true:=by exact rfl)(ha:cl.args.toList=x0::xs:=by exact rfl)(hH:cl.argTypes.toList=t0::ts:=by exact rfl)(hx:gOf (look P σ t0 x0)=true/\unc (look P σ t0 x0)= .one (.bptr t 0):=by exact⟨rfl,rfl⟩)(ho:σ.ob t 0= .box (row.map .d):=by simp)(np:(Xb P σ xs ts).1:=by simp)(ny:(Xb P σ xs ts).2=some nz:=by simp)(mF:Yi P σ xs ts=true:=by simp)(mf:dp=true->(σ.Z1 t 0 (.box (nj.map .d))).fresh d=true/\y6 qs res.flatten:=by simp[-Bool.exists_bool,-Bool.forall_bool]):@SI P σ A o l k:=rP qs na hc gL hd mP ha hH hs hx ho np ny mF mf h
theorem cBs{A:KX}{l:K6}{d:Nat}{x0:Operand}{xs:List Operand}{t0:TypeId}{ts:List TypeId}{row:List D}{t:Nat}(qs:List Bool)(hs:xQ P f dp row nz nj res)(h:p)(na:o.o.op= .call cl:=by exact rfl)(hc:cl.callee= .value (.func f):=by exact rfl)(gL:o.o.guard=none:=by exact rfl)(hd:o.o.dst=some d:=by exact rfl)(mP:A.bar o.o=true:=by exact rfl)(ha:cl.args.toList=x0::xs:=by exact rfl)(hH:cl.argTypes.toList=t0::ts:=by exact rfl)(hx:gOf (look P σ t0 x0)=true/\unc (look P σ t0 x0)= .one (.bptr t 0):=by exact⟨rfl,rfl⟩)(ho:σ.ob t 0= .box (row.map .d):=by simp)(np:(Xb P σ xs ts).1:=by simp)(ny:(Xb P σ xs ts).2=some nz:=by simp)(mF:Yi P σ xs ts=true:=by simp)(mf:dp=true->(σ.Z1 t 0 (.box (nj.map .d))).fresh d=true/\y6 qs res.flatten:=by simp[-Bool.exists_bool,-Bool.forall_bool])(kk:Bx p->@EI P (C8 dp (σ.Z1 t 0 (.box (nj.map .d))) d res qs) A l k:=by exact zCD):@SI P σ A o l k:=rP qs na hc gL hd mP ha hH hs hx ho np ny mF mf (kk ⟨h⟩)
theorem cNs{A:KX}{l:K6}{d:Nat}(hs:MS P f nz nj)(h:p)(na:o.o.op= .call cl:=by exact rfl)(hc:cl.callee= .value (.func f):=by exact rfl)(gL:o.o.guard=none:=by exact rfl)(hd:o.o.dst=some d:=by exact rfl)(mP:A.bar o.o=true:=by exact rfl)(np:(Xb P σ cl.args.toList cl.argTypes.toList).1:=by simp)(ny:(Xb P σ cl.args.toList cl.argTypes.toList).2=some nz:=by simp)(mF:Yi P σ cl.args.toList cl.argTypes.toList=true:=by simp)(mf:σ.fresh d=true:=by simp)(gk:KK P o.o=false:=by exact rfl)(kk:Bx p->@EI P (σ.new d (.one (.bptr d 0)) [.box (nj.map .d)]) A l k:=by exact zCD):@SI P σ A o l k:=pe na hc gL hd mP hs np ny mF mf (kk ⟨h⟩) gk
theorem dIo{id:Nat}{l:List Oper}{br:Oper->Bool}(hm:P.follows .mixedOrders=true)(h:@EI P σ ⟨⟨l⟩,fun _=>false⟩ ⟨l⟩ k)(hdr:N3 P ⟨l⟩ (fun i=>i) (fun _=>false)=true:=by kernel_rfl)(mK:xB ⟨l⟩ (fun i=>i) σ=true:=by kernel_rfl):@DI P id σ ⟨⟨l⟩,br⟩ k:=vx hm hdr mK h
theorem dIg{id:Nat}{l:List Oper}{br:Oper->Bool}(hm:P.follows .mixedOrders=true)(h:p)(hdr:N3 P ⟨l⟩ (fun i=>i) (fun _=>false)=true:=by kernel_rfl)(mK:xB ⟨l⟩ (fun i=>i) σ=true:=by kernel_rfl)(kk:Bx p->@EI P σ ⟨⟨l⟩,fun _=>false⟩ ⟨l⟩ k:=by exact zCG):@DI P id σ ⟨⟨l⟩,br⟩ k:=vx hm hdr mK (kk ⟨h⟩)
theorem dIs{id:Nat}{l:List Oper}{br:Oper->Bool}(hm:P.follows .mixedOrders=true)(h:p)(hdr:N3 P ⟨l⟩ (fun i=>i) (fun _=>false)=true:=by kernel_rfl)(mK:xB ⟨l⟩ (fun i=>i) σ=true:=by kernel_rfl)(kk:Bx p->@EI P σ ⟨⟨l⟩,fun _=>false⟩ ⟨l⟩ k:=by(intro z;(try simp);(repeat(with_reducible refine Go.Mo.sd ?_));exact z.h)):@DI P id σ ⟨⟨l⟩,br⟩ k:=vx hm hdr mK (kk ⟨h⟩)
theorem eIs{A:KX}{l:K6}{d:Nat}(h:p)(hp:Dq o.o=true:=by exact rfl)(hg:o.o.guard=none:=by exact rfl)(hd:o.o.dst=some d:=by exact rfl)(kk:Bx p->(evS P σ o.o d).1/\@EI P (evS P σ o.o d).2 A l k:=by exact zCD):@SI P σ A o l k:=evI hp hg hd (kk ⟨h⟩)
theorem sGo{dj:Nat}{g:Bool}(h:@EI P (σ.put d (.cnd false .any)) A l k)(hg:o.o.guard=some (j,want):=by exact rfl)(hd:o.o.dst=some d:=by exact rfl)(lj:(A.ops[j]?).bind (·.dst)=some dj:=by exact rfl)(l4:qj want (σ.get dj)=some g:=by exact rfl)(nn:dj<σ.length:=by simp)(hgf:g=false:=by simp[G]):@SI P σ A o l k:=s5 hg hd lj l4 nn hgf h
theorem sGg{A:KX}{l:K6}{dj d:Nat}{g:Bool}(h:p)(hg:o.o.guard=some (j,want):=by exact rfl)(hd:o.o.dst=some d:=by exact rfl)(lj:(A.ops[j]?).bind (·.dst)=some dj:=by exact rfl)(l4:qj want (σ.get dj)=some g:=by exact rfl)(nn:dj<σ.length:=by simp)(hgf:g=false:=by simp[G])(kk:Bx p->@EI P (σ.put d (.cnd false .any)) A l k:=by exact zCG):@SI P σ A o l k:=s5 hg hd lj l4 nn hgf (kk ⟨h⟩)
theorem gIf{j dj:Nat}{want g:Bool}(ht:r1->((evV P σ o.o.op o.o.type).1/\gOf (evV P σ o.o.op o.o.type).2=true/\(unc (evV P σ o.o.op o.o.type).2).flat=true)/\@EI P (σ.put d (.cnd true (unc (evV P σ o.o.op o.o.type).2))) A l k)(hf:r2->q)(na:My o.o.op=false:=by exact rfl)(hg:o.o.guard=some (j,want):=by exact rfl)(hd:o.o.dst=some d:=by exact rfl)(lj:(A.ops[j]?).bind (·.dst)=some dj:=by exact rfl)(l4:qj want (σ.get dj)=some g:=by exact rfl)(nn:dj<σ.length:=by simp)(k1:g=true->r1:=by exact zCF)(k2:g=false->r2:=by exact zCF)(kf:r2->Bx q->@EI P (σ.put d (.cnd false .any)) A l k:=by(intro G z;simp[G,Go.Vm.ZF];(repeat(with_reducible refine Go.Mo.sdg ?_));exact z.h)):@SI P σ A o l k:=Hg na hg hd lj l4 nn (fun h=>ht (k1 h)) (fun h=>(fun G=>kf G ⟨hf G⟩) (k2 h))
theorem gIo{j dj:Nat}{want g:Bool}(ht:r1->((evV P σ o.o.op o.o.type).1/\gOf (evV P σ o.o.op o.o.type).2=true/\(unc (evV P σ o.o.op o.o.type).2).flat=true)/\@EI P (σ.put d (.cnd true (unc (evV P σ o.o.op o.o.type).2))) A l k)(hf:r2->@EI P (σ.put d (.cnd false .any)) A l k)(na:My o.o.op=false:=by exact rfl)(hg:o.o.guard=some (j,want):=by exact rfl)(hd:o.o.dst=some d:=by exact rfl)(lj:(A.ops[j]?).bind (·.dst)=some dj:=by exact rfl)(l4:qj want (σ.get dj)=some g:=by exact rfl)(nn:dj<σ.length:=by simp)(k1:g=true->r1:=by exact zCF)(k2:g=false->r2:=by exact zCF):@SI P σ A o l k:=Hg na hg hd lj l4 nn (fun h=>ht (k1 h)) (fun h=>hf (k2 h))
theorem gJf{j dj:Nat}{want g:Bool}(G:s)(ht:s/\r1->((evV P σ o.o.op o.o.type).1/\gOf (evV P σ o.o.op o.o.type).2=true/\(unc (evV P σ o.o.op o.o.type).2).flat=true)/\@EI P (σ.put d (.cnd true (unc (evV P σ o.o.op o.o.type).2))) A l k)(hf:s/\r2->q)(na:My o.o.op=false:=by exact rfl)(hg:o.o.guard=some (j,want):=by exact rfl)(hd:o.o.dst=some d:=by exact rfl)(lj:(A.ops[j]?).bind (·.dst)=some dj:=by exact rfl)(l4:qj want (σ.get dj)=some g:=by exact rfl)(nn:dj<σ.length:=by simp)(k1:g=true->r1:=by exact zCF)(k2:g=false->r2:=by exact zCF)(kf:s/\r2->Bx q->@EI P (σ.put d (.cnd false .any)) A l k:=by(intro G z;simp[G,Go.Vm.ZF];(repeat(with_reducible refine Go.Mo.sdg ?_));exact z.h)):@SI P σ A o l k:=Hg na hg hd lj l4 nn (fun h=>ht ⟨G,k1 h⟩) (fun h=>(fun G=>kf G ⟨hf G⟩) ⟨G,k2 h⟩)
theorem gJo{j dj:Nat}{want g:Bool}(G:s)(ht:s/\r1->((evV P σ o.o.op o.o.type).1/\gOf (evV P σ o.o.op o.o.type).2=true/\(unc (evV P σ o.o.op o.o.type).2).flat=true)/\@EI P (σ.put d (.cnd true (unc (evV P σ o.o.op o.o.type).2))) A l k)(hf:s/\r2->@EI P (σ.put d (.cnd false .any)) A l k)(na:My o.o.op=false:=by exact rfl)(hg:o.o.guard=some (j,want):=by exact rfl)(hd:o.o.dst=some d:=by exact rfl)(lj:(A.ops[j]?).bind (·.dst)=some dj:=by exact rfl)(l4:qj want (σ.get dj)=some g:=by exact rfl)(nn:dj<σ.length:=by simp)(k1:g=true->r1:=by exact zCF)(k2:g=false->r2:=by exact zCF):@SI P σ A o l k:=Hg na hg hd lj l4 nn (fun h=>ht ⟨G,k1 h⟩) (fun h=>hf ⟨G,k2 h⟩)
theorem gK{j dj:Nat}{want g:Bool}(ht:r1->((evV P σ o.o.op o.o.type).1/\gOf (evV P σ o.o.op o.o.type).2=true/\(unc (evV P σ o.o.op o.o.type).2).flat=true)/\@EI P (σ.put d (.cnd true (unc (evV P σ o.o.op o.o.type).2))) A l k)(na:My o.o.op=false:=by exact rfl)(hg:o.o.guard=some (j,want):=by exact rfl)(hd:o.o.dst=some d:=by exact rfl)(lj:(A.ops[j]?).bind (·.dst)=some dj:=by exact rfl)(l4:qj want (σ.get dj)=some g:=by exact rfl)(nn:dj<σ.length:=by simp)(k1:g=true->r1:=by exact zCF)(k2:g=false->False:=by first|(intro g0;simp at g0;done)|(intro g0;simp[G]at g0;done)):@SI P σ A o l k:=Hg na hg hd lj l4 nn (fun h=>ht (k1 h)) (fun h=>(k2 h).elim)
theorem rt{α:Type}{x y:α}{res:List (List D)}(rv:List ResultVar)(f:Me x y)(hf:fn.results=rv.toArray:=by exact rfl)(h:x=y->(J8 P σ rv).1/\kl σ (J8 P σ rv).2=some res:=by(intro f;simp[f])):Br P fn false res .ret σ:=rO hf (h f.h)
theorem rtg{α:Type}{x y:α}{res:List (List D)}(rv:List ResultVar)(f:Me x y)(hf:fn.results=rv.toArray:=by exact rfl)(h:x=y->(J8 P σ rv).1/\kl σ (J8 P σ rv).2=some res:=by(intro f;simp[f,G])):Br P fn false res .ret σ:=rO hf (h f.h)
theorem rtO{α:Type}{x y:α}{res:List (List D)}(rv:List ResultVar)(f:Me x y)(hf:fn.results=rv.toArray:=by exact rfl)(h:x=y->(J8 P σ rv).1/\Ut σ (J8 P σ rv).2=some res/\(XL (J8 P σ rv).2.flatten).Nodup:=by(intro f;simp[f])):Br P fn true res .ret σ:=rU hf (h f.h)
theorem rtD{α:Type}{x y:α}{res:List (List D)}(rv:List ResultVar)(f:Me x y)(hf:fn.results=rv.toArray:=by exact rfl)(h:x=y->(J8 P σ rv).1/\Km σ (J8 P σ rv).2=some res/\KP σ (J8 P σ rv).2/\(XL (J8 P σ rv).2.flatten).Nodup:=by(intro f;simp[f,-Bool.exists_bool,-Bool.forall_bool])):vY P fn res .ret σ:=Ir hf (h f.h)
theorem z9{α:Type}{x y:α}{res:List (List D)}(rv:List ResultVar)(f:Me x y)(hf:fn.results=rv.toArray:=by exact rfl)(h:x=y->(J8 P σ rv).1/\Km σ (J8 P σ rv).2=some res/\KP σ (J8 P σ rv).2/\(XL (J8 P σ rv).2.flatten).Nodup:=by(intro f;simp[f,G,-Bool.exists_bool,-Bool.forall_bool])):vY P fn res .ret σ:=Ir hf (h f.h)
class NxI where
 p:St->Prop
def Nx(σ:St)[n:NxI]:Prop:=n.p σ
theorem Ry{c:y5}{n n':St->Prop}(hn:∀σ',n σ'->n' σ')(h:@WI P σ c (.nxt n k)):AWP P c.c (Fr.run P (.nxt n' k)) σ:=
 Bh (fun e σ' hq=>by cases e<;>first|exact hn _ hq|exact hq) (Vv h)
abbrev Q1{R:Type}{A0:Type}(L:Nat->A0->R)(S:A0->St)(I:Nat->A0->Prop)(t:R)(b:Nat):NxI:=⟨fun τ=>∃a0,Me t (L b a0)/\(1<=b/\I b a0)/\Wk τ (S a0)⟩
theorem nx1{R:Type}{A0:Type}{L:Nat->A0->R}{S:A0->St}{I:Nat->A0->Prop}{t:R}{a0:A0}(e:Me t (L b a0))(hI:1<=b/\I b a0:=by exact zCE)(hw:Wk σ (S a0):=by exact KG zAG):@Nx σ (Q1 L S I t b):=⟨a0,e,hI,hw⟩
theorem ny1{R:Type}{A0:Type}{L:Nat->A0->R}{S:A0->St}{I:Nat->A0->Prop}{t:R}{a0:A0}(F:q)(e:Me t (L b a0))(hI:1<=b/\I b a0:=by exact zCE)(kw:q->Wk σ (S a0):=by exact zCH):@Nx σ (Q1 L S I t b):=⟨a0,e,hI,kw F⟩
theorem lp1{c:y5}{R:Type}{A0:Type}{L B:Nat->A0->R}(hL:∀(a0:A0)(n:Nat),L (Nat.succ n) a0=B n a0)(S:A0->St)(I:Nat->A0->Prop)(n0:Nat)(b0:A0){p:Nat->A0->Prop}
  (round:∀n (a0:A0),Me (L n0 b0) (B n a0)->1<=n+1/\I (n+1) a0->p n a0) (hI:1<=n0/\I n0 b0:=by first|omega|(dsimp only;omega)|simp) (h0:Wk σ (S b0):=by exact KG zAG) (kk:∀n (a0:A0),Bx (p n a0)->@WI P (S a0) c (.nxt (fun σ'=>@Nx σ' (Q1 L S I (L n0 b0) n)) k):=by(intro n_ aN z;simp;(repeat(with_reducible refine Go.Mo.sd ?_));exact z.h)):@Sy P σ c k:=by
 refine WO (ι:={s:Nat×A0//Me (L n0 b0) (L s.1 s.2)/\(1<=s.1/\I s.1 s.2)}) (fun s=>S s.1.2) (fun s=>s.1.1) ⟨(n0,b0),⟨rfl⟩,hI⟩ h0 ?_;rintro⟨⟨n1,a0⟩,e,j⟩;obtain⟨n,rfl⟩:∃q,n1=q+1:=⟨n1-1,by have:=j.1;(try dsimp only at this);omega⟩;refine Ry (fun σ' hn=>?_) (kk n a0 ⟨round n a0 ⟨by have:=e.h;(try dsimp only at this);rw[this,hL]⟩ j⟩);obtain⟨c0,e2,j2,w2⟩:=hn;exact⟨⟨(n,c0),e2,j2⟩,Nat.lt_succ_self n,w2⟩
theorem oE{c:y5}{R:Type}{A0:Type}{L B:Nat->A0->R}(hL:∀(a0:A0)(n:Nat),L (Nat.succ n) a0=B n a0)(S:A0->St)(I:Nat->A0->Prop)(n0:Nat)(b0:A0)
  (round:∀n (a0:A0),Me (L n0 b0) (B n a0)->1<=n+1/\I (n+1) a0->@WI P (S a0) c (.nxt (fun σ'=>@Nx σ' (Q1 L S I (L n0 b0) n)) k)) (hI:1<=n0/\I n0 b0:=by first|omega|(dsimp only;omega)|simp) (h0:Wk σ (S b0):=by exact KG zAG):@Sy P σ c k:=by
 refine WO (ι:={s:Nat×A0//Me (L n0 b0) (L s.1 s.2)/\(1<=s.1/\I s.1 s.2)}) (fun s=>S s.1.2) (fun s=>s.1.1) ⟨(n0,b0),⟨rfl⟩,hI⟩ h0 ?_;rintro⟨⟨n1,a0⟩,e,j⟩;obtain⟨n,rfl⟩:∃q,n1=q+1:=⟨n1-1,by have:=j.1;(try dsimp only at this);omega⟩;refine Ry (fun σ' hn=>?_) (round n a0 ⟨by have:=e.h;(try dsimp only at this);rw[this,hL]⟩ j);obtain⟨c0,e2,j2,w2⟩:=hn;exact⟨⟨(n,c0),e2,j2⟩,Nat.lt_succ_self n,w2⟩
abbrev Q2{R:Type}{A0 A1:Type}(L:Nat->A0->A1->R)(S:A0->A1->St)(I:Nat->A0->A1->Prop)(t:R)(b:Nat):NxI:=⟨fun τ=>∃a0 a1,Me t (L b a0 a1)/\(1<=b/\I b a0 a1)/\Wk τ (S a0 a1)⟩
theorem nx2{R:Type}{A0 A1:Type}{L:Nat->A0->A1->R}{S:A0->A1->St}{I:Nat->A0->A1->Prop}{t:R}{a0:A0}{a1:A1}(e:Me t (L b a0 a1))(hI:1<=b/\I b a0 a1:=by exact zCE)(hw:Wk σ (S a0 a1):=by exact KG zAG):@Nx σ (Q2 L S I t b):=⟨a0,a1,e,hI,hw⟩
theorem ny2{R:Type}{A0 A1:Type}{L:Nat->A0->A1->R}{S:A0->A1->St}{I:Nat->A0->A1->Prop}{t:R}{a0:A0}{a1:A1}(F:q)(e:Me t (L b a0 a1))(hI:1<=b/\I b a0 a1:=by exact zCE)(kw:q->Wk σ (S a0 a1):=by exact zCH):@Nx σ (Q2 L S I t b):=⟨a0,a1,e,hI,kw F⟩
theorem lp2{c:y5}{R:Type}{A0 A1:Type}{L B:Nat->A0->A1->R}(hL:∀(a0:A0)(a1:A1)(n:Nat),L (Nat.succ n) a0 a1=B n a0 a1)(S:A0->A1->St)(I:Nat->A0->A1->Prop)(n0:Nat)(b0:A0)(b1:A1){p:Nat->A0->A1->Prop}
  (round:∀n (a0:A0)(a1:A1),Me (L n0 b0 b1) (B n a0 a1)->1<=n+1/\I (n+1) a0 a1->p n a0 a1) (hI:1<=n0/\I n0 b0 b1:=by first|omega|(dsimp only;omega)|simp) (h0:Wk σ (S b0 b1):=by exact KG zAG) (kk:∀n (a0:A0)(a1:A1),Bx (p n a0 a1)->@WI P (S a0 a1) c (.nxt (fun σ'=>@Nx σ' (Q2 L S I (L n0 b0 b1) n)) k):=by(intro n_ aN a1_ z;simp;(repeat(with_reducible refine Go.Mo.sd ?_));exact z.h)):@Sy P σ c k:=by
 refine WO (ι:={s:Nat×A0×A1//Me (L n0 b0 b1) (L s.1 s.2.1 s.2.2)/\(1<=s.1/\I s.1 s.2.1 s.2.2)}) (fun s=>S s.1.2.1 s.1.2.2) (fun s=>s.1.1) ⟨(n0,b0,b1),⟨rfl⟩,hI⟩ h0 ?_;rintro⟨⟨n1,a0,a1⟩,e,j⟩;obtain⟨n,rfl⟩:∃q,n1=q+1:=⟨n1-1,by have:=j.1;(try dsimp only at this);omega⟩;refine Ry (fun σ' hn=>?_) (kk n a0 a1 ⟨round n a0 a1 ⟨by have:=e.h;(try dsimp only at this);rw[this,hL]⟩ j⟩);obtain⟨c0,c1,e2,j2,w2⟩:=hn;exact⟨⟨(n,c0,c1),e2,j2⟩,Nat.lt_succ_self n,w2⟩
abbrev Q3{R:Type}{A0 A1 A2:Type}(L:Nat->A0->A1->A2->R)(S:A0->A1->A2->St)(I:Nat->A0->A1->A2->Prop)(t:R)(b:Nat):NxI:=⟨fun τ=>∃a0 a1 a2,Me t (L b a0 a1 a2)/\(1<=b/\I b a0 a1 a2)/\Wk τ (S a0 a1 a2)⟩
theorem nx3{R:Type}{A0 A1 A2:Type}{L:Nat->A0->A1->A2->R}{S:A0->A1->A2->St}{I:Nat->A0->A1->A2->Prop}{t:R}{a0:A0}{a1:A1}{a2:A2}(e:Me t (L b a0 a1 a2))(hI:1<=b/\I b a0 a1 a2:=by exact zCE)(hw:Wk σ (S a0 a1 a2):=by exact KG zAG):@Nx σ (Q3 L S I t b):=⟨a0,a1,a2,e,hI,hw⟩
theorem ny3{R:Type}{A0 A1 A2:Type}{L:Nat->A0->A1->A2->R}{S:A0->A1->A2->St}{I:Nat->A0->A1->A2->Prop}{t:R}{a0:A0}{a1:A1}{a2:A2}(F:q)(e:Me t (L b a0 a1 a2))(hI:1<=b/\I b a0 a1 a2:=by exact zCE)(kw:q->Wk σ (S a0 a1 a2):=by exact zCH):@Nx σ (Q3 L S I t b):=⟨a0,a1,a2,e,hI,kw F⟩
theorem lp3{c:y5}{R:Type}{A0 A1 A2:Type}{L B:Nat->A0->A1->A2->R}(hL:∀(a0:A0)(a1:A1)(a2:A2)(n:Nat),L (Nat.succ n) a0 a1 a2=B n a0 a1 a2)(S:A0->A1->A2->St)(I:Nat->A0->A1->A2->Prop)(n0:Nat)(b0:A0)(b1:A1)(b2:A2){p:Nat->A0->A1->A2->Prop}
  (round:∀n (a0:A0)(a1:A1)(a2:A2),Me (L n0 b0 b1 b2) (B n a0 a1 a2)->1<=n+1/\I (n+1) a0 a1 a2->p n a0 a1 a2) (hI:1<=n0/\I n0 b0 b1 b2:=by first|omega|(dsimp only;omega)|simp) (h0:Wk σ (S b0 b1 b2):=by exact KG zAG) (kk:∀n (a0:A0)(a1:A1)(a2:A2),Bx (p n a0 a1 a2)->@WI P (S a0 a1 a2) c (.nxt (fun σ'=>@Nx σ' (Q3 L S I (L n0 b0 b1 b2) n)) k):=by(intro n_ aN a1_ a2_ z;simp;(repeat(with_reducible refine Go.Mo.sd ?_));exact z.h)):@Sy P σ c k:=by
 refine WO (ι:={s:Nat×A0×A1×A2//Me (L n0 b0 b1 b2) (L s.1 s.2.1 s.2.2.1 s.2.2.2)/\(1<=s.1/\I s.1 s.2.1 s.2.2.1 s.2.2.2)}) (fun s=>S s.1.2.1 s.1.2.2.1 s.1.2.2.2) (fun s=>s.1.1) ⟨(n0,b0,b1,b2),⟨rfl⟩,hI⟩ h0 ?_;rintro⟨⟨n1,a0,a1,a2⟩,e,j⟩;obtain⟨n,rfl⟩:∃q,n1=q+1:=⟨n1-1,by have:=j.1;(try dsimp only at this);omega⟩;refine Ry (fun σ' hn=>?_) (kk n a0 a1 a2 ⟨round n a0 a1 a2 ⟨by have:=e.h;(try dsimp only at this);rw[this,hL]⟩ j⟩);obtain⟨c0,c1,c2,e2,j2,w2⟩:=hn;exact⟨⟨(n,c0,c1,c2),e2,j2⟩,Nat.lt_succ_self n,w2⟩
abbrev Q4{R:Type}{A0 A1 A2 A3:Type}(L:Nat->A0->A1->A2->A3->R)(S:A0->A1->A2->A3->St)(I:Nat->A0->A1->A2->A3->Prop)(t:R)(b:Nat):NxI:=⟨fun τ=>∃a0 a1 a2 a3,Me t (L b a0 a1 a2 a3)/\(1<=b/\I b a0 a1 a2 a3)/\Wk τ (S a0 a1 a2 a3)⟩
theorem nx4{R:Type}{A0 A1 A2 A3:Type}{L:Nat->A0->A1->A2->A3->R}{S:A0->A1->A2->A3->St}{I:Nat->A0->A1->A2->A3->Prop}{t:R}{a0:A0}{a1:A1}{a2:A2}{a3:A3}(e:Me t (L b a0 a1 a2 a3))(hI:1<=b/\I b a0 a1 a2 a3:=by exact zCE)(hw:Wk σ (S a0 a1 a2 a3):=by exact KG zAG):@Nx σ (Q4 L S I t b):=⟨a0,a1,a2,a3,e,hI,hw⟩
theorem ny4{R:Type}{A0 A1 A2 A3:Type}{L:Nat->A0->A1->A2->A3->R}{S:A0->A1->A2->A3->St}{I:Nat->A0->A1->A2->A3->Prop}{t:R}{a0:A0}{a1:A1}{a2:A2}{a3:A3}(F:q)(e:Me t (L b a0 a1 a2 a3))(hI:1<=b/\I b a0 a1 a2 a3:=by exact zCE)(kw:q->Wk σ (S a0 a1 a2 a3):=by exact zCH):@Nx σ (Q4 L S I t b):=⟨a0,a1,a2,a3,e,hI,kw F⟩
theorem lp4{c:y5}{R:Type}{A0 A1 A2 A3:Type}{L B:Nat->A0->A1->A2->A3->R}(hL:∀(a0:A0)(a1:A1)(a2:A2)(a3:A3)(n:Nat),L (Nat.succ n) a0 a1 a2 a3=B n a0 a1 a2 a3)(S:A0->A1->A2->A3->St)(I:Nat->A0->A1->A2->A3->Prop)(n0:Nat)(b0:A0)(b1:A1)(b2:A2)(b3:A3){p:Nat->A0->A1->A2->A3->Prop}
  (round:∀n (a0:A0)(a1:A1)(a2:A2)(a3:A3),Me (L n0 b0 b1 b2 b3) (B n a0 a1 a2 a3)->1<=n+1/\I (n+1) a0 a1 a2 a3->p n a0 a1 a2 a3) (hI:1<=n0/\I n0 b0 b1 b2 b3:=by first|omega|(dsimp only;omega)|simp) (h0:Wk σ (S b0 b1 b2 b3):=by exact KG zAG) (kk:∀n (a0:A0)(a1:A1)(a2:A2)(a3:A3),Bx (p n a0 a1 a2 a3)->@WI P (S a0 a1 a2 a3) c (.nxt (fun σ'=>@Nx σ' (Q4 L S I (L n0 b0 b1 b2 b3) n)) k):=by(intro n_ aN a1_ a2_ a3_ z;simp;(repeat(with_reducible refine Go.Mo.sd ?_));exact z.h)):@Sy P σ c k:=by
 refine WO (ι:={s:Nat×A0×A1×A2×A3//Me (L n0 b0 b1 b2 b3) (L s.1 s.2.1 s.2.2.1 s.2.2.2.1 s.2.2.2.2)/\(1<=s.1/\I s.1 s.2.1 s.2.2.1 s.2.2.2.1 s.2.2.2.2)}) (fun s=>S s.1.2.1 s.1.2.2.1 s.1.2.2.2.1 s.1.2.2.2.2) (fun s=>s.1.1) ⟨(n0,b0,b1,b2,b3),⟨rfl⟩,hI⟩ h0 ?_;rintro⟨⟨n1,a0,a1,a2,a3⟩,e,j⟩;obtain⟨n,rfl⟩:∃q,n1=q+1:=⟨n1-1,by have:=j.1;(try dsimp only at this);omega⟩;refine Ry (fun σ' hn=>?_) (kk n a0 a1 a2 a3 ⟨round n a0 a1 a2 a3 ⟨by have:=e.h;(try dsimp only at this);rw[this,hL]⟩ j⟩);obtain⟨c0,c1,c2,c3,e2,j2,w2⟩:=hn;exact⟨⟨(n,c0,c1,c2,c3),e2,j2⟩,Nat.lt_succ_self n,w2⟩
abbrev Q5{R:Type}{A0 A1 A2 A3 A4:Type}(L:Nat->A0->A1->A2->A3->A4->R)(S:A0->A1->A2->A3->A4->St)(I:Nat->A0->A1->A2->A3->A4->Prop)(t:R)(b:Nat):NxI:=⟨fun τ=>∃a0 a1 a2 a3 a4,Me t (L b a0 a1 a2 a3 a4)/\(1<=b/\I b a0 a1 a2 a3 a4)/\Wk τ (S a0 a1 a2 a3 a4)⟩
theorem nx5{R:Type}{A0 A1 A2 A3 A4:Type}{L:Nat->A0->A1->A2->A3->A4->R}{S:A0->A1->A2->A3->A4->St}{I:Nat->A0->A1->A2->A3->A4->Prop}{t:R}{a0:A0}{a1:A1}{a2:A2}{a3:A3}{a4:A4}(e:Me t (L b a0 a1 a2 a3 a4))(hI:1<=b/\I b a0 a1 a2 a3 a4:=by exact zCE)(hw:Wk σ (S a0 a1 a2 a3 a4):=by exact KG zAG):@Nx σ (Q5 L S I t b):=⟨a0,a1,a2,a3,a4,e,hI,hw⟩
theorem lp5{c:y5}{R:Type}{A0 A1 A2 A3 A4:Type}{L B:Nat->A0->A1->A2->A3->A4->R}(hL:∀(a0:A0)(a1:A1)(a2:A2)(a3:A3)(a4:A4)(n:Nat),L (Nat.succ n) a0 a1 a2 a3 a4=B n a0 a1 a2 a3 a4)(S:A0->A1->A2->A3->A4->St)(I:Nat->A0->A1->A2->A3->A4->Prop)(n0:Nat)(b0:A0)(b1:A1)(b2:A2)(b3:A3)(b4:A4){p:Nat->A0->A1->A2->A3->A4->Prop}
  (round:∀n (a0:A0)(a1:A1)(a2:A2)(a3:A3)(a4:A4),Me (L n0 b0 b1 b2 b3 b4) (B n a0 a1 a2 a3 a4)->1<=n+1/\I (n+1) a0 a1 a2 a3 a4->p n a0 a1 a2 a3 a4) (hI:1<=n0/\I n0 b0 b1 b2 b3 b4:=by first|omega|(dsimp only;omega)|simp) (h0:Wk σ (S b0 b1 b2 b3 b4):=by exact KG zAG) (kk:∀n (a0:A0)(a1:A1)(a2:A2)(a3:A3)(a4:A4),Bx (p n a0 a1 a2 a3 a4)->@WI P (S a0 a1 a2 a3 a4) c (.nxt (fun σ'=>@Nx σ' (Q5 L S I (L n0 b0 b1 b2 b3 b4) n)) k):=by(intro n_ aN a1_ a2_ a3_ a4_ z;simp;(repeat(with_reducible refine Go.Mo.sd ?_));exact z.h)):@Sy P σ c k:=by
 refine WO (ι:={s:Nat×A0×A1×A2×A3×A4//Me (L n0 b0 b1 b2 b3 b4) (L s.1 s.2.1 s.2.2.1 s.2.2.2.1 s.2.2.2.2.1 s.2.2.2.2.2)/\(1<=s.1/\I s.1 s.2.1 s.2.2.1 s.2.2.2.1 s.2.2.2.2.1 s.2.2.2.2.2)}) (fun s=>S s.1.2.1 s.1.2.2.1 s.1.2.2.2.1 s.1.2.2.2.2.1 s.1.2.2.2.2.2) (fun s=>s.1.1) ⟨(n0,b0,b1,b2,b3,b4),⟨rfl⟩,hI⟩ h0 ?_;rintro⟨⟨n1,a0,a1,a2,a3,a4⟩,e,j⟩;obtain⟨n,rfl⟩:∃q,n1=q+1:=⟨n1-1,by have:=j.1;(try dsimp only at this);omega⟩;refine Ry (fun σ' hn=>?_) (kk n a0 a1 a2 a3 a4 ⟨round n a0 a1 a2 a3 a4 ⟨by have:=e.h;(try dsimp only at this);rw[this,hL]⟩ j⟩);obtain⟨c0,c1,c2,c3,c4,e2,j2,w2⟩:=hn;exact⟨⟨(n,c0,c1,c2,c3,c4),e2,j2⟩,Nat.lt_succ_self n,w2⟩
abbrev Q9{R:Type}{A0 A1 A2 A3 A4 A5 A6 A7 A8:Type}(L:Nat->A0->A1->A2->A3->A4->A5->A6->A7->A8->R)(S:A0->A1->A2->A3->A4->A5->A6->A7->A8->St)(I:Nat->A0->A1->A2->A3->A4->A5->A6->A7->A8->Prop)(t:R)(b:Nat):NxI:=⟨fun τ=>∃a0 a1 a2 a3 a4 a5 a6 a7 a8,Me t (L b a0 a1 a2 a3 a4 a5 a6 a7 a8)/\(1<=b/\I b a0 a1 a2 a3 a4 a5 a6 a7 a8)/\Wk τ (S a0 a1 a2 a3 a4 a5 a6 a7 a8)⟩
theorem ny9{R:Type}{A0 A1 A2 A3 A4 A5 A6 A7 A8:Type}{L:Nat->A0->A1->A2->A3->A4->A5->A6->A7->A8->R}{S:A0->A1->A2->A3->A4->A5->A6->A7->A8->St}{I:Nat->A0->A1->A2->A3->A4->A5->A6->A7->A8->Prop}{t:R}{a0:A0}{a1:A1}{a2:A2}{a3:A3}{a4:A4}{a5:A5}{a6:A6}{a7:A7}{a8:A8}(F:q)(e:Me t (L b a0 a1 a2 a3 a4 a5 a6 a7 a8))(hI:1<=b/\I b a0 a1 a2 a3 a4 a5 a6 a7 a8:=by exact zCE)(kw:q->Wk σ (S a0 a1 a2 a3 a4 a5 a6 a7 a8):=by exact zCH):@Nx σ (Q9 L S I t b):=⟨a0,a1,a2,a3,a4,a5,a6,a7,a8,e,hI,kw F⟩
theorem lp9{c:y5}{R:Type}{A0 A1 A2 A3 A4 A5 A6 A7 A8:Type}{L B:Nat->A0->A1->A2->A3->A4->A5->A6->A7->A8->R}(hL:∀(a0:A0)(a1:A1)(a2:A2)(a3:A3)(a4:A4)(a5:A5)(a6:A6)(a7:A7)(a8:A8)(n:Nat),L (Nat.succ n) a0 a1 a2 a3 a4 a5 a6 a7 a8=B n a0 a1 a2 a3 a4 a5 a6 a7 a8)(S:A0->A1->A2->A3->A4->A5->A6->A7->A8->St)(I:Nat->A0->A1->A2->A3->A4->A5->A6->A7->A8->Prop)(n0:Nat)(b0:A0)(b1:A1)(b2:A2)(b3:A3)(b4:A4)(b5:A5)(b6:A6)(b7:A7)(b8:A8){p:Nat->A0->A1->A2->A3->A4->A5->A6->A7->A8->Prop}
  (round:∀n (a0:A0)(a1:A1)(a2:A2)(a3:A3)(a4:A4)(a5:A5)(a6:A6)(a7:A7)(a8:A8),Me (L n0 b0 b1 b2 b3 b4 b5 b6 b7 b8) (B n a0 a1 a2 a3 a4 a5 a6 a7 a8)->1<=n+1/\I (n+1) a0 a1 a2 a3 a4 a5 a6 a7 a8->p n a0 a1 a2 a3 a4 a5 a6 a7 a8) (hI:1<=n0/\I n0 b0 b1 b2 b3 b4 b5 b6 b7 b8:=by first|omega|(dsimp only;omega)|simp) (h0:Wk σ (S b0 b1 b2 b3 b4 b5 b6 b7 b8):=by exact KG zAG) (kk:∀n (a0:A0)(a1:A1)(a2:A2)(a3:A3)(a4:A4)(a5:A5)(a6:A6)(a7:A7)(a8:A8),Bx (p n a0 a1 a2 a3 a4 a5 a6 a7 a8)->@WI P (S a0 a1 a2 a3 a4 a5 a6 a7 a8) c (.nxt (fun σ'=>@Nx σ' (Q9 L S I (L n0 b0 b1 b2 b3 b4 b5 b6 b7 b8) n)) k):=by(intro n_ aN a1_ a2_ a3_ a4_ a5_ a6_ a7_ a8_ z;simp;(repeat(with_reducible refine Go.Mo.sd ?_));exact z.h)):@Sy P σ c k:=by
 refine WO (ι:={s:Nat×A0×A1×A2×A3×A4×A5×A6×A7×A8//Me (L n0 b0 b1 b2 b3 b4 b5 b6 b7 b8) (L s.1 s.2.1 s.2.2.1 s.2.2.2.1 s.2.2.2.2.1 s.2.2.2.2.2.1 s.2.2.2.2.2.2.1 s.2.2.2.2.2.2.2.1 s.2.2.2.2.2.2.2.2.1 s.2.2.2.2.2.2.2.2.2)/\(1<=s.1/\I s.1 s.2.1 s.2.2.1 s.2.2.2.1 s.2.2.2.2.1 s.2.2.2.2.2.1 s.2.2.2.2.2.2.1 s.2.2.2.2.2.2.2.1 s.2.2.2.2.2.2.2.2.1 s.2.2.2.2.2.2.2.2.2)}) (fun s=>S s.1.2.1 s.1.2.2.1 s.1.2.2.2.1 s.1.2.2.2.2.1 s.1.2.2.2.2.2.1 s.1.2.2.2.2.2.2.1 s.1.2.2.2.2.2.2.2.1 s.1.2.2.2.2.2.2.2.2.1 s.1.2.2.2.2.2.2.2.2.2) (fun s=>s.1.1) ⟨(n0,b0,b1,b2,b3,b4,b5,b6,b7,b8),⟨rfl⟩,hI⟩ h0 ?_;rintro⟨⟨n1,a0,a1,a2,a3,a4,a5,a6,a7,a8⟩,e,j⟩;obtain⟨n,rfl⟩:∃q,n1=q+1:=⟨n1-1,by have:=j.1;(try dsimp only at this);omega⟩;refine Ry (fun σ' hn=>?_) (kk n a0 a1 a2 a3 a4 a5 a6 a7 a8 ⟨round n a0 a1 a2 a3 a4 a5 a6 a7 a8 ⟨by have:=e.h;(try dsimp only at this);rw[this,hL]⟩ j⟩);obtain⟨c0,c1,c2,c3,c4,c5,c6,c7,c8,e2,j2,w2⟩:=hn;exact⟨⟨(n,c0,c1,c2,c3,c4,c5,c6,c7,c8),e2,j2⟩,Nat.lt_succ_self n,w2⟩
abbrev Q13{R:Type}{A0 A1 A2 A3 A4 A5 A6 A7 A8 A9 gD gE gF:Type}(L:Nat->A0->A1->A2->A3->A4->A5->A6->A7->A8->A9->gD->gE->gF->R)(S:A0->A1->A2->A3->A4->A5->A6->A7->A8->A9->gD->gE->gF->St)(I:Nat->A0->A1->A2->A3->A4->A5->A6->A7->A8->A9->gD->gE->gF->Prop)(t:R)(b:Nat):NxI:=⟨fun τ=>∃a0 a1 a2 a3 a4 a5 a6 a7 a8 a9 ij im iq,Me t (L b a0 a1 a2 a3 a4 a5 a6 a7 a8 a9 ij im iq)/\(1<=b/\I b a0 a1 a2 a3 a4 a5 a6 a7 a8 a9 ij im iq)/\Wk τ (S a0 a1 a2 a3 a4 a5 a6 a7 a8 a9 ij im iq)⟩
theorem oM{R:Type}{A0 A1 A2 A3 A4 A5 A6 A7 A8 A9 gD gE gF:Type}{L:Nat->A0->A1->A2->A3->A4->A5->A6->A7->A8->A9->gD->gE->gF->R}{S:A0->A1->A2->A3->A4->A5->A6->A7->A8->A9->gD->gE->gF->St}{I:Nat->A0->A1->A2->A3->A4->A5->A6->A7->A8->A9->gD->gE->gF->Prop}{t:R}{a0:A0}{a1:A1}{a2:A2}{a3:A3}{a4:A4}{a5:A5}{a6:A6}{a7:A7}{a8:A8}{a9:A9}{ij:gD}{im:gE}{iq:gF}(e:Me t (L b a0 a1 a2 a3 a4 a5 a6 a7 a8 a9 ij im iq))(hI:1<=b/\I b a0 a1 a2 a3 a4 a5 a6 a7 a8 a9 ij im iq:=by exact zCE)(hw:Wk σ (S a0 a1 a2 a3 a4 a5 a6 a7 a8 a9 ij im iq):=by exact KG zAG):@Nx σ (Q13 L S I t b):=⟨a0,a1,a2,a3,a4,a5,a6,a7,a8,a9,ij,im,iq,e,hI,hw⟩
theorem oK{R:Type}{A0 A1 A2 A3 A4 A5 A6 A7 A8 A9 gD gE gF:Type}{L:Nat->A0->A1->A2->A3->A4->A5->A6->A7->A8->A9->gD->gE->gF->R}{S:A0->A1->A2->A3->A4->A5->A6->A7->A8->A9->gD->gE->gF->St}{I:Nat->A0->A1->A2->A3->A4->A5->A6->A7->A8->A9->gD->gE->gF->Prop}{t:R}{a0:A0}{a1:A1}{a2:A2}{a3:A3}{a4:A4}{a5:A5}{a6:A6}{a7:A7}{a8:A8}{a9:A9}{ij:gD}{im:gE}{iq:gF}(F:q)(e:Me t (L b a0 a1 a2 a3 a4 a5 a6 a7 a8 a9 ij im iq))(hI:1<=b/\I b a0 a1 a2 a3 a4 a5 a6 a7 a8 a9 ij im iq:=by exact zCE)(kw:q->Wk σ (S a0 a1 a2 a3 a4 a5 a6 a7 a8 a9 ij im iq):=by exact zCH):@Nx σ (Q13 L S I t b):=⟨a0,a1,a2,a3,a4,a5,a6,a7,a8,a9,ij,im,iq,e,hI,kw F⟩
theorem pc{c:y5}{R:Type}{A0 A1 A2 A3 A4 A5 A6 A7 A8 A9 gD gE gF:Type}{L B:Nat->A0->A1->A2->A3->A4->A5->A6->A7->A8->A9->gD->gE->gF->R}(hL:∀(a0:A0)(a1:A1)(a2:A2)(a3:A3)(a4:A4)(a5:A5)(a6:A6)(a7:A7)(a8:A8)(a9:A9)(ij:gD)(im:gE)(iq:gF)(n:Nat),L (Nat.succ n) a0 a1 a2 a3 a4 a5 a6 a7 a8 a9 ij im iq=B n a0 a1 a2 a3 a4 a5 a6 a7 a8 a9 ij im iq)(S:A0->A1->A2->A3->A4->A5->A6->A7->A8->A9->gD->gE->gF->St)(I:Nat->A0->A1->A2->A3->A4->A5->A6->A7->A8->A9->gD->gE->gF->Prop)(n0:Nat)(b0:A0)(b1:A1)(b2:A2)(b3:A3)(b4:A4)(b5:A5)(b6:A6)(b7:A7)(b8:A8)(b9:A9)(aI:gD)(aJ:gE)(aK:gF){p:Nat->A0->A1->A2->A3->A4->A5->A6->A7->A8->A9->gD->gE->gF->Prop}
  (round:∀n (a0:A0)(a1:A1)(a2:A2)(a3:A3)(a4:A4)(a5:A5)(a6:A6)(a7:A7)(a8:A8)(a9:A9)(ij:gD)(im:gE)(iq:gF),Me (L n0 b0 b1 b2 b3 b4 b5 b6 b7 b8 b9 aI aJ aK) (B n a0 a1 a2 a3 a4 a5 a6 a7 a8 a9 ij im iq)->1<=n+1/\I (n+1) a0 a1 a2 a3 a4 a5 a6 a7 a8 a9 ij im iq->p n a0 a1 a2 a3 a4 a5 a6 a7 a8 a9 ij im iq) (hI:1<=n0/\I n0 b0 b1 b2 b3 b4 b5 b6 b7 b8 b9 aI aJ aK:=by first|omega|(dsimp only;omega)|simp) (h0:Wk σ (S b0 b1 b2 b3 b4 b5 b6 b7 b8 b9 aI aJ aK):=by exact KG zAG) (kk:∀n (a0:A0)(a1:A1)(a2:A2)(a3:A3)(a4:A4)(a5:A5)(a6:A6)(a7:A7)(a8:A8)(a9:A9)(ij:gD)(im:gE)(iq:gF),Bx (p n a0 a1 a2 a3 a4 a5 a6 a7 a8 a9 ij im iq)->@WI P (S a0 a1 a2 a3 a4 a5 a6 a7 a8 a9 ij im iq) c (.nxt (fun σ'=>@Nx σ' (Q13 L S I (L n0 b0 b1 b2 b3 b4 b5 b6 b7 b8 b9 aI aJ aK) n)) k):=by(intro n_ aN a1_ a2_ a3_ a4_ a5_ a6_ a7_ a8_ a9_ a10_ a11_ a12_ z;simp;(repeat(with_reducible refine Go.Mo.sd ?_));exact z.h)):@Sy P σ c k:=by
 refine WO (ι:={s:Nat×A0×A1×A2×A3×A4×A5×A6×A7×A8×A9×gD×gE×gF//Me (L n0 b0 b1 b2 b3 b4 b5 b6 b7 b8 b9 aI aJ aK) (L s.1 s.2.1 s.2.2.1 s.2.2.2.1 s.2.2.2.2.1 s.2.2.2.2.2.1 s.2.2.2.2.2.2.1 s.2.2.2.2.2.2.2.1 s.2.2.2.2.2.2.2.2.1 s.2.2.2.2.2.2.2.2.2.1 s.2.2.2.2.2.2.2.2.2.2.1 s.2.2.2.2.2.2.2.2.2.2.2.1 s.2.2.2.2.2.2.2.2.2.2.2.2.1 s.2.2.2.2.2.2.2.2.2.2.2.2.2)/\(1<=s.1/\I s.1 s.2.1 s.2.2.1 s.2.2.2.1 s.2.2.2.2.1 s.2.2.2.2.2.1 s.2.2.2.2.2.2.1 s.2.2.2.2.2.2.2.1 s.2.2.2.2.2.2.2.2.1 s.2.2.2.2.2.2.2.2.2.1 s.2.2.2.2.2.2.2.2.2.2.1 s.2.2.2.2.2.2.2.2.2.2.2.1 s.2.2.2.2.2.2.2.2.2.2.2.2.1 s.2.2.2.2.2.2.2.2.2.2.2.2.2)}) (fun s=>S s.1.2.1 s.1.2.2.1 s.1.2.2.2.1 s.1.2.2.2.2.1 s.1.2.2.2.2.2.1 s.1.2.2.2.2.2.2.1 s.1.2.2.2.2.2.2.2.1 s.1.2.2.2.2.2.2.2.2.1 s.1.2.2.2.2.2.2.2.2.2.1 s.1.2.2.2.2.2.2.2.2.2.2.1 s.1.2.2.2.2.2.2.2.2.2.2.2.1 s.1.2.2.2.2.2.2.2.2.2.2.2.2.1 s.1.2.2.2.2.2.2.2.2.2.2.2.2.2) (fun s=>s.1.1) ⟨(n0,b0,b1,b2,b3,b4,b5,b6,b7,b8,b9,aI,aJ,aK),⟨rfl⟩,hI⟩ h0 ?_;rintro⟨⟨n1,a0,a1,a2,a3,a4,a5,a6,a7,a8,a9,ij,im,iq⟩,e,j⟩;obtain⟨n,rfl⟩:∃q,n1=q+1:=⟨n1-1,by have:=j.1;(try dsimp only at this);omega⟩;refine Ry (fun σ' hn=>?_) (kk n a0 a1 a2 a3 a4 a5 a6 a7 a8 a9 ij im iq ⟨round n a0 a1 a2 a3 a4 a5 a6 a7 a8 a9 ij im iq ⟨by have:=e.h;(try dsimp only at this);rw[this,hL]⟩ j⟩);obtain⟨c0,c1,c2,c3,c4,c5,c6,c7,c8,c9,c10,c11,c12,e2,j2,w2⟩:=hn;exact⟨⟨(n,c0,c1,c2,c3,c4,c5,c6,c7,c8,c9,c10,c11,c12),e2,j2⟩,Nat.lt_succ_self n,w2⟩
theorem jg{T:TypeId}(h:@EI P (σ.new d (.one (.sref d 0 0 (zG P σ (ZT P T) (P.cellsOf (ZT P T)) parts.toList 0).2.length)) [.lit (P.cellsOf (ZT P T)) (zG P σ (ZT P T) (P.cellsOf (ZT P T)) parts.toList 0).2]) A l k)(na:o.o.op= .buildSlice T n parts:=by exact rfl)(hg:o.o.guard=none:=by exact rfl)(hd:o.o.dst=some d:=by exact rfl)
  (h1:σ.fresh d=true/\Xl P T=true/\Qb P (ZT P T)=true/\0<P.cellsOf (ZT P T)/\parts.toList.length=n/\n*P.cellsOf (ZT P T)<=16777216:=by simp) (h2:(zG P σ (ZT P T) (P.cellsOf (ZT P T)) parts.toList 0).1:=by simp)
  (h3:Yf d (zG P σ (ZT P T) (P.cellsOf (ZT P T)) parts.toList 0).2.flatten=false:=by simp)
  :@SI P σ A o l k:=oL na hg hd h1 h2 h3 h
theorem kX{y:Operand}{t:TypeId}{ng:List (List D)}(h:@EI P ((σ.Z8 (l1++l2)).new d (.one (.sref d 0 0 (ng.length+news.length))) [.arr true size (ng++news)]) A l k)(na:o.o.op= .call ⟨.builtin .append,#[x,y],#[t,t]⟩:=by exact rfl)(hg:o.o.guard=none:=by exact rfl)(hd:o.o.dst=some d:=by exact rfl)(mP:A.bar o.o=true:=by exact rfl)
  (m0:size=P.cellsOf (ZT P t):=by simp) (h1:gOf (look P σ t x)=true/\gOf (look P σ t y)=true/\Xl P t=true/\Qb P (ZT P t)=true/\0<P.cellsOf (ZT P t):=by simp)
  (h2:(Vt σ (unc (look P σ t x)) size).1/\(Vt σ (unc (look P σ t x)) size).2=(ng,l1):=by simp) (h3:(Vk σ (unc (look P σ t y)) size).1/\(Vk σ (unc (look P σ t y)) size).2=(news,l2):=by simp)
  (h4:(l1++l2).Nodup/\(σ.Z8 (l1++l2)).fresh d=true:=by simp) (h5:(ng.length+news.length)*P.bytesOf (ZT P t)<=140737488355328/\ng.length+news.length<=9223372036854775807:=by(simp<;>omega))
  :@SI P σ A o l k:=pP na hg hd mP m0 h1 h2 h3 h4 h5 h
theorem N4{T:TypeId}{y:Operand}(h:@EI P ((σ.Z8 L).Z1 t j (.arr true size (rows.set i ds))) A l k)(na:o.o.op= .store T x y:=by exact rfl)(hg:o.o.guard=none:=by exact rfl)(hd:o.o.dst=none:=by exact rfl)(mP:A.bar o.o=true:=by exact rfl)
  (hx:unc (look P σ 0 x)= .one (.ptr t j i 0):=by simp) (ho:σ.ob t j= .arr true size rows:=by simp) (hi:i<rows.length:=by(simp;try omega)) (h1:qP P T=true/\gOf (look P σ 0 x)=true/\gOf (look P σ T y)=true/\(unc (look P σ T y)).flat=true:=by simp)
  (h2:Jz σ (unc (look P σ T y)).cells=some ds:=by simp) (h3:Qc σ (unc (look P σ T y)).cells:=by simp) (h4:XL (unc (look P σ T y)).cells=L:=by simp) (h5:L.Nodup/\(t,j)∉L/\(σ.Z8 L).yV (At.isT t)=false:=by simp) (h6:ds.length=P.cellsOf T/\P.cellsOf T=size:=by simp)
  :@SI P σ A o l k:=oQ na hg hd mP hx ho hi h1 h2 h3 h4 h5 h6 h
theorem wkS{σ:St}(ρ:Ren)(F:List (Nat×Nat))(mH:UJ σ' ρ ρ=true:=by exact rfl)(h:RV σ ρ F σ σ' 0:=by simp):Wk σ σ':=XN ρ F mH h
theorem drJ{id:Nat}{l:List Oper}{br:Oper->Bool}(bs:List Nat)(hm:P.follows .mixedOrders=true)(h:@EI P σ ⟨⟨l⟩,Nl bs⟩ ⟨l⟩ k)(hdr:Vm.N3 P ⟨l⟩ (fun i=>i) (Nl bs)=true:=by kernel_rfl)(mK:xB ⟨l⟩ (fun i=>i) σ=true:=by kernel_rfl):@DI P id σ ⟨⟨l⟩,br⟩ k:=pG bs hm hdr mK h
theorem rpS{g:Prop}(h:p)(kk:Bx p->g:=by(intro z;(repeat(with_reducible refine Go.Mo.sd ?_));exact z.h)):g:=kk ⟨h⟩
theorem zCI{g:Prop}(h:p)(kk:Bx p->g:=by(intro z;(repeat(with_reducible refine Z2 ?_));exact z.h)):g:=kk ⟨h⟩
theorem zCJ{g:Prop}(h:p)(kk:Bx p->g:=by(intro z;(repeat(with_reducible refine YH ?_));exact z.h)):g:=kk ⟨h⟩
theorem zCK{g:Prop}(h:p)(kk:Bx p->g:=by(intro z;(repeat(with_reducible refine Yu ?_));exact z.h)):g:=kk ⟨h⟩
theorem zCL{g:Prop}(h:p)(kk:Bx p->g:=by(intro z;(repeat(with_reducible refine Yc ?_));exact z.h)):g:=kk ⟨h⟩
theorem zCM{g:Prop}(h:p)(kk:Bx p->g:=by(intro z;(repeat(with_reducible refine Qk ?_));exact z.h)):g:=kk ⟨h⟩
theorem zCN{g:Prop}(h:p)(kk:Bx p->g:=by(intro z;(repeat(with_reducible refine Qy ?_));exact z.h)):g:=kk ⟨h⟩
theorem zCO{g:Prop}(h:p)(kk:Bx p->g:=by(intro z;(repeat(with_reducible refine QD ?_));exact z.h)):g:=kk ⟨h⟩
theorem zCP{g:Prop}(h:p)(kk:Bx p->g:=by(intro z;(repeat(with_reducible refine QR ?_));exact z.h)):g:=kk ⟨h⟩
theorem rpG{g:Prop}(h:p)(kk:Bx p->g:=by(intro z;(repeat(with_reducible refine Go.Mo.sdg ?_));exact z.h)):g:=kk ⟨h⟩
theorem xs(u:q)(h:q->p:=by(intro u;simp(maxDischargeDepth:=12) [u])):p:=h u
@[simp] abbrev rI (x : Int) : List D := [.int .i64 x]
@[simp] abbrev rB (b : Bool) : List D := [.bool b]
@[simp] abbrev rS (s : ByteArray) : List D := [.str s]
@[simp] abbrev rL {α : Type} (n : Nat) (f : α -> List D) (l : List α) : List D := [.sl n (l.map f)]
end Go.Vm
