/- An abstract machine Gi the model of Go, by value, and that it is sound: part Ve. No condition. -/
import Derived.Test.YtdffgedmahdehaaGreatVd
set_option linter.unusedVariables false
set_option linter.unusedSimpArgs false
namespace Go.Vm
open Go.RowKit
open Go.RowKit
theorem zAG{p:Prop}(h:p:=by(repeat' apply And.intro)<;>kernel_rfl):p:=h
theorem zAZ{p:Prop}(h:p:=by kernel_rfl):p:=h
variable{f:FuncId}{res rows args hP news:List (List D)}{P:Program}{o:OpI}{A:J5}{l:Kc}{d b t dj j n i size id u tf:Nat}{σ σ':St}{p q r1 r2 s:Prop}{iu ds r:List D}{h:Nat->Nat->Hd}{c cl:Call}{k:Fr}{B X' X S:Nat->Prop}{Q:Exit->Act->World->Prop}{want dp g qq:Bool}{T0 T:CS}{a:Act}{x0 x:Operand}{w w':World}{xc yc y:yI}{v:Value}{hf:Nat->Hd}{hd:Hd}
def pa(σ:St):V->Option Nat
 |.one (.d (.sl _ rows))=>some rows.length
 |.one (.sref t j _ len)=>(match σ.ob t j with|.arr _ _ _=>some len|_=>none)
 |.fix _ (.one (.sref t j _ len))=>(match σ.ob t j with|.arr _ _ _=>some len|_=>none)
 |_=>none
def TF(σ:St):Prop:=∀t n,pa σ (σ.get t)=some n->n<=9223372036854775807
theorem oS:∀{v:V}{val:Value}{n:Nat},pa σ v=some n->Qk T h σ.ob w v val->n<=maxLen
 |.one (.d (.sl s rows)),val,n,hn,hv=>by simp only[pa]at hn;cases hn;obtain⟨base,cap,_,h1,h2⟩:=tK (r:=(show Rd T w val (.sl s rows)from hv));omega
 |.one (.sref u j lo len),val,n,hn,hv=>by
  simp only[pa]at hn;split at hn
  ·rename_i q s rows ho;cases hn;have hh:=(show YR T h σ.ob w (.sref u j lo len) val from hv).2.1 _ _ _ ho
   obtain⟨_,_,_,base,cap,_,h1,h2,_⟩:=hh;omega
  ·cases hn
 |.fix u0 (.one (.sref u j lo len)),val,n,hn,hv=>by
  simp only[pa]at hn;split at hn
  ·rename_i q s rows ho;cases hn;have hh:=(show YR T h σ.ob w (.sref u j lo len) val from hv.2).2.1 _ _ _ ho
   obtain⟨_,_,_,base,cap,_,h1,h2,_⟩:=hh;omega
  ·cases hn
theorem v9(r:JV T0 B σ a w):TF σ:=by obtain⟨X,h,r⟩:=r;intro t n hn;exact oS hn (r.get t)
theorem wa{c:Code}{Q:Exit->St->Prop}(h:TF σ->AWP P c Q σ):AWP P c Q σ:=fun T0 B a w r=>h (v9 r) T0 B a w r
theorem mc{b:Bool}{x:yI}(ht:TF σ->b=true->@WI P σ x k)(hf:TF σ->b=false->@WI P σ y k):@CI P b σ x y k:=
 ⟨fun h=>wa fun hk=>Ul (ht hk h),fun h=>wa fun hk=>Ul (hf hk h)⟩
theorem LR{b c:Bool}{x:yI}(hc:c=b)(ht:TF σ->c=true->@WI P σ x k)(hf:TF σ->c=false->@WI P σ y k):@CI P b σ x y k:=by subst hc;exact mc ht hf
theorem okL{c:yI}(h:TF σ->@Ph P σ c k):@Ph P σ c k:=wa h
theorem okD(h:TF σ->@DI P id σ A k):@DI P id σ A k:=wa h
def Hv:Op->Bool
 |.call _=>true
 |_=>false
theorem DW(ig:Hv o.o.op=false)(hg:o.o.guard=some (j,want))(hd:o.o.dst=some d)
  (fh:(A.ops[j]?).bind (·.dst)=some dj) (fr:jf want (σ.get dj)=some g) (hD:dj<σ.length)
  (ht:g=true->((evV P σ o.o.op o.o.type).1/\gOf (evV P σ o.o.op o.o.type).2=true/\(unc (evV P σ o.o.op o.o.type).2).flat=true)/\@EI P (σ.put d (.cnd true (unc (evV P σ o.o.op o.o.type).2))) A l k)
  (hf:g=false->@EI P (σ.put d (.cnd false .any)) A l k):@SI P σ A o l k:=by
 have step:∀v,(g=true->(evV P σ o.o.op o.o.type).1/\gOf (evV P σ o.o.op o.o.type).2=true/\v=unc (evV P σ o.o.op o.o.type).2/\v.flat=true)->XU P A.ops o.o σ (σ.put d (.cnd g v)):=by
  intro v hv;unfold XU;simp only[hg];refine⟨dj,d,g,v,fh,hD,hd,fr,fun aW=>?_,rfl⟩;obtain⟨h1,h2,h3,h4⟩:=hv aW;have base:∃v0,Yj P σ o.o.op o.o.type v0/\gOf v0=true/\v=unc v0/\v.flat=true:=⟨_,tQ h1,h2,h3,h4⟩
  unfold GI;split
  ·rename_i c hc;rw[hc]at ig;cases ig
  ·exact base
 cases g with
 |true=>obtain⟨⟨h1,h2,h3⟩,h4⟩:=ht rfl;exact⟨_,.inl (step _ fun _=>⟨h1,h2,rfl,h3⟩),Qu h4⟩
 |false=>exact⟨_,.inl (step .any (fun h=>by cases h)),Qu (hf rfl)⟩
theorem nJ(hg:o.o.guard=some (j,want))(hd:o.o.dst=some d)
  (fh:(A.ops[j]?).bind (·.dst)=some dj) (fr:jf want (σ.get dj)=some g) (hD:dj<σ.length) (hgf:g=false)
  (h:@EI P (σ.put d (.cnd false .any)) A l k):@SI P σ A o l k:=by
 subst hgf;refine⟨_,.inl ?_,Qu h⟩;unfold XU;simp only[hg];exact⟨dj,d,false,.any,fh,hD,hd,fr,(fun h=>by cases h),rfl⟩
def nth{α:Type}[Inhabited α](l:List α)(i:Nat):α:=l.getD i default
theorem ZB{α:Type}[Inhabited α]{f:α->List D}{l:List α}(h:i<l.length):rowAt (l.map f) i=f (nth l i):=by simp[rowAt,nth,h]
theorem Ki{α:Type}{f:α->List D}{l:List α}{x:α}(h:r=f x):(l.map f).set i r=(l.set i x).map f:=by rw[h,List.map_set]
abbrev W(x:Int):Int:=IntKind.i64.wrap x
theorem YQ{x:Int}(h1: -9223372036854775808<=x)(h2:x<=9223372036854775807):IntKind.i64.wrap x=x:=by
 have hr:IntKind.i64.min<=x/\x<=IntKind.i64.max:=by
  constructor
  ·show-9223372036854775808<=x;exact h1
  ·show x<=9223372036854775807;exact h2
 simp only[IntKind.wrap];first
  |(simp[IntKind.bits,IntKind.signed];omega)
  |omega
theorem kT(i:Nat):((i:Int)-1).toNat=i-1:=zAC
attribute [simp] St.fresh yG V.ref V.IU XB Po
open Go.RowKit
attribute [simp] St.np wh te At.lE mf
open Go.RowKit
variable{fn:Func}{K:Act->World->Prop}{L F l1 l2:List (Nat×Nat)}{parts:Array (Nat×Operand)}{gO:List (List Value)}{vs:List Value}{e:Exit}
def At.isP(t:Nat):At->Bool
 |.tref u _ _ _ _=>u==t
 |.ptr u _ _ _=>u==t
 |_=>false
theorem Rel.rU(r:Rel T0 B σ a w X h){rows:List (List At)}(ho:σ.ob t 0= .lit size rows)(eH:KT σ rows=some news)(gF:Jc σ rows)
  (hL:XC rows.flatten=L) (gm:L.Nodup) (hnt:(t,0)∉L) (hp:(σ.Z7 L).yB (At.isP t)=false):JV T0 B ((σ.Z7 L).Z0 t 0 (.arr true size news)) a w:=by
 have hZ:σ.ob t 0≠ .none:=zA9;have h0:=r.obj t 0;rw[ho]at h0;obtain⟨e,xs,eZ,hz,ir⟩:=h0;obtain⟨hm1,hm2,hm3⟩:=qE eH;have iv:=Nb r ir hm1 (xU gF) (by rw[hL];exact gm);rw[hL]at iv;have r1:=r.Z7 L;have gi:=r.z4 L;have eO:∀b',(h t 0).u b'->zI σ h L b'->False:=by rintro b' ef ⟨p,aG,ij,hup⟩;obtain⟨q1,q2⟩:=r.inj t 0 p.1 p.2 b' hZ ij ef hup;exact hnt (by rw[q1,q2];exact aG)
 have dB:(σ.Z7 L).ob t 0= .lit size rows:=by rw[St.KO,if_neg hnt,ho]
 have eQ:(σ.Z7 L).ob t 0≠ .none:=by rw[dB];simp
 have fH:∀u i,¬(u=t/\i=0)->((σ.Z7 L).Z0 t 0 (.arr true size news)).ob u i=(σ.Z7 L).ob u i:=by intro u i ij;rw[St.Xh _ t 0 _ u i eQ,if_neg ij]
 have fD:((σ.Z7 L).Z0 t 0 (.arr true size news)).ob t 0= .arr true size news:=by rw[St.Xh _ t 0 _ t 0 eQ];simp
 generalize hσ:(σ.Z7 L).Z0 t 0 (.arr true size news)=σ2 at*;generalize hσ1:σ.Z7 L=σ1 at*;have hlen:σ2.length=σ1.length:=by rw[<-hσ,St.XR]
 have fA:∀u,σ2.get u=σ1.get u:=fun u=>by rw[<-hσ,St.Xz]
 let hJ:Hd:=⟨(h t 0).v,fun k=>(xs[k]?).getD undef,fun b=>(h t 0).u b\/zI σ h L b⟩
 let h':Nat->Nat->Hd:=fun u i=>if u=t/\i=0 then hJ else h u i
 have dF:∀u i,¬(u=t/\i=0)->h' u i=h u i:=fun u i ij=>if_neg ij;have hht:h' t 0=hJ:=by simp[h']
 have hv:∀u i,(h' u i).v=(h u i).v:=by
  intro u i;by_cases hc:u=t/\i=0
  ·obtain⟨rfl,rfl⟩:=hc;rw[hht]
  ·rw[dF u i hc]
 have at_:∀{x:At}{v:Value},At.isP t x=false->YR (Tof T0 X) h σ1.ob w x v->YR (Tof T0 X) h' σ2.ob w x v:=by
  intro x v hpx rx;cases x with
  |any=>exact rx
  |d x=>exact rx
  |nil s=>exact rx
  |sref u i lo len=>
   refine⟨rx.1,fun q s rws hq=>?_,fun s rws hq=>?_⟩
   ·by_cases hc:u=t/\i=0
    ·obtain⟨rfl,rfl⟩:=hc;rw[fD]at hq;cases hq;rw[hv,<-hm2];exact rx.2.2 _ _ dB
    ·rw[fH u i hc]at hq;rw[hv];exact rx.2.1 _ _ _ hq
   ·by_cases hc:u=t/\i=0
    ·obtain⟨rfl,rfl⟩:=hc;rw[fD]at hq;cases hq
    ·rw[fH u i hc]at hq;rw[hv];exact rx.2.2 _ _ hq
  |ptr u i k c=>
   refine⟨rx.1,fun q s rws hq=>?_⟩;have hc:¬(u=t/\i=0):=fun hc=>by simp[At.isP,hc.1]at hpx
   rw[fH u i hc]at hq;rw[hv];exact rx.2 _ _ _ hq
  |bptr u c=>
   refine⟨rx.1,fun cells hq=>?_⟩;by_cases hc:u=t
   ·subst hc;rw[fD]at hq;cases hq
   ·rw[fH u 0 (fun hh=>hc hh.1)]at hq;rw[hv];exact rx.2 _ hq
  |fn f u=>
   refine⟨rx.1,fun cells hq=>?_⟩;by_cases hc:u=t
   ·subst hc;rw[fD]at hq;cases hq
   ·rw[fH u 0 (fun hh=>hc hh.1)]at hq;rw[hv];exact rx.2 _ hq
  |tref u i k c o=>
   refine⟨rx.1,fun s rws hq=>?_⟩;have hc:¬(u=t/\i=0):=fun hc=>by simp[At.isP,hc.1]at hpx
   rw[fH u i hc]at hq;rw[dF u i hc];exact rx.2 _ _ hq
  |rptr rr c=>exact rx
 have fI:∀u i,σ2.ob u i≠ .none->σ1.ob u i≠ .none:=by
  intro u i hn;by_cases hc:u=t/\i=0
  ·obtain⟨rfl,rfl⟩:=hc;exact eQ
  ·rw[fH u i hc]at hn;exact hn
 refine⟨X,h',by rw[r1.size,hlen],r1.defers,r1.hB,r1.hX,r1.hT,fun u hu=>?_,fun u i=>?_,fun u i b hn hb=>?_,fun u i b hn hb=>?_,fun u i u' i' b hn gh hb hR=>?_⟩
 ·rw[hlen]at hu;rw[fA];exact Qk.map at_ (St.IQ hp u) (r1.slot u hu)
 ·by_cases hc:u=t/\i=0
  ·obtain⟨rfl,rfl⟩:=hc;rw[fD,hht];refine⟨e,xs,by rw[<-hm2];exact eZ,hm3 size hz,iv.mono (fun b hb=>⟨.inr hb,fun er=>eO b (r.ub u 0 b hZ er) hb⟩),fun k x d hx _ _=>by simp[hJ,hx]⟩
  ·rw[fH u i hc,dF u i hc];exact JZ.map at_ (fun b k v hb hc=>⟨hc,hb⟩) (fun ho b=>r1.ub u i b ho) (fun _ _ _=>rfl) (St.Em hp u i) (r1.obj u i)
 ·by_cases hc:u=t/\i=0
  ·obtain⟨rfl,rfl⟩:=hc;rw[hht]at hb⊢;exact .inl (r.ub u 0 b hZ hb)
  ·rw[dF u i hc]at hb⊢;exact r1.ub u i b (fI u i hn) hb
 ·by_cases hc:u=t/\i=0
  ·obtain⟨rfl,rfl⟩:=hc;rw[hht]at hb;rcases hb with hb|hb
   ·exact r.own u 0 b hZ hb
   ·have:=gi b hb;exact⟨this.1,this.2.1,this.2.2.1⟩
  ·rw[dF u i hc]at hb;exact r1.own u i b (fI u i hn) hb
 ·have key:∀u i b,¬(u=t/\i=0)->σ1.ob u i≠ .none->(h u i).u b->(h' t 0).u b->False:=by
   intro u i b hc hn hb hR;rw[hht]at hR;rcases hR with hR|hR
   ·exact hc (r1.inj u i t 0 b hn eQ hb hR)
   ·exact(gi b hR).2.2.2 u i hn hb
  by_cases hc:u=t/\i=0
  ·by_cases ga:u'=t/\i'=0
   ·exact⟨hc.1.trans ga.1.symm,hc.2.trans ga.2.symm⟩
   ·obtain⟨rfl,rfl⟩:=hc;rw[dF u' i' ga]at hR;exact(key u' i' b ga (fI u' i' gh) hR hb).elim
  ·rw[dF u i hc]at hb;by_cases ga:u'=t/\i'=0
   ·obtain⟨rfl,rfl⟩:=ga;exact(key u i b hc (fI u i hn) hb hR).elim
   ·rw[dF u' i' ga]at hR;exact r1.inj u i u' i' b (fI u i hn) (fI u' i' gh) hb hR
theorem sI{T:TypeId}(ig:o.o.op= .buildSlice T n parts)(hg:o.o.guard=none)(hd:o.o.dst=some d)(gP:A.bar o.o=true)
  (h1:(σ.fresh d=true/\d<σ.length)/\XS P T=true/\QE P (ZS P T)=true/\0<P.cellsOf (ZS P T)/\parts.toList.length=n/\n*P.cellsOf (ZS P T)<=16777216) (h2:(zJ P σ (ZS P T) (P.cellsOf (ZS P T)) parts.toList 0).1)
  (h3:Yb d (zJ P σ (ZS P T) (P.cellsOf (ZS P T)) parts.toList 0).2.flatten=false)
  (h4:KT (σ.new d (.one (.sref d 0 0 (zJ P σ (ZS P T) (P.cellsOf (ZS P T)) parts.toList 0).2.length)) [.lit (P.cellsOf (ZS P T)) (zJ P σ (ZS P T) (P.cellsOf (ZS P T)) parts.toList 0).2]) (zJ P σ (ZS P T) (P.cellsOf (ZS P T)) parts.toList 0).2=some news/\
   Jc (σ.new d (.one (.sref d 0 0 (zJ P σ (ZS P T) (P.cellsOf (ZS P T)) parts.toList 0).2.length)) [.lit (P.cellsOf (ZS P T)) (zJ P σ (ZS P T) (P.cellsOf (ZS P T)) parts.toList 0).2]) (zJ P σ (ZS P T) (P.cellsOf (ZS P T)) parts.toList 0).2)
  (h5:XC (zJ P σ (ZS P T) (P.cellsOf (ZS P T)) parts.toList 0).2.flatten=L/\L.Nodup/\(d,0)∉L)
  (h6:((σ.new d (.one (.sref d 0 0 (zJ P σ (ZS P T) (P.cellsOf (ZS P T)) parts.toList 0).2.length)) [.lit (P.cellsOf (ZS P T)) (zJ P σ (ZS P T) (P.cellsOf (ZS P T)) parts.toList 0).2]).Z7 L).yB (At.isP d)=false)
  (h:@EI P (((σ.new d (.one (.sref d 0 0 (zJ P σ (ZS P T) (P.cellsOf (ZS P T)) parts.toList 0).2.length)) [.lit (P.cellsOf (ZS P T)) (zJ P σ (ZS P T) (P.cellsOf (ZS P T)) parts.toList 0).2]).Z7 L).Z0 d 0 (.arr true (P.cellsOf (ZS P T)) news)) A l k):@SI P σ A o l k:=by
 refine⟨_,.inr ⟨gP,?_,fun d' hJ hc=>QO (Ql (Vy (fun e=>hJ zCO) hc)),fun hh=>by simp[SC,ig]at hh,fun hh=>by first|(simp[VF,ig]at hh;done)|(unfold VF at hh;rw[ig]at hh;split at hh<;>simp_all),fun hh _=>by first|(simp[KF,ig]at hh;done)|(unfold KF at hh;rw[ig]at hh;split at hh<;>simp_all)⟩,Qu h⟩;rintro T0 B a w K Q' ⟨X,hh,r⟩ hK;have hw:Region.wanted o.o (yielded A.ops a.tmps)=true:=zBs
 rw[if_pos hw];refine NL r ig hd h1.1.1 h1.2.1 h1.2.2.1 h1.2.2.2.1 h1.2.2.2.2.1 h1.2.2.2.2.2 (DJ h2) h3 (fun a' w' hr hkp=>hK a' w' ?_ hkp);obtain⟨X',dF,r'⟩:=hr;exact Rel.rU r' (by rw[St.JN,if_pos ⟨rfl,h1.1.2⟩];rfl) h4.1 h4.2 h5.1 h5.2.1 h5.2.2 h6
attribute [simp] At.isP
theorem YN.own(hs:YN P f args res):QX P f true args res:=by
 refine⟨hs.1,fun T w gb hT ha=>(hs.2 T w gb hT ha).mono ?_⟩;rintro e w' ⟨vs,gO,he,hb,hf,hl,⟨hlen,Sk,h1,h2,h3⟩⟩;refine⟨vs,gO,fun b=>(w.heap.size<=b/\b<w'.heap.size)/\∀(k:Nat)(c:Value)(d:D),gO.flatten[k]?=some c->res.flatten[k]?=some d->d.scalar=false->blk c≠some b,he,hb,fun b hb=>hb.1,hf,j9 hl (fun k x d hx hd=>?_),fun _=>⟨fun i c d b hc hd g9 hbl=>?_,fun i j c c' d d' b hc hd ga hJ g9 hsc' hbl hbl'=>?_⟩⟩
 ·simp only[jB,if_true];have ho:=h1 k x d hx hd
  cases ho with
  |int k n=>exact .int _ _
  |bool b=>exact .bool _
  |str s=>exact .str _
  |unk v h=>exact .unk _ h
  |sl v size rows S e' xs Sk' ho hz hR hl' hk hs' hJ=>
   refine⟨e',xs,ho,hz,YJ.xm hl' (fun i y dd hy eR=>(hk i y dd hy eR).rd (fun b k' hb=>.inr ⟨h2 k b (hs' i b hb).1,fun k2 c2 d2 bF cw hsc2 hbl2=>?_⟩))⟩;have ed:=h1 k2 c2 d2 bF cw
   have hin:Sk k2 b:=by
    cases ed with
    |int k n=>cases hsc2
    |bool b=>cases hsc2
    |str s=>cases hsc2
    |unk=>cases hsc2
    |sl v2 size2 rows2 S2 e2 xs2 Sk2 ed hz2 gQ hl2 aD hH hd2'=>exact gQ b hbl2
   have:=h3 k k2 b (hs' i b hb).1 hin;subst this;rw[hx]at bF;cases bF;exact(hs' i b hb).2 hbl2
 ·have ed:=h1 i c d hc hd;have hin:Sk i b:=by
   cases ed with
   |int k n=>cases g9
   |bool b=>cases g9
   |str s=>cases g9
   |unk=>cases g9
   |sl v2 size2 rows2 S2 e2 xs2 Sk2 ed hz2 gQ hl2 aD hH hd2'=>exact gQ b hbl
  have:=h2 i b hin;exact⟨this.1,this.2,fun hy=>hy.2 i c d hc hd g9 hbl⟩
 ·have hin:∀(i:Nat)(c:Value)(d:D),gO.flatten[i]?=some c->res.flatten[i]?=some d->d.scalar=false->blk c=some b->Sk i b:=by
   intro i c d hc hd g9 hbl;have ed:=h1 i c d hc hd
   cases ed with
   |int k n=>cases g9
   |bool b=>cases g9
   |str s=>cases g9
   |unk=>cases g9
   |sl v2 size2 rows2 S2 e2 xs2 Sk2 ed hz2 gQ hl2 aD hH hd2'=>exact gQ b hbl
  exact h3 i j b (hin i c d hc hd g9 hbl) (hin j c' d' ga hJ hsc' hbl')
open Go.RowKit
def AM(σ:St)(F:List (Nat×Nat)):At->At
 |.sref t j lo len=>if inF F t j then(match σ.ob t j with|.arr _ s rows=>.d (.sl s (cut rows lo len))|_=>.any)else .sref t j lo len
 |.ptr t j i c=>if inF F t j then .any else .ptr t j i c
 |.tref t j i c o=>if inF F t j then .any else .tref t j i c o
 |x=>x
def mG(σ:St)(F:List (Nat×Nat)):V->V
 |.one x=>.one (AM σ F x)
 |.agg xs=>.agg (xs.map (AM σ F))
 |.fix u (.one x)=>.fix u (.one (AM σ F x))
 |.fix u (.agg xs)=>.fix u (.agg (xs.map (AM σ F)))
 |_=>.any
def nF(σ:St)(F:List (Nat×Nat))(t j:Nat)(o:Ob):Ob:=
 if inF F t j then .none else match o with|.box cs=>.box (cs.map (AM σ F))|.lit _ _=>.none|o=>o
def uu(σ:St)(F:List (Nat×Nat))(t:Nat):List Ob->Nat->List Ob
 |[],_=>[]
 |o::os,j=>nF σ F t j o::uu σ F t os (j+1)
def HF(σ:St)(F:List (Nat×Nat)):List Ent->Nat->List Ent
 |[],_=>[]
 |e::es,t=>(mG σ F e.1,uu σ F t e.2 0)::HF σ F es (t+1)
def St.frz(σ:St)(F:List (Nat×Nat)):St:=HF σ F σ 0
theorem B9{F:List (Nat×Nat)}:∀{σ0:St}{es:List Ent}{t d:Nat},XY es d=true->XY (HF σ0 F es t) d=true
 |σ0,[],t,d,h=>by simp[XY]at h
 |σ0,e::es,t,0,h=>by
  rw[jY]at h⊢;rcases h with h|⟨x,h⟩
  ·left;simp only[List.getElem?_cons_zero,Option.some.injEq]at h;subst h;rfl
  ·right;simp only[List.getElem?_cons_zero,Option.some.injEq]at h;subst h;exact⟨x,rfl⟩
 |σ0,e::es,t,d+1,h=>by
  have:XY es d=true:=by rw[jY]at h⊢;simpa using h
  have:=B9 (F:=F) (σ0:=σ0) (es:=es) (t:=t+1) this;rw[jY]at this⊢;simpa[HF]using this
theorem mP(gP:A.bar o.o=true)(hw:Wk σ σ')(hc:∀d,XY σ d=true->XY σ' d=true)(cu:SC o.o=false)(hna:VF o.o=false)(dn:KF P o.o=false\/La A.bar o.o=false)(h:@SI P σ' A o l k):@SI P σ A o l k:=by
 obtain⟨σ'',hs,hr⟩:=h;refine⟨σ'',.inr ⟨gP,fun T0 B a w K Q fj hK=>MS hs T0 B a w K Q (hw T0 B a w fj) hK,fun d hd gM=>?_,fun hh=>(by rw[cu]at hh;cases hh),fun hh=>(by rw[hna]at hh;cases hh),fun hh ho=>(by rcases dn with dn|dn<;>(first|(rw[dn]at hh;cases hh)|(rw[dn]at ho;cases ho)))⟩,hr⟩;have h1:=hc d gM
 rcases hs with hs|hs
 ·exact Dx hs hd h1
 ·exact hs.2.2.1 d hd h1
theorem Tx(F:List (Nat×Nat))(gP:A.bar o.o=true)(hw:NO σ [] F σ (σ.frz F) 0)(h:@SI P (σ.frz F) A o l k)(cu:SC o.o=false:=by exact rfl)(hna:VF o.o=false:=by exact rfl)(dn:KF P o.o=false\/La A.bar o.o=false:=by first|exact .inl rfl|exact .inr rfl):@SI P σ A o l k:=
 mP gP (Yk [] F rfl hw) (fun _ hd=>B9 hd) cu hna dn h
attribute [simp] AM mG nF uu HF St.frz
theorem mN{rows:List (List At)}(ho:σ.ob t 0= .lit size rows)(eH:KT σ rows=some news)(gF:Jc σ rows)(hL:XC rows.flatten=L)(gm:L.Nodup/\(t,0)∉L)
  (hp:(σ.Z7 L).yB (At.isP t)=false) (h:Wk ((σ.Z7 L).Z0 t 0 (.arr true size news)) σ'):Wk σ σ':=
 fun T0 B a w ⟨_,_,r⟩=>h T0 B a w (Rel.rU r ho eH gF hL gm.1 gm.2 hp)
theorem mg(P:Program)(q2:Bool)(aW:σ.get d= .one (.sref u j 0 n))(ho:σ.ob u j= .arr qq size rows)(hle:n<=rows.length)(hqq:q2=true->qq=true)(gj:(σ.Z0 u j .none).fresh d=true)
  (h:Wk ((σ.Z0 u j .none).new d (.one (.sref d 0 0 (rows.take n).length)) [.arr q2 size (rows.take n)]) σ'):Wk σ σ':=by
 have e:(rows.take n).length=n:=zBe;rw[e]at h;rintro T0 B a w ⟨X,hh,r⟩;refine h T0 B a w ?_;have hv : Yj P σ (Oper.mk (some d) (.move (.tmp d)) 0 "" #[] none).op 0 (.one (.sref u j 0 n)) := by
  show V.one (.sref u j 0 n)=look P σ 0 (.tmp d);rw[<-aW];rfl
 have key : ∀ (K : Act -> World -> Prop) (Q : Exit -> Act -> World -> Prop), (∀ a' w', JV T0 B ((σ.Z0 u j .none).new d (.one (.sref d 0 0 n)) [.arr q2 size (rows.take n)]) a' w' -> XL B w w' -> K a' w') -> (Oper.mk (some d) (.move (.tmp d)) 0 "" #[] none).wp P a w K Q := by
  intro K Q hK;cases qq with
  |false=>
   cases q2 with
   |false=>exact rN r rfl hv ho hle gj hK
   |true=>cases hqq rfl
  |true=>
   cases q2 with
   |false=>exact sX r rfl hv ho hle gj hK
   |true=>exact sh r rfl hv ho hle gj hK
 have k2:=key (fun a' w'=>w'=w->JV T0 B ((σ.Z0 u j .none).new d (.one (.sref d 0 0 n)) [.arr q2 size (rows.take n)]) a' w') (fun _ _ _=>True) (fun a' w' hr _ _=>hr);unfold Oper.wp at k2;simp only[execOp,Sem.run_pure,Oper.upon_value]at k2;have k3:=k2 trivial;have e2:a.put (some d) (a.eval (.tmp d))=a:=by
  show {a with tmps:=a.tmps.setIfInBounds d (a.tmps.getD d undef)}=a;have:a.tmps.setIfInBounds d (a.tmps.getD d undef)=a.tmps:=by
   apply Array.ext
   ·simp
   ·intro i h1 h2;rw[Array.getElem_setIfInBounds];split
    ·rename_i hi;subst hi;simp[Array.getD,h2]
    ·rfl
  rw[this]
 rw[e2]at k3;exact k3
open Go.RowKit
variable{fx:List Ob}
abbrev ptr(b:Nat):Value:=.pointer (some ⟨b,0,none⟩)
abbrev B2(T:CS)(w:World)(gb:List Value)(args:List (List D)):Prop:=YJ (fun v row=>∃cs,ye v cs/\YJ (Rd T w) cs row) gb args
def qZ(n:Nat)(pre:List (List D))(v:Value)(cells:List At)(fx:List Ob)(post:List (List D)):St:=
 Lx pre++(.fix v (.one (.bptr pre.length 0)),.box cells::fx)::(Lx post++List.replicate (n-(pre.length+1+post.length)) (V.any,[]))
theorem sj(post:List (List D))(m t:Nat):∃x,(match(Lx post++List.replicate m ((V.any,[]):Ent))[t]? with|some e=>e|none=>(V.any,[]))=(x,[])/\(x= .any\/∃r,post[t]?=some r/\x=vOf (r.map .d)):=by
 rcases Nat.lt_or_ge t post.length with h|h
 ·rw[List.getElem?_append_left zCX,NM,List.getElem?_eq_getElem h];exact⟨_,rfl,.inr ⟨_,rfl,rfl⟩⟩
 ·rw[List.getElem?_append_right zCX,List.getElem?_replicate];refine⟨.any,?_,.inl rfl⟩;split
  ·rename_i e he;split at he
   ·cases he;rfl
   ·cases he
  ·rfl
theorem rY(n:Nat)(pre:List (List D))(v:Value)(cells:List At)(fx:List Ob)(post:List (List D))(t:Nat):
  (t=pre.length/\(qZ n pre v cells fx post)[t]?=some (.fix v (.one (.bptr pre.length 0)),.box cells::fx))\/
  (t≠pre.length/\(∀j,(qZ n pre v cells fx post).ob t j= .none)/\((qZ n pre v cells fx post).get t= .any\/∃r,(qZ n pre v cells fx post).get t=vOf (r.map .d)/\((t<pre.length/\pre[t]?=some r)\/(pre.length<t/\post[t-pre.length-1]?=some r)))):=by
 rcases Nat.lt_trichotomy t pre.length with h|h|h
 ·refine .inr ⟨zAC,?_⟩;have:(qZ n pre v cells fx post)[t]?=some (vOf (pre[t].map .d),[]):=by unfold qZ;rw[List.getElem?_append_left zCX,NM,List.getElem?_eq_getElem h];rfl
  refine⟨fun j=>by unfold St.ob;rw[this];simp[Yr],.inr ⟨pre[t],by unfold St.get;rw[this],.inl ⟨h,List.getElem?_eq_getElem h⟩⟩⟩
 ·refine .inl ⟨h,?_⟩;unfold qZ;rw[List.getElem?_append_right (by rw[JF];omega),JF,h,Nat.sub_self];rfl
 ·refine .inr ⟨zAC,?_⟩;have e1:(qZ n pre v cells fx post)[t]?=(Lx post++List.replicate (n-(pre.length+1+post.length)) ((V.any,[]):Ent))[t-pre.length-1]?:=by unfold qZ;rw[List.getElem?_append_right (by rw[JF];omega),JF,show t-pre.length=(t-pre.length-1)+1 by omega,List.getElem?_cons_succ];rfl
  obtain⟨x,hx,hr⟩:=sj post (n-(pre.length+1+post.length)) (t-pre.length-1);rw[<-e1]at hx;constructor
  ·intro j;unfold St.ob;cases hq:(qZ n pre v cells fx post)[t]? with
   |none=>rfl
   |some e=>rw[hq]at hx;simp only at hx;rw[hx];simp[Yr]
  ·have hg:(qZ n pre v cells fx post).get t=x:=by
    unfold St.get;cases hq:(qZ n pre v cells fx post)[t]? with
    |none=>rw[hq]at hx;simp only at hx;injection hx
    |some e=>rw[hq]at hx;simp only at hx;rw[hx]
   rcases hr with rfl|⟨r,hr,rfl⟩
   ·exact .inl hg
   ·exact .inr ⟨r,hg,.inr ⟨h,hr⟩⟩
theorem B3{pre post:List (List D)}{cells:List At}{fg eJ:List Value}(hd:Nat->Hd)
  (hT:∀k i,T k i->k<w.heap.size/\k≠b/\¬S k) (hS:∀k,S k->k<w.heap.size/\k≠b) (hb:b<w.heap.size) (h0:hd 0=Hd.of (ptr b))
  (ek:∀(h:Nat->Nat->Hd)(ob:Nat->Nat->Ob),(∀j,h pre.length j=hd j)->(∀j,ob pre.length j=Yr (.box cells::fx) j)->JZ (Tof T (fun _=>False)) h ob w (hd 0) (.box cells))
  (fH:∀(h:Nat->Nat->Hd)(ob:Nat->Nat->Ob)(j:Nat),JZ (Tof T (fun _=>False)) h ob w (hd (j+1)) (Yr fx j))
  (fE:∀j k,Yr fx j≠ .none->blk (hd (j+1)).v=some k->(hd (j+1)).u k) (iv:∀j k,Yr fx j≠ .none->(hd (j+1)).u k->S k)
  (az:∀i j k,Yr fx i≠ .none->Yr fx j≠ .none->(hd (i+1)).u k->(hd (j+1)).u k->i=j) (ha1:B2 T w fg pre) (ha2:B2 T w eJ post):
  JV T (fun k=>k<w.heap.size/\k≠b/\¬S k) (qZ n pre (ptr b) cells fx post) {tmps:=(fg++ptr b::eJ).toArray++Array.replicate (n-(fg++ptr b::eJ).toArray.size) undef,defers:=[]} w:=by
 have hl1:=ha1.length;have hl2:=ha2.length;have dC:=rY n pre (ptr b) cells fx post;have gy:∀j,(qZ n pre (ptr b) cells fx post).ob pre.length j=Yr (.box cells::fx) j:=by
  intro j;rcases dC pre.length with⟨_,h⟩|⟨h,_⟩
  ·unfold St.ob;rw[h]
  ·exact absurd rfl h
 have hne0:∀t j,(qZ n pre (ptr b) cells fx post).ob t j≠ .none->t=pre.length:=by
  intro t j hn;rcases dC t with⟨h,_⟩|⟨_,h,_⟩
  ·exact h
  ·exact absurd (h j) hn
 have aI:∀b k v,T b k->w.cell? ⟨b,k,none⟩=some v->w.cell? ⟨b,k,none⟩=some v/\Tof T (fun _=>False) b k:=fun b k v hb hc=>⟨hc,.inl hb⟩;have hu0:∀k,(hd 0).u k↔k=b:=fun k=>by rw[h0];simp[Hd.of,blk,eq_comm]
 have fC:∀j,Yr (.box cells::fx) j≠ .none->(j=0\/∃i,j=i+1/\Yr fx i≠ .none):=by
  intro j hn;cases j with
  |zero=>exact .inl rfl
  |succ j=>exact .inr ⟨j,rfl,by rw[VK]at hn;exact hn⟩
 have hS':∀j k,Yr (.box cells::fx) j≠ .none->(hd j).u k->k=b\/S k:=by
  intro j k hn hu;rcases fC j hn with rfl|⟨i,rfl,hi⟩
  ·exact .inl ((hu0 k).1 hu)
  ·exact .inr (iv i k hi hu)
 have argrd:∀{gb:List Value}{args:List (List D)}{t:Nat}{r:List D},B2 T w gb args->args[t]?=some r->∃v,gb[t]?=some v/\Qk (Tof T (fun _=>False)) (fun t j=>if t=pre.length then hd j else Hd.of undef) (qZ n pre (ptr b) cells fx post).ob w (vOf (r.map .d)) v:=by intro gb args t r ha hr;obtain⟨v,hv,cs,hf,ir⟩:=ha.get' t r hr;exact⟨v,hv,(Ei hf (TV (ir.imp fun _ _=>Rd.mono aI))).up⟩
 refine⟨fun _=>False,fun t j=>if t=pre.length then hd j else Hd.of undef,?_⟩;refine⟨?_,rfl,(fun k hk=>hk.1),(fun b hb=>hb.elim),(fun k i hk=>hT k i hk),fun t ht=>?_,fun t j=>?_,fun t j k hn hk=>?_,fun t j k hn hk=>?_,fun t j t' j' k hn gh hk ff=>?_⟩
 ·simp[qZ,JF,hl1,hl2];omega
 ·rcases dC t with⟨rfl,h⟩|⟨ij,_,h⟩
  ·have dM:((fg++ptr b::eJ).toArray++Array.replicate (n-(fg++ptr b::eJ).toArray.size) undef).getD pre.length undef=ptr b:=by rw[Array.getD_eq_getD_getElem?,Array.getElem?_append_left zAk];simp[<-hl1]
   rw[dM];unfold St.get;rw[h];exact⟨rfl,rfl,fun iy _=>⟨b,by simp[h0,Hd.of],rfl⟩⟩
  ·rcases h with h|⟨r,h,hr⟩
   ·rw[h];trivial
   ·rw[h];rcases hr with⟨hD,hr⟩|⟨hD,hr⟩
    ·obtain⟨v,hv,fj⟩:=argrd ha1 hr;have dM:((fg++ptr b::eJ).toArray++Array.replicate (n-(fg++ptr b::eJ).toArray.size) undef).getD t undef=v:=by rw[Array.getD_eq_getD_getElem?,Array.getElem?_append_left zAk];simp[List.getElem?_append_left (show t<fg.length by omega),hv]
     simp only[dM];exact fj
    ·obtain⟨v,hv,fj⟩:=argrd ha2 hr;have hlt2:=(List.getElem?_eq_some_iff.1 hv).1
     have dM:((fg++ptr b::eJ).toArray++Array.replicate (n-(fg++ptr b::eJ).toArray.size) undef).getD t undef=v:=by rw[Array.getD_eq_getD_getElem?,Array.getElem?_append_left zAk];simp only[List.getElem?_toArray];rw[List.getElem?_append_right zAC,show t-fg.length=(t-pre.length-1)+1 by omega,List.getElem?_cons_succ,hv];rfl
     simp only[dM];exact fj
 ·by_cases hn:(qZ n pre (ptr b) cells fx post).ob t j= .none
  ·rw[hn];trivial
  ·obtain rfl:=hne0 t j hn;rw[gy];simp only[if_true];cases j with
   |zero=>exact ek _ _ (fun j=>zAE) gy
   |succ j=>rw[VK];exact fH _ _ j
 ·obtain rfl:=hne0 t j hn;rw[gy]at hn;simp only[if_true]at hk⊢;rcases fC j hn with rfl|⟨i,rfl,hi⟩
  ·rw[h0]at hk⊢;exact hk
  ·exact fE i k hi hk
 ·obtain rfl:=hne0 t j hn;rw[gy]at hn;simp only[if_true]at hk;rcases hS' j k hn hk with rfl|hs
  ·exact⟨fun hh=>hh.2.1 rfl,fun hh=>hh,hb⟩
  ·exact⟨fun hh=>hh.2.2 hs,fun hh=>hh,(hS k hs).1⟩
 ·obtain rfl:=hne0 t j hn;obtain rfl:=hne0 t' j' gh;rw[gy]at hn gh;simp only[if_true]at hk ff;refine⟨rfl,?_⟩;rcases fC j hn with rfl|⟨i,rfl,hi⟩
  ·rcases fC j' gh with rfl|⟨i',rfl,fP⟩
   ·rfl
   ·exact absurd ((hu0 k).1 hk) (hS k (iv i' k fP ff)).2
  ·rcases fC j' gh with rfl|⟨i',rfl,fP⟩
   ·exact absurd ((hu0 k).1 ff) (hS k (iv i k hi hk)).2
   ·rw[az i i' k hi fP hk ff]
open Go.RowKit
variable{bK:Array Value}
def nB(dp:Bool)(T:CS)(w:World)(b:Nat)(iu:List D)(res:List (List D))(e:Ending)(w':World):Prop:=
 ∃(vs:List Value)(gO:List (List Value))(Y:Nat->Prop),e= .returned (N8 vs)/\XL (fun k=>k<w.heap.size/\k≠b) w w'/\(∀k,Y k->w.heap.size<=k/\k<w'.heap.size)/\
  (∃cs e',w'.heap[b]?=some (.cells cs e' (0,0))/\YJ (Rd (Tof T Y) w') cs.toList iu)/\YJ ye vs gO/\YJ (fun(cs:List Value)(row:List D)=>cs.length=row.length) gO res/\
  (if dp then KC w' gO.flatten res.flatten (fun k=>w.heap.size<=k/\k<w'.heap.size/\¬Y k)else YJ (fun cs row=>YJ (Rd (Tof T Y) w') cs row) gO res)
def z8(P:Program)(f:FuncId)(dp:Bool)(row:List D)(args:List (List D))(iu:List D)(res:List (List D)):Prop:=
 Rz P f=true/\∀(T:CS)(w:World)(b:Nat)(gb:List Value),(∀k i,T k i->k<w.heap.size/\k≠b)->b<w.heap.size->(∃cs e,w.heap[b]?=some (.cells cs e (0,0))/\YJ (Rd T w) cs.toList row)->
  B2 T w gb args->Calls P f (ptr b::gb).toArray w (nB dp T w b iu res)
def mB(P:Program)(fn:Func)(v:Value)(dp:Bool)(iu:List D)(res:List (List D))(e:Exit)(σ:St):Prop:=
 (e= .ret\/e= .normal)/\(∃fx,σ.head?=some (.fix v (.one (.bptr 0 0)),.box (iu.map .d)::fx))/\∃fJ,OZ P σ fn.results.toList fJ/\
  (if dp then KT σ fJ=some res/\Jc σ fJ/\(XC fJ.flatten).Nodup else VX σ fJ=some res)
def H0(P:Program)(f:FuncId)(args:List (List D))(iu:List D):Prop:=
 Rz P f=true/\∀(T:CS)(w:World)(gb:List Value),(∀k i,T k i->k<w.heap.size)->B2 T w gb args->
  Calls P f gb.toArray w fun e w'=>∃b Y,e= .returned (ptr b)/\Below w.heap.size w w'/\w.heap.size<=b/\b<w'.heap.size/\(∀k,Y k->w.heap.size<=k/\k<w'.heap.size/\k≠b)/\∃cs e',w'.heap[b]?=some (.cells cs e' (0,0))/\YJ (Rd (Tof T Y) w') cs.toList iu
def nr(P:Program)(fn:Func)(iu:List D)(e:Exit)(σ:St):Prop:=
 (e= .ret\/e= .normal)/\∃u,OZ P σ fn.results.toList [[.bptr u 0]]/\σ.ob u 0= .box (iu.map .d)
theorem NN{T:CS}{ob:Nat->Nat->Ob}:∀{row:List D}{cs:List Value},YJ (YR T h ob w) (row.map .d) cs->YJ (Rd T w) cs row
 |[],_,ir=>by cases ir;exact .nil
 |_::_,_,ir=>by cases ir with|cons h1 h2=>exact .cons h1 (NN h2)
theorem BI{c:Code}(hf:P.funcs[f]?=some fn)(hb:fn.body=some c)(gF:Rz P f=true){row:List D}
  (hw:∀v,AWP P c (mB P fn v dp iu res) (qZ fn.ntmps [] v (row.map .d) [] args)):z8 P f dp row args iu res:=by
 refine⟨gF,fun T w b gb hT hR ⟨cs0,e0,hh0,hal0⟩ iw=>calls_of_wp hf hb ?_⟩;have bZ:=B3 (w:=w) (T:=T) (S:=fun _=>False) (n:=fn.ntmps) (b:=b) (pre:=[]) (post:=args) (cells:=row.map .d) (fx:=[]) (fg:=[]) (eJ:=gb) (fun _=>Hd.of (ptr b))
  (fun k i hk=>⟨(hT k i hk).1,(hT k i hk).2,fun hh=>hh⟩) (fun k hk=>hk.elim) hR rfl
  (fun h ob _ _=>⟨b,cs0,e0,rfl,hh0,TV (hal0.imp fun _ _=>Rd.mono (fun b k v hb hc=>⟨hc,.inl hb⟩))⟩) (fun h ob j=>by simp[Yr,JZ]) (fun j k hn=>by simp[Yr]at hn) (fun j k hn=>by simp[Yr]at hn) (fun i j k hn=>by simp[Yr]at hn) .nil iw
 simp only[List.nil_append]at bZ;refine wp_mono (hw (ptr b) T _ _ w bZ) ?_;rintro e a' w' ⟨σ',⟨he,⟨fx,hhd⟩,fJ,ft,iz⟩,⟨X,h,r⟩,hU⟩;obtain⟨vs,gO,gA,gW,ir⟩:=UH r ft;have gp:0<σ'.length:=by
  cases σ' with
  |nil=>simp at hhd
  |cons e σ=>simp
 have hg0:σ'.get 0= .fix (ptr b) (.one (.bptr 0 0)):=by
  cases σ' with
  |nil=>simp at hhd
  |cons e σ=>simp at hhd;simp[St.get,hhd]
 have g8:σ'.ob 0 0= .box (iu.map .d):=by
  cases σ' with
  |nil=>simp at hhd
  |cons e σ=>simp at hhd;simp[St.ob,hhd,Yr]
 have cm:=r.slot 0 gp;rw[hg0]at cm;obtain⟨hveq,eY⟩:=cm;obtain⟨b1,fB,gn⟩:=eY.2 _ g8;rw[hveq]at gn;have er:b1=b:=zBx;subst er;have fC:=r.obj 0 0;rw[g8]at fC;obtain⟨b2,bK,e',gQ,dF,dh⟩:=fC;rw[fB]at gQ;have er:b2=b1:=zA2;subst er;have hkeep':XL (fun k=>k<w.heap.size/\k≠b2) w w':=⟨hU.os,hU.tape,hU.output,hU.size,fun k hk=>hU.block k ⟨hk.1,hk.2,fun hh=>hh⟩⟩;have hnX:∀k,X k->k=b2->False:=by
  rintro k hx rfl;have fE:=r.ub 0 0 k zCG zCb
  exact(r.own 0 0 k zCG fE).2.1 hx
 have hXn:∀k,X k->w.heap.size<=k/\k<w'.heap.size:=by
  intro k hk;have h1:=r.hX k hk
  refine⟨?_,h1.2⟩;rcases Nat.lt_or_ge k w.heap.size with hD|dR
  ·exact absurd ⟨hD,fun hh=>hnX k hk hh,fun hh=>hh⟩ h1.1
  ·exact dR
 have goal:a'.defers=[]/\∃v,(results fn a'.tmps).run P w'= .ok v w'/\nB dp T w b2 iu res (.returned v) w':=by
  refine⟨r.defers,_,gA,?_⟩;cases dp with
  |true=>
   simp only[if_true]at iz;obtain⟨eH,ee,gm⟩:=iz;refine⟨vs,gO,X,rfl,hkeep',hXn,⟨bK,e',dF,NN dh⟩,gW,?_,?_⟩
   ·clear gm ee ft gA gW hw;induction ir generalizing res with
    |nil=>simp[KT]at eH;subst eH;exact .nil
    |cons h1 _ ih=>
     simp only[KT]at eH;split at eH
     ·rename_i row rs gN e8;cases eH;exact .cons (by rw[<-h1.length];exact(jI gN).1) (ih e8)
     ·cases eH
   ·simp only[if_true];refine(Nb r (q9 ir) (qE eH).1 (xU ee) gm).mono (fun k hk=>?_);have hg:=r.z4 _ k hk
    refine⟨?_,hg.2.2.1,hg.2.1⟩;rcases Nat.lt_or_ge k w.heap.size with hD|dR
    ·refine absurd ⟨hD,?_,fun hh=>hh⟩ hg.1;rintro rfl;obtain⟨p,hp,ij,hu⟩:=hk;have fE:=r.ub 0 0 k zCG zCb
     obtain⟨e1,e2⟩:=r.inj p.1 p.2 0 0 k ij zCG hu fE;obtain⟨i,lo,len,hx⟩:=MW hp;have hm:=ML (xU ee) i _ hx
     rw[e1,e2]at hm;obtain⟨d,hd,hmd⟩:=(YJ.get (R:=fun x d=>mvD σ' x=some d) (YJ.xm (jI (qE eH).1).1 (fun i a b h1 h2=>(jI (qE eH).1).2 i a b h1 h2)) i _ hx);rw[e1,e2]at hmd;simp[mvD,g8]at hmd
    ·exact dR
  |false=>
   simp only[Bool.false_eq_true,if_false]at iz;refine⟨vs,gO,fun k=>w.heap.size<=k/\k<w'.heap.size,rfl,hkeep',fun k hk=>hk,⟨bK,e',dF,(NN dh).imp fun _ _=>Rd.mono (fun k i v hk hc=>⟨hc,?_⟩)⟩,gW,?_,?_⟩
   ·rcases hk with hk|hk
    ·exact .inl hk
    ·exact .inr (hXn k hk)
   ·clear ft gA gW hw;induction ir generalizing res with
    |nil=>simp[VX]at iz;subst iz;exact .nil
    |cons h1 _ ih=>
     simp only[VX]at iz;split at iz
     ·rename_i row rs gN e8;cases iz;exact .cons ((r.rowOf false gN h1 (fun hh=>by cases hh)).length) (ih e8)
     ·cases iz
   ·simp only[Bool.false_eq_true,if_false];refine OJ r (fun k i hk=>?_) iz ir;rcases hk with hk|⟨t,j,q,size,rows,ho,hk⟩
    ·rcases hk with hk|hk
     ·exact .inl hk
     ·exact .inr (hXn k hk)
    ·have ij:σ'.ob t j≠ .none:=zA9;have iv:=r.own t j k ij hk;refine .inr ⟨?_,iv.2.2⟩;rcases Nat.lt_or_ge k w.heap.size with hD|dR
     ·refine absurd ⟨hD,?_,fun hh=>hh⟩ iv.1;rintro rfl;have fE:=r.ub 0 0 k zCG zCb
      obtain⟨e1,e2⟩:=r.inj t j 0 0 k ij zCG hk fE;rw[e1,e2,g8]at ho;cases ho
     ·exact dR
 rcases he with rfl|rfl
 ·exact goal
 ·exact goal
theorem BT{c:Code}(hf:P.funcs[f]?=some fn)(hb:fn.body=some c)(gF:Rz P f=true)
  (hw:AWP P c (nr P fn iu) (WZ fn.ntmps args)):H0 P f args iu:=by
 refine⟨gF,fun T w gb hT iw=>calls_of_wp hf hb ?_⟩;refine wp_mono (hw T (fun b=>b<w.heap.size) _ w (DH hT iw)) ?_;rintro e a' w' ⟨σ',⟨he,u,ft,hobx⟩,⟨X,h,r⟩,hU⟩;have fu:Below w.heap.size w w':=⟨hU.os,hU.tape,hU.output,hU.size,hU.block⟩
 obtain⟨vs,gO,gA,gW,ir⟩:=UH r ft;cases ir with
 |cons h1 ir=>
  cases ir;cases h1 with
  |@cons _ c0 _ _ hx h1=>
   cases h1;cases gW with
   |@cons v0 _ _ _ hu hn=>
    cases hn;have ef:v0=c0:=by
     rcases hu with⟨c',he',rfl,_⟩|⟨hn,_⟩
     ·cases he';rfl
     ·simp at hn
    subst ef;obtain⟨b,fB,hv⟩:=hx.2 _ hobx;have fC:=r.obj u 0
    rw[hobx]at fC;obtain⟨b2,bK,e',gQ,dF,dh⟩:=fC;rw[fB]at gQ;have er:b2=b:=zA2
    subst er;have ij:σ'.ob u 0≠ .none:=by rw[hobx];simp
    have fE:=r.ub u 0 b2 ij zCb;have iv:=r.own u 0 b2 ij fE;have goal:a'.defers=[]/\∃v,(results fn a'.tmps).run P w'= .ok v w'/\∃b Y,Ending.returned v= .returned (ptr b)/\Below w.heap.size w w'/\w.heap.size<=b/\b<w'.heap.size/\(∀k,Y k->w.heap.size<=k/\k<w'.heap.size/\k≠b)/\∃cs e',w'.heap[b]?=some (.cells cs e' (0,0))/\YJ (Rd (Tof T Y) w') cs.toList iu:=by
     refine⟨r.defers,_,gA,b2,X,by rw[hv];rfl,fu,by have:=iv.1;omega,iv.2.2,fun k hk=>?_,bK,e',dF,NN dh⟩;have ff:=r.hX k hk
     refine⟨by have:=ff.1;omega,ff.2,?_⟩;rintro rfl;exact iv.2.1 hk
    rcases he with rfl|rfl
    ·exact goal
    ·exact goal
open Go.RowKit
variable{ts:List TypeId}{qs:List Bool}{rv:List ResultVar}{ops:Array Oper}
theorem sM{ob:Nat->Nat->Ob}(hr:JZ T h ob w hd (.arr true size rows))(hf:∀r∈rows,∀x∈r,x.scalar=true):JZ T h ob w hd (.arr false size rows):=by
 obtain⟨e,xs,ho,hz,⟨hl,Sk,hk,_,_⟩,_⟩:=hr;refine⟨e,xs,ho,hz,YJ.xm hl (fun k x d hx hd=>?_)⟩;obtain⟨r0,dY,hdr⟩:=List.mem_flatten.1 (List.mem_of_getElem? hd);have g9:=hf r0 dY d hdr
 have:=hk k x d hx hd;cases this with
 |int k n=>exact .int _ _
 |bool b=>exact .bool _
 |str s=>exact .str _
 |unk v h=>exact .unk _ h
 |sl=>cases g9
theorem Rel.nW(r:Rel T0 B σ a w X h)(hf:σ.fresh d=true)(M:Nat->Prop)(hM:∀b,M b->¬B b/\¬X b/\b<w.heap.size/\∀t j,σ.ob t j≠ .none->¬(h t j).u b)(qs:List Bool)
  (gW:YJ ye vs gO) (hlen:YJ (fun(cs:List Value)(row:List D)=>cs.length=row.length) gO res) (iv:KC w gO.flatten res.flatten M) (hq:xJ qs res.flatten):JV T0 B (σ.new d (WM d res) (YZ qs res.flatten)) (a.put (some d) (N8 vs)) w:=by
 have hD:=St.zC hf;obtain⟨bq,Sk,k1,k2,k3,k4⟩:=Ak iv;have hZ:∀j,(σ.new d (WM d res) (YZ qs res.flatten)).ob d j=Yr (YZ qs res.flatten) j:=fun j=>by rw[St.JN];simp[hD]
 have htop:=iv.top (T:=Tof T0 X);have eV:YJ (fun cs row=>YJ (V5 (Tof T0 X) w) cs row) gO res:=j9 hlen (fun k x d hx hd=>by
  obtain⟨c,hc,ht⟩:=htop.get' k d hd;rw[hx]at hc;cases hc;exact ht)
 refine⟨X,fun t j=>if t=d then bq j else h t j,?_⟩;refine r.uv hf M (Nat.le_refl _) (fun _ _ _=>rfl) (fun b hb=>⟨(hM b hb).1,(hM b hb).2.1,fun t j _ hn=>(hM b hb).2.2.2 t j hn⟩) (fun b hb=>hb) (fun b hb=>.inl hb) (WM d res) (N8 vs) (YZ qs res.flatten) bq ?_ (fun j=>?_) (fun j b ij hb=>?_) (fun j b ij hb=>?_) (fun j j' b ij gf hb hR=>?_)
 ·exact DR (h:=fun t j=>if t=d then bq j else h t j) (ob:=(σ.new d (WM d res) (YZ qs res.flatten)).ob) (t:=d) gW eV (fun i size rows hi=>by
   obtain⟨q,ea,_⟩:=(Y2 qs res.flatten i hq).1 size rows hi;exact⟨q,by rw[hZ];exact ea⟩) (fun i c hi=>by simp only[if_true];exact k1 i c hi)
 ·by_cases ij:Yr (YZ qs res.flatten) j= .none
  ·rw[ij];trivial
  ·obtain⟨size,rows,hj⟩:=(Y2 qs res.flatten j hq).2 ij;obtain⟨q,ea,hqf⟩:=(Y2 qs res.flatten j hq).1 size rows hj;rw[ea];have:=(k4 j size rows hj).2.2 (Tof T0 X) (fun t j=>if t=d then bq j else h t j) (σ.new d (WM d res) (YZ qs res.flatten)).ob
   cases q with
   |true=>exact this
   |false=>exact sM this (hqf rfl)
 ·obtain⟨size,rows,hj⟩:=(Y2 qs res.flatten j hq).2 ij;exact(k4 j size rows hj).2.1 b hb
 ·obtain⟨size,rows,hj⟩:=(Y2 qs res.flatten j hq).2 ij;have:=k2 j b ((k4 j size rows hj).1 b hb)
  exact⟨.inr this,(hM b this).2.1,(hM b this).2.2.1⟩
 ·obtain⟨size,rows,hj⟩:=(Y2 qs res.flatten j hq).2 ij;obtain⟨gB,hO,dL⟩:=(Y2 qs res.flatten j' hq).2 gf;exact k3 j j' b ((k4 j size rows hj).1 b hb) ((k4 j' gB hO dL).1 b hR)
theorem Rel.se(r:Rel T0 B σ a w X h){cells:List At}(ho:σ.ob t 0= .box cells)(hv:(h t 0).v=ptr b)(g7:w.heap.size<=w'.heap.size)(hw:∀k,k<w.heap.size->k≠b->w'.heap[k]?=w.heap[k]?)
  (hX:∀b,X b->X' b) (bE:∀b,X' b->X b\/(w.heap.size<=b/\b<w'.heap.size)) (cX:∃cs e,w'.heap[b]?=some (.cells cs e (0,0))/\YJ (Rd (Tof T0 X') w') cs.toList iu):Rel T0 B (σ.Z0 t 0 (.box (iu.map .d))) a w' X' h:=by
 have hZ:σ.ob t 0≠ .none:=zA9;have gL:blk (h t 0).v=some b:=by rw[hv];rfl
 have fE:=r.ub t 0 b hZ gL;have hbB:=r.own t 0 b hZ fE;have hT:∀k i v,Tof T0 X k i->w.cell? ⟨k,i,none⟩=some v->w'.cell? ⟨k,i,none⟩=some v/\Tof T0 X' k i:=by
  intro k i v hk hc;refine⟨?_,hk.imp id (hX k)⟩;have ij:k≠b:=by
   rintro rfl;rcases hk with hk|hk
   ·exact hbB.1 (r.hT _ _ hk)
   ·exact hbB.2.1 hk
  rw[World.cell?_of_block (hw k (r.Tlt hk) ij)];exact hc
 have fH:∀u i,¬(u=t/\i=0)->(σ.Z0 t 0 (.box (iu.map .d))).ob u i=σ.ob u i:=by intro u i ij;rw[St.Xh σ t 0 _ u i hZ,if_neg ij]
 have fD:(σ.Z0 t 0 (.box (iu.map .d))).ob t 0= .box (iu.map .d):=by rw[St.Xh σ t 0 _ t 0 hZ];simp
 have hcp:∀u i,Cpt h h σ.ob (σ.Z0 t 0 (.box (iu.map .d))).ob u i:=by
  intro u i;by_cases hu:u=t/\i=0
  ·obtain⟨rfl,rfl⟩:=hu;refine⟨fun q size rows gG=>?_,fun size rows gG=>?_,fun iy gG=>⟨rfl,cells,ho⟩⟩
   ·rw[fD]at gG;cases gG
   ·rw[fD]at gG;cases gG
  ·exact Cpt.same rfl (fH u i hu)
 have at_:∀{x:At}{v:Value},(fun _=>false:At->Bool) x=false->YR (Tof T0 X) h σ.ob w x v->YR (Tof T0 X') h (σ.Z0 t 0 (.box (iu.map .d))).ob w' x v:=fun _ rx=>YR.pT hT hcp rx;have fI:∀u i,(σ.Z0 t 0 (.box (iu.map .d))).ob u i≠ .none->σ.ob u i≠ .none:=by
  intro u i hn;by_cases hu:u=t/\i=0
  ·obtain⟨rfl,rfl⟩:=hu;exact hZ
  ·rw[fH u i hu]at hn;exact hn
 refine⟨by rw[r.size,St.XR],r.defers,fun b hb=>Nat.lt_of_lt_of_le (r.hB b hb) g7,fun k hk=>?_,r.hT,fun u hu=>?_,fun u i=>?_,fun u i k hn=>r.ub u i k (fI u i hn),fun u i k hn hk=>?_,fun u i u' i' k hn gh=>r.inj u i u' i' k (fI u i hn) (fI u' i' gh)⟩
 ·rcases bE k hk with hk|hk
  ·have:=r.hX k hk;exact⟨this.1,zAC⟩
  ·exact⟨fun er=>by have:=r.hB k er;omega,hk.2⟩
 ·rw[St.XR]at hu;rw[St.Xz];exact Qk.map at_ (qW _) (r.slot u hu)
 ·by_cases hu:u=t/\i=0
  ·obtain⟨rfl,rfl⟩:=hu;rw[fD];obtain⟨cs,e,hh,ir⟩:=cX;exact⟨b,cs,e,hv,hh,TV ir⟩
  ·rw[fH u i hu];exact JZ.map at_ hT (fun ho b=>r.ub u i b ho) (fun hn k hk=>hw k (r.own u i k hn hk).2.2 (fun e=>by
    rw[e]at hk;obtain⟨e1,e2⟩:=r.inj u i t 0 b hn hZ hk fE;exact hu ⟨e1,e2⟩)) (TP _) (r.obj u i)
 ·have:=r.own u i k (fI u i hn) hk;refine⟨this.1,fun hx=>?_,zAC⟩;rcases bE k hx with hx|hx
  ·exact this.2.1 hx
  ·omega
def uP(dp:Bool)(σ:St)(d:Nat)(res:List (List D))(qs:List Bool):St:=match dp with|true=>σ.new d (WM d res) (YZ qs res.flatten)|false=>σ.put d (qG res)
theorem G6(r:Rel T0 B σ a w X h){o:Oper}{xs:List Operand}{t0:TypeId}{row:List D}(qs:List Bool)(ig:o.op= .call cl)(hc:cl.callee= .value (.func f))(hd:o.dst=some d)
  (ha:cl.args.toList=x0::xs) (hg:gOf (look P σ t0 x0)=true) (hx:unc (look P σ t0 x0)= .one (.bptr t 0)) (ho:σ.ob t 0= .box (row.map .d)) (iw:Qb P σ xs ts hP) (gH:Yh P σ xs ts=true) (hs:z8 P f dp row hP iu res)
  (gj:dp=true->(σ.Z0 t 0 (.box (iu.map .d))).fresh d=true/\xJ qs res.flatten)
  (hK:∀a' w',JV T0 B (uP dp (σ.Z0 t 0 (.box (iu.map .d))) d res qs) a' w'->XL B w w'->K a' w'):o.wp P a w K Q:=by
 have hZ:σ.ob t 0≠ .none:=zA9;have har:=r.arg (P:=P) t0 x0 hx hg;obtain⟨b,fB,hv⟩:=har.2 _ ho;have fC:=r.obj t 0;rw[ho]at fC;obtain⟨b2,cs,e,gQ,hh,ir⟩:=fC;rw[fB]at gQ;have er:b2=b:=zA2;subst er;have gL:blk (h t 0).v=some b2:=zCb;have fE:=r.ub t 0 b2 hZ gL;have iv:=r.own t 0 b2 hZ fE;have e6:=r.Qb true iw (fun _=>gH);simp only[if_true]at e6;unfold Oper.wp;rw[T8 ig hc hs.1,Oper.upon_enter];rw[show(cl.args.toList.map a.eval).toArray=(ptr b2::xs.map a.eval).toArray by rw[ha];simp[hv]];have hT:∀k i,Tof T0 X k i->k<w.heap.size/\k≠b2:=by
  intro k i hk;refine⟨r.Tlt hk,?_⟩;rintro rfl;rcases hk with hk|hk
  ·exact iv.1 (r.hT _ _ hk)
  ·exact iv.2.1 hk
 refine(hs.2 (Tof T0 X) w b2 _ hT iv.2.2 ⟨cs,e,hh,NN ir⟩ e6).mono ?_;rintro e' w' ⟨vs,gO,Y,rfl,hU,hY,⟨bK,e2,dF,dh⟩,gW,hlen,ft⟩;rw[hd];have aI:∀{v:Value}{x:D},Rd (Tof (Tof T0 X) Y) w' v x->Rd (Tof T0 (fun k=>X k\/Y k)) w' v x:=fun hr=>hr.mono (fun k i v hk hc=>⟨hc,by
  rcases hk with(hk|hk)|hk
  ·exact .inl hk
  ·exact .inr (.inl hk)
  ·exact .inr (.inr hk)⟩)
 have r1:=r.se (w':=w') (X':=fun k=>X k\/Y k) (iu:=iu) ho fB hU.size (fun k hk ij=>hU.block k ⟨hk,ij⟩) (fun k hk=>.inl hk) (fun k hk=>hk.imp id (hY k)) ⟨bK,e2,dF,dh.imp fun _ _=>aI⟩;have hBk:XL B w w':=⟨hU.os,hU.tape,hU.output,hU.size,fun k hk=>hU.block k ⟨r.hB k hk,fun e=>iv.1 (e▸hk)⟩⟩;cases dp with
 |false=>simp only[Bool.false_eq_true,if_false]at ft;exact hK _ _ ⟨_,_,r1.put d _ _ (AH gW (Gw (fun _ _ _ _ _=>aI) ft))⟩ hBk
 |true=>
  simp only[if_true]at ft;obtain⟨hfr1,hq⟩:=gj rfl;refine hK _ _ (r1.nW hfr1 (fun k=>w.heap.size<=k/\k<w'.heap.size/\¬Y k) (fun k hk=>⟨fun hb=>by have:=r.hB k hb;omega,?_,hk.2.1,fun u j hn hu=>?_⟩) qs gW hlen ft hq) hBk
  ·rintro(hx|hy)
   ·have:=(r.hX k hx).2;omega
   ·exact hk.2.2 hy
  ·have gh:σ.ob u j≠ .none:=by
    by_cases hc:u=t/\j=0
    ·obtain⟨rfl,rfl⟩:=hc;exact hZ
    ·rw[St.Xh σ t 0 _ u j hZ,if_neg hc]at hn;exact hn
   have:=(r.own u j k gh hu).2.2;omega
theorem vU(r:Rel T0 B σ a w X h){o:Oper}(ig:o.op= .call cl)(hc:cl.callee= .value (.func f))(hd:o.dst=some d)(gj:σ.fresh d=true)
  (iw:Qb P σ cl.args.toList cl.argTypes.toList hP) (gH:Yh P σ cl.args.toList cl.argTypes.toList=true) (hs:H0 P f hP iu)
  (hK:∀a' w',JV T0 B (σ.new d (.one (.bptr d 0)) [.box (iu.map .d)]) a' w'->XL B w w'->K a' w'):o.wp P a w K Q:=by
 have hD:=St.zC gj;have e6:=r.Qb true iw (fun _=>gH);simp only[if_true]at e6;unfold Oper.wp;rw[T8 ig hc hs.1,Oper.upon_enter];refine(hs.2 (Tof T0 X) w _ (fun k i hk=>r.Tlt hk) e6).mono ?_;rintro e' w' ⟨b,Y,rfl,fu,fB,gQ,hY,bK,e2,dF,dh⟩;rw[hd];have aI:∀{v:Value}{x:D},Rd (Tof (Tof T0 X) Y) w' v x->Rd (Tof T0 (fun k=>X k\/Y k)) w' v x:=fun hr=>hr.mono (fun k i v hk hc=>⟨hc,by
  rcases hk with(hk|hk)|hk
  ·exact .inl hk
  ·exact .inr (.inl hk)
  ·exact .inr (.inr hk)⟩)
 have hZ:(σ.new d (.one (.bptr d 0)) [.box (iu.map .d)]).ob d 0= .box (iu.map .d):=zBQ;refine hK _ _ ⟨fun k=>X k\/Y k,fun t j=>if t=d then Hd.of (ptr b)else h t j,?_⟩ (XL.HV fu r.hB);refine r.new gj (Below.grownBy fu) (fun k hk=>.inl hk) (fun k hk=>hk.imp id (fun hy=>⟨(hY k hy).1,(hY k hy).2.1⟩)) _ _ _ (fun _=>Hd.of (ptr b)) ⟨rfl,fun cells _=>⟨b,by simp[Hd.of],rfl⟩⟩ (fun j=>?_) (fun j k _ hk=>hk) (fun j k _ hk=>?_) (fun i j k hi hj _ _=>?_)
 ·cases j with
  |zero=>exact⟨b,bK,e2,rfl,dF,TV (dh.imp fun _ _=>aI)⟩
  |succ j=>simp[Yr,JZ]
 ·simp[Hd.of,blk]at hk;subst hk;refine⟨fB,?_,gQ⟩;rintro(hx|hy)
  ·have:=(r.hX _ hx).2;omega
  ·exact(hY _ hy).2.2 rfl
 ·have hz:∀j,Yr [Ob.box (iu.map .d)] j≠ .none->j=0:=by
   intro j hj;cases j with
   |zero=>rfl
   |succ j=>simp[Yr]at hj
  rw[hz i hi,hz j hj]
section
theorem CT{d':Nat}(ij:d≠d')(gM:XY σ d=true):XY (uP dp σ d' res qs) d=true:=by
 cases dp with
 |false=>exact Hm ij gM
 |true=>exact Vy ij gM
attribute [simp] uP
theorem KN{c:Code}(hf:P.funcs[f]?=some fn)(hb:fn.body=some c)(gF:Rz P f=true){row:List D}
  (hw:∀v,@WI P (qZ fn.ntmps [] v (row.map .d) [] args) ⟨c⟩ (.fin (mB P fn v dp iu res))):z8 P f dp row args iu res:=BI hf hb gF (fun v=>Ul (hw v))
theorem xH(hf:fn.results=rv.toArray)(h:(Jm P σ rv).1/\σ.head?=some (.fix v (.one (.bptr 0 0)),.box (iu.map .d)::(σ.head?.map (fun e=>e.2.tail)).getD [])/\
  (if dp then KT σ (Jm P σ rv).2=some res/\Jc σ (Jm P σ rv).2/\(XC (Jm P σ rv).2.flatten).Nodup else VX σ (Jm P σ rv).2=some res)):mB P fn v dp iu res .ret σ:=
 ⟨.inl rfl,⟨_,h.2.1⟩,_,by rw[hf];exact Pn h.1,h.2.2⟩
theorem sw{c:Code}(hf:P.funcs[f]?=some fn)(hb:fn.body=some c)(gF:Rz P f=true)
  (hw:@WI P (WZ fn.ntmps args) ⟨c⟩ (.fin (nr P fn iu))):H0 P f args iu:=BT hf hb gF (Ul hw)
theorem lB(u:Nat)(hf:fn.results=rv.toArray)(h:(Jm P σ rv).1/\(Jm P σ rv).2=[[.bptr u 0]]/\σ.ob u 0= .box (iu.map .d)):nr P fn iu .ret σ:=
 ⟨.inl rfl,u,by rw[hf,<-h.2.1];exact Pn h.1,h.2.2⟩
theorem u7{o:Oper}{xs:List Operand}{t0:TypeId}{row:List D}(qs:List Bool)(ig:o.op= .call cl)(hc:cl.callee= .value (.func f))(cM:o.guard=none)(hd:o.dst=some d)
  (ha:cl.args.toList=x0::xs) (hs:z8 P f dp row hP iu res) (hg:gOf (look P σ t0 x0)=true) (hx:unc (look P σ t0 x0)= .one (.bptr t 0)) (ho:σ.ob t 0= .box (row.map .d))
  (iw:Qb P σ xs ts hP) (gH:Yh P σ xs ts=true) (gj:dp=true->(σ.Z0 t 0 (.box (iu.map .d))).fresh d=true/\xJ qs res.flatten):mI P ops o σ (uP dp (σ.Z0 t 0 (.box (iu.map .d))) d res qs):=by
 have hm:∀z∈x0::xs,z∈o.op.operands.toList:=fun z hz=>by rw[ig];exact zw (by rw[ha];exact hz)
 refine⟨d,t,row.map .d,iu.map .d,cond dp (WM d res) (qG res),cond dp (some (YZ qs res.flatten)) none,hd,ho,⟨x0,xs,⟨f,cl.argTypes,?_⟩,t0,hx⟩,fun u=>⟨Tl _,Tl _⟩,fun u hu=>?_,fun hn=>?_,?_,fun σ2 hl cU hZ hfr2=>?_⟩
 ·rw[ig];obtain⟨c1,c2,c3⟩:=cl;simp only at hc ha⊢;rw[hc,<-ha]
 ·cases dp with
  |true=>have hu:=hu.resolve_left zAE;exact⟨Dn hu res,fun l hl=>by cases hl;exact yn u qs _⟩
  |false=>exact⟨AO u res,fun l hl=>by cases hl⟩
 ·cases dp with
  |true=>exact(gj rfl).1
  |false=>exact absurd rfl hn
 ·cases dp<;>rfl
 ·have gV:Sub P o.op.operands.toList σ σ2:=⟨hl,cU,hZ⟩;have hsx:Sub P xs σ σ2:=⟨hl,fun z hz=>cU z (hm z (by simp[hz])),fun z hz=>hZ z (hm z (by simp[hz]))⟩;have h0:=cU x0 (hm x0 zAE) t0;have ed:σ2.ob t 0= .box (row.map .d):=by rw[<-ho];exact hZ x0 (hm x0 zAE) t0 t (QD hx zBC) 0 zA9
  have e:yk t d (iu.map .d) (cond dp (WM d res) (qG res)) (cond dp (some (YZ qs res.flatten)) none) σ2=uP dp (σ2.Z0 t 0 (.box (iu.map .d))) d res qs:=by cases dp<;>rfl
  rw[e];refine⟨?_,fun d' hJ gM=>CT (fun e=>hJ zCO) (QO gM)⟩;rintro T0 B a w K Q' ⟨X,hh,r⟩ hK;have hw:Region.wanted o (yielded ops a.tmps)=true:=zCE
  rw[if_pos hw];refine G6 r qs ig hc hd ha (by rw[<-h0];exact hg) (by rw[<-h0];exact hx) ed (V6 hsx iw) (by rw[Vi hsx];exact gH) hs (fun hdp=>⟨?_,(gj hdp).2⟩) hK;subst hdp;exact hfr2 zAE
theorem o7{xs:List Operand}{t0:TypeId}{row:List D}(qs:List Bool)(ig:o.o.op= .call cl)(hc:cl.callee= .value (.func f))(cM:o.o.guard=none)(hd:o.o.dst=some d)(gP:A.bar o.o=true)
  (ha:cl.args.toList=x0::xs) (_hat:cl.argTypes.toList=t0::ts) (hs:z8 P f dp row hP iu res) (hx:gOf (look P σ t0 x0)=true/\unc (look P σ t0 x0)= .one (.bptr t 0)) (ho:σ.ob t 0= .box (row.map .d))
  (iw:(XK P σ xs ts).1) (hG:(XK P σ xs ts).2=some hP) (gH:Yh P σ xs ts=true) (gj:dp=true->(σ.Z0 t 0 (.box (iu.map .d))).fresh d=true/\xJ qs res.flatten)
  (h:@EI P (uP dp (σ.Z0 t 0 (.box (iu.map .d))) d res qs) A l k):@SI P σ A o l k:=by
 refine⟨_,.inr ⟨gP,?_,fun d' hJ gM=>CT (fun e=>hJ zCO) (QO gM),fun hh=>by simp[SC,ig]at hh,fun hh=>by first|(simp[VF,ig]at hh;done)|(unfold VF at hh;rw[ig]at hh;split at hh<;>simp_all),fun _ _=>u7 qs ig hc cM hd ha hs hx.1 hx.2 ho (qy iw hG) gH gj⟩,Qu h⟩;rintro T0 B a w K Q' ⟨X,hh,r⟩ hK;have hw:Region.wanted o.o (yielded A.ops a.tmps)=true:=zCE
 rw[if_pos hw];exact G6 r qs ig hc hd ha hx.1 hx.2 ho (qy iw hG) gH hs gj hK
theorem mX(ig:o.o.op= .call cl)(hc:cl.callee= .value (.func f))(cM:o.o.guard=none)(hd:o.o.dst=some d)(gP:A.bar o.o=true)(hs:H0 P f hP iu)
  (iw:(XK P σ cl.args.toList cl.argTypes.toList).1) (hG:(XK P σ cl.args.toList cl.argTypes.toList).2=some hP) (gH:Yh P σ cl.args.toList cl.argTypes.toList=true) (gj:σ.fresh d=true)
  (h:@EI P (σ.new d (.one (.bptr d 0)) [.box (iu.map .d)]) A l k) (dn:KF P o.o=false:=by exact rfl):@SI P σ A o l k:=by
 refine⟨_,.inr ⟨gP,?_,fun d' hJ gM=>Vy (fun e=>hJ zCO) gM,fun hh=>by simp[SC,ig]at hh,fun hh=>by first|(simp[VF,ig]at hh;done)|(unfold VF at hh;rw[ig]at hh;split at hh<;>simp_all),fun hh _=>by rw[dn]at hh;cases hh⟩,Qu h⟩;rintro T0 B a w K Q' ⟨X,hh,r⟩ hK;have hw:Region.wanted o.o (yielded A.ops a.tmps)=true:=zCE
 rw[if_pos hw];exact vU r ig hc hd gj (qy iw hG) gH hs hK
end
open Go.RowKit
variable{dm:List At}
def nA(w:World)(S:Nat->Prop)(b:Nat)(iu:List D)(e:Ending)(w':World):Prop:=
 e= .returned (.tuple #[])/\XL (fun k=>k<w.heap.size/\k≠b/\¬S k) w w'/\∃cs e',w'.heap[b]?=some (.cells cs e' (0,0))/\KC w' cs.toList iu (fun k=>(S k\/(w.heap.size<=k/\k<w'.heap.size))/\k≠b)
def G2(P:Program)(f:FuncId)(args:List (List D))(row iu:List D):Prop:=
 Rz P f=true/\∀(T:CS)(S:Nat->Prop)(w:World)(b:Nat)(gb:List Value),(∀k i,T k i->k<w.heap.size/\k≠b/\¬S k)->(∀k,S k->k<w.heap.size/\k≠b)->b<w.heap.size->
  (∃cs e,w.heap[b]?=some (.cells cs e (0,0))/\KC w cs.toList row S)->B2 T w gb args->Calls P f (gb++[ptr b]).toArray w (nA w S b iu)
def mC(P:Program)(fn:Func)(p:Nat)(v:Value)(iu:List D)(e:Exit)(σ:St):Prop:=
 (e= .ret\/e= .normal)/\OZ P σ fn.results.toList []/\∃dm fx,σ[p]?=some (.fix v (.one (.bptr p 0)),.box dm::fx)/\Jd σ dm=some iu/\QI σ dm/\(XC dm).Nodup
def mM(n sz:Nat)(rows:List (List D))(args:List (List D)):St:=(.one (.sref 0 0 0 rows.length),[.arr false sz rows])::(Lx args++List.replicate (n-(args.length+1)) (V.any,[]))
def At.isO(u:Nat):At->Bool
 |.sref t _ _ _=>t==u
 |.ptr t _ _ _=>t==u
 |.tref t _ _ _ _=>t==u
 |_=>false
theorem tu{row:List D}(hq:xJ qs row)(k4:∀j size rows,row[j]?=some (.sl size rows)->∀T h ob,JZ T h ob w (hf j) (.arr true size rows))(T:CS)(ob:Nat->Nat->Ob)(j:Nat):JZ T h ob w (hf j) (Yr (YZ qs row) j):=by
 by_cases ij:Yr (YZ qs row) j= .none
 ·rw[ij];trivial
 ·obtain⟨size,rows,hj⟩:=(Y2 qs row j hq).2 ij;obtain⟨q,ea,hqf⟩:=(Y2 qs row j hq).1 size rows hj;rw[ea];have:=k4 j size rows hj T h ob
  cases q with
  |true=>exact this
  |false=>exact sM this (hqf rfl)
theorem BX{c:Code}(hf:P.funcs[f]?=some fn)(hb:fn.body=some c)(gF:Rz P f=true){row:List D}(qs:List Bool)(hq:xJ qs row)
  (hw:∀v,AWP P c (mC P fn args.length v iu) (qZ fn.ntmps args v (Kg args.length 1 row) (YZ qs row) [])):G2 P f args row iu:=by
 refine⟨gF,fun T S w b gb hT hS hR ⟨cs0,e0,hh0,dw⟩ iw=>calls_of_wp hf hb ?_⟩;obtain⟨bq,Sk,k1,k2,k3,k4⟩:=Ak dw;have bZ:=B3 (w:=w) (T:=T) (S:=S) (n:=fn.ntmps) (b:=b) (pre:=args) (post:=[]) (cells:=Kg args.length 1 row) (fx:=YZ qs row) (fg:=gb) (eJ:=[]) (fun j=>match j with|0=>Hd.of (ptr b)|j+1=>bq j)
  hT hS hR rfl (fun h ob hh hZ=>⟨b,cs0,e0,rfl,hh0,OP dw.top (fun i size rows hi=>by
    obtain⟨q,ea,_⟩:=(Y2 qs row i hq).1 size rows hi;exact⟨q,by rw[hZ,Nat.add_comm,VK];exact ea⟩) (fun i c hc=>by rw[hh,Nat.add_comm];exact k1 i c hc)⟩)
  (fun h ob j=>tu hq (fun j size rows hj=>(k4 j size rows hj).2.2) _ _ j)
  (fun j k hn hk=>by
   obtain⟨size,rows,hj⟩:=(Y2 qs row j hq).2 hn;exact(k4 j size rows hj).2.1 k hk)
  (fun j k hn hk=>by
   obtain⟨size,rows,hj⟩:=(Y2 qs row j hq).2 hn;exact k2 j k ((k4 j size rows hj).1 k hk))
  (fun i j k hn gh hk ff=>by
   obtain⟨size,rows,hj⟩:=(Y2 qs row i hq).2 hn;obtain⟨gB,hO,dL⟩:=(Y2 qs row j hq).2 gh;exact k3 i j k ((k4 i size rows hj).1 k hk) ((k4 j gB hO dL).1 k ff)) iw .nil
 refine wp_mono (hw (ptr b) T _ _ w bZ) ?_;rintro e a' w' ⟨σ',⟨he,ft,dm,fx,dC,eH,ee,gm⟩,⟨X,h,r⟩,hU⟩;obtain⟨vs,gO,gA,gW,ir⟩:=UH r ft;cases ir;cases gW;have gp:args.length<σ'.length:=(List.getElem?_eq_some_iff.1 dC).1
 have hg0:σ'.get args.length= .fix (ptr b) (.one (.bptr args.length 0)):=by unfold St.get;rw[dC]
 have g8:σ'.ob args.length 0= .box dm:=by unfold St.ob;rw[dC];rfl
 have cm:=r.slot _ gp;rw[hg0]at cm;obtain⟨hveq,eY⟩:=cm;obtain⟨b1,fB,gn⟩:=eY.2 _ g8;rw[hveq]at gn;have er:b1=b:=zBx;subst er;have fC:=r.obj args.length 0;rw[g8]at fC;obtain⟨b2,bK,e',gQ,dF,dh⟩:=fC;rw[fB]at gQ;have er:b2=b1:=zA2;subst er;have fE:=r.ub args.length 0 b2 zCG zCb;have goal:a'.defers=[]/\∃v,(results fn a'.tmps).run P w'= .ok v w'/\nA w S b2 iu (.returned v) w':=by
  refine⟨r.defers,_,gA,rfl,hU,bK,e',dF,(Nb r dh eH ee gm).mono (fun k hk=>?_)⟩;have hg:=r.z4 _ k hk
  have ij:k≠b2:=by rintro rfl;obtain⟨p,hp,ij,hu⟩:=hk;obtain⟨e1,e2⟩:=r.inj p.1 p.2 args.length 0 k ij zCG hu fE;obtain⟨i,lo,len,hx⟩:=MW hp;obtain⟨d,hd,hmd⟩:=(YJ.get (R:=fun x d=>mvD σ' x=some d) (YJ.xm (jI eH).1 (fun i a b h1 h2=>(jI eH).2 i a b h1 h2)) i _ hx);rw[e1,e2]at hmd;simp[mvD,g8]at hmd
  refine⟨?_,ij⟩;by_cases hs:S k
  ·exact .inl hs
  ·refine .inr ⟨?_,hg.2.2.1⟩;rcases Nat.lt_or_ge k w.heap.size with hD|dR
   ·exact absurd ⟨hD,ij,hs⟩ hg.1
   ·exact dR
 rcases he with rfl|rfl
 ·exact goal
 ·exact goal
theorem Rel.ma(r:Rel T0 B σ a w X h){cells:List At}(ho:σ.ob u 0= .box cells)(hv:(h u 0).v=ptr b)(hD:u<σ.length)(M S':Nat->Prop)(g7:w.heap.size<=w'.heap.size)(hw:∀k,k<w.heap.size->k≠b->¬M k->w'.heap[k]?=w.heap[k]?)
  (hm:∀k,M k->¬B k/\¬X k/\∀t j,σ.ob t j≠ .none->¬(h t j).u k) (bt:(σ.Z0 u 0 .none).yB (At.isO u)=false) (hq:xJ qs iu) {e':TypeId} (dF:w'.heap[b]?=some (.cells bK e' (0,0)))
  (iv:KC w' bK.toList iu S') (hS':∀k,S' k->(w.heap.size<=k\/M k)/\k<w'.heap.size/\k≠b):JV T0 B (σ.new u (σ.get u) (.box (Kg u 1 iu)::YZ qs iu)) a w':=by
 have hZ:σ.ob u 0≠ .none:=zA9;have gL:blk (h u 0).v=some b:=by rw[hv];rfl
 have fE:=r.ub u 0 b hZ gL;have hbB:=r.own u 0 b hZ fE;obtain⟨bq,Sk,k1,k2,k3,k4⟩:=Ak iv;generalize hσ:σ.new u (σ.get u) (.box (Kg u 1 iu)::YZ qs iu)=σ2;have bL:∀j,σ2.ob u j=Yr (.box (Kg u 1 iu)::YZ qs iu) j:=fun j=>by rw[<-hσ,St.JN];simp[hD]
 have eQ:∀t j,t≠u->σ2.ob t j=σ.ob t j:=fun t j ij=>by rw[<-hσ,St.JN,if_neg (fun hh=>ij hh.1)]
 have fA:∀t,σ2.get t=σ.get t:=by
  intro t;rw[<-hσ,St.TD];split
  ·rename_i hh;rw[hh.1]
  ·rfl
 have hlen:σ2.length=σ.length:=by rw[<-hσ,St.Vw]
 let hJ:Nat->Hd:=fun j=>match j with|0=>h u 0|j+1=>bq j
 let h':Nat->Nat->Hd:=fun t j=>if t=u then hJ j else h t j
 have hT:∀k i v,Tof T0 X k i->w.cell? ⟨k,i,none⟩=some v->w'.cell? ⟨k,i,none⟩=some v/\Tof T0 X k i:=by
  intro k i v hk hc;refine⟨?_,hk⟩;have ij:k≠b:=by
   rintro rfl;rcases hk with hk|hk
   ·exact hbB.1 (r.hT _ _ hk)
   ·exact hbB.2.1 hk
  have hnm:¬M k:=by
   intro hmk;rcases hk with hk|hk
   ·exact(hm k hmk).1 (r.hT _ _ hk)
   ·exact(hm k hmk).2.1 hk
  rw[World.cell?_of_block (hw k (r.Tlt hk) ij hnm)];exact hc
 have at_:∀{x:At}{v:Value},At.isO u x=false->YR (Tof T0 X) h σ.ob w x v->YR (Tof T0 X) h' σ2.ob w' x v:=by
  intro x v hpx rx;cases x with
  |any=>exact rx
  |d x=>exact Rd.mono hT rx
  |nil s=>exact rx
  |sref t j lo len=>
   have ij:t≠u:=by simpa[At.isO]using hpx
   simp only[YR,h',if_neg ij,eQ t j ij];exact rx
  |ptr t j i c=>
   have ij:t≠u:=by simpa[At.isO]using hpx
   simp only[YR,h',if_neg ij,eQ t j ij];exact rx
  |tref t j i c o=>
   have ij:t≠u:=by simpa[At.isO]using hpx
   simp only[YR,h',if_neg ij,eQ t j ij];exact rx
  |bptr t c=>
   by_cases hc:t=u
   ·subst hc;refine⟨rx.1,fun iy _=>?_⟩;simp only[h',if_true,hJ];exact rx.2 _ ho
   ·simp only[YR,h',if_neg hc,eQ t 0 hc];exact rx
  |fn f t=>
   by_cases hc:t=u
   ·subst hc;refine⟨rx.1,fun iy _=>?_⟩;simp only[h',if_true,hJ];exact rx.2 _ ho
   ·simp only[YR,h',if_neg hc,eQ t 0 hc];exact rx
  |rptr rr c=>obtain⟨b,off,g,e,hk⟩:=rx;exact⟨b,off,g,e,fun k d hd=>⟨(hT _ _ _ (hk k d hd).2.1 (hk k d hd).1).1,(hk k d hd).2.1,Rd.mono hT (hk k d hd).2.2⟩⟩
 have fC:∀j,Yr (.box (Kg u 1 iu)::YZ qs iu) j≠ .none->j=0\/∃i size rows,j=i+1/\iu[i]?=some (.sl size rows):=by
  intro j hn;cases j with
  |zero=>exact .inl rfl
  |succ j=>rw[VK]at hn;obtain⟨size,rows,hj⟩:=(Y2 qs iu j hq).2 hn;exact .inr ⟨j,size,rows,rfl,hj⟩
 have hu0:∀k,(h u 0).u k->k<w.heap.size/\¬M k/\¬B k/\¬X k:=fun k hk=>⟨(r.own u 0 k hZ hk).2.2,fun hmk=>(hm k hmk).2.2 u 0 hZ hk,(r.own u 0 k hZ hk).1,(r.own u 0 k hZ hk).2.1⟩;have hfu:∀i size rows k,iu[i]?=some (.sl size rows)->(bq i).u k->(w.heap.size<=k\/M k)/\k<w'.heap.size/\k≠b:=fun i size rows k hi hk=>hS' k (k2 i k ((k4 i size rows hi).1 k hk));have hkeepu:∀t j,t≠u->σ.ob t j≠ .none->∀k,(h t j).u k->w'.heap[k]?=w.heap[k]?:=by intro t j ij hn k hk;refine hw k (r.own t j k hn hk).2.2 ?_ (fun hmk=>(hm k hmk).2.2 t j hn hk);rintro rfl;exact ij (r.inj t j u 0 k hn hZ hk fE).1
 refine⟨X,h',by rw[r.size,hlen],r.defers,fun k hk=>Nat.lt_of_lt_of_le (r.hB k hk) g7,fun k hk=>⟨(r.hX k hk).1,Nat.lt_of_lt_of_le (r.hX k hk).2 g7⟩,r.hT,fun t ht=>?_,fun t j=>?_,fun t j k hn hk=>?_,fun t j k hn hk=>?_,fun t j t' j' k hn gh hk ff=>?_⟩
 ·rw[hlen]at ht;rw[fA];have hp:(σ.get t).yB (At.isO u)=false:=by have:=St.IQ bt t;rwa[St.Xz]at this
  exact Qk.map at_ hp (r.slot t ht)
 ·by_cases hc:t=u
  ·subst hc;rw[bL];cases j with
   |zero=>
    simp only[h',if_true,hJ,B4];exact⟨b,bK,e',hv,dF,OP iv.top (fun i size rows hi=>by
     obtain⟨q,ea,_⟩:=(Y2 qs iu i hq).1 size rows hi;exact⟨q,by rw[bL,Nat.add_comm,VK];exact ea⟩) (fun i c hc=>by simp only[if_true,Nat.add_comm 1 i];exact k1 i c hc)⟩
   |succ j=>simp only[h',if_true,hJ,VK];exact tu hq (fun j size rows hj=>(k4 j size rows hj).2.2) _ _ j
  ·rw[eQ t j hc];simp only[h',if_neg hc];by_cases hn:σ.ob t j= .none
   ·rw[hn];trivial
   ·have hp:yu (At.isO u) [σ.ob t j]=false:=by have:=St.Em bt t j;rwa[St.Rx,if_neg (fun hh=>hc hh.1)]at this
    exact JZ.map at_ hT (fun ho b=>r.ub t j b ho) (fun hn k hk=>hkeepu t j hc hn k hk) hp (r.obj t j)
 ·by_cases hc:t=u
  ·subst hc;rw[bL]at hn;rcases fC j hn with rfl|⟨i,size,rows,rfl,hi⟩
   ·simp only[h',if_true,hJ]at hk⊢;exact r.ub t 0 k hZ hk
   ·simp only[h',if_true,hJ]at hk⊢;exact(k4 i size rows hi).2.1 k hk
  ·rw[eQ t j hc]at hn;simp only[h',if_neg hc]at hk⊢;exact r.ub t j k hn hk
 ·by_cases hc:t=u
  ·subst hc;rw[bL]at hn;rcases fC j hn with rfl|⟨i,size,rows,rfl,hi⟩
   ·simp only[h',if_true,hJ]at hk;have:=hu0 k hk;exact⟨this.2.2.1,this.2.2.2,zAC⟩
   ·simp only[h',if_true,hJ]at hk;have:=hfu i size rows k hi hk
    rcases this.1 with h1|h1
    ·exact⟨fun hb=>by have:=r.hB k hb;omega,fun hx=>by have:=(r.hX k hx).2;omega,this.2.1⟩
    ·exact⟨(hm k h1).1,(hm k h1).2.1,this.2.1⟩
  ·rw[eQ t j hc]at hn;simp only[h',if_neg hc]at hk;have:=r.own t j k hn hk;exact⟨this.1,this.2.1,zAC⟩
 ·have key:∀t j i k,t≠u->σ.ob t j≠ .none->(h t j).u k->Yr (.box (Kg u 1 iu)::YZ qs iu) i≠ .none->(hJ i).u k->False:=by
   intro t j i k ij hn hk gh ff;rcases fC i gh with rfl|⟨i,size,rows,rfl,hi⟩
   ·exact ij (r.inj t j u 0 k hn hZ hk ff).1
   ·have h1:=hfu i size rows k hi ff;have h2:=r.own t j k hn hk;rcases h1.1 with h3|h3
    ·omega
    ·exact(hm k h3).2.2 t j hn hk
  by_cases hc:t=u
  ·by_cases ga:t'=u
   ·subst hc;subst ga;rw[bL]at hn gh;simp only[h',if_true]at hk ff;refine⟨rfl,?_⟩;rcases fC j hn with rfl|⟨i,size,rows,rfl,hi⟩
    ·rcases fC j' gh with rfl|⟨i',gB,hO,rfl,fP⟩
     ·rfl
     ·have h1:=hu0 k hk;have h2:=hfu i' gB hO k fP ff;rcases h2.1 with h3|h3
      ·omega
      ·exact absurd h3 h1.2.1
    ·rcases fC j' gh with rfl|⟨i',gB,hO,rfl,fP⟩
     ·have h1:=hu0 k ff;have h2:=hfu i size rows k hi hk;rcases h2.1 with h3|h3
      ·omega
      ·exact absurd h3 h1.2.1
     ·rw[k3 i i' k ((k4 i size rows hi).1 k hk) ((k4 i' gB hO fP).1 k ff)]
   ·subst hc;rw[bL]at hn;rw[eQ t' j' ga]at gh;simp only[h',if_true,if_neg ga]at hk ff;exact(key t' j' j k ga gh ff hn hk).elim
  ·rw[eQ t j hc]at hn;simp only[h',if_neg hc]at hk;by_cases ga:t'=u
   ·subst ga;rw[bL]at gh;simp only[h',if_true]at ff;exact(key t j j' k hc hn hk gh ff).elim
   ·rw[eQ t' j' ga]at gh;simp only[h',if_neg ga]at ff;exact r.inj t j t' j' k hn gh hk ff
open Go.RowKit
theorem tH{o:Oper}{x:Value}(ig:o.op= .call c)(hc:c.callee= .value (.tmp t))(hv:a.tmps.getD t undef= .func (.func f) #[] #[x])(hf:Rz P f=true):
  (execOp a.eval o).run P w= .ok (.enter f (c.args.toList.map a.eval++[x]).toArray) w:=by
 unfold Rz at hf;split at hf
 ·rename_i fn hfn;simp only[Bool.and_eq_true,bne_iff_ne,ne_eq]at hf;obtain⟨cd,hb⟩:=Option.isSome_iff_exists.1 hf.1;obtain⟨callee,args,dm⟩:=c;simp only at hc;subst hc;have hm:(args.toList.map a.eval++[x]).toArray=args.map a.eval++#[x]:=by apply Array.toList_inj.1;simp
  have he:a.eval (.tmp t)= .func (.func f) #[] #[x]:=hv;rw[hm];simp[execOp,ig,resolve,he,Deferred.ofValue,invoke,callFunc,hfn,hf.2,hb]
 ·cases hf
theorem uL(r:Rel T0 B σ a w X h){o:Oper}{row:List D}{cells:List At}(qs:List Bool)(ig:o.op= .call cl)(hc:cl.callee= .value (.tmp tf))(hx:σ.get tf= .one (.fn f u))(ho:σ.ob u 0= .box cells)(hD:u<σ.length)
  (iw:Qb P σ cl.args.toList cl.argTypes.toList hP) (gH:Yh P σ cl.args.toList cl.argTypes.toList=true) (hs:G2 P f hP row iu) (eH:Jd σ cells=some row) (ee:QI σ cells) (gm:(XC cells).Nodup) (hnu:(u,0)∉XC cells)
  (bt:((σ.Z7 (XC cells)).Z0 u 0 .none).yB (At.isO u)=false) (hq:xJ qs iu)
  (hK:∀a' w',JV T0 B (match o.dst with|some d=>((σ.Z7 (XC cells)).new u (σ.get u) (.box (Kg u 1 iu)::YZ qs iu)).put d .any|none=>(σ.Z7 (XC cells)).new u (σ.get u) (.box (Kg u 1 iu)::YZ qs iu)) a' w'->XL B w w'->K a' w'):o.wp P a w K Q:=by
 have hZ:σ.ob u 0≠ .none:=zA9;have hfn:=r.get tf;rw[hx]at hfn;obtain⟨b,fB,hv⟩:=hfn.2 _ ho;have fC:=r.obj u 0;rw[ho]at fC;obtain⟨b2,cs,e,gQ,hh,ir⟩:=fC;rw[fB]at gQ;have er:b2=b:=zA2;subst er;have fE:=r.ub u 0 b2 hZ zCb;have iv:=r.own u 0 b2 hZ fE;have e6:=r.Qb true iw (fun _=>gH);simp only[if_true]at e6;have bo:∀k,zI σ h (XC cells) k->k<w.heap.size/\k≠b2:=by rintro k ⟨p,hp,ij,hu⟩;refine⟨(r.own _ _ k ij hu).2.2,?_⟩;rintro rfl;obtain⟨e1,e2⟩:=r.inj p.1 p.2 u 0 k ij hZ hu fE;exact hnu (by rw[<-e1,<-e2];exact hp)
 have gi:=r.z4 (XC cells);have hT:∀k i,Tof T0 X k i->k<w.heap.size/\k≠b2/\¬zI σ h (XC cells) k:=by
  intro k i hk;refine⟨r.Tlt hk,?_,fun hg=>?_⟩
  ·rintro rfl;rcases hk with hk|hk
   ·exact iv.1 (r.hT _ _ hk)
   ·exact iv.2.1 hk
  ·rcases hk with hk|hk
   ·exact(gi k hg).1 (r.hT _ _ hk)
   ·exact(gi k hg).2.1 hk
 unfold Oper.wp;rw[tH ig hc hv hs.1,Oper.upon_enter];refine(hs.2 (Tof T0 X) (zI σ h (XC cells)) w b2 _ hT bo iv.2.2 ⟨cs,e,hh,Nb r ir eH ee gm⟩ e6).mono ?_;rintro e' w' ⟨rfl,hU,bK,e2,dF,gk⟩;have r1:=r.Z7 (XC cells)
 have ho1:(σ.Z7 (XC cells)).ob u 0= .box cells:=by rw[St.KO,if_neg hnu,ho]
 have R:=r1.ma (w':=w') (iu:=iu) (qs:=qs) ho1 fB (by rw[St.J2];exact hD) (zI σ h (XC cells)) _ hU.size (fun k hk ij hg=>hU.block k ⟨hk,ij,hg⟩) (fun k hk=>⟨(gi k hk).1,(gi k hk).2.1,(gi k hk).2.2.2⟩) bt hq dF gk (fun k hk=>⟨hk.1.elim .inr (fun h1=>.inl h1.1),by
  rcases hk.1 with h1|h1
  ·have:=(bo k h1).1;have:=hU.size;omega
  ·exact h1.2,hk.2⟩)
 rw[St.yl]at R;have hBk:XL B w w':=⟨hU.os,hU.tape,hU.output,hU.size,fun k hk=>hU.block k ⟨r.hB k hk,fun e=>iv.1 (e▸hk),fun hg=>(gi k hg).1 hk⟩⟩
 cases hd:o.dst with
 |none=>rw[hd]at hK;exact hK _ _ R hBk
 |some d=>rw[hd]at hK;obtain⟨X2,h2,R2⟩:=R;exact hK _ _ ⟨X2,h2,R2.put d .any _ trivial⟩ hBk
theorem uj(r:Rel T0 B σ a w X h){o:Oper}(ig:o.op= .makeFunc (.func f) #[] #[x])(hd:o.dst=some d)(hg:gOf (look P σ 0 x)=true)(hx:unc (look P σ 0 x)= .one (.bptr t 0)){cells:List At}(ho:σ.ob t 0= .box cells)
  (hK:∀a' w',JV T0 B (σ.put d (.one (.fn f t))) a' w'->XL B w w'->K a' w'):o.wp P a w K Q:=by
 have har:=r.arg (P:=P) 0 x hx hg;obtain⟨b,fB,hv⟩:=har.2 _ ho;exact RM (v:=.one (.fn f t)) r hd ⟨.func (.func f) #[] #[a.eval x],by simp[execOp,ig,Instr.makeFunc],⟨rfl,fun iy _=>⟨b,fB,by rw[hv]⟩⟩⟩ hK
theorem nO{cells:List At}(ig:o.o.op= .makeFunc (.func f) #[] #[x])(cM:o.o.guard=none)(hd:o.o.dst=some d)(gP:A.bar o.o=true)(hx:gOf (look P σ 0 x)=true/\unc (look P σ 0 x)= .one (.bptr t 0))(ho:σ.ob t 0= .box cells)
  (h:@EI P (σ.put d (.one (.fn f t))) A l k):@SI P σ A o l k:=by
 refine⟨_,.inr ⟨gP,?_,fun d' hJ gM=>Hm (fun e=>hJ zCO) gM,fun hh=>by simp[SC,ig]at hh,fun hh=>by first|(simp[VF,ig]at hh;done)|(unfold VF at hh;rw[ig]at hh;split at hh<;>simp_all),fun hh _=>by first|(simp[KF,ig]at hh;done)|(unfold KF at hh;rw[ig]at hh;split at hh<;>simp_all)⟩,Qu h⟩;rintro T0 B a w K Q' ⟨X,hh,r⟩ hK;have hw:Region.wanted o.o (yielded A.ops a.tmps)=true:=zCE
 rw[if_pos hw];exact uj r ig hd hx.1 hx.2 ho hK
theorem AN{c:Code}(hf:P.funcs[f]?=some fn)(hb:fn.body=some c)(gF:Rz P f=true){row:List D}(qs:List Bool)(hq:xJ qs row)
  (hw:∀v,@WI P (qZ fn.ntmps args v (Kg args.length 1 row) (YZ qs row) []) ⟨c⟩ (.fin (mC P fn args.length v iu))):G2 P f args row iu:=BX hf hb gF qs hq (fun v=>Ul (hw v))
theorem nv{p:Nat}(hf:fn.results=#[])(h:σ[p]?=some (.fix v (.one (.bptr p 0)),.box dm::((σ[p]?).map (fun e=>e.2.tail)).getD [])/\Jd σ dm=some iu/\QI σ dm/\(XC dm).Nodup)(he:e= .ret\/e= .normal):mC P fn p v iu e σ:=
 ⟨he,by rw[hf];rfl,dm,_,h.1,h.2.1,h.2.2.1,h.2.2.2⟩
theorem Ip{row:List D}{cells:List At}(qs:List Bool)(ig:o.o.op= .call cl)(hc:cl.callee= .value (.tmp tf))(cM:o.o.guard=none)(gP:A.bar o.o=true)(hs:G2 P f hP row iu)(hx:σ.get tf= .one (.fn f u))(ho:σ.ob u 0= .box cells)(hD:u<σ.length)
  (iw:(XK P σ cl.args.toList cl.argTypes.toList).1) (hG:(XK P σ cl.args.toList cl.argTypes.toList).2=some hP) (gH:Yh P σ cl.args.toList cl.argTypes.toList=true) (eH:Jd σ cells=some row) (ee:QI σ cells) (gm:(XC cells).Nodup) (hnu:(u,0)∉XC cells) (gM:XY σ u=false)
  (bt:((σ.Z7 (XC cells)).Z0 u 0 .none).yB (At.isO u)=false) (hq:xJ qs iu)
  (h:@EI P (match o.o.dst with|some d=>((σ.Z7 (XC cells)).new u (σ.get u) (.box (Kg u 1 iu)::YZ qs iu)).put d .any|none=>(σ.Z7 (XC cells)).new u (σ.get u) (.box (Kg u 1 iu)::YZ qs iu)) A l k):@SI P σ A o l k:=by
 refine⟨_,.inr ⟨gP,?_,fun d' hJ ga=>?_,fun hh=>by simp[SC,ig]at hh,fun hh=>by first|(simp[VF,ig]at hh;done)|(unfold VF at hh;rw[ig]at hh;split at hh<;>simp_all),fun hh _=>by first|(simp[KF,ig]at hh;done)|(unfold KF at hh;rw[ig]at hh;split at hh<;>simp_all)⟩,Qu h⟩
 ·rintro T0 B a w K Q' ⟨X,hh,r⟩ hK;have hw:Region.wanted o.o (yielded A.ops a.tmps)=true:=zCE
  rw[if_pos hw];exact uL r qs ig hc hx ho hD (qy iw hG) gH hs eH ee gm hnu bt hq hK
 ·have h1:=Vy (v:=σ.get u) (os:=.box (Kg u 1 iu)::YZ qs iu) (fun e=>by rw[e,gM]at ga;cases ga) (Ql (l:=XC cells) ga);cases hd:o.o.dst with
  |none=>exact h1
  |some d=>exact Hm (fun e=>hJ zCO) h1
attribute [simp] qZ mM At.isO
open Go.RowKit
open Go.RowKit
theorem cR{own:Bool}(hs:QX P f own rows res)(h:@EI P (σ.put d (qG res)) A l k)(ig:o.o.op= .call c:=by exact rfl)(hc:c.callee= .value (.func f):=by exact rfl)(hg:o.o.guard=none:=by exact rfl)(hd:o.o.dst=some d:=by exact rfl)
  (hG:(XK P σ c.args.toList c.argTypes.toList).2=some rows:=by simp) (iw:(XK P σ c.args.toList c.argTypes.toList).1:=by simp) (gH:Yh P σ c.args.toList c.argTypes.toList=true\/Jv own res:=by simp):@SI P σ A o l k:=
 Ej ig hc hg hd hs hG iw gH h
theorem cD(qs:List Bool)(hs:YN P f rows res)(h:@EI P (σ.new d (WM d res) (YZ qs res.flatten)) A l k)(ig:o.o.op= .call c:=by exact rfl)(hc:c.callee= .value (.func f):=by exact rfl)(hg:o.o.guard=none:=by exact rfl)(hd:o.o.dst=some d:=by exact rfl)
  (hG:(XK P σ c.args.toList c.argTypes.toList).2=some rows:=by simp) (iw:(XK P σ c.args.toList c.argTypes.toList).1:=by simp) (hq:xJ qs res.flatten:=by simp) (hf:σ.fresh d=true:=by simp):@SI P σ A o l k:=wk qs ig hc hg hd hs hG iw hq hf h
theorem cC{b:Bool}{x:yI}(c:Bool)(ht:TF σ->c=true->@WI P σ x k)(hf:TF σ->c=false->@WI P σ y k)(hc:c=b:=by simp):@CI P b σ x y k:=LR hc ht hf
theorem cG{j dj:Nat}{want own:Bool}{res:List D}(hs:g=true->QX P f own rows [res])(h:@EI P (σ.put d (.cnd g (qG [res]))) A l k)(ig:o.o.op= .call c:=by exact rfl)(hc:c.callee= .value (.func f):=by exact rfl)(hg:o.o.guard=some (j,want):=by exact rfl)(hd:o.o.dst=some d:=by exact rfl)
  (fh:(A.ops[j]?).bind (·.dst)=some dj:=by exact rfl) (fr:jf want (σ.get dj)=some g:=by exact rfl)
  (hG:(XK P σ c.args.toList c.argTypes.toList).2=some rows:=by simp) (hD:dj<σ.length:=by simp)
  (iw:g=true->(XK P σ c.args.toList c.argTypes.toList).1:=by simp) (gH:Yh P σ c.args.toList c.argTypes.toList=true\/Jv own [res]:=by simp):@SI P σ A o l k:=
 E3 ig hc hg hd fh fr hs hG hD iw gH h
@[simp] abbrev eI (t : Nat) (n : Int) : Nat × V × List Ob := (t, .one (.d (.int .i64 n)), [])
@[simp] abbrev eB (t : Nat) (b : Bool) : Nat × V × List Ob := (t, .one (.d (.bool b)), [])
@[simp] abbrev eL {α : Type} (t s : Nat) (l : List α) (f : α -> List D) : Nat × V × List Ob := (t, .one (.d (.sl s (l.map f))), [])
@[simp] abbrev eP (t u c : Nat) : Nat × V × List Ob := (t, .one (.bptr u c), [])
@[simp] abbrev eG (t : Nat) (xs : List At) : Nat × V × List Ob := (t, .agg xs, [])
@[simp] abbrev eX (t : Nat) (xs : List At) : Nat × V × List Ob := (t, .one (.bptr t 0), [.box xs])
open Go.RowKit
variable{br:Oper->Bool}
structure Me{α:Type}(x y:α):Prop where
 h:x=y
structure Bx(p:Prop):Prop where
 h:p
theorem me{α:Type}{x y:α}(h:x=y):Me x y:=⟨h⟩
theorem ms{α β:Type}{x y y':α}{l r:β}(f:Me x y)(e:Me l r)(h:l=r->y=y':=by intro e;simp only[e];exact rfl):Me x y':=⟨f.h.trans (h e.h)⟩
theorem an(h:p)(k:q):p/\q:=⟨h,k⟩
theorem ix{α:Type}{v:Nat}{l:List α}(h:decide ((v:Int)<(l.length:Int))=true):v<l.length:=zCF
theorem ml{α:Type}(l:List α)(m:q)(h:q->l.length<=9223372036854775807:=by intro m;simpa using m):l.length<=9223372036854775807:=h m
theorem wr(n:Nat)(h:(n:Int)+1<=9223372036854775807:=by first|omega|(simp only[decide_eq_true_eq,decide_eq_false_iff_not,beq_iff_eq,beq_eq_false_iff_ne,bne_iff_ne,ne_eq,Bool.or_eq_false_iff,Bool.or_eq_true,Bool.and_eq_true,Bool.not_eq_true',Bool.not_eq_false']at*;omega)):IntKind.i64.wrap ((n:Int)+1)=(n:Int)+1:=YQ zAC zAC
theorem so{own:Bool}{args res:List (List D)}(hf:P.funcs[f]?=some fn)(hn:fn.ntmps=n)(h:p){c:Code}(hb:fn.body=some c:=by exact rfl)(gF:Rz P f=true:=by kernel_rfl)
  (kk:Bx p->@WI P (WZ n args) ⟨c⟩ (.fin (vy P fn own res)):=by exact zCd):QX P f own args res:=vF hf hb gF (by rw[hn];exact kk ⟨h⟩)
theorem soD{args res:List (List D)}(hf:P.funcs[f]?=some fn)(hn:fn.ntmps=n)(h:p){c:Code}(hb:fn.body=some c:=by exact rfl)(gF:Rz P f=true:=by kernel_rfl)
  (kk:Bx p->@WI P (WZ n args) ⟨c⟩ (.fin (rK P fn res)):=by exact zCd):YN P f args res:=rC hf hb gF (by rw[hn];exact kk ⟨h⟩)
theorem cF{α:Type}{u y z:α}{b c:Bool}{xc yc:yI}(f:Me u (bif c then y else z))(ht:TF σ->c=true->Me u y->p)(hf:TF σ->c=false->Me u z->q)(hc:c=b:=by simp)(kt:Bx p->@WI P σ xc k:=by exact zCd)(kf:Bx q->@WI P σ yc k:=by exact zCd):@CI P b σ xc yc k:=
 LR hc (fun s h=>kt ⟨ht s h ⟨f.h.trans zBk⟩⟩) (fun s h=>kf ⟨hf s h ⟨f.h.trans zBk⟩⟩)
theorem cFt{α:Type}{u y z:α}{b c:Bool}{xc:yI}(f:Me u (bif c then y else z))(ht:TF σ->c=true->Me u y->p)(hf:TF σ->c=false->Me u z->@WI P σ yc k)(hc:c=b:=by simp)(kt:Bx p->@WI P σ xc k:=by exact zCd):@CI P b σ xc yc k:=
 LR hc (fun s h=>kt ⟨ht s h ⟨f.h.trans zBk⟩⟩) (fun s h=>hf s h ⟨f.h.trans zBk⟩)
theorem cFf{α:Type}{u y z:α}{b c:Bool}{yc:yI}(f:Me u (bif c then y else z))(ht:TF σ->c=true->Me u y->@WI P σ xc k)(hf:TF σ->c=false->Me u z->q)(hc:c=b:=by simp)(kf:Bx q->@WI P σ yc k:=by exact zCd):@CI P b σ xc yc k:=
 LR hc (fun s h=>ht s h ⟨f.h.trans zBk⟩) (fun s h=>kf ⟨hf s h ⟨f.h.trans zBk⟩⟩)
theorem cFo{α:Type}{u y z:α}{b c:Bool}(f:Me u (bif c then y else z))(ht:TF σ->c=true->Me u y->@WI P σ xc k)(hf:TF σ->c=false->Me u z->@WI P σ yc k)(hc:c=b:=by simp):@CI P b σ xc yc k:=
 LR hc (fun s h=>ht s h ⟨f.h.trans zBk⟩) (fun s h=>hf s h ⟨f.h.trans zBk⟩)
theorem cK{α:Type}{u y z:α}{b c:Bool}{xc yc:yI}(f:Me u (bif c then y else z))(ht:TF σ->c=true->Me u y->p)(hf:TF σ->c=false->Me u z->q)(hc:c=b:=by first|(simp[G];done)|grind)(kt:Bx p->@WI P σ xc k:=by exact zCg)(kf:Bx q->@WI P σ yc k:=by exact zCg):@CI P b σ xc yc k:=
 LR hc (fun s h=>kt ⟨ht s h ⟨f.h.trans zBk⟩⟩) (fun s h=>kf ⟨hf s h ⟨f.h.trans zBk⟩⟩)
theorem cKt{α:Type}{u y z:α}{b c:Bool}{xc:yI}(f:Me u (bif c then y else z))(ht:TF σ->c=true->Me u y->p)(hf:TF σ->c=false->Me u z->@WI P σ yc k)(hc:c=b:=by first|(simp[G];done)|grind)(kt:Bx p->@WI P σ xc k:=by exact zCg):@CI P b σ xc yc k:=
 LR hc (fun s h=>kt ⟨ht s h ⟨f.h.trans zBk⟩⟩) (fun s h=>hf s h ⟨f.h.trans zBk⟩)
theorem cKo{α:Type}{u y z:α}{b c:Bool}(f:Me u (bif c then y else z))(ht:TF σ->c=true->Me u y->@WI P σ xc k)(hf:TF σ->c=false->Me u z->@WI P σ yc k)(hc:c=b:=by first|(simp[G];done)|grind):@CI P b σ xc yc k:=
 LR hc (fun s h=>ht s h ⟨f.h.trans zBk⟩) (fun s h=>hf s h ⟨f.h.trans zBk⟩)
theorem cY{c b:Bool}{xc yc:yI}(h:c=true)(kk:p)(hc:c=b:=by simp)(kt:Bx p->@WI P σ xc k:=by exact zCd):@CI P b σ xc yc k:=LR hc (fun _ g=>kt ⟨kk⟩) (fun _ g=>absurd (h.symm.trans g) zAF)
theorem cZ{c b:Bool}{xc yc:yI}(h:c=false)(kk:p)(hc:c=b:=by simp)(kt:Bx p->@WI P σ yc k:=by exact zCd):@CI P b σ xc yc k:=LR hc (fun _ g=>absurd (h.symm.trans g) zAF) (fun _ g=>kt ⟨kk⟩)
theorem cRg{A:J5}{l:Kc}{d:Nat}{own:Bool}(hs:QX P f own rows res)(h:p)(ig:o.o.op= .call c:=by exact rfl)(hc:c.callee= .value (.func f):=by exact rfl)(hg:o.o.guard=none:=by exact rfl)(hd:o.o.dst=some d:=by exact rfl)(hG:(XK P σ c.args.toList c.argTypes.toList).2=some rows:=by simp)(iw:(XK P σ c.args.toList c.argTypes.toList).1:=by simp)(gH:Yh P σ c.args.toList c.argTypes.toList=true\/Jv own res:=by simp)(kk:Bx p->@EI P (σ.put d (qG res)) A l k:=by exact zCg):@SI P σ A o l k:=Ej ig hc hg hd hs hG iw gH (kk ⟨h⟩)
theorem cRs{A:J5}{l:Kc}{d:Nat}{own:Bool}(hs:QX P f own rows res)(h:p)(ig:o.o.op= .call c:=by exact rfl)(hc:c.callee= .value (.func f):=by exact rfl)(hg:o.o.guard=none:=by exact rfl)(hd:o.o.dst=some d:=by exact rfl)(hG:(XK P σ c.args.toList c.argTypes.toList).2=some rows:=by simp)(iw:(XK P σ c.args.toList c.argTypes.toList).1:=by simp)(gH:Yh P σ c.args.toList c.argTypes.toList=true\/Jv own res:=by simp)(kk:Bx p->@EI P (σ.put d (qG res)) A l k:=by exact zCd):@SI P σ A o l k:=Ej ig hc hg hd hs hG iw gH (kk ⟨h⟩)
theorem cRf{A:J5}{l:Kc}{d:Nat}{own:Bool}(F:q)(hs:QX P f own rows res)(h:p)(ig:o.o.op= .call c:=by exact rfl)(hc:c.callee= .value (.func f):=by exact rfl)(hg:o.o.guard=none:=by exact rfl)(hd:o.o.dst=some d:=by exact rfl)(hG:(XK P σ c.args.toList c.argTypes.toList).2=some rows:=by simp)(iw:(XK P σ c.args.toList c.argTypes.toList).1:=by simp)(gH:Yh P σ c.args.toList c.argTypes.toList=true\/Jv own res:=by simp)(kk:q->Bx p->@EI P (σ.put d (qG res)) A l k:=by(intro F z;simp[F,Go.Vm.ZB];(repeat(with_reducible refine Go.Mo.sd ?_));exact z.h)):@SI P σ A o l k:=Ej ig hc hg hd hs hG iw gH (kk F ⟨h⟩)
theorem cOs{A:J5}{l:Kc}{d:Nat}(hs:QX P f true rows res)(h:p)(ig:o.o.op= .call c:=by exact rfl)(hc:c.callee= .value (.func f):=by exact rfl)(hg:o.o.guard=none:=by exact rfl)(hd:o.o.dst=some d:=by exact rfl)(hG:(XK P σ c.args.toList c.argTypes.toList).2=some rows:=by simp)(iw:(XK P σ c.args.toList c.argTypes.toList).1:=by simp)(gH:Yh P σ c.args.toList c.argTypes.toList=true\/Jv true res:=by simp)(hf:σ.fresh d=true:=by simp)(kk:Bx p->@EI P (σ.new d (WM d res) (xj res.flatten)) A l k:=by exact zCd):@SI P σ A o l k:=rj ig hc hg hd hs hG iw gH hf (kk ⟨h⟩)
theorem cDg{A:J5}{l:Kc}{d:Nat}(qs:List Bool)(hs:YN P f rows res)(h:p)(ig:o.o.op= .call c:=by exact rfl)(hc:c.callee= .value (.func f):=by exact rfl)(hg:o.o.guard=none:=by exact rfl)(hd:o.o.dst=some d:=by exact rfl)(hG:(XK P σ c.args.toList c.argTypes.toList).2=some rows:=by simp)(iw:(XK P σ c.args.toList c.argTypes.toList).1:=by simp)(hq:xJ qs res.flatten:=by simp[-Bool.exists_bool,-Bool.forall_bool])(hf:σ.fresh d=true:=by simp)(kk:Bx p->@EI P (σ.new d (WM d res) (YZ qs res.flatten)) A l k:=by exact zCg):@SI P σ A o l k:=wk qs ig hc hg hd hs hG iw hq hf (kk ⟨h⟩)
theorem cDs{A:J5}{l:Kc}{d:Nat}(qs:List Bool)(hs:YN P f rows res)(h:p)(ig:o.o.op= .call c:=by exact rfl)(hc:c.callee= .value (.func f):=by exact rfl)(hg:o.o.guard=none:=by exact rfl)(hd:o.o.dst=some d:=by exact rfl)(hG:(XK P σ c.args.toList c.argTypes.toList).2=some rows:=by simp)(iw:(XK P σ c.args.toList c.argTypes.toList).1:=by simp)(hq:xJ qs res.flatten:=by simp[-Bool.exists_bool,-Bool.forall_bool])(hf:σ.fresh d=true:=by simp)(kk:Bx p->@EI P (σ.new d (WM d res) (YZ qs res.flatten)) A l k:=by exact zCd):@SI P σ A o l k:=wk qs ig hc hg hd hs hG iw hq hf (kk ⟨h⟩)
theorem cDf{A:J5}{l:Kc}{d:Nat}(F:q)(qs:List Bool)(hs:YN P f rows res)(h:p)(ig:o.o.op= .call c:=by exact rfl)(hc:c.callee= .value (.func f):=by exact rfl)(hg:o.o.guard=none:=by exact rfl)(hd:o.o.dst=some d:=by exact rfl)(hG:(XK P σ c.args.toList c.argTypes.toList).2=some rows:=by simp)(iw:(XK P σ c.args.toList c.argTypes.toList).1:=by simp)(hq:xJ qs res.flatten:=by simp[-Bool.exists_bool,-Bool.forall_bool])(hf:σ.fresh d=true:=by simp)(kk:q->Bx p->@EI P (σ.new d (WM d res) (YZ qs res.flatten)) A l k:=by(intro F z;simp[F,Go.Vm.ZB];(repeat(with_reducible refine Go.Mo.sd ?_));exact z.h)):@SI P σ A o l k:=wk qs ig hc hg hd hs hG iw hq hf (kk F ⟨h⟩)
theorem cGo{j dj:Nat}{want own:Bool}{res:List D}(hs:g=true->QX P f own rows [res])(h:@EI P (σ.put d (.cnd g (qG [res]))) A l k)(ig:o.o.op= .call c:=by exact rfl)(hc:c.callee= .value (.func f):=by exact rfl)(hg:o.o.guard=some (j,want):=by exact rfl)(hd:o.o.dst=some d:=by exact rfl)(fh:(A.ops[j]?).bind (·.dst)=some dj:=by exact rfl)(fr:jf want (σ.get dj)=some g:=by exact rfl)(hG:(XK P σ c.args.toList c.argTypes.toList).2=some rows:=by first|(simp;done)|(simp[G];done)|(simp[G];omega)|(simp_all;done))(hD:dj<σ.length:=by first|(simp;done)|(simp[G];done)|(simp[G];omega)|(simp_all;done))(iw:g=true->(XK P σ c.args.toList c.argTypes.toList).1:=by first|(simp;done)|(simp[G];done)|(simp[G];omega)|(simp_all;done))(gH:Yh P σ c.args.toList c.argTypes.toList=true\/Jv own [res]:=by first|(simp;done)|(simp[G];done)|(simp[G];omega)|(simp_all;done)):@SI P σ A o l k:=E3 ig hc hg hd fh fr hs hG hD iw gH h
theorem cGg{A:J5}{l:Kc}{d:Nat}{j dj:Nat}{want own:Bool}{res:List D}(hs:g=true->QX P f own rows [res])(h:p)(ig:o.o.op= .call c:=by exact rfl)(hc:c.callee= .value (.func f):=by exact rfl)(hg:o.o.guard=some (j,want):=by exact rfl)(hd:o.o.dst=some d:=by exact rfl)(fh:(A.ops[j]?).bind (·.dst)=some dj:=by exact rfl)(fr:jf want (σ.get dj)=some g:=by exact rfl)(hG:(XK P σ c.args.toList c.argTypes.toList).2=some rows:=by first|(simp;done)|(simp[G];done)|(simp[G];omega)|(simp_all;done))(hD:dj<σ.length:=by first|(simp;done)|(simp[G];done)|(simp[G];omega)|(simp_all;done))(iw:g=true->(XK P σ c.args.toList c.argTypes.toList).1:=by first|(simp;done)|(simp[G];done)|(simp[G];omega)|(simp_all;done))(gH:Yh P σ c.args.toList c.argTypes.toList=true\/Jv own [res]:=by first|(simp;done)|(simp[G];done)|(simp[G];omega)|(simp_all;done))(kk:Bx p->@EI P (σ.put d (.cnd g (qG [res]))) A l k:=by exact zCg):@SI P σ A o l k:=E3 ig hc hg hd fh fr hs hG hD iw gH (kk ⟨h⟩)
theorem cGs{A:J5}{l:Kc}{d:Nat}{j dj:Nat}{want own:Bool}{res:List D}(hs:g=true->QX P f own rows [res])(h:p)(ig:o.o.op= .call c:=by exact rfl)(hc:c.callee= .value (.func f):=by exact rfl)(hg:o.o.guard=some (j,want):=by exact rfl)(hd:o.o.dst=some d:=by exact rfl)(fh:(A.ops[j]?).bind (·.dst)=some dj:=by exact rfl)(fr:jf want (σ.get dj)=some g:=by exact rfl)(hG:(XK P σ c.args.toList c.argTypes.toList).2=some rows:=by simp)(hD:dj<σ.length:=by simp)(iw:g=true->(XK P σ c.args.toList c.argTypes.toList).1:=by simp)(gH:Yh P σ c.args.toList c.argTypes.toList=true\/Jv own [res]:=by simp)(kk:Bx p->@EI P (σ.put d (.cnd g (qG [res]))) A l k:=by exact zCd):@SI P σ A o l k:=E3 ig hc hg hd fh fr hs hG hD iw gH (kk ⟨h⟩)
theorem cBo{x0:Operand}{xs:List Operand}{t0:TypeId}{ts:List TypeId}{row:List D}(qs:List Bool)(hs:z8 P f dp row hP iu res)(h:@EI P (uP dp (σ.Z0 t 0 (.box (iu.map .d))) d res qs) A l k)(ig:o.o.op= .call cl:=by exact rfl)(hc:cl.callee= .value (.func f):=by exact rfl)(cM:o.o.guard=none:=by exact rfl)(hd:o.o.dst=some d:=by exact rfl)(gP:A.bar o.o=true:=by exact rfl)(ha:cl.args.toList=x0::xs:=by exact rfl)(dC:cl.argTypes.toList=t0::ts:=by exact rfl)(hx:gOf (look P σ t0 x0)=true/\unc (look P σ t0 x0)= .one (.bptr t 0):=by exact⟨rfl,rfl⟩)(ho:σ.ob t 0= .box (row.map .d):=by simp)(iw:(XK P σ xs ts).1:=by simp)(hG:(XK P σ xs ts).2=some hP:=by simp)(gH:Yh P σ xs ts=true:=by simp)(gj:dp=true->(σ.Z0 t 0 (.box (iu.map .d))).fresh d=true/\xJ qs res.flatten:=by simp[-Bool.exists_bool,-Bool.forall_bool]):@SI P σ A o l k:=o7 qs ig hc cM hd gP ha dC hs hx ho iw hG gH gj h
theorem cBs{A:J5}{l:Kc}{d:Nat}{x0:Operand}{xs:List Operand}{t0:TypeId}{ts:List TypeId}{row:List D}{t:Nat}(qs:List Bool)(hs:z8 P f dp row hP iu res)(h:p)(ig:o.o.op= .call cl:=by exact rfl)(hc:cl.callee= .value (.func f):=by exact rfl)(cM:o.o.guard=none:=by exact rfl)(hd:o.o.dst=some d:=by exact rfl)(gP:A.bar o.o=true:=by exact rfl)(ha:cl.args.toList=x0::xs:=by exact rfl)(dC:cl.argTypes.toList=t0::ts:=by exact rfl)(hx:gOf (look P σ t0 x0)=true/\unc (look P σ t0 x0)= .one (.bptr t 0):=by exact⟨rfl,rfl⟩)(ho:σ.ob t 0= .box (row.map .d):=by simp)(iw:(XK P σ xs ts).1:=by simp)(hG:(XK P σ xs ts).2=some hP:=by simp)(gH:Yh P σ xs ts=true:=by simp)(gj:dp=true->(σ.Z0 t 0 (.box (iu.map .d))).fresh d=true/\xJ qs res.flatten:=by simp[-Bool.exists_bool,-Bool.forall_bool])(kk:Bx p->@EI P (uP dp (σ.Z0 t 0 (.box (iu.map .d))) d res qs) A l k:=by exact zCd):@SI P σ A o l k:=o7 qs ig hc cM hd gP ha dC hs hx ho iw hG gH gj (kk ⟨h⟩)
theorem cNs{A:J5}{l:Kc}{d:Nat}(hs:H0 P f hP iu)(h:p)(ig:o.o.op= .call cl:=by exact rfl)(hc:cl.callee= .value (.func f):=by exact rfl)(cM:o.o.guard=none:=by exact rfl)(hd:o.o.dst=some d:=by exact rfl)(gP:A.bar o.o=true:=by exact rfl)(iw:(XK P σ cl.args.toList cl.argTypes.toList).1:=by simp)(hG:(XK P σ cl.args.toList cl.argTypes.toList).2=some hP:=by simp)(gH:Yh P σ cl.args.toList cl.argTypes.toList=true:=by simp)(gj:σ.fresh d=true:=by simp)(dn:KF P o.o=false:=by exact rfl)(kk:Bx p->@EI P (σ.new d (.one (.bptr d 0)) [.box (iu.map .d)]) A l k:=by exact zCd):@SI P σ A o l k:=mX ig hc cM hd gP hs iw hG gH gj (kk ⟨h⟩) dn
theorem dIo{id:Nat}{l:List Oper}{br:Oper->Bool}(hm:P.follows .mixedOrders=true)(h:@EI P σ ⟨⟨l⟩,fun _=>false⟩ ⟨l⟩ k)(hdr:Ih P ⟨l⟩ (fun i=>i) (fun _=>false)=true:=by kernel_rfl)(gM:xS ⟨l⟩ (fun i=>i) σ=true:=by kernel_rfl):@DI P id σ ⟨⟨l⟩,br⟩ k:=rT hm hdr gM h
theorem dIg{id:Nat}{l:List Oper}{br:Oper->Bool}(hm:P.follows .mixedOrders=true)(h:p)(hdr:Ih P ⟨l⟩ (fun i=>i) (fun _=>false)=true:=by kernel_rfl)(gM:xS ⟨l⟩ (fun i=>i) σ=true:=by kernel_rfl)(kk:Bx p->@EI P σ ⟨⟨l⟩,fun _=>false⟩ ⟨l⟩ k:=by exact zCg):@DI P id σ ⟨⟨l⟩,br⟩ k:=rT hm hdr gM (kk ⟨h⟩)
theorem dIs{id:Nat}{l:List Oper}{br:Oper->Bool}(hm:P.follows .mixedOrders=true)(h:p)(hdr:Ih P ⟨l⟩ (fun i=>i) (fun _=>false)=true:=by kernel_rfl)(gM:xS ⟨l⟩ (fun i=>i) σ=true:=by kernel_rfl)(kk:Bx p->@EI P σ ⟨⟨l⟩,fun _=>false⟩ ⟨l⟩ k:=by(intro z;(try simp);(repeat(with_reducible refine Go.Mo.sd ?_));exact z.h)):@DI P id σ ⟨⟨l⟩,br⟩ k:=rT hm hdr gM (kk ⟨h⟩)
theorem eIs{A:J5}{l:Kc}{d:Nat}(h:p)(hp:wu o.o=true:=by exact rfl)(hg:o.o.guard=none:=by exact rfl)(hd:o.o.dst=some d:=by exact rfl)(kk:Bx p->(evS P σ o.o d).1/\@EI P (evS P σ o.o d).2 A l k:=by exact zCd):@SI P σ A o l k:=evI hp hg hd (kk ⟨h⟩)
theorem sGo{dj:Nat}{g:Bool}(h:@EI P (σ.put d (.cnd false .any)) A l k)(hg:o.o.guard=some (j,want):=by exact rfl)(hd:o.o.dst=some d:=by exact rfl)(fh:(A.ops[j]?).bind (·.dst)=some dj:=by exact rfl)(fr:jf want (σ.get dj)=some g:=by exact rfl)(hD:dj<σ.length:=by simp)(hgf:g=false:=by simp[G]):@SI P σ A o l k:=nJ hg hd fh fr hD hgf h
theorem sGg{A:J5}{l:Kc}{dj d:Nat}{g:Bool}(h:p)(hg:o.o.guard=some (j,want):=by exact rfl)(hd:o.o.dst=some d:=by exact rfl)(fh:(A.ops[j]?).bind (·.dst)=some dj:=by exact rfl)(fr:jf want (σ.get dj)=some g:=by exact rfl)(hD:dj<σ.length:=by simp)(hgf:g=false:=by simp[G])(kk:Bx p->@EI P (σ.put d (.cnd false .any)) A l k:=by exact zCg):@SI P σ A o l k:=nJ hg hd fh fr hD hgf (kk ⟨h⟩)
theorem gIf{j dj:Nat}{want g:Bool}(ht:r1->((evV P σ o.o.op o.o.type).1/\gOf (evV P σ o.o.op o.o.type).2=true/\(unc (evV P σ o.o.op o.o.type).2).flat=true)/\@EI P (σ.put d (.cnd true (unc (evV P σ o.o.op o.o.type).2))) A l k)(hf:r2->q)(ig:Hv o.o.op=false:=by exact rfl)(hg:o.o.guard=some (j,want):=by exact rfl)(hd:o.o.dst=some d:=by exact rfl)(fh:(A.ops[j]?).bind (·.dst)=some dj:=by exact rfl)(fr:jf want (σ.get dj)=some g:=by exact rfl)(hD:dj<σ.length:=by simp)(k1:g=true->r1:=by exact zCf)(k2:g=false->r2:=by exact zCf)(kf:r2->Bx q->@EI P (σ.put d (.cnd false .any)) A l k:=by(intro G z;simp[G,Go.Vm.ZB];(repeat(with_reducible refine Go.Mo.sdg ?_));exact z.h)):@SI P σ A o l k:=DW ig hg hd fh fr hD (fun h=>ht (k1 h)) (fun h=>(fun G=>kf G ⟨hf G⟩) (k2 h))
theorem gIo{j dj:Nat}{want g:Bool}(ht:r1->((evV P σ o.o.op o.o.type).1/\gOf (evV P σ o.o.op o.o.type).2=true/\(unc (evV P σ o.o.op o.o.type).2).flat=true)/\@EI P (σ.put d (.cnd true (unc (evV P σ o.o.op o.o.type).2))) A l k)(hf:r2->@EI P (σ.put d (.cnd false .any)) A l k)(ig:Hv o.o.op=false:=by exact rfl)(hg:o.o.guard=some (j,want):=by exact rfl)(hd:o.o.dst=some d:=by exact rfl)(fh:(A.ops[j]?).bind (·.dst)=some dj:=by exact rfl)(fr:jf want (σ.get dj)=some g:=by exact rfl)(hD:dj<σ.length:=by simp)(k1:g=true->r1:=by exact zCf)(k2:g=false->r2:=by exact zCf):@SI P σ A o l k:=DW ig hg hd fh fr hD (fun h=>ht (k1 h)) (fun h=>hf (k2 h))
theorem gJf{j dj:Nat}{want g:Bool}(G:s)(ht:s/\r1->((evV P σ o.o.op o.o.type).1/\gOf (evV P σ o.o.op o.o.type).2=true/\(unc (evV P σ o.o.op o.o.type).2).flat=true)/\@EI P (σ.put d (.cnd true (unc (evV P σ o.o.op o.o.type).2))) A l k)(hf:s/\r2->q)(ig:Hv o.o.op=false:=by exact rfl)(hg:o.o.guard=some (j,want):=by exact rfl)(hd:o.o.dst=some d:=by exact rfl)(fh:(A.ops[j]?).bind (·.dst)=some dj:=by exact rfl)(fr:jf want (σ.get dj)=some g:=by exact rfl)(hD:dj<σ.length:=by simp)(k1:g=true->r1:=by exact zCf)(k2:g=false->r2:=by exact zCf)(kf:s/\r2->Bx q->@EI P (σ.put d (.cnd false .any)) A l k:=by(intro G z;simp[G,Go.Vm.ZB];(repeat(with_reducible refine Go.Mo.sdg ?_));exact z.h)):@SI P σ A o l k:=DW ig hg hd fh fr hD (fun h=>ht ⟨G,k1 h⟩) (fun h=>(fun G=>kf G ⟨hf G⟩) ⟨G,k2 h⟩)
theorem gJo{j dj:Nat}{want g:Bool}(G:s)(ht:s/\r1->((evV P σ o.o.op o.o.type).1/\gOf (evV P σ o.o.op o.o.type).2=true/\(unc (evV P σ o.o.op o.o.type).2).flat=true)/\@EI P (σ.put d (.cnd true (unc (evV P σ o.o.op o.o.type).2))) A l k)(hf:s/\r2->@EI P (σ.put d (.cnd false .any)) A l k)(ig:Hv o.o.op=false:=by exact rfl)(hg:o.o.guard=some (j,want):=by exact rfl)(hd:o.o.dst=some d:=by exact rfl)(fh:(A.ops[j]?).bind (·.dst)=some dj:=by exact rfl)(fr:jf want (σ.get dj)=some g:=by exact rfl)(hD:dj<σ.length:=by simp)(k1:g=true->r1:=by exact zCf)(k2:g=false->r2:=by exact zCf):@SI P σ A o l k:=DW ig hg hd fh fr hD (fun h=>ht ⟨G,k1 h⟩) (fun h=>hf ⟨G,k2 h⟩)
theorem gK{j dj:Nat}{want g:Bool}(ht:r1->((evV P σ o.o.op o.o.type).1/\gOf (evV P σ o.o.op o.o.type).2=true/\(unc (evV P σ o.o.op o.o.type).2).flat=true)/\@EI P (σ.put d (.cnd true (unc (evV P σ o.o.op o.o.type).2))) A l k)(ig:Hv o.o.op=false:=by exact rfl)(hg:o.o.guard=some (j,want):=by exact rfl)(hd:o.o.dst=some d:=by exact rfl)(fh:(A.ops[j]?).bind (·.dst)=some dj:=by exact rfl)(fr:jf want (σ.get dj)=some g:=by exact rfl)(hD:dj<σ.length:=by simp)(k1:g=true->r1:=by exact zCf)(k2:g=false->False:=by first|(intro g0;simp at g0;done)|(intro g0;simp[G]at g0;done)):@SI P σ A o l k:=DW ig hg hd fh fr hD (fun h=>ht (k1 h)) (fun h=>(k2 h).elim)
theorem rt{α:Type}{x y:α}{res:List (List D)}(rv:List ResultVar)(f:Me x y)(hf:fn.results=rv.toArray:=by exact rfl)(h:x=y->(Jm P σ rv).1/\VX σ (Jm P σ rv).2=some res:=by(intro f;simp[f])):vy P fn false res .ret σ:=nN hf (h f.h)
theorem rtg{α:Type}{x y:α}{res:List (List D)}(rv:List ResultVar)(f:Me x y)(hf:fn.results=rv.toArray:=by exact rfl)(h:x=y->(Jm P σ rv).1/\VX σ (Jm P σ rv).2=some res:=by(intro f;simp[f,G])):vy P fn false res .ret σ:=nN hf (h f.h)
theorem rtO{α:Type}{x y:α}{res:List (List D)}(rv:List ResultVar)(f:Me x y)(hf:fn.results=rv.toArray:=by exact rfl)(h:x=y->(Jm P σ rv).1/\RH σ (Jm P σ rv).2=some res/\(XC (Jm P σ rv).2.flatten).Nodup:=by(intro f;simp[f])):vy P fn true res .ret σ:=nc hf (h f.h)
theorem rtD{α:Type}{x y:α}{res:List (List D)}(rv:List ResultVar)(f:Me x y)(hf:fn.results=rv.toArray:=by exact rfl)(h:x=y->(Jm P σ rv).1/\KT σ (Jm P σ rv).2=some res/\Jc σ (Jm P σ rv).2/\(XC (Jm P σ rv).2.flatten).Nodup:=by(intro f;simp[f,-Bool.exists_bool,-Bool.forall_bool])):rK P fn res .ret σ:=EY hf (h f.h)
theorem yA{α:Type}{x y:α}{res:List (List D)}(rv:List ResultVar)(f:Me x y)(hf:fn.results=rv.toArray:=by exact rfl)(h:x=y->(Jm P σ rv).1/\KT σ (Jm P σ rv).2=some res/\Jc σ (Jm P σ rv).2/\(XC (Jm P σ rv).2.flatten).Nodup:=by(intro f;simp[f,G,-Bool.exists_bool,-Bool.forall_bool])):rK P fn res .ret σ:=EY hf (h f.h)
class NxI where
 p:St->Prop
def Nx(σ:St)[n:NxI]:Prop:=n.p σ
theorem N2{c:yI}{n n':St->Prop}(hn:∀σ',n σ'->n' σ')(h:@WI P σ c (.nxt n k)):AWP P c.c (Fr.run P (.nxt n' k)) σ:=
 uS (fun e σ' hq=>by cases e<;>first|exact hn _ hq|exact hq) (Ul h)
abbrev Q1{R:Type}{A0:Type}(L:Nat->A0->R)(S:A0->St)(I:Nat->A0->Prop)(t:R)(b:Nat):NxI:=⟨fun τ=>∃a0,Me t (L b a0)/\(1<=b/\I b a0)/\Wk τ (S a0)⟩
theorem nx1{R:Type}{A0:Type}{L:Nat->A0->R}{S:A0->St}{I:Nat->A0->Prop}{t:R}{a0:A0}(e:Me t (L b a0))(hI:1<=b/\I b a0:=by exact zCe)(hw:Wk σ (S a0):=by exact Qs zAE):@Nx σ (Q1 L S I t b):=⟨a0,e,hI,hw⟩
theorem ny1{R:Type}{A0:Type}{L:Nat->A0->R}{S:A0->St}{I:Nat->A0->Prop}{t:R}{a0:A0}(F:q)(e:Me t (L b a0))(hI:1<=b/\I b a0:=by exact zCe)(kw:q->Wk σ (S a0):=by exact zCh):@Nx σ (Q1 L S I t b):=⟨a0,e,hI,kw F⟩
theorem lp1{c:yI}{R:Type}{A0:Type}{L B:Nat->A0->R}(hL:∀(a0:A0)(n:Nat),L (Nat.succ n) a0=B n a0)(S:A0->St)(I:Nat->A0->Prop)(n0:Nat)(b0:A0){p:Nat->A0->Prop}
  (round:∀n (a0:A0),Me (L n0 b0) (B n a0)->1<=n+1/\I (n+1) a0->p n a0) (hI:1<=n0/\I n0 b0:=by first|omega|(dsimp only;omega)|simp) (h0:Wk σ (S b0):=by exact Qs zAE) (kk:∀n (a0:A0),Bx (p n a0)->@WI P (S a0) c (.nxt (fun σ'=>@Nx σ' (Q1 L S I (L n0 b0) n)) k):=by(intro n_ a0_ z;simp;(repeat(with_reducible refine Go.Mo.sd ?_));exact z.h)):@Ph P σ c k:=by
 refine Wi (ι:={s:Nat×A0//Me (L n0 b0) (L s.1 s.2)/\(1<=s.1/\I s.1 s.2)}) (fun s=>S s.1.2) (fun s=>s.1.1) ⟨(n0,b0),⟨rfl⟩,hI⟩ h0 ?_;rintro⟨⟨n1,a0⟩,e,j⟩;obtain⟨n,rfl⟩:∃q,n1=q+1:=⟨n1-1,by have:=j.1;(try dsimp only at this);omega⟩;refine N2 (fun σ' hn=>?_) (kk n a0 ⟨round n a0 ⟨by have:=e.h;(try dsimp only at this);rw[this,hL]⟩ j⟩);obtain⟨c0,e2,j2,w2⟩:=hn;exact⟨⟨(n,c0),e2,j2⟩,Nat.lt_succ_self n,w2⟩
abbrev Q2{R:Type}{A0 A1:Type}(L:Nat->A0->A1->R)(S:A0->A1->St)(I:Nat->A0->A1->Prop)(t:R)(b:Nat):NxI:=⟨fun τ=>∃a0 a1,Me t (L b a0 a1)/\(1<=b/\I b a0 a1)/\Wk τ (S a0 a1)⟩
theorem nx2{R:Type}{A0 A1:Type}{L:Nat->A0->A1->R}{S:A0->A1->St}{I:Nat->A0->A1->Prop}{t:R}{a0:A0}{a1:A1}(e:Me t (L b a0 a1))(hI:1<=b/\I b a0 a1:=by exact zCe)(hw:Wk σ (S a0 a1):=by exact Qs zAE):@Nx σ (Q2 L S I t b):=⟨a0,a1,e,hI,hw⟩
theorem ny2{R:Type}{A0 A1:Type}{L:Nat->A0->A1->R}{S:A0->A1->St}{I:Nat->A0->A1->Prop}{t:R}{a0:A0}{a1:A1}(F:q)(e:Me t (L b a0 a1))(hI:1<=b/\I b a0 a1:=by exact zCe)(kw:q->Wk σ (S a0 a1):=by exact zCh):@Nx σ (Q2 L S I t b):=⟨a0,a1,e,hI,kw F⟩
theorem lp2{c:yI}{R:Type}{A0 A1:Type}{L B:Nat->A0->A1->R}(hL:∀(a0:A0)(a1:A1)(n:Nat),L (Nat.succ n) a0 a1=B n a0 a1)(S:A0->A1->St)(I:Nat->A0->A1->Prop)(n0:Nat)(b0:A0)(b1:A1){p:Nat->A0->A1->Prop}
  (round:∀n (a0:A0)(a1:A1),Me (L n0 b0 b1) (B n a0 a1)->1<=n+1/\I (n+1) a0 a1->p n a0 a1) (hI:1<=n0/\I n0 b0 b1:=by first|omega|(dsimp only;omega)|simp) (h0:Wk σ (S b0 b1):=by exact Qs zAE) (kk:∀n (a0:A0)(a1:A1),Bx (p n a0 a1)->@WI P (S a0 a1) c (.nxt (fun σ'=>@Nx σ' (Q2 L S I (L n0 b0 b1) n)) k):=by(intro n_ a0_ a1_ z;simp;(repeat(with_reducible refine Go.Mo.sd ?_));exact z.h)):@Ph P σ c k:=by
 refine Wi (ι:={s:Nat×A0×A1//Me (L n0 b0 b1) (L s.1 s.2.1 s.2.2)/\(1<=s.1/\I s.1 s.2.1 s.2.2)}) (fun s=>S s.1.2.1 s.1.2.2) (fun s=>s.1.1) ⟨(n0,b0,b1),⟨rfl⟩,hI⟩ h0 ?_;rintro⟨⟨n1,a0,a1⟩,e,j⟩;obtain⟨n,rfl⟩:∃q,n1=q+1:=⟨n1-1,by have:=j.1;(try dsimp only at this);omega⟩;refine N2 (fun σ' hn=>?_) (kk n a0 a1 ⟨round n a0 a1 ⟨by have:=e.h;(try dsimp only at this);rw[this,hL]⟩ j⟩);obtain⟨c0,c1,e2,j2,w2⟩:=hn;exact⟨⟨(n,c0,c1),e2,j2⟩,Nat.lt_succ_self n,w2⟩
abbrev Q3{R:Type}{A0 A1 A2:Type}(L:Nat->A0->A1->A2->R)(S:A0->A1->A2->St)(I:Nat->A0->A1->A2->Prop)(t:R)(b:Nat):NxI:=⟨fun τ=>∃a0 a1 a2,Me t (L b a0 a1 a2)/\(1<=b/\I b a0 a1 a2)/\Wk τ (S a0 a1 a2)⟩
theorem nx3{R:Type}{A0 A1 A2:Type}{L:Nat->A0->A1->A2->R}{S:A0->A1->A2->St}{I:Nat->A0->A1->A2->Prop}{t:R}{a0:A0}{a1:A1}{a2:A2}(e:Me t (L b a0 a1 a2))(hI:1<=b/\I b a0 a1 a2:=by exact zCe)(hw:Wk σ (S a0 a1 a2):=by exact Qs zAE):@Nx σ (Q3 L S I t b):=⟨a0,a1,a2,e,hI,hw⟩
theorem ny3{R:Type}{A0 A1 A2:Type}{L:Nat->A0->A1->A2->R}{S:A0->A1->A2->St}{I:Nat->A0->A1->A2->Prop}{t:R}{a0:A0}{a1:A1}{a2:A2}(F:q)(e:Me t (L b a0 a1 a2))(hI:1<=b/\I b a0 a1 a2:=by exact zCe)(kw:q->Wk σ (S a0 a1 a2):=by exact zCh):@Nx σ (Q3 L S I t b):=⟨a0,a1,a2,e,hI,kw F⟩
theorem lp3{c:yI}{R:Type}{A0 A1 A2:Type}{L B:Nat->A0->A1->A2->R}(hL:∀(a0:A0)(a1:A1)(a2:A2)(n:Nat),L (Nat.succ n) a0 a1 a2=B n a0 a1 a2)(S:A0->A1->A2->St)(I:Nat->A0->A1->A2->Prop)(n0:Nat)(b0:A0)(b1:A1)(b2:A2){p:Nat->A0->A1->A2->Prop}
  (round:∀n (a0:A0)(a1:A1)(a2:A2),Me (L n0 b0 b1 b2) (B n a0 a1 a2)->1<=n+1/\I (n+1) a0 a1 a2->p n a0 a1 a2) (hI:1<=n0/\I n0 b0 b1 b2:=by first|omega|(dsimp only;omega)|simp) (h0:Wk σ (S b0 b1 b2):=by exact Qs zAE) (kk:∀n (a0:A0)(a1:A1)(a2:A2),Bx (p n a0 a1 a2)->@WI P (S a0 a1 a2) c (.nxt (fun σ'=>@Nx σ' (Q3 L S I (L n0 b0 b1 b2) n)) k):=by(intro n_ a0_ a1_ a2_ z;simp;(repeat(with_reducible refine Go.Mo.sd ?_));exact z.h)):@Ph P σ c k:=by
 refine Wi (ι:={s:Nat×A0×A1×A2//Me (L n0 b0 b1 b2) (L s.1 s.2.1 s.2.2.1 s.2.2.2)/\(1<=s.1/\I s.1 s.2.1 s.2.2.1 s.2.2.2)}) (fun s=>S s.1.2.1 s.1.2.2.1 s.1.2.2.2) (fun s=>s.1.1) ⟨(n0,b0,b1,b2),⟨rfl⟩,hI⟩ h0 ?_;rintro⟨⟨n1,a0,a1,a2⟩,e,j⟩;obtain⟨n,rfl⟩:∃q,n1=q+1:=⟨n1-1,by have:=j.1;(try dsimp only at this);omega⟩;refine N2 (fun σ' hn=>?_) (kk n a0 a1 a2 ⟨round n a0 a1 a2 ⟨by have:=e.h;(try dsimp only at this);rw[this,hL]⟩ j⟩);obtain⟨c0,c1,c2,e2,j2,w2⟩:=hn;exact⟨⟨(n,c0,c1,c2),e2,j2⟩,Nat.lt_succ_self n,w2⟩
abbrev Q4{R:Type}{A0 A1 A2 A3:Type}(L:Nat->A0->A1->A2->A3->R)(S:A0->A1->A2->A3->St)(I:Nat->A0->A1->A2->A3->Prop)(t:R)(b:Nat):NxI:=⟨fun τ=>∃a0 a1 a2 a3,Me t (L b a0 a1 a2 a3)/\(1<=b/\I b a0 a1 a2 a3)/\Wk τ (S a0 a1 a2 a3)⟩
theorem nx4{R:Type}{A0 A1 A2 A3:Type}{L:Nat->A0->A1->A2->A3->R}{S:A0->A1->A2->A3->St}{I:Nat->A0->A1->A2->A3->Prop}{t:R}{a0:A0}{a1:A1}{a2:A2}{a3:A3}(e:Me t (L b a0 a1 a2 a3))(hI:1<=b/\I b a0 a1 a2 a3:=by exact zCe)(hw:Wk σ (S a0 a1 a2 a3):=by exact Qs zAE):@Nx σ (Q4 L S I t b):=⟨a0,a1,a2,a3,e,hI,hw⟩
theorem ny4{R:Type}{A0 A1 A2 A3:Type}{L:Nat->A0->A1->A2->A3->R}{S:A0->A1->A2->A3->St}{I:Nat->A0->A1->A2->A3->Prop}{t:R}{a0:A0}{a1:A1}{a2:A2}{a3:A3}(F:q)(e:Me t (L b a0 a1 a2 a3))(hI:1<=b/\I b a0 a1 a2 a3:=by exact zCe)(kw:q->Wk σ (S a0 a1 a2 a3):=by exact zCh):@Nx σ (Q4 L S I t b):=⟨a0,a1,a2,a3,e,hI,kw F⟩
theorem lp4{c:yI}{R:Type}{A0 A1 A2 A3:Type}{L B:Nat->A0->A1->A2->A3->R}(hL:∀(a0:A0)(a1:A1)(a2:A2)(a3:A3)(n:Nat),L (Nat.succ n) a0 a1 a2 a3=B n a0 a1 a2 a3)(S:A0->A1->A2->A3->St)(I:Nat->A0->A1->A2->A3->Prop)(n0:Nat)(b0:A0)(b1:A1)(b2:A2)(b3:A3){p:Nat->A0->A1->A2->A3->Prop}
  (round:∀n (a0:A0)(a1:A1)(a2:A2)(a3:A3),Me (L n0 b0 b1 b2 b3) (B n a0 a1 a2 a3)->1<=n+1/\I (n+1) a0 a1 a2 a3->p n a0 a1 a2 a3) (hI:1<=n0/\I n0 b0 b1 b2 b3:=by first|omega|(dsimp only;omega)|simp) (h0:Wk σ (S b0 b1 b2 b3):=by exact Qs zAE) (kk:∀n (a0:A0)(a1:A1)(a2:A2)(a3:A3),Bx (p n a0 a1 a2 a3)->@WI P (S a0 a1 a2 a3) c (.nxt (fun σ'=>@Nx σ' (Q4 L S I (L n0 b0 b1 b2 b3) n)) k):=by(intro n_ a0_ a1_ a2_ a3_ z;simp;(repeat(with_reducible refine Go.Mo.sd ?_));exact z.h)):@Ph P σ c k:=by
 refine Wi (ι:={s:Nat×A0×A1×A2×A3//Me (L n0 b0 b1 b2 b3) (L s.1 s.2.1 s.2.2.1 s.2.2.2.1 s.2.2.2.2)/\(1<=s.1/\I s.1 s.2.1 s.2.2.1 s.2.2.2.1 s.2.2.2.2)}) (fun s=>S s.1.2.1 s.1.2.2.1 s.1.2.2.2.1 s.1.2.2.2.2) (fun s=>s.1.1) ⟨(n0,b0,b1,b2,b3),⟨rfl⟩,hI⟩ h0 ?_;rintro⟨⟨n1,a0,a1,a2,a3⟩,e,j⟩;obtain⟨n,rfl⟩:∃q,n1=q+1:=⟨n1-1,by have:=j.1;(try dsimp only at this);omega⟩;refine N2 (fun σ' hn=>?_) (kk n a0 a1 a2 a3 ⟨round n a0 a1 a2 a3 ⟨by have:=e.h;(try dsimp only at this);rw[this,hL]⟩ j⟩);obtain⟨c0,c1,c2,c3,e2,j2,w2⟩:=hn;exact⟨⟨(n,c0,c1,c2,c3),e2,j2⟩,Nat.lt_succ_self n,w2⟩
abbrev Q5{R:Type}{A0 A1 A2 A3 A4:Type}(L:Nat->A0->A1->A2->A3->A4->R)(S:A0->A1->A2->A3->A4->St)(I:Nat->A0->A1->A2->A3->A4->Prop)(t:R)(b:Nat):NxI:=⟨fun τ=>∃a0 a1 a2 a3 a4,Me t (L b a0 a1 a2 a3 a4)/\(1<=b/\I b a0 a1 a2 a3 a4)/\Wk τ (S a0 a1 a2 a3 a4)⟩
theorem nx5{R:Type}{A0 A1 A2 A3 A4:Type}{L:Nat->A0->A1->A2->A3->A4->R}{S:A0->A1->A2->A3->A4->St}{I:Nat->A0->A1->A2->A3->A4->Prop}{t:R}{a0:A0}{a1:A1}{a2:A2}{a3:A3}{a4:A4}(e:Me t (L b a0 a1 a2 a3 a4))(hI:1<=b/\I b a0 a1 a2 a3 a4:=by exact zCe)(hw:Wk σ (S a0 a1 a2 a3 a4):=by exact Qs zAE):@Nx σ (Q5 L S I t b):=⟨a0,a1,a2,a3,a4,e,hI,hw⟩
theorem lp5{c:yI}{R:Type}{A0 A1 A2 A3 A4:Type}{L B:Nat->A0->A1->A2->A3->A4->R}(hL:∀(a0:A0)(a1:A1)(a2:A2)(a3:A3)(a4:A4)(n:Nat),L (Nat.succ n) a0 a1 a2 a3 a4=B n a0 a1 a2 a3 a4)(S:A0->A1->A2->A3->A4->St)(I:Nat->A0->A1->A2->A3->A4->Prop)(n0:Nat)(b0:A0)(b1:A1)(b2:A2)(b3:A3)(b4:A4){p:Nat->A0->A1->A2->A3->A4->Prop}
  (round:∀n (a0:A0)(a1:A1)(a2:A2)(a3:A3)(a4:A4),Me (L n0 b0 b1 b2 b3 b4) (B n a0 a1 a2 a3 a4)->1<=n+1/\I (n+1) a0 a1 a2 a3 a4->p n a0 a1 a2 a3 a4) (hI:1<=n0/\I n0 b0 b1 b2 b3 b4:=by first|omega|(dsimp only;omega)|simp) (h0:Wk σ (S b0 b1 b2 b3 b4):=by exact Qs zAE) (kk:∀n (a0:A0)(a1:A1)(a2:A2)(a3:A3)(a4:A4),Bx (p n a0 a1 a2 a3 a4)->@WI P (S a0 a1 a2 a3 a4) c (.nxt (fun σ'=>@Nx σ' (Q5 L S I (L n0 b0 b1 b2 b3 b4) n)) k):=by(intro n_ a0_ a1_ a2_ a3_ a4_ z;simp;(repeat(with_reducible refine Go.Mo.sd ?_));exact z.h)):@Ph P σ c k:=by
 refine Wi (ι:={s:Nat×A0×A1×A2×A3×A4//Me (L n0 b0 b1 b2 b3 b4) (L s.1 s.2.1 s.2.2.1 s.2.2.2.1 s.2.2.2.2.1 s.2.2.2.2.2)/\(1<=s.1/\I s.1 s.2.1 s.2.2.1 s.2.2.2.1 s.2.2.2.2.1 s.2.2.2.2.2)}) (fun s=>S s.1.2.1 s.1.2.2.1 s.1.2.2.2.1 s.1.2.2.2.2.1 s.1.2.2.2.2.2) (fun s=>s.1.1) ⟨(n0,b0,b1,b2,b3,b4),⟨rfl⟩,hI⟩ h0 ?_;rintro⟨⟨n1,a0,a1,a2,a3,a4⟩,e,j⟩;obtain⟨n,rfl⟩:∃q,n1=q+1:=⟨n1-1,by have:=j.1;(try dsimp only at this);omega⟩;refine N2 (fun σ' hn=>?_) (kk n a0 a1 a2 a3 a4 ⟨round n a0 a1 a2 a3 a4 ⟨by have:=e.h;(try dsimp only at this);rw[this,hL]⟩ j⟩);obtain⟨c0,c1,c2,c3,c4,e2,j2,w2⟩:=hn;exact⟨⟨(n,c0,c1,c2,c3,c4),e2,j2⟩,Nat.lt_succ_self n,w2⟩
abbrev Q9{R:Type}{A0 A1 A2 A3 A4 A5 A6 A7 A8:Type}(L:Nat->A0->A1->A2->A3->A4->A5->A6->A7->A8->R)(S:A0->A1->A2->A3->A4->A5->A6->A7->A8->St)(I:Nat->A0->A1->A2->A3->A4->A5->A6->A7->A8->Prop)(t:R)(b:Nat):NxI:=⟨fun τ=>∃a0 a1 a2 a3 a4 a5 a6 a7 a8,Me t (L b a0 a1 a2 a3 a4 a5 a6 a7 a8)/\(1<=b/\I b a0 a1 a2 a3 a4 a5 a6 a7 a8)/\Wk τ (S a0 a1 a2 a3 a4 a5 a6 a7 a8)⟩
theorem ny9{R:Type}{A0 A1 A2 A3 A4 A5 A6 A7 A8:Type}{L:Nat->A0->A1->A2->A3->A4->A5->A6->A7->A8->R}{S:A0->A1->A2->A3->A4->A5->A6->A7->A8->St}{I:Nat->A0->A1->A2->A3->A4->A5->A6->A7->A8->Prop}{t:R}{a0:A0}{a1:A1}{a2:A2}{a3:A3}{a4:A4}{a5:A5}{a6:A6}{a7:A7}{a8:A8}(F:q)(e:Me t (L b a0 a1 a2 a3 a4 a5 a6 a7 a8))(hI:1<=b/\I b a0 a1 a2 a3 a4 a5 a6 a7 a8:=by exact zCe)(kw:q->Wk σ (S a0 a1 a2 a3 a4 a5 a6 a7 a8):=by exact zCh):@Nx σ (Q9 L S I t b):=⟨a0,a1,a2,a3,a4,a5,a6,a7,a8,e,hI,kw F⟩
theorem lp9{c:yI}{R:Type}{A0 A1 A2 A3 A4 A5 A6 A7 A8:Type}{L B:Nat->A0->A1->A2->A3->A4->A5->A6->A7->A8->R}(hL:∀(a0:A0)(a1:A1)(a2:A2)(a3:A3)(a4:A4)(a5:A5)(a6:A6)(a7:A7)(a8:A8)(n:Nat),L (Nat.succ n) a0 a1 a2 a3 a4 a5 a6 a7 a8=B n a0 a1 a2 a3 a4 a5 a6 a7 a8)(S:A0->A1->A2->A3->A4->A5->A6->A7->A8->St)(I:Nat->A0->A1->A2->A3->A4->A5->A6->A7->A8->Prop)(n0:Nat)(b0:A0)(b1:A1)(b2:A2)(b3:A3)(b4:A4)(b5:A5)(b6:A6)(b7:A7)(b8:A8){p:Nat->A0->A1->A2->A3->A4->A5->A6->A7->A8->Prop}
  (round:∀n (a0:A0)(a1:A1)(a2:A2)(a3:A3)(a4:A4)(a5:A5)(a6:A6)(a7:A7)(a8:A8),Me (L n0 b0 b1 b2 b3 b4 b5 b6 b7 b8) (B n a0 a1 a2 a3 a4 a5 a6 a7 a8)->1<=n+1/\I (n+1) a0 a1 a2 a3 a4 a5 a6 a7 a8->p n a0 a1 a2 a3 a4 a5 a6 a7 a8) (hI:1<=n0/\I n0 b0 b1 b2 b3 b4 b5 b6 b7 b8:=by first|omega|(dsimp only;omega)|simp) (h0:Wk σ (S b0 b1 b2 b3 b4 b5 b6 b7 b8):=by exact Qs zAE) (kk:∀n (a0:A0)(a1:A1)(a2:A2)(a3:A3)(a4:A4)(a5:A5)(a6:A6)(a7:A7)(a8:A8),Bx (p n a0 a1 a2 a3 a4 a5 a6 a7 a8)->@WI P (S a0 a1 a2 a3 a4 a5 a6 a7 a8) c (.nxt (fun σ'=>@Nx σ' (Q9 L S I (L n0 b0 b1 b2 b3 b4 b5 b6 b7 b8) n)) k):=by(intro n_ a0_ a1_ a2_ a3_ a4_ a5_ a6_ a7_ a8_ z;simp;(repeat(with_reducible refine Go.Mo.sd ?_));exact z.h)):@Ph P σ c k:=by
 refine Wi (ι:={s:Nat×A0×A1×A2×A3×A4×A5×A6×A7×A8//Me (L n0 b0 b1 b2 b3 b4 b5 b6 b7 b8) (L s.1 s.2.1 s.2.2.1 s.2.2.2.1 s.2.2.2.2.1 s.2.2.2.2.2.1 s.2.2.2.2.2.2.1 s.2.2.2.2.2.2.2.1 s.2.2.2.2.2.2.2.2.1 s.2.2.2.2.2.2.2.2.2)/\(1<=s.1/\I s.1 s.2.1 s.2.2.1 s.2.2.2.1 s.2.2.2.2.1 s.2.2.2.2.2.1 s.2.2.2.2.2.2.1 s.2.2.2.2.2.2.2.1 s.2.2.2.2.2.2.2.2.1 s.2.2.2.2.2.2.2.2.2)}) (fun s=>S s.1.2.1 s.1.2.2.1 s.1.2.2.2.1 s.1.2.2.2.2.1 s.1.2.2.2.2.2.1 s.1.2.2.2.2.2.2.1 s.1.2.2.2.2.2.2.2.1 s.1.2.2.2.2.2.2.2.2.1 s.1.2.2.2.2.2.2.2.2.2) (fun s=>s.1.1) ⟨(n0,b0,b1,b2,b3,b4,b5,b6,b7,b8),⟨rfl⟩,hI⟩ h0 ?_;rintro⟨⟨n1,a0,a1,a2,a3,a4,a5,a6,a7,a8⟩,e,j⟩;obtain⟨n,rfl⟩:∃q,n1=q+1:=⟨n1-1,by have:=j.1;(try dsimp only at this);omega⟩;refine N2 (fun σ' hn=>?_) (kk n a0 a1 a2 a3 a4 a5 a6 a7 a8 ⟨round n a0 a1 a2 a3 a4 a5 a6 a7 a8 ⟨by have:=e.h;(try dsimp only at this);rw[this,hL]⟩ j⟩);obtain⟨c0,c1,c2,c3,c4,c5,c6,c7,c8,e2,j2,w2⟩:=hn;exact⟨⟨(n,c0,c1,c2,c3,c4,c5,c6,c7,c8),e2,j2⟩,Nat.lt_succ_self n,w2⟩
abbrev Q13{R:Type}{A0 A1 A2 A3 A4 A5 A6 A7 A8 A9 fy fz eA:Type}(L:Nat->A0->A1->A2->A3->A4->A5->A6->A7->A8->A9->fy->fz->eA->R)(S:A0->A1->A2->A3->A4->A5->A6->A7->A8->A9->fy->fz->eA->St)(I:Nat->A0->A1->A2->A3->A4->A5->A6->A7->A8->A9->fy->fz->eA->Prop)(t:R)(b:Nat):NxI:=⟨fun τ=>∃a0 a1 a2 a3 a4 a5 a6 a7 a8 a9 fT fU fV,Me t (L b a0 a1 a2 a3 a4 a5 a6 a7 a8 a9 fT fU fV)/\(1<=b/\I b a0 a1 a2 a3 a4 a5 a6 a7 a8 a9 fT fU fV)/\Wk τ (S a0 a1 a2 a3 a4 a5 a6 a7 a8 a9 fT fU fV)⟩
theorem m5{R:Type}{A0 A1 A2 A3 A4 A5 A6 A7 A8 A9 fy fz eA:Type}{L:Nat->A0->A1->A2->A3->A4->A5->A6->A7->A8->A9->fy->fz->eA->R}{S:A0->A1->A2->A3->A4->A5->A6->A7->A8->A9->fy->fz->eA->St}{I:Nat->A0->A1->A2->A3->A4->A5->A6->A7->A8->A9->fy->fz->eA->Prop}{t:R}{a0:A0}{a1:A1}{a2:A2}{a3:A3}{a4:A4}{a5:A5}{a6:A6}{a7:A7}{a8:A8}{a9:A9}{fT:fy}{fU:fz}{fV:eA}(F:q)(e:Me t (L b a0 a1 a2 a3 a4 a5 a6 a7 a8 a9 fT fU fV))(hI:1<=b/\I b a0 a1 a2 a3 a4 a5 a6 a7 a8 a9 fT fU fV:=by exact zCe)(kw:q->Wk σ (S a0 a1 a2 a3 a4 a5 a6 a7 a8 a9 fT fU fV):=by exact zCh):@Nx σ (Q13 L S I t b):=⟨a0,a1,a2,a3,a4,a5,a6,a7,a8,a9,fT,fU,fV,e,hI,kw F⟩
theorem lC{c:yI}{R:Type}{A0 A1 A2 A3 A4 A5 A6 A7 A8 A9 fy fz eA:Type}{L B:Nat->A0->A1->A2->A3->A4->A5->A6->A7->A8->A9->fy->fz->eA->R}(hL:∀(a0:A0)(a1:A1)(a2:A2)(a3:A3)(a4:A4)(a5:A5)(a6:A6)(a7:A7)(a8:A8)(a9:A9)(fT:fy)(fU:fz)(fV:eA)(n:Nat),L (Nat.succ n) a0 a1 a2 a3 a4 a5 a6 a7 a8 a9 fT fU fV=B n a0 a1 a2 a3 a4 a5 a6 a7 a8 a9 fT fU fV)(S:A0->A1->A2->A3->A4->A5->A6->A7->A8->A9->fy->fz->eA->St)(I:Nat->A0->A1->A2->A3->A4->A5->A6->A7->A8->A9->fy->fz->eA->Prop)(n0:Nat)(b0:A0)(b1:A1)(b2:A2)(b3:A3)(b4:A4)(b5:A5)(b6:A6)(b7:A7)(b8:A8)(b9:A9)(bu:fy)(bx:fz)(bz:eA){p:Nat->A0->A1->A2->A3->A4->A5->A6->A7->A8->A9->fy->fz->eA->Prop}
  (round:∀n (a0:A0)(a1:A1)(a2:A2)(a3:A3)(a4:A4)(a5:A5)(a6:A6)(a7:A7)(a8:A8)(a9:A9)(fT:fy)(fU:fz)(fV:eA),Me (L n0 b0 b1 b2 b3 b4 b5 b6 b7 b8 b9 bu bx bz) (B n a0 a1 a2 a3 a4 a5 a6 a7 a8 a9 fT fU fV)->1<=n+1/\I (n+1) a0 a1 a2 a3 a4 a5 a6 a7 a8 a9 fT fU fV->p n a0 a1 a2 a3 a4 a5 a6 a7 a8 a9 fT fU fV) (hI:1<=n0/\I n0 b0 b1 b2 b3 b4 b5 b6 b7 b8 b9 bu bx bz:=by first|omega|(dsimp only;omega)|simp) (h0:Wk σ (S b0 b1 b2 b3 b4 b5 b6 b7 b8 b9 bu bx bz):=by exact Qs zAE) (kk:∀n (a0:A0)(a1:A1)(a2:A2)(a3:A3)(a4:A4)(a5:A5)(a6:A6)(a7:A7)(a8:A8)(a9:A9)(fT:fy)(fU:fz)(fV:eA),Bx (p n a0 a1 a2 a3 a4 a5 a6 a7 a8 a9 fT fU fV)->@WI P (S a0 a1 a2 a3 a4 a5 a6 a7 a8 a9 fT fU fV) c (.nxt (fun σ'=>@Nx σ' (Q13 L S I (L n0 b0 b1 b2 b3 b4 b5 b6 b7 b8 b9 bu bx bz) n)) k):=by(intro n_ a0_ a1_ a2_ a3_ a4_ a5_ a6_ a7_ a8_ a9_ a10_ a11_ a12_ z;simp;(repeat(with_reducible refine Go.Mo.sd ?_));exact z.h)):@Ph P σ c k:=by
 refine Wi (ι:={s:Nat×A0×A1×A2×A3×A4×A5×A6×A7×A8×A9×fy×fz×eA//Me (L n0 b0 b1 b2 b3 b4 b5 b6 b7 b8 b9 bu bx bz) (L s.1 s.2.1 s.2.2.1 s.2.2.2.1 s.2.2.2.2.1 s.2.2.2.2.2.1 s.2.2.2.2.2.2.1 s.2.2.2.2.2.2.2.1 s.2.2.2.2.2.2.2.2.1 s.2.2.2.2.2.2.2.2.2.1 s.2.2.2.2.2.2.2.2.2.2.1 s.2.2.2.2.2.2.2.2.2.2.2.1 s.2.2.2.2.2.2.2.2.2.2.2.2.1 s.2.2.2.2.2.2.2.2.2.2.2.2.2)/\(1<=s.1/\I s.1 s.2.1 s.2.2.1 s.2.2.2.1 s.2.2.2.2.1 s.2.2.2.2.2.1 s.2.2.2.2.2.2.1 s.2.2.2.2.2.2.2.1 s.2.2.2.2.2.2.2.2.1 s.2.2.2.2.2.2.2.2.2.1 s.2.2.2.2.2.2.2.2.2.2.1 s.2.2.2.2.2.2.2.2.2.2.2.1 s.2.2.2.2.2.2.2.2.2.2.2.2.1 s.2.2.2.2.2.2.2.2.2.2.2.2.2)}) (fun s=>S s.1.2.1 s.1.2.2.1 s.1.2.2.2.1 s.1.2.2.2.2.1 s.1.2.2.2.2.2.1 s.1.2.2.2.2.2.2.1 s.1.2.2.2.2.2.2.2.1 s.1.2.2.2.2.2.2.2.2.1 s.1.2.2.2.2.2.2.2.2.2.1 s.1.2.2.2.2.2.2.2.2.2.2.1 s.1.2.2.2.2.2.2.2.2.2.2.2.1 s.1.2.2.2.2.2.2.2.2.2.2.2.2.1 s.1.2.2.2.2.2.2.2.2.2.2.2.2.2) (fun s=>s.1.1) ⟨(n0,b0,b1,b2,b3,b4,b5,b6,b7,b8,b9,bu,bx,bz),⟨rfl⟩,hI⟩ h0 ?_;rintro⟨⟨n1,a0,a1,a2,a3,a4,a5,a6,a7,a8,a9,fT,fU,fV⟩,e,j⟩;obtain⟨n,rfl⟩:∃q,n1=q+1:=⟨n1-1,by have:=j.1;(try dsimp only at this);omega⟩;refine N2 (fun σ' hn=>?_) (kk n a0 a1 a2 a3 a4 a5 a6 a7 a8 a9 fT fU fV ⟨round n a0 a1 a2 a3 a4 a5 a6 a7 a8 a9 fT fU fV ⟨by have:=e.h;(try dsimp only at this);rw[this,hL]⟩ j⟩);obtain⟨c0,c1,c2,c3,c4,c5,c6,c7,c8,c9,c10,c11,c12,e2,j2,w2⟩:=hn;exact⟨⟨(n,c0,c1,c2,c3,c4,c5,c6,c7,c8,c9,c10,c11,c12),e2,j2⟩,Nat.lt_succ_self n,w2⟩
abbrev Q14{R:Type}{A0 A1 A2 A3 A4 A5 A6 A7 A8 A9 fy fz eA cN:Type}(L:Nat->A0->A1->A2->A3->A4->A5->A6->A7->A8->A9->fy->fz->eA->cN->R)(S:A0->A1->A2->A3->A4->A5->A6->A7->A8->A9->fy->fz->eA->cN->St)(I:Nat->A0->A1->A2->A3->A4->A5->A6->A7->A8->A9->fy->fz->eA->cN->Prop)(t:R)(b:Nat):NxI:=⟨fun τ=>∃a0 a1 a2 a3 a4 a5 a6 a7 a8 a9 fT fU fV dg,Me t (L b a0 a1 a2 a3 a4 a5 a6 a7 a8 a9 fT fU fV dg)/\(1<=b/\I b a0 a1 a2 a3 a4 a5 a6 a7 a8 a9 fT fU fV dg)/\Wk τ (S a0 a1 a2 a3 a4 a5 a6 a7 a8 a9 fT fU fV dg)⟩
theorem mY{R:Type}{A0 A1 A2 A3 A4 A5 A6 A7 A8 A9 fy fz eA cN:Type}{L:Nat->A0->A1->A2->A3->A4->A5->A6->A7->A8->A9->fy->fz->eA->cN->R}{S:A0->A1->A2->A3->A4->A5->A6->A7->A8->A9->fy->fz->eA->cN->St}{I:Nat->A0->A1->A2->A3->A4->A5->A6->A7->A8->A9->fy->fz->eA->cN->Prop}{t:R}{a0:A0}{a1:A1}{a2:A2}{a3:A3}{a4:A4}{a5:A5}{a6:A6}{a7:A7}{a8:A8}{a9:A9}{fT:fy}{fU:fz}{fV:eA}{dg:cN}(e:Me t (L b a0 a1 a2 a3 a4 a5 a6 a7 a8 a9 fT fU fV dg))(hI:1<=b/\I b a0 a1 a2 a3 a4 a5 a6 a7 a8 a9 fT fU fV dg:=by exact zCe)(hw:Wk σ (S a0 a1 a2 a3 a4 a5 a6 a7 a8 a9 fT fU fV dg):=by exact Qs zAE):@Nx σ (Q14 L S I t b):=⟨a0,a1,a2,a3,a4,a5,a6,a7,a8,a9,fT,fU,fV,dg,e,hI,hw⟩
theorem mL{c:yI}{R:Type}{A0 A1 A2 A3 A4 A5 A6 A7 A8 A9 fy fz eA cN:Type}{L B:Nat->A0->A1->A2->A3->A4->A5->A6->A7->A8->A9->fy->fz->eA->cN->R}(hL:∀(a0:A0)(a1:A1)(a2:A2)(a3:A3)(a4:A4)(a5:A5)(a6:A6)(a7:A7)(a8:A8)(a9:A9)(fT:fy)(fU:fz)(fV:eA)(dg:cN)(n:Nat),L (Nat.succ n) a0 a1 a2 a3 a4 a5 a6 a7 a8 a9 fT fU fV dg=B n a0 a1 a2 a3 a4 a5 a6 a7 a8 a9 fT fU fV dg)(S:A0->A1->A2->A3->A4->A5->A6->A7->A8->A9->fy->fz->eA->cN->St)(I:Nat->A0->A1->A2->A3->A4->A5->A6->A7->A8->A9->fy->fz->eA->cN->Prop)(n0:Nat)(b0:A0)(b1:A1)(b2:A2)(b3:A3)(b4:A4)(b5:A5)(b6:A6)(b7:A7)(b8:A8)(b9:A9)(bu:fy)(bx:fz)(bz:eA)(b13:cN){p:Nat->A0->A1->A2->A3->A4->A5->A6->A7->A8->A9->fy->fz->eA->cN->Prop}
  (round:∀n (a0:A0)(a1:A1)(a2:A2)(a3:A3)(a4:A4)(a5:A5)(a6:A6)(a7:A7)(a8:A8)(a9:A9)(fT:fy)(fU:fz)(fV:eA)(dg:cN),Me (L n0 b0 b1 b2 b3 b4 b5 b6 b7 b8 b9 bu bx bz b13) (B n a0 a1 a2 a3 a4 a5 a6 a7 a8 a9 fT fU fV dg)->1<=n+1/\I (n+1) a0 a1 a2 a3 a4 a5 a6 a7 a8 a9 fT fU fV dg->p n a0 a1 a2 a3 a4 a5 a6 a7 a8 a9 fT fU fV dg) (hI:1<=n0/\I n0 b0 b1 b2 b3 b4 b5 b6 b7 b8 b9 bu bx bz b13:=by first|omega|(dsimp only;omega)|simp) (h0:Wk σ (S b0 b1 b2 b3 b4 b5 b6 b7 b8 b9 bu bx bz b13):=by exact Qs zAE) (kk:∀n (a0:A0)(a1:A1)(a2:A2)(a3:A3)(a4:A4)(a5:A5)(a6:A6)(a7:A7)(a8:A8)(a9:A9)(fT:fy)(fU:fz)(fV:eA)(dg:cN),Bx (p n a0 a1 a2 a3 a4 a5 a6 a7 a8 a9 fT fU fV dg)->@WI P (S a0 a1 a2 a3 a4 a5 a6 a7 a8 a9 fT fU fV dg) c (.nxt (fun σ'=>@Nx σ' (Q14 L S I (L n0 b0 b1 b2 b3 b4 b5 b6 b7 b8 b9 bu bx bz b13) n)) k):=by(intro n_ a0_ a1_ a2_ a3_ a4_ a5_ a6_ a7_ a8_ a9_ a10_ a11_ a12_ a13_ z;simp;(repeat(with_reducible refine Go.Mo.sd ?_));exact z.h)):@Ph P σ c k:=by
 refine Wi (ι:={s:Nat×A0×A1×A2×A3×A4×A5×A6×A7×A8×A9×fy×fz×eA×cN//Me (L n0 b0 b1 b2 b3 b4 b5 b6 b7 b8 b9 bu bx bz b13) (L s.1 s.2.1 s.2.2.1 s.2.2.2.1 s.2.2.2.2.1 s.2.2.2.2.2.1 s.2.2.2.2.2.2.1 s.2.2.2.2.2.2.2.1 s.2.2.2.2.2.2.2.2.1 s.2.2.2.2.2.2.2.2.2.1 s.2.2.2.2.2.2.2.2.2.2.1 s.2.2.2.2.2.2.2.2.2.2.2.1 s.2.2.2.2.2.2.2.2.2.2.2.2.1 s.2.2.2.2.2.2.2.2.2.2.2.2.2.1 s.2.2.2.2.2.2.2.2.2.2.2.2.2.2)/\(1<=s.1/\I s.1 s.2.1 s.2.2.1 s.2.2.2.1 s.2.2.2.2.1 s.2.2.2.2.2.1 s.2.2.2.2.2.2.1 s.2.2.2.2.2.2.2.1 s.2.2.2.2.2.2.2.2.1 s.2.2.2.2.2.2.2.2.2.1 s.2.2.2.2.2.2.2.2.2.2.1 s.2.2.2.2.2.2.2.2.2.2.2.1 s.2.2.2.2.2.2.2.2.2.2.2.2.1 s.2.2.2.2.2.2.2.2.2.2.2.2.2.1 s.2.2.2.2.2.2.2.2.2.2.2.2.2.2)}) (fun s=>S s.1.2.1 s.1.2.2.1 s.1.2.2.2.1 s.1.2.2.2.2.1 s.1.2.2.2.2.2.1 s.1.2.2.2.2.2.2.1 s.1.2.2.2.2.2.2.2.1 s.1.2.2.2.2.2.2.2.2.1 s.1.2.2.2.2.2.2.2.2.2.1 s.1.2.2.2.2.2.2.2.2.2.2.1 s.1.2.2.2.2.2.2.2.2.2.2.2.1 s.1.2.2.2.2.2.2.2.2.2.2.2.2.1 s.1.2.2.2.2.2.2.2.2.2.2.2.2.2.1 s.1.2.2.2.2.2.2.2.2.2.2.2.2.2.2) (fun s=>s.1.1) ⟨(n0,b0,b1,b2,b3,b4,b5,b6,b7,b8,b9,bu,bx,bz,b13),⟨rfl⟩,hI⟩ h0 ?_;rintro⟨⟨n1,a0,a1,a2,a3,a4,a5,a6,a7,a8,a9,fT,fU,fV,dg⟩,e,j⟩;obtain⟨n,rfl⟩:∃q,n1=q+1:=⟨n1-1,by have:=j.1;(try dsimp only at this);omega⟩;refine N2 (fun σ' hn=>?_) (kk n a0 a1 a2 a3 a4 a5 a6 a7 a8 a9 fT fU fV dg ⟨round n a0 a1 a2 a3 a4 a5 a6 a7 a8 a9 fT fU fV dg ⟨by have:=e.h;(try dsimp only at this);rw[this,hL]⟩ j⟩);obtain⟨c0,c1,c2,c3,c4,c5,c6,c7,c8,c9,c10,c11,c12,c13,e2,j2,w2⟩:=hn;exact⟨⟨(n,c0,c1,c2,c3,c4,c5,c6,c7,c8,c9,c10,c11,c12,c13),e2,j2⟩,Nat.lt_succ_self n,w2⟩
theorem qv{T:TypeId}(h:@EI P (σ.new d (.one (.sref d 0 0 (zJ P σ (ZS P T) (P.cellsOf (ZS P T)) parts.toList 0).2.length)) [.lit (P.cellsOf (ZS P T)) (zJ P σ (ZS P T) (P.cellsOf (ZS P T)) parts.toList 0).2]) A l k)(ig:o.o.op= .buildSlice T n parts:=by exact rfl)(hg:o.o.guard=none:=by exact rfl)(hd:o.o.dst=some d:=by exact rfl)
  (h1:σ.fresh d=true/\XS P T=true/\QE P (ZS P T)=true/\0<P.cellsOf (ZS P T)/\parts.toList.length=n/\n*P.cellsOf (ZS P T)<=16777216:=by simp) (h2:(zJ P σ (ZS P T) (P.cellsOf (ZS P T)) parts.toList 0).1:=by simp)
  (h3:Yb d (zJ P σ (ZS P T) (P.cellsOf (ZS P T)) parts.toList 0).2.flatten=false:=by simp)
  :@SI P σ A o l k:=lI ig hg hd h1 h2 h3 h
theorem W9{y:Operand}{t:TypeId}{im:List (List D)}(h:@EI P ((σ.Z7 (l1++l2)).new d (.one (.sref d 0 0 (im.length+news.length))) [.arr true size (im++news)]) A l k)(ig:o.o.op= .call ⟨.builtin .append,#[x,y],#[t,t]⟩:=by exact rfl)(hg:o.o.guard=none:=by exact rfl)(hd:o.o.dst=some d:=by exact rfl)(gP:A.bar o.o=true:=by exact rfl)
  (g7:size=P.cellsOf (ZS P t):=by simp) (h1:gOf (look P σ t x)=true/\gOf (look P σ t y)=true/\XS P t=true/\QE P (ZS P t)=true/\0<P.cellsOf (ZS P t):=by simp)
  (h2:(SD σ (unc (look P σ t x)) size).1/\(SD σ (unc (look P σ t x)) size).2=(im,l1):=by simp) (h3:(SG σ (unc (look P σ t y)) size).1/\(SG σ (unc (look P σ t y)) size).2=(news,l2):=by simp)
  (h4:(l1++l2).Nodup/\(σ.Z7 (l1++l2)).fresh d=true:=by simp) (h5:(im.length+news.length)*P.bytesOf (ZS P t)<=140737488355328/\im.length+news.length<=9223372036854775807:=by(simp<;>omega))
  :@SI P σ A o l k:=na ig hg hd gP g7 h1 h2 h3 h4 h5 h
theorem IV{T:TypeId}{y:Operand}(h:@EI P ((σ.Z7 L).Z0 t j (.arr true size (rows.set i ds))) A l k)(ig:o.o.op= .store T x y:=by exact rfl)(hg:o.o.guard=none:=by exact rfl)(hd:o.o.dst=none:=by exact rfl)(gP:A.bar o.o=true:=by exact rfl)
  (hx:unc (look P σ 0 x)= .one (.ptr t j i 0):=by simp) (ho:σ.ob t j= .arr true size rows:=by simp) (hi:i<rows.length:=by(simp;try omega)) (h1:jc P T=true/\gOf (look P σ 0 x)=true/\gOf (look P σ T y)=true/\(unc (look P σ T y)).flat=true:=by simp)
  (h2:Jd σ (unc (look P σ T y)).cells=some ds:=by simp) (h3:QI σ (unc (look P σ T y)).cells:=by simp) (h4:XC (unc (look P σ T y)).cells=L:=by simp) (h5:L.Nodup/\(t,j)∉L/\(σ.Z7 L).yB (At.isT t)=false:=by simp) (h6:ds.length=P.cellsOf T/\P.cellsOf T=size:=by simp)
  :@SI P σ A o l k:=lG ig hg hd gP hx ho hi h1 h2 h3 h4 h5 h6 h
theorem wkS{σ:St}(ρ:Ren)(F:List (Nat×Nat))(gF:SV σ' ρ ρ=true:=by exact rfl)(h:NO σ ρ F σ σ' 0:=by simp):Wk σ σ':=Yk ρ F gF h
theorem drJ{id:Nat}{l:List Oper}{br:Oper->Bool}(bs:List Nat)(hm:P.follows .mixedOrders=true)(h:@EI P σ ⟨⟨l⟩,Ie bs⟩ ⟨l⟩ k)(hdr:Vm.Ih P ⟨l⟩ (fun i=>i) (Ie bs)=true:=by kernel_rfl)(gM:xS ⟨l⟩ (fun i=>i) σ=true:=by kernel_rfl):@DI P id σ ⟨⟨l⟩,br⟩ k:=mH bs hm hdr gM h
theorem rpS{g:Prop}(h:p)(kk:Bx p->g:=by(intro z;(repeat(with_reducible refine Go.Mo.sd ?_));exact z.h)):g:=kk ⟨h⟩
theorem zCi{g:Prop}(h:p)(kk:Bx p->g:=by(intro z;(repeat(with_reducible refine Z2 ?_));exact z.h)):g:=kk ⟨h⟩
theorem zCj{g:Prop}(h:p)(kk:Bx p->g:=by(intro z;(repeat(with_reducible refine Yu ?_));exact z.h)):g:=kk ⟨h⟩
theorem zCk{g:Prop}(h:p)(kk:Bx p->g:=by(intro z;(repeat(with_reducible refine Ya ?_));exact z.h)):g:=kk ⟨h⟩
theorem zCl{g:Prop}(h:p)(kk:Bx p->g:=by(intro z;(repeat(with_reducible refine QP ?_));exact z.h)):g:=kk ⟨h⟩
theorem zCm{g:Prop}(h:p)(kk:Bx p->g:=by(intro z;(repeat(with_reducible refine Qf ?_));exact z.h)):g:=kk ⟨h⟩
theorem zCn{g:Prop}(h:p)(kk:Bx p->g:=by(intro z;(repeat(with_reducible refine Qt ?_));exact z.h)):g:=kk ⟨h⟩
theorem zCo{g:Prop}(h:p)(kk:Bx p->g:=by(intro z;(repeat(with_reducible refine X6 ?_));exact z.h)):g:=kk ⟨h⟩
theorem zCp{g:Prop}(h:p)(kk:Bx p->g:=by(intro z;(repeat(with_reducible refine JP ?_));exact z.h)):g:=kk ⟨h⟩
theorem rpG{g:Prop}(h:p)(kk:Bx p->g:=by(intro z;(repeat(with_reducible refine Go.Mo.sdg ?_));exact z.h)):g:=kk ⟨h⟩
theorem xs(u:q)(h:q->p:=by(intro u;simp(maxDischargeDepth:=12) [u])):p:=h u
@[simp] abbrev rI (x : Int) : List D := [.int .i64 x]
@[simp] abbrev rB (b : Bool) : List D := [.bool b]
@[simp] abbrev rS (s : ByteArray) : List D := [.str s]
@[simp] abbrev rL {α : Type} (n : Nat) (f : α -> List D) (l : List α) : List D := [.sl n (l.map f)]
theorem E9{α:Type}[Inhabited α]{f:α->List D}{l:List α}(h:i<(l.take n).length):rowAt ((l.map f).take n) i=f (nth (l.take n) i):=by rw[<-List.map_take];exact ZB h
theorem sT{α:Type}{l:List α}(h:i<(l.take n).length):i<min n l.length:=by rwa[List.length_take]at h
def SJ(l:List Bool):List At:=l.map (fun b=>.d (.bool b))
def zB(n:Nat):List Bool:=List.replicate n false
@[simp] theorem mE (n : Nat) : (zB n).length = n := List.length_replicate ..
@[simp] theorem tP (σ : St) (ρ : Ren) (F : List (Nat × Nat)) : ∀ l : List Bool, NU σ ρ F (SJ l) (SJ l) = True
 |[]=>by simp[SJ,NU]
 |b::l=>by have h:=tP σ ρ F l;simp only[SJ,List.map_cons,NU,Bc]at h⊢;simp[h]
@[simp] theorem uF (t : Nat) : ∀ l : List Bool, Yb t (SJ l) = false
 |[]=>by simp[SJ,Yb]
 |b::l=>by have h:=uF t l;simp only[SJ,List.map_cons]at h⊢;simp[Yb,At.ref]at h⊢;exact h
theorem RF(l:List Bool):(SJ l).length=l.length:=by simp[SJ]
theorem rm{l:List Bool}(h:l.length=n):(SJ l).take n=SJ l:=List.take_of_length_le (by rw[RF];omega)
theorem uC{l:List Bool}{b:Bool}(h:i<l.length):(SJ l).take i++At.d (.bool b)::(SJ l).drop (i+1)=SJ (l.set i b):=by unfold SJ;rw[List.map_set,List.set_eq_take_append_cons_drop,if_pos (by rw[List.length_map];exact h)]
theorem sY{l:List Bool}{b:Bool}(h:i<l.length):place (SJ l) i [At.d (.bool b)]=SJ (l.set i b):=by rw[<-uC h];simp[place]
theorem pc{l:List Bool}(h:i<l.length):((SJ l).drop i).take 1=[At.d (.bool (nth l i))]:=by unfold SJ;rw[<-List.map_drop,List.drop_eq_getElem_cons h,List.map_cons,List.take_succ_cons,List.take_zero];simp[nth,h]
open Go.RowKit
def St.nI:St->List Nat->St
 |σ,[]=>σ
 |σ,s::l=>St.nI (σ.put s .any) l
attribute [simp] St.nI
end Go.Vm
