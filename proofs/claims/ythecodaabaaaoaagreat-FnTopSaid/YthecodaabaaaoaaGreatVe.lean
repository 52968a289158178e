/- An abstract machine La the model of Go, by value, and that it is sound: part Ve. No condition. -/
import Derived.Test.YthecodaabaaaoaaGreatVd
set_option linter.unusedVariables false
set_option linter.unusedSimpArgs false
namespace Go.Vm
open Go.RowKit
open Go.RowKit
theorem zAF{p:Prop}(h:p:=by(repeat' apply And.intro)<;>kernel_rfl):p:=h
theorem zAV{p:Prop}(h:p:=by kernel_rfl):p:=h
variable{f:FuncId}{res rows args im news:List (List D)}{o:OpI}{A:Kp}{P:Program}{l:zY}{d b t dj j id size n i u tf:Nat}{σ σ':St}{p q r1 r2 s:Prop}{iO ds r:List D}{h:Nat->Nat->Hd}{c cl:Call}{Q:Exit->Act->World->Prop}{k:Fr}{B X' X S:Nat->Prop}{want dp g qq:Bool}{x0 x:Operand}{T0 T:CS}{a:Act}{w w':World}{xc yc y:xg}{v:Value}{hf:Nat->Hd}{hd:Hd}
def sr(σ:St):V->Option Nat
 |.one (.d (.sl _ rows))=>some rows.length
 |.one (.sref t j _ len)=>(match σ.ob t j with|.arr _ _ _=>some len|_=>none)
 |.fix _ (.one (.sref t j _ len))=>(match σ.ob t j with|.arr _ _ _=>some len|_=>none)
 |_=>none
def Vh(σ:St):Prop:=∀t n,sr σ (σ.get t)=some n->n<=9223372036854775807
theorem pT:∀{v:V}{val:Value}{n:Nat},sr σ v=some n->JU T h σ.ob w v val->n<=maxLen
 |.one (.d (.sl s rows)),val,n,hn,hv=>by
  simp only[sr]at hn
  cases hn
  obtain⟨base,cap,_,h1,h2⟩:=wO (r:=(show Rd T w val (.sl s rows)from hv))
  omega
 |.one (.sref u j lo len),val,n,hn,hv=>by
  simp only[sr]at hn
  split at hn
  ·rename_i q s rows ho
   cases hn
   have hh:=(show YK T h σ.ob w (.sref u j lo len) val from hv).2.1 _ _ _ ho
   obtain⟨_,_,_,base,cap,_,h1,h2,_⟩:=hh
   omega
  ·cases hn
 |.fix u0 (.one (.sref u j lo len)),val,n,hn,hv=>by
  simp only[sr]at hn
  split at hn
  ·rename_i q s rows ho
   cases hn
   have hh:=(show YK T h σ.ob w (.sref u j lo len) val from hv.2).2.1 _ _ _ ho
   obtain⟨_,_,_,base,cap,_,h1,h2,_⟩:=hh
   omega
  ·cases hn
theorem AN(r:J5 T0 B σ a w):Vh σ:=by
 obtain⟨X,h,r⟩:=r;intro t n hn;exact pT hn (r.get t)
theorem CF{c:Code}{Q:Exit->St->Prop}(h:Vh σ->AWP P c Q σ):AWP P c Q σ:=fun T0 B a w r=>h (AN r) T0 B a w r
theorem nn{b:Bool}{x:xg}(ht:Vh σ->b=true->@WI P σ x k)(hf:Vh σ->b=false->@WI P σ y k):@CI P b σ x y k:=
 ⟨fun h=>CF fun hk=>UQ (ht hk h),fun h=>CF fun hk=>UQ (hf hk h)⟩
theorem Ns{b c:Bool}{x:xg}(hc:c=b)(ht:Vh σ->c=true->@WI P σ x k)(hf:Vh σ->c=false->@WI P σ y k):@CI P b σ x y k:=by
 subst hc;exact nn ht hf
theorem okL{c:xg}(h:Vh σ->@RF P σ c k):@RF P σ c k:=CF h
theorem okD(h:Vh σ->@DI P id σ A k):@DI P id σ A k:=CF h
def LC:Op->Bool
 |.call _=>true
 |_=>false
theorem FU(iE:LC o.o.op=false)(hg:o.o.guard=some (j,want))(hd:o.o.dst=some d)
  (fA:(A.ops[j]?).bind (·.dst)=some dj) (fK:jR want (σ.get dj)=some g) (iQ:dj<σ.length)
  (ht:g=true->((evV P σ o.o.op o.o.type).1/\gOf (evV P σ o.o.op o.o.type).2=true/\(unc (evV P σ o.o.op o.o.type).2).flat=true)/\@EI P (σ.put d (.cnd true (unc (evV P σ o.o.op o.o.type).2))) A l k)
  (hf:g=false->@EI P (σ.put d (.cnd false .any)) A l k):@SI P σ A o l k:=by
 have step:∀v,(g=true->(evV P σ o.o.op o.o.type).1/\gOf (evV P σ o.o.op o.o.type).2=true/\v=unc (evV P σ o.o.op o.o.type).2/\v.flat=true)->Xm P A.ops o.o σ (σ.put d (.cnd g v)):=by
  intro v hv
  unfold Xm
  simp only[hg]
  refine⟨dj,d,g,v,fA,iQ,hd,fK,fun bC=>?_,rfl⟩
  obtain⟨h1,h2,h3,h4⟩:=hv bC
  have base:∃v0,Yj P σ o.o.op o.o.type v0/\gOf v0=true/\v=unc v0/\v.flat=true:=⟨_,wK h1,h2,h3,h4⟩
  unfold M6
  split
  ·rename_i c hc;rw[hc]at iE;cases iE
  ·exact base
 cases g with
 |true=>
  obtain⟨⟨h1,h2,h3⟩,h4⟩:=ht rfl
  exact⟨_,.inl (step _ fun _=>⟨h1,h2,rfl,h3⟩),Jm h4⟩
 |false=>exact⟨_,.inl (step .any (fun h=>by cases h)),Jm (hf rfl)⟩
theorem oN(hg:o.o.guard=some (j,want))(hd:o.o.dst=some d)
  (fA:(A.ops[j]?).bind (·.dst)=some dj) (fK:jR want (σ.get dj)=some g) (iQ:dj<σ.length) (hgf:g=false)
  (h:@EI P (σ.put d (.cnd false .any)) A l k):@SI P σ A o l k:=by
 subst hgf
 refine⟨_,.inl ?_,Jm h⟩
 unfold Xm
 simp only[hg]
 exact⟨dj,d,false,.any,fA,iQ,hd,fK,(fun h=>by cases h),rfl⟩
def nth{α:Type}[Inhabited α](l:List α)(i:Nat):α:=l.getD i default
theorem ZD{α:Type}[Inhabited α]{f:α->List D}{l:List α}(h:i<l.length):rowAt (l.map f) i=f (nth l i):=by
 simp[rowAt,nth,h]
theorem Kx{α:Type}{f:α->List D}{l:List α}{x:α}(h:r=f x):(l.map f).set i r=(l.set i x).map f:=by
 rw[h,List.map_set]
abbrev W(x:Int):Int:=IntKind.i64.wrap x
theorem YX{x:Int}(h1: -9223372036854775808<=x)(h2:x<=9223372036854775807):IntKind.i64.wrap x=x:=by
 have hr:IntKind.i64.min<=x/\x<=IntKind.i64.max:=by
  constructor
  ·show-9223372036854775808<=x;exact h1
  ·show x<=9223372036854775807;exact h2
 simp only[IntKind.wrap];first
  |(simp[IntKind.bits,IntKind.signed];omega)
  |omega
theorem NH(i:Nat):((i:Int)-1).toNat=i-1:=zAA
attribute [simp] St.fresh yk V.ref V.Nv XG SM
open Go.RowKit
attribute [simp] St.nB CB wQ At.mn mK
open Go.RowKit
variable{fn:Func}{K:Act->World->Prop}{L F l1 l2:List (Nat×Nat)}{parts:Array (Nat×Operand)}{hQ:List (List Value)}{vs:List Value}{e:Exit}
def At.isP(t:Nat):At->Bool
 |.tref u _ _ _ _=>u==t
 |.ptr u _ _ _=>u==t
 |_=>false
theorem Rel.nC(r:Rel T0 B σ a w X h){rows:List (List At)}(ho:σ.ob t 0= .lit size rows)(fQ:K2 σ rows=some news)(iz:Kf σ rows)
  (hL:XP rows.flatten=L) (gP:L.Nodup) (hnt:(t,0)∉L) (hp:(σ.Z7 L).yn (At.isP t)=false):J5 T0 B ((σ.Z7 L).Zy t 0 (.arr true size news)) a w:=by
 have iu:σ.ob t 0≠ .none:=zAx
 have h0:=r.obj t 0
 rw[ho]at h0
 obtain⟨e,xs,fZ,hz,iN⟩:=h0
 obtain⟨hm1,hm2,hm3⟩:=qD fQ
 have iS:=Ro r iN hm1 (xl iz) (by rw[hL];exact gP)
 rw[hL]at iS
 have r1:=r.Z7 L
 have gH:=r.yQ L
 have fR:∀b',(h t 0).u b'->zd σ h L b'->False:=by
  rintro b' fh ⟨p,bW,iH,hup⟩
  obtain⟨q1,q2⟩:=r.inj t 0 p.1 p.2 b' iu iH fh hup
  exact hnt (by rw[q1,q2];exact bW)
 have eO:(σ.Z7 L).ob t 0= .lit size rows:=by rw[St.Ks,if_neg hnt,ho]
 have fT:(σ.Z7 L).ob t 0≠ .none:=by rw[eO];simp
 have gd:∀u i,¬(u=t/\i=0)->((σ.Z7 L).Zy t 0 (.arr true size news)).ob u i=(σ.Z7 L).ob u i:=by
  intro u i iH
  rw[St.Xx _ t 0 _ u i fT,if_neg iH]
 have gZ:((σ.Z7 L).Zy t 0 (.arr true size news)).ob t 0= .arr true size news:=by rw[St.Xx _ t 0 _ t 0 fT];simp
 generalize hσ:(σ.Z7 L).Zy t 0 (.arr true size news)=σ2 at*
 generalize hσ1:σ.Z7 L=σ1 at*
 have hlen:σ2.length=σ1.length:=by rw[<-hσ,St.Xf]
 have gW:∀u,σ2.get u=σ1.get u:=fun u=>by rw[<-hσ,St.QP]
 let ic:Hd:=⟨(h t 0).v,fun k=>(xs[k]?).getD undef,fun b=>(h t 0).u b\/zd σ h L b⟩
 let h':Nat->Nat->Hd:=fun u i=>if u=t/\i=0 then ic else h u i
 have eT:∀u i,¬(u=t/\i=0)->h' u i=h u i:=fun u i iH=>if_neg iH
 have hht:h' t 0=ic:=by simp[h']
 have hv:∀u i,(h' u i).v=(h u i).v:=by
  intro u i
  by_cases hc:u=t/\i=0
  ·obtain⟨rfl,rfl⟩:=hc;rw[hht]
  ·rw[eT u i hc]
 have at_:∀{x:At}{v:Value},At.isP t x=false->YK (Tof T0 X) h σ1.ob w x v->YK (Tof T0 X) h' σ2.ob w x v:=by
  intro x v az rx
  cases x with
  |any=>exact rx
  |d x=>exact rx
  |nil s=>exact rx
  |sref u i lo len=>
   refine⟨rx.1,fun q s rws hq=>?_,fun s rws hq=>?_⟩
   ·by_cases hc:u=t/\i=0
    ·obtain⟨rfl,rfl⟩:=hc
     rw[gZ]at hq;cases hq
     rw[hv,<-hm2];exact rx.2.2 _ _ eO
    ·rw[gd u i hc]at hq;rw[hv];exact rx.2.1 _ _ _ hq
   ·by_cases hc:u=t/\i=0
    ·obtain⟨rfl,rfl⟩:=hc
     rw[gZ]at hq;cases hq
    ·rw[gd u i hc]at hq;rw[hv];exact rx.2.2 _ _ hq
  |ptr u i k c=>
   refine⟨rx.1,fun q s rws hq=>?_⟩
   have hc:¬(u=t/\i=0):=fun hc=>by simp[At.isP,hc.1]at az
   rw[gd u i hc]at hq;rw[hv];exact rx.2 _ _ _ hq
  |bptr u c=>
   refine⟨rx.1,fun cells hq=>?_⟩
   by_cases hc:u=t
   ·subst hc;rw[gZ]at hq;cases hq
   ·rw[gd u 0 (fun hh=>hc hh.1)]at hq;rw[hv];exact rx.2 _ hq
  |fn f u=>
   refine⟨rx.1,fun cells hq=>?_⟩
   by_cases hc:u=t
   ·subst hc;rw[gZ]at hq;cases hq
   ·rw[gd u 0 (fun hh=>hc hh.1)]at hq;rw[hv];exact rx.2 _ hq
  |tref u i k c o=>
   refine⟨rx.1,fun s rws hq=>?_⟩
   have hc:¬(u=t/\i=0):=fun hc=>by simp[At.isP,hc.1]at az
   rw[gd u i hc]at hq;rw[eT u i hc];exact rx.2 _ _ hq
  |rptr rr c=>exact rx
 have gf:∀u i,σ2.ob u i≠ .none->σ1.ob u i≠ .none:=by
  intro u i hn
  by_cases hc:u=t/\i=0
  ·obtain⟨rfl,rfl⟩:=hc;exact fT
  ·rw[gd u i hc]at hn;exact hn
 refine⟨X,h',by rw[r1.size,hlen],r1.defers,r1.hB,r1.hX,r1.hT,fun u hu=>?_,fun u i=>?_,fun u i b hn hb=>?_,fun u i b hn hb=>?_,fun u i u' i' b hn gF hb iq=>?_⟩
 ·rw[hlen]at hu
  rw[gW];exact JU.map at_ (St.NY hp u) (r1.slot u hu)
 ·by_cases hc:u=t/\i=0
  ·obtain⟨rfl,rfl⟩:=hc
   rw[gZ,hht]
   refine⟨e,xs,by rw[<-hm2];exact fZ,hm3 size hz,iS.mono (fun b hb=>⟨.inr hb,fun fy=>fR b (r.ub u 0 b iu fy) hb⟩),fun k x d hx _ _=>by simp[ic,hx]⟩
  ·rw[gd u i hc,eT u i hc]
   exact J9.map at_ (fun b k v hb hc=>⟨hc,hb⟩) (fun ho b=>r1.ub u i b ho) (fun _ _ _=>rfl) (St.HZ hp u i) (r1.obj u i)
 ·by_cases hc:u=t/\i=0
  ·obtain⟨rfl,rfl⟩:=hc
   rw[hht]at hb⊢;exact .inl (r.ub u 0 b iu hb)
  ·rw[eT u i hc]at hb⊢;exact r1.ub u i b (gf u i hn) hb
 ·by_cases hc:u=t/\i=0
  ·obtain⟨rfl,rfl⟩:=hc
   rw[hht]at hb
   rcases hb with hb|hb
   ·exact r.own u 0 b iu hb
   ·have:=gH b hb;exact⟨this.1,this.2.1,this.2.2.1⟩
  ·rw[eT u i hc]at hb;exact r1.own u i b (gf u i hn) hb
 ·have key:∀u i b,¬(u=t/\i=0)->σ1.ob u i≠ .none->(h u i).u b->(h' t 0).u b->False:=by
   intro u i b hc hn hb iq
   rw[hht]at iq
   rcases iq with iq|iq
   ·exact hc (r1.inj u i t 0 b hn fT hb iq)
   ·exact(gH b iq).2.2.2 u i hn hb
  by_cases hc:u=t/\i=0
  ·by_cases gD:u'=t/\i'=0
   ·exact⟨hc.1.trans gD.1.symm,hc.2.trans gD.2.symm⟩
   ·obtain⟨rfl,rfl⟩:=hc
    rw[eT u' i' gD]at iq
    exact(key u' i' b gD (gf u' i' gF) iq hb).elim
  ·rw[eT u i hc]at hb
   by_cases gD:u'=t/\i'=0
   ·obtain⟨rfl,rfl⟩:=gD
    exact(key u i b hc (gf u i hn) hb iq).elim
   ·rw[eT u' i' gD]at iq
    exact r1.inj u i u' i' b (gf u i hn) (gf u' i' gF) hb iq
theorem vS{T:TypeId}(iE:o.o.op= .buildSlice T n parts)(hg:o.o.guard=none)(hd:o.o.dst=some d)(hU:A.bar o.o=true)
  (h1:(σ.fresh d=true/\d<σ.length)/\Xj P T=true/\Qg P (ZV P T)=true/\0<P.cellsOf (ZV P T)/\parts.toList.length=n/\n*P.cellsOf (ZV P T)<=16777216) (h2:(zc P σ (ZV P T) (P.cellsOf (ZV P T)) parts.toList 0).1)
  (h3:Yi d (zc P σ (ZV P T) (P.cellsOf (ZV P T)) parts.toList 0).2.flatten=false)
  (h4:K2 (σ.new d (.one (.sref d 0 0 (zc P σ (ZV P T) (P.cellsOf (ZV P T)) parts.toList 0).2.length)) [.lit (P.cellsOf (ZV P T)) (zc P σ (ZV P T) (P.cellsOf (ZV P T)) parts.toList 0).2]) (zc P σ (ZV P T) (P.cellsOf (ZV P T)) parts.toList 0).2=some news/\
   Kf (σ.new d (.one (.sref d 0 0 (zc P σ (ZV P T) (P.cellsOf (ZV P T)) parts.toList 0).2.length)) [.lit (P.cellsOf (ZV P T)) (zc P σ (ZV P T) (P.cellsOf (ZV P T)) parts.toList 0).2]) (zc P σ (ZV P T) (P.cellsOf (ZV P T)) parts.toList 0).2)
  (h5:XP (zc P σ (ZV P T) (P.cellsOf (ZV P T)) parts.toList 0).2.flatten=L/\L.Nodup/\(d,0)∉L)
  (h6:((σ.new d (.one (.sref d 0 0 (zc P σ (ZV P T) (P.cellsOf (ZV P T)) parts.toList 0).2.length)) [.lit (P.cellsOf (ZV P T)) (zc P σ (ZV P T) (P.cellsOf (ZV P T)) parts.toList 0).2]).Z7 L).yn (At.isP d)=false)
  (h:@EI P (((σ.new d (.one (.sref d 0 0 (zc P σ (ZV P T) (P.cellsOf (ZV P T)) parts.toList 0).2.length)) [.lit (P.cellsOf (ZV P T)) (zc P σ (ZV P T) (P.cellsOf (ZV P T)) parts.toList 0).2]).Z7 L).Zy d 0 (.arr true (P.cellsOf (ZV P T)) news)) A l k):@SI P σ A o l k:=by
 refine⟨_,.inr ⟨hU,?_,fun d' ic hc=>Qs (JP (WE (fun e=>ic zBs) hc)),fun hh=>by simp[UK,iE]at hh,fun hh=>by first|(simp[kr,iE]at hh;done)|(unfold kr at hh;rw[iE]at hh;split at hh<;>simp_all),fun hh _=>by first|(simp[KV,iE]at hh;done)|(unfold KV at hh;rw[iE]at hh;split at hh<;>simp_all)⟩,Jm h⟩
 rintro T0 B a w K Q' ⟨X,hh,r⟩ hK
 have hw:Region.wanted o.o (yielded A.ops a.tmps)=true:=zBS
 rw[if_pos hw]
 refine PD r iE hd h1.1.1 h1.2.1 h1.2.2.1 h1.2.2.2.1 h1.2.2.2.2.1 h1.2.2.2.2.2 (H5 h2) h3 (fun a' w' hr hkp=>hK a' w' ?_ hkp)
 obtain⟨X',eT,r'⟩:=hr
 exact Rel.nC r' (by rw[St.Jv,if_pos ⟨rfl,h1.1.2⟩];rfl) h4.1 h4.2 h5.1 h5.2.1 h5.2.2 h6
attribute [simp] At.isP
theorem Yg.own(hs:Yg P f args res):JK P f true args res:=by
 refine⟨hs.1,fun T w gC hT ha=>(hs.2 T w gC hT ha).mono ?_⟩;rintro e w' ⟨vs,hQ,he,hb,hf,hl,⟨hlen,Sk,h1,h2,h3⟩⟩;refine⟨vs,hQ,fun b=>(w.heap.size<=b/\b<w'.heap.size)/\∀(k:Nat)(c:Value)(d:D),hQ.flatten[k]?=some c->res.flatten[k]?=some d->d.scalar=false->blk c≠some b,he,hb,fun b hb=>hb.1,hf,jT hl (fun k x d hx hd=>?_),fun _=>⟨fun i c d b hc hd gV hbl=>?_,fun i j c c' d d' b hc hd gD ic gV hsc' hbl hbl'=>?_⟩⟩
 ·simp only[jD,if_true];have ho:=h1 k x d hx hd
  cases ho with
  |int k n=>exact .int _ _
  |bool b=>exact .bool _
  |str s=>exact .str _
  |unk v h=>exact .unk _ h
  |sl v size rows S e' xs ab ho hz iq hl' hk ay ic=>
   refine⟨e',xs,ho,hz,YC.qA hl' (fun i y dd hy fU=>(hk i y dd hy fU).rd (fun b k' hb=>.inr ⟨h2 k b (ay i b hb).1,fun k2 c2 d2 cP cJ hsc2 hbl2=>?_⟩))⟩;have fp:=h1 k2 c2 d2 cP cJ
   have ah:Sk k2 b:=by
    cases fp with
    |int k n=>cases hsc2
    |bool b=>cases hsc2
    |str s=>cases hsc2
    |unk=>cases hsc2
    |sl v2 size2 rows2 S2 e2 xs2 Sk2 fp hz2 hZ bH bg ib hd2'=>exact hZ b hbl2
   have:=h3 k k2 b (ay i b hb).1 ah;subst this;rw[hx]at cP;cases cP;exact(ay i b hb).2 hbl2
 ·have fp:=h1 i c d hc hd;have ah:Sk i b:=by
   cases fp with
   |int k n=>cases gV
   |bool b=>cases gV
   |str s=>cases gV
   |unk=>cases gV
   |sl v2 size2 rows2 S2 e2 xs2 Sk2 fp hz2 hZ bH bg ib hd2'=>exact hZ b hbl
  have:=h2 i b ah;exact⟨this.1,this.2,fun hy=>hy.2 i c d hc hd gV hbl⟩
 ·have ah:∀(i:Nat)(c:Value)(d:D),hQ.flatten[i]?=some c->res.flatten[i]?=some d->d.scalar=false->blk c=some b->Sk i b:=by
   intro i c d hc hd gV hbl;have fp:=h1 i c d hc hd
   cases fp with
   |int k n=>cases gV
   |bool b=>cases gV
   |str s=>cases gV
   |unk=>cases gV
   |sl v2 size2 rows2 S2 e2 xs2 Sk2 fp hz2 hZ bH bg ib hd2'=>exact hZ b hbl
  exact h3 i j b (ah i c d hc hd gV hbl) (ah j c' d' gD ic hsc' hbl')
open Go.RowKit
def Df(σ:St)(F:List (Nat×Nat)):At->At
 |.sref t j lo len=>if inF F t j then(match σ.ob t j with|.arr _ s rows=>.d (.sl s (cut rows lo len))|_=>.any)else .sref t j lo len
 |.ptr t j i c=>if inF F t j then .any else .ptr t j i c
 |.tref t j i c o=>if inF F t j then .any else .tref t j i c o
 |x=>x
def mG(σ:St)(F:List (Nat×Nat)):V->V
 |.one x=>.one (Df σ F x)
 |.agg xs=>.agg (xs.map (Df σ F))
 |.fix u (.one x)=>.fix u (.one (Df σ F x))
 |.fix u (.agg xs)=>.fix u (.agg (xs.map (Df σ F)))
 |_=>.any
def ot(σ:St)(F:List (Nat×Nat))(t j:Nat)(o:Ob):Ob:=
 if inF F t j then .none else match o with|.box cs=>.box (cs.map (Df σ F))|.lit _ _=>.none|o=>o
def Ak(σ:St)(F:List (Nat×Nat))(t:Nat):List Ob->Nat->List Ob
 |[],_=>[]
 |o::os,j=>ot σ F t j o::Ak σ F t os (j+1)
def MS(σ:St)(F:List (Nat×Nat)):List Ent->Nat->List Ent
 |[],_=>[]
 |e::es,t=>(mG σ F e.1,Ak σ F t e.2 0)::MS σ F es (t+1)
def St.frz(σ:St)(F:List (Nat×Nat)):St:=MS σ F σ 0
theorem Eu{F:List (Nat×Nat)}:∀{σ0:St}{es:List Ent}{t d:Nat},Xs es d=true->Xs (MS σ0 F es t) d=true
 |σ0,[],t,d,h=>by simp[Xs]at h
 |σ0,e::es,t,0,h=>by
  rw[jC]at h⊢
  rcases h with h|⟨x,h⟩
  ·left;simp only[List.getElem?_cons_zero,Option.some.injEq]at h;subst h;rfl
  ·right;simp only[List.getElem?_cons_zero,Option.some.injEq]at h;subst h;exact⟨x,rfl⟩
 |σ0,e::es,t,d+1,h=>by
  have:Xs es d=true:=by rw[jC]at h⊢;simpa using h
  have:=Eu (F:=F) (σ0:=σ0) (es:=es) (t:=t+1) this
  rw[jC]at this⊢
  simpa[MS]using this
theorem nt(hU:A.bar o.o=true)(hw:Wk σ σ')(hc:∀d,Xs σ d=true->Xs σ' d=true)(cB:UK o.o=false)(hna:kr o.o=false)(dM:KV P o.o=false\/OP A.bar o.o=false)(h:@SI P σ' A o l k):@SI P σ A o l k:=by
 obtain⟨σ'',hs,hr⟩:=h;refine⟨σ'',.inr ⟨hU,fun T0 B a w K Q g9 hK=>Rg hs T0 B a w K Q (hw T0 B a w g9) hK,fun d hd hO=>?_,fun hh=>(by rw[cB]at hh;cases hh),fun hh=>(by rw[hna]at hh;cases hh),fun hh ho=>(by rcases dM with dM|dM<;>(first|(rw[dM]at hh;cases hh)|(rw[dM]at ho;cases ho)))⟩,hr⟩;have h1:=hc d hO
 rcases hs with hs|hs
 ·exact Hq hs hd h1
 ·exact hs.2.2.1 d hd h1
theorem TM(F:List (Nat×Nat))(hU:A.bar o.o=true)(hw:Rv σ [] F σ (σ.frz F) 0)(h:@SI P (σ.frz F) A o l k)(cB:UK o.o=false:=by exact rfl)(hna:kr o.o=false:=by exact rfl)(dM:KV P o.o=false\/OP A.bar o.o=false:=by first|exact .inl rfl|exact .inr rfl):@SI P σ A o l k:=
 nt hU (XO [] F rfl hw) (fun _ hd=>Eu hd) cB hna dM h
attribute [simp] Df mG ot Ak MS St.frz
theorem mM(P:Program)(q2:Bool)(bC:σ.get d= .one (.sref u j 0 n))(ho:σ.ob u j= .arr qq size rows)(hle:n<=rows.length)(hqq:q2=true->qq=true)(gG:(σ.Zy u j .none).fresh d=true)
  (h:Wk ((σ.Zy u j .none).new d (.one (.sref d 0 0 (rows.take n).length)) [.arr q2 size (rows.take n)]) σ'):Wk σ σ':=by
 have e:(rows.take n).length=n:=zA6
 rw[e]at h
 rintro T0 B a w ⟨X,hh,r⟩
 refine h T0 B a w ?_
 have hv : Yj P σ (Oper.mk (some d) (.move (.tmp d)) 0 "" #[] none).op 0 (.one (.sref u j 0 n)) := by
  show V.one (.sref u j 0 n)=look P σ 0 (.tmp d)
  rw[<-bC];rfl
 have key : ∀ (K : Act -> World -> Prop) (Q : Exit -> Act -> World -> Prop), (∀ a' w', J5 T0 B ((σ.Zy u j .none).new d (.one (.sref d 0 0 n)) [.arr q2 size (rows.take n)]) a' w' -> XF B w w' -> K a' w') -> (Oper.mk (some d) (.move (.tmp d)) 0 "" #[] none).wp P a w K Q := by
  intro K Q hK
  cases qq with
  |false=>
   cases q2 with
   |false=>exact uR r rfl hv ho hle gG hK
   |true=>cases hqq rfl
  |true=>
   cases q2 with
   |false=>exact uv r rfl hv ho hle gG hK
   |true=>exact uo r rfl hv ho hle gG hK
 have k2:=key (fun a' w'=>w'=w->J5 T0 B ((σ.Zy u j .none).new d (.one (.sref d 0 0 n)) [.arr q2 size (rows.take n)]) a' w') (fun _ _ _=>True) (fun a' w' hr _ _=>hr)
 unfold Oper.wp at k2
 simp only[execOp,Sem.run_pure,Oper.upon_value]at k2
 have k3:=k2 trivial
 have e2:a.put (some d) (a.eval (.tmp d))=a:=by
  show {a with tmps:=a.tmps.setIfInBounds d (a.tmps.getD d undef)}=a
  have:a.tmps.setIfInBounds d (a.tmps.getD d undef)=a.tmps:=by
   apply Array.ext
   ·simp
   ·intro i h1 h2
    rw[Array.getElem_setIfInBounds]
    split
    ·rename_i hi;subst hi;simp[Array.getD,h2]
    ·rfl
  rw[this]
 rw[e2]at k3
 exact k3
open Go.RowKit
variable{fH:List Ob}
abbrev ptr(b:Nat):Value:=.pointer (some ⟨b,0,none⟩)
abbrev Ep(T:CS)(w:World)(gC:List Value)(args:List (List D)):Prop:=YC (fun v row=>∃cs,yw v cs/\YC (Rd T w) cs row) gC args
def qd(n:Nat)(pre:List (List D))(v:Value)(cells:List At)(fH:List Ob)(post:List (List D)):St:=
 Ow pre++(.fix v (.one (.bptr pre.length 0)),.box cells::fH)::(Ow post++List.replicate (n-(pre.length+1+post.length)) (V.any,[]))
theorem u5(post:List (List D))(m t:Nat):∃x,(match(Ow post++List.replicate m ((V.any,[]):Ent))[t]? with|some e=>e|none=>(V.any,[]))=(x,[])/\(x= .any\/∃r,post[t]?=some r/\x=vOf (r.map .d)):=by
 rcases Nat.lt_or_ge t post.length with h|h
 ·rw[List.getElem?_append_left zB2,Ri,List.getElem?_eq_getElem h];exact⟨_,rfl,.inr ⟨_,rfl,rfl⟩⟩
 ·rw[List.getElem?_append_right zB2,List.getElem?_replicate];refine⟨.any,?_,.inl rfl⟩;split
  ·rename_i e he;split at he
   ·cases he;rfl
   ·cases he
  ·rfl
theorem sv(n:Nat)(pre:List (List D))(v:Value)(cells:List At)(fH:List Ob)(post:List (List D))(t:Nat):
  (t=pre.length/\(qd n pre v cells fH post)[t]?=some (.fix v (.one (.bptr pre.length 0)),.box cells::fH))\/
  (t≠pre.length/\(∀j,(qd n pre v cells fH post).ob t j= .none)/\((qd n pre v cells fH post).get t= .any\/∃r,(qd n pre v cells fH post).get t=vOf (r.map .d)/\((t<pre.length/\pre[t]?=some r)\/(pre.length<t/\post[t-pre.length-1]?=some r)))):=by
 rcases Nat.lt_trichotomy t pre.length with h|h|h
 ·refine .inr ⟨zAA,?_⟩
  have:(qd n pre v cells fH post)[t]?=some (vOf (pre[t].map .d),[]):=by
   unfold qd
   rw[List.getElem?_append_left zB2,Ri,List.getElem?_eq_getElem h];rfl
  refine⟨fun j=>by unfold St.ob;rw[this];simp[Yt],.inr ⟨pre[t],by unfold St.get;rw[this],.inl ⟨h,List.getElem?_eq_getElem h⟩⟩⟩
 ·refine .inl ⟨h,?_⟩
  unfold qd
  rw[List.getElem?_append_right (by rw[Jh];omega),Jh,h,Nat.sub_self];rfl
 ·refine .inr ⟨zAA,?_⟩
  have e1:(qd n pre v cells fH post)[t]?=(Ow post++List.replicate (n-(pre.length+1+post.length)) ((V.any,[]):Ent))[t-pre.length-1]?:=by
   unfold qd
   rw[List.getElem?_append_right (by rw[Jh];omega),Jh,show t-pre.length=(t-pre.length-1)+1 by omega,List.getElem?_cons_succ];rfl
  obtain⟨x,hx,hr⟩:=u5 post (n-(pre.length+1+post.length)) (t-pre.length-1)
  rw[<-e1]at hx
  constructor
  ·intro j
   unfold St.ob
   cases hq:(qd n pre v cells fH post)[t]? with
   |none=>rfl
   |some e=>rw[hq]at hx;simp only at hx;rw[hx];simp[Yt]
  ·have hg:(qd n pre v cells fH post).get t=x:=by
    unfold St.get
    cases hq:(qd n pre v cells fH post)[t]? with
    |none=>rw[hq]at hx;simp only at hx;injection hx
    |some e=>rw[hq]at hx;simp only at hx;rw[hx]
   rcases hr with rfl|⟨r,hr,rfl⟩
   ·exact .inl hg
   ·exact .inr ⟨r,hg,.inr ⟨h,hr⟩⟩
theorem DP{pre post:List (List D)}{cells:List At}{g8 fM:List Value}(hd:Nat->Hd)
  (hT:∀k i,T k i->k<w.heap.size/\k≠b/\¬S k) (hS:∀k,S k->k<w.heap.size/\k≠b) (hb:b<w.heap.size) (h0:hd 0=Hd.of (ptr b))
  (fv:∀(h:Nat->Nat->Hd)(ob:Nat->Nat->Ob),(∀j,h pre.length j=hd j)->(∀j,ob pre.length j=Yt (.box cells::fH) j)->J9 (Tof T (fun _=>False)) h ob w (hd 0) (.box cells))
  (gd:∀(h:Nat->Nat->Hd)(ob:Nat->Nat->Ob)(j:Nat),J9 (Tof T (fun _=>False)) h ob w (hd (j+1)) (Yt fH j))
  (ga:∀j k,Yt fH j≠ .none->blk (hd (j+1)).v=some k->(hd (j+1)).u k) (iS:∀j k,Yt fH j≠ .none->(hd (j+1)).u k->S k)
  (aF:∀i j k,Yt fH i≠ .none->Yt fH j≠ .none->(hd (i+1)).u k->(hd (j+1)).u k->i=j) (ha1:Ep T w g8 pre) (ha2:Ep T w fM post):
  J5 T (fun k=>k<w.heap.size/\k≠b/\¬S k) (qd n pre (ptr b) cells fH post) {tmps:=(g8++ptr b::fM).toArray++Array.replicate (n-(g8++ptr b::fM).toArray.size) undef,defers:=[]} w:=by
 have hl1:=ha1.length
 have bH:=ha2.length
 have eQ:=sv n pre (ptr b) cells fH post
 have gN:∀j,(qd n pre (ptr b) cells fH post).ob pre.length j=Yt (.box cells::fH) j:=by
  intro j
  rcases eQ pre.length with⟨_,h⟩|⟨h,_⟩
  ·unfold St.ob;rw[h]
  ·exact absurd rfl h
 have aH:∀t j,(qd n pre (ptr b) cells fH post).ob t j≠ .none->t=pre.length:=by
  intro t j hn
  rcases eQ t with⟨h,_⟩|⟨_,h,_⟩
  ·exact h
  ·exact absurd (h j) hn
 have bY:∀b k v,T b k->w.cell? ⟨b,k,none⟩=some v->w.cell? ⟨b,k,none⟩=some v/\Tof T (fun _=>False) b k:=fun b k v hb hc=>⟨hc,.inl hb⟩
 have hu0:∀k,(hd 0).u k↔k=b:=fun k=>by rw[h0];simp[Hd.of,blk,eq_comm]
 have gY:∀j,Yt (.box cells::fH) j≠ .none->(j=0\/∃i,j=i+1/\Yt fH i≠ .none):=by
  intro j hn
  cases j with
  |zero=>exact .inl rfl
  |succ j=>exact .inr ⟨j,rfl,by rw[WU]at hn;exact hn⟩
 have hS':∀j k,Yt (.box cells::fH) j≠ .none->(hd j).u k->k=b\/S k:=by
  intro j k hn hu
  rcases gY j hn with rfl|⟨i,rfl,hi⟩
  ·exact .inl ((hu0 k).1 hu)
  ·exact .inr (iS i k hi hu)
 have argrd:∀{gC:List Value}{args:List (List D)}{t:Nat}{r:List D},Ep T w gC args->args[t]?=some r->∃v,gC[t]?=some v/\JU (Tof T (fun _=>False)) (fun t j=>if t=pre.length then hd j else Hd.of undef) (qd n pre (ptr b) cells fH post).ob w (vOf (r.map .d)) v:=by
  intro gC args t r ha hr
  obtain⟨v,hv,cs,hf,iN⟩:=ha.get' t r hr
  exact⟨v,hv,(He hf (Vq (iN.imp fun _ _=>Rd.mono bY))).up⟩
 refine⟨fun _=>False,fun t j=>if t=pre.length then hd j else Hd.of undef,?_⟩
 refine⟨?_,rfl,(fun k hk=>hk.1),(fun b hb=>hb.elim),(fun k i hk=>hT k i hk),fun t ht=>?_,fun t j=>?_,fun t j k hn hk=>?_,fun t j k hn hk=>?_,fun t j t' j' k hn gF hk g7=>?_⟩
 ·simp[qd,Jh,hl1,bH];omega
 ·rcases eQ t with⟨rfl,h⟩|⟨iH,_,h⟩
  ·have eV:((g8++ptr b::fM).toArray++Array.replicate (n-(g8++ptr b::fM).toArray.size) undef).getD pre.length undef=ptr b:=by
    rw[Array.getD_eq_getD_getElem?,Array.getElem?_append_left zAo]
    simp[<-hl1]
   rw[eV]
   unfold St.get;rw[h]
   exact⟨rfl,rfl,fun iW _=>⟨b,by simp[h0,Hd.of],rfl⟩⟩
  ·rcases h with h|⟨r,h,hr⟩
   ·rw[h];trivial
   ·rw[h]
    rcases hr with⟨iQ,hr⟩|⟨iQ,hr⟩
    ·obtain⟨v,hv,g9⟩:=argrd ha1 hr
     have eV:((g8++ptr b::fM).toArray++Array.replicate (n-(g8++ptr b::fM).toArray.size) undef).getD t undef=v:=by
      rw[Array.getD_eq_getD_getElem?,Array.getElem?_append_left zAo]
      simp[List.getElem?_append_left (show t<g8.length by omega),hv]
     simp only[eV];exact g9
    ·obtain⟨v,hv,g9⟩:=argrd ha2 hr
     have hlt2:=(List.getElem?_eq_some_iff.1 hv).1
     have eV:((g8++ptr b::fM).toArray++Array.replicate (n-(g8++ptr b::fM).toArray.size) undef).getD t undef=v:=by
      rw[Array.getD_eq_getD_getElem?,Array.getElem?_append_left zAo]
      simp only[List.getElem?_toArray]
      rw[List.getElem?_append_right zAA,show t-g8.length=(t-pre.length-1)+1 by omega,List.getElem?_cons_succ,hv];rfl
     simp only[eV];exact g9
 ·by_cases hn:(qd n pre (ptr b) cells fH post).ob t j= .none
  ·rw[hn];trivial
  ·obtain rfl:=aH t j hn
   rw[gN]
   simp only[if_true]
   cases j with
   |zero=>exact fv _ _ (fun j=>zAE) gN
   |succ j=>rw[WU];exact gd _ _ j
 ·obtain rfl:=aH t j hn
  rw[gN]at hn
  simp only[if_true]at hk⊢
  rcases gY j hn with rfl|⟨i,rfl,hi⟩
  ·rw[h0]at hk⊢;exact hk
  ·exact ga i k hi hk
 ·obtain rfl:=aH t j hn
  rw[gN]at hn
  simp only[if_true]at hk
  rcases hS' j k hn hk with rfl|hs
  ·exact⟨fun hh=>hh.2.1 rfl,fun hh=>hh,hb⟩
  ·exact⟨fun hh=>hh.2.2 hs,fun hh=>hh,(hS k hs).1⟩
 ·obtain rfl:=aH t j hn
  obtain rfl:=aH t' j' gF
  rw[gN]at hn gF
  simp only[if_true]at hk g7
  refine⟨rfl,?_⟩
  rcases gY j hn with rfl|⟨i,rfl,hi⟩
  ·rcases gY j' gF with rfl|⟨i',rfl,gm⟩
   ·rfl
   ·exact absurd ((hu0 k).1 hk) (hS k (iS i' k gm g7)).2
  ·rcases gY j' gF with rfl|⟨i',rfl,gm⟩
   ·exact absurd ((hu0 k).1 g7) (hS k (iS i k hi hk)).2
   ·rw[aF i i' k hi gm hk g7]
open Go.RowKit
variable{cX:Array Value}
def oI(dp:Bool)(T:CS)(w:World)(b:Nat)(iO:List D)(res:List (List D))(e:Ending)(w':World):Prop:=
 ∃(vs:List Value)(hQ:List (List Value))(Y:Nat->Prop),e= .returned (PX vs)/\XF (fun k=>k<w.heap.size/\k≠b) w w'/\(∀k,Y k->w.heap.size<=k/\k<w'.heap.size)/\
  (∃cs e',w'.heap[b]?=some (.cells cs e' (0,0))/\YC (Rd (Tof T Y) w') cs.toList iO)/\YC yw vs hQ/\YC (fun(cs:List Value)(row:List D)=>cs.length=row.length) hQ res/\
  (if dp then Ke w' hQ.flatten res.flatten (fun k=>w.heap.size<=k/\k<w'.heap.size/\¬Y k)else YC (fun cs row=>YC (Rd (Tof T Y) w') cs row) hQ res)
def xz(P:Program)(f:FuncId)(dp:Bool)(row:List D)(args:List (List D))(iO:List D)(res:List (List D)):Prop:=
 Tf P f=true/\∀(T:CS)(w:World)(b:Nat)(gC:List Value),(∀k i,T k i->k<w.heap.size/\k≠b)->b<w.heap.size->(∃cs e,w.heap[b]?=some (.cells cs e (0,0))/\YC (Rd T w) cs.toList row)->
  Ep T w gC args->Calls P f (ptr b::gC).toArray w (oI dp T w b iO res)
def nD(P:Program)(fn:Func)(v:Value)(dp:Bool)(iO:List D)(res:List (List D))(e:Exit)(σ:St):Prop:=
 (e= .ret\/e= .normal)/\(∃fH,σ.head?=some (.fix v (.one (.bptr 0 0)),.box (iO.map .d)::fH))/\∃gi,Sw P σ fn.results.toList gi/\
  (if dp then K2 σ gi=some res/\Kf σ gi/\(XP gi.flatten).Nodup else WS σ gi=some res)
def Mm(P:Program)(f:FuncId)(args:List (List D))(iO:List D):Prop:=
 Tf P f=true/\∀(T:CS)(w:World)(gC:List Value),(∀k i,T k i->k<w.heap.size)->Ep T w gC args->
  Calls P f gC.toArray w fun e w'=>∃b Y,e= .returned (ptr b)/\Below w.heap.size w w'/\w.heap.size<=b/\b<w'.heap.size/\(∀k,Y k->w.heap.size<=k/\k<w'.heap.size/\k≠b)/\∃cs e',w'.heap[b]?=some (.cells cs e' (0,0))/\YC (Rd (Tof T Y) w') cs.toList iO
def o8(P:Program)(fn:Func)(iO:List D)(e:Exit)(σ:St):Prop:=
 (e= .ret\/e= .normal)/\∃u,Sw P σ fn.results.toList [[.bptr u 0]]/\σ.ob u 0= .box (iO.map .d)
theorem RT{T:CS}{ob:Nat->Nat->Ob}:∀{row:List D}{cs:List Value},YC (YK T h ob w) (row.map .d) cs->YC (Rd T w) cs row
 |[],_,iN=>by cases iN;exact .nil
 |_::_,_,iN=>by cases iN with|cons h1 h2=>exact .cons h1 (RT h2)
theorem Fi{c:Code}(hf:P.funcs[f]?=some fn)(hb:fn.body=some c)(iz:Tf P f=true){row:List D}
  (hw:∀v,AWP P c (nD P fn v dp iO res) (qd fn.ntmps [] v (row.map .d) [] args)):xz P f dp row args iO res:=by
 refine⟨iz,fun T w b gC hT iq ⟨cs0,e0,hh0,hal0⟩ iT=>calls_of_wp hf hb ?_⟩
 have cq:=DP (w:=w) (T:=T) (S:=fun _=>False) (n:=fn.ntmps) (b:=b) (pre:=[]) (post:=args) (cells:=row.map .d) (fH:=[]) (g8:=[]) (fM:=gC) (fun _=>Hd.of (ptr b))
  (fun k i hk=>⟨(hT k i hk).1,(hT k i hk).2,fun hh=>hh⟩) (fun k hk=>hk.elim) iq rfl
  (fun h ob _ _=>⟨b,cs0,e0,rfl,hh0,Vq (hal0.imp fun _ _=>Rd.mono (fun b k v hb hc=>⟨hc,.inl hb⟩))⟩) (fun h ob j=>by simp[Yt,J9]) (fun j k hn=>by simp[Yt]at hn) (fun j k hn=>by simp[Yt]at hn) (fun i j k hn=>by simp[Yt]at hn) .nil iT
 simp only[List.nil_append]at cq
 refine wp_mono (hw (ptr b) T _ _ w cq) ?_
 rintro e a' w' ⟨σ',⟨he,⟨fH,aG⟩,gi,fE,iZ⟩,⟨X,h,r⟩,ir⟩
 obtain⟨vs,hQ,iv,gA,iN⟩:=Wu r fE
 have gM:0<σ'.length:=by
  cases σ' with
  |nil=>simp at aG
  |cons e σ=>simp
 have hg0:σ'.get 0= .fix (ptr b) (.one (.bptr 0 0)):=by
  cases σ' with
  |nil=>simp at aG
  |cons e σ=>simp at aG;simp[St.get,aG]
 have gU:σ'.ob 0 0= .box (iO.map .d):=by
  cases σ' with
  |nil=>simp at aG
  |cons e σ=>simp at aG;simp[St.ob,aG,Yt]
 have dn:=r.slot 0 gM
 rw[hg0]at dn
 obtain⟨hveq,ff⟩:=dn
 obtain⟨b1,gX,gQ⟩:=ff.2 _ gU
 rw[hveq]at gQ
 have fy:b1=b:=zBV
 subst fy
 have gY:=r.obj 0 0
 rw[gU]at gY
 obtain⟨b2,cX,e',hZ,eT,dF⟩:=gY
 rw[gX]at hZ
 have fy:b2=b1:=zAq
 subst fy
 have aI:XF (fun k=>k<w.heap.size/\k≠b2) w w':=⟨ir.os,ir.tape,ir.output,ir.size,fun k hk=>ir.block k ⟨hk.1,hk.2,fun hh=>hh⟩⟩
 have hnX:∀k,X k->k=b2->False:=by
  rintro k hx rfl
  have ga:=r.ub 0 0 k zBk zB6
  exact(r.own 0 0 k zBk ga).2.1 hx
 have hXn:∀k,X k->w.heap.size<=k/\k<w'.heap.size:=by
  intro k hk
  have h1:=r.hX k hk
  refine⟨?_,h1.2⟩
  rcases Nat.lt_or_ge k w.heap.size with iQ|ej
  ·exact absurd ⟨iQ,fun hh=>hnX k hk hh,fun hh=>hh⟩ h1.1
  ·exact ej
 have goal:a'.defers=[]/\∃v,(results fn a'.tmps).run P w'= .ok v w'/\oI dp T w b2 iO res (.returned v) w':=by
  refine⟨r.defers,_,iv,?_⟩
  cases dp with
  |true=>
   simp only[if_true]at iZ
   obtain⟨fQ,fg,gP⟩:=iZ
   refine⟨vs,hQ,X,rfl,aI,hXn,⟨cX,e',eT,RT dF⟩,gA,?_,?_⟩
   ·clear gP fg fE iv gA hw
    induction iN generalizing res with
    |nil=>simp[K2]at fQ;subst fQ;exact .nil
    |cons h1 _ ih=>
     simp only[K2]at fQ
     split at fQ
     ·rename_i row rs hR eJ
      cases fQ
      exact .cons (by rw[<-h1.length];exact(qk hR).1) (ih eJ)
     ·cases fQ
   ·simp only[if_true]
    refine(Ro r (qu iN) (qD fQ).1 (xl fg) gP).mono (fun k hk=>?_)
    have hg:=r.yQ _ k hk
    refine⟨?_,hg.2.2.1,hg.2.1⟩
    rcases Nat.lt_or_ge k w.heap.size with iQ|ej
    ·refine absurd ⟨iQ,?_,fun hh=>hh⟩ hg.1
     rintro rfl
     obtain⟨p,hp,iH,hu⟩:=hk
     have ga:=r.ub 0 0 k zBk zB6
     obtain⟨e1,e2⟩:=r.inj p.1 p.2 0 0 k iH zBk hu ga
     obtain⟨i,lo,len,hx⟩:=Pg hp
     have hm:=Rt (xl fg) i _ hx
     rw[e1,e2]at hm
     obtain⟨d,hd,hmd⟩:=(YC.get (R:=fun x d=>mvD σ' x=some d) (YC.qA (qk (qD fQ).1).1 (fun i a b h1 h2=>(qk (qD fQ).1).2 i a b h1 h2)) i _ hx)
     rw[e1,e2]at hmd
     simp[mvD,gU]at hmd
    ·exact ej
  |false=>
   simp only[Bool.false_eq_true,if_false]at iZ
   refine⟨vs,hQ,fun k=>w.heap.size<=k/\k<w'.heap.size,rfl,aI,fun k hk=>hk,⟨cX,e',eT,(RT dF).imp fun _ _=>Rd.mono (fun k i v hk hc=>⟨hc,?_⟩)⟩,gA,?_,?_⟩
   ·rcases hk with hk|hk
    ·exact .inl hk
    ·exact .inr (hXn k hk)
   ·clear fE iv gA hw
    induction iN generalizing res with
    |nil=>simp[WS]at iZ;subst iZ;exact .nil
    |cons h1 _ ih=>
     simp only[WS]at iZ
     split at iZ
     ·rename_i row rs hR eJ
      cases iZ
      exact .cons ((r.rowOf false hR h1 (fun hh=>by cases hh)).length) (ih eJ)
     ·cases iZ
   ·simp only[Bool.false_eq_true,if_false]
    refine SZ r (fun k i hk=>?_) iZ iN
    rcases hk with hk|⟨t,j,q,size,rows,ho,hk⟩
    ·rcases hk with hk|hk
     ·exact .inl hk
     ·exact .inr (hXn k hk)
    ·have iH:σ'.ob t j≠ .none:=zAx
     have iS:=r.own t j k iH hk
     refine .inr ⟨?_,iS.2.2⟩
     rcases Nat.lt_or_ge k w.heap.size with iQ|ej
     ·refine absurd ⟨iQ,?_,fun hh=>hh⟩ iS.1
      rintro rfl
      have ga:=r.ub 0 0 k zBk zB6
      obtain⟨e1,e2⟩:=r.inj t j 0 0 k iH zBk hk ga
      rw[e1,e2,gU]at ho;cases ho
     ·exact ej
 rcases he with rfl|rfl
 ·exact goal
 ·exact goal
theorem EL{c:Code}(hf:P.funcs[f]?=some fn)(hb:fn.body=some c)(iz:Tf P f=true)
  (hw:AWP P c (o8 P fn iO) (ki fn.ntmps args)):Mm P f args iO:=by
 refine⟨iz,fun T w gC hT iT=>calls_of_wp hf hb ?_⟩
 refine wp_mono (hw T (fun b=>b<w.heap.size) _ w (Hr hT iT)) ?_
 rintro e a' w' ⟨σ',⟨he,u,fE,hobx⟩,⟨X,h,r⟩,ir⟩
 have fF:Below w.heap.size w w':=⟨ir.os,ir.tape,ir.output,ir.size,ir.block⟩
 obtain⟨vs,hQ,iv,gA,iN⟩:=Wu r fE
 cases iN with
 |cons h1 iN=>
  cases iN
  cases h1 with
  |@cons _ c0 _ _ hx h1=>
   cases h1
   cases gA with
   |@cons v0 _ _ _ hu hn=>
    cases hn
    have fh:v0=c0:=by
     rcases hu with⟨c',he',rfl,_⟩|⟨hn,_⟩
     ·cases he';rfl
     ·simp at hn
    subst fh
    obtain⟨b,gX,hv⟩:=hx.2 _ hobx
    have gY:=r.obj u 0
    rw[hobx]at gY
    obtain⟨b2,cX,e',hZ,eT,dF⟩:=gY
    rw[gX]at hZ
    have fy:b2=b:=zAq
    subst fy
    have iH:σ'.ob u 0≠ .none:=by rw[hobx];simp
    have ga:=r.ub u 0 b2 iH zB6
    have iS:=r.own u 0 b2 iH ga
    have goal:a'.defers=[]/\∃v,(results fn a'.tmps).run P w'= .ok v w'/\∃b Y,Ending.returned v= .returned (ptr b)/\Below w.heap.size w w'/\w.heap.size<=b/\b<w'.heap.size/\(∀k,Y k->w.heap.size<=k/\k<w'.heap.size/\k≠b)/\∃cs e',w'.heap[b]?=some (.cells cs e' (0,0))/\YC (Rd (Tof T Y) w') cs.toList iO:=by
     refine⟨r.defers,_,iv,b2,X,by rw[hv];rfl,fF,by have:=iS.1;omega,iS.2.2,fun k hk=>?_,cX,e',eT,RT dF⟩
     have g7:=r.hX k hk
     refine⟨by have:=g7.1;omega,g7.2,?_⟩
     rintro rfl
     exact iS.2.1 hk
    rcases he with rfl|rfl
    ·exact goal
    ·exact goal
open Go.RowKit
variable{ts:List TypeId}{qs:List Bool}{rv:List ResultVar}{ops:Array Oper}
theorem vm{ob:Nat->Nat->Ob}(hr:J9 T h ob w hd (.arr true size rows))(hf:∀r∈rows,∀x∈r,x.scalar=true):J9 T h ob w hd (.arr false size rows):=by
 obtain⟨e,xs,ho,hz,⟨hl,Sk,hk,_,_⟩,_⟩:=hr;refine⟨e,xs,ho,hz,YC.qA hl (fun k x d hx hd=>?_)⟩;obtain⟨r0,ep,hdr⟩:=List.mem_flatten.1 (List.mem_of_getElem? hd);have gV:=hf r0 ep d hdr
 have:=hk k x d hx hd;cases this with
 |int k n=>exact .int _ _
 |bool b=>exact .bool _
 |str s=>exact .str _
 |unk v h=>exact .unk _ h
 |sl=>cases gV
theorem Rel.ox(r:Rel T0 B σ a w X h)(hf:σ.fresh d=true)(M:Nat->Prop)(hM:∀b,M b->¬B b/\¬X b/\b<w.heap.size/\∀t j,σ.ob t j≠ .none->¬(h t j).u b)(qs:List Bool)
  (gA:YC yw vs hQ) (hlen:YC (fun(cs:List Value)(row:List D)=>cs.length=row.length) hQ res) (iS:Ke w hQ.flatten res.flatten M) (hq:xe qs res.flatten):J5 T0 B (σ.new d (kJ d res) (Ya qs res.flatten)) (a.put (some d) (PX vs)) w:=by
 have iQ:=St.zV hf
 obtain⟨bP,Sk,k1,k2,k3,k4⟩:=Dw iS
 have iu:∀j,(σ.new d (kJ d res) (Ya qs res.flatten)).ob d j=Yt (Ya qs res.flatten) j:=fun j=>by rw[St.Jv];simp[iQ]
 have htop:=iS.top (T:=Tof T0 X)
 have fY:YC (fun cs row=>YC (Wg (Tof T0 X) w) cs row) hQ res:=jT hlen (fun k x d hx hd=>by
  obtain⟨c,hc,ht⟩:=htop.get' k d hd
  rw[hx]at hc;cases hc;exact ht)
 refine⟨X,fun t j=>if t=d then bP j else h t j,?_⟩
 refine r.wC hf M (Nat.le_refl _) (fun _ _ _=>rfl) (fun b hb=>⟨(hM b hb).1,(hM b hb).2.1,fun t j _ hn=>(hM b hb).2.2.2 t j hn⟩) (fun b hb=>hb) (fun b hb=>.inl hb) (kJ d res) (PX vs) (Ya qs res.flatten) bP ?_ (fun j=>?_) (fun j b iH hb=>?_) (fun j b iH hb=>?_) (fun j j' b iH gE hb iq=>?_)
 ·exact G4 (h:=fun t j=>if t=d then bP j else h t j) (ob:=(σ.new d (kJ d res) (Ya qs res.flatten)).ob) (t:=d) gA fY (fun i size rows hi=>by
   obtain⟨q,fe,_⟩:=(Y5 qs res.flatten i hq).1 size rows hi
   exact⟨q,by rw[iu];exact fe⟩) (fun i c hi=>by simp only[if_true];exact k1 i c hi)
 ·by_cases iH:Yt (Ya qs res.flatten) j= .none
  ·rw[iH];trivial
  ·obtain⟨size,rows,hj⟩:=(Y5 qs res.flatten j hq).2 iH
   obtain⟨q,fe,hqf⟩:=(Y5 qs res.flatten j hq).1 size rows hj
   rw[fe]
   have:=(k4 j size rows hj).2.2 (Tof T0 X) (fun t j=>if t=d then bP j else h t j) (σ.new d (kJ d res) (Ya qs res.flatten)).ob
   cases q with
   |true=>exact this
   |false=>exact vm this (hqf rfl)
 ·obtain⟨size,rows,hj⟩:=(Y5 qs res.flatten j hq).2 iH
  exact(k4 j size rows hj).2.1 b hb
 ·obtain⟨size,rows,hj⟩:=(Y5 qs res.flatten j hq).2 iH
  have:=k2 j b ((k4 j size rows hj).1 b hb)
  exact⟨.inr this,(hM b this).2.1,(hM b this).2.2.1⟩
 ·obtain⟨size,rows,hj⟩:=(Y5 qs res.flatten j hq).2 iH
  obtain⟨iw,ig,eY⟩:=(Y5 qs res.flatten j' hq).2 gE
  exact k3 j j' b ((k4 j size rows hj).1 b hb) ((k4 j' iw ig eY).1 b iq)
theorem Rel.uQ(r:Rel T0 B σ a w X h){cells:List At}(ho:σ.ob t 0= .box cells)(hv:(h t 0).v=ptr b)(gT:w.heap.size<=w'.heap.size)(hw:∀k,k<w.heap.size->k≠b->w'.heap[k]?=w.heap[k]?)
  (hX:∀b,X b->X' b) (cO:∀b,X' b->X b\/(w.heap.size<=b/\b<w'.heap.size)) (eu:∃cs e,w'.heap[b]?=some (.cells cs e (0,0))/\YC (Rd (Tof T0 X') w') cs.toList iO):Rel T0 B (σ.Zy t 0 (.box (iO.map .d))) a w' X' h:=by
 have iu:σ.ob t 0≠ .none:=zAx
 have hJ:blk (h t 0).v=some b:=by rw[hv];rfl
 have ga:=r.ub t 0 b iu hJ
 have hbB:=r.own t 0 b iu ga
 have hT:∀k i v,Tof T0 X k i->w.cell? ⟨k,i,none⟩=some v->w'.cell? ⟨k,i,none⟩=some v/\Tof T0 X' k i:=by
  intro k i v hk hc
  refine⟨?_,hk.imp id (hX k)⟩
  have iH:k≠b:=by
   rintro rfl
   rcases hk with hk|hk
   ·exact hbB.1 (r.hT _ _ hk)
   ·exact hbB.2.1 hk
  rw[World.cell?_of_block (hw k (r.Tlt hk) iH)];exact hc
 have gd:∀u i,¬(u=t/\i=0)->(σ.Zy t 0 (.box (iO.map .d))).ob u i=σ.ob u i:=by
  intro u i iH
  rw[St.Xx σ t 0 _ u i iu,if_neg iH]
 have gZ:(σ.Zy t 0 (.box (iO.map .d))).ob t 0= .box (iO.map .d):=by rw[St.Xx σ t 0 _ t 0 iu];simp
 have hcp:∀u i,Cpt h h σ.ob (σ.Zy t 0 (.box (iO.map .d))).ob u i:=by
  intro u i
  by_cases hu:u=t/\i=0
  ·obtain⟨rfl,rfl⟩:=hu
   refine⟨fun q size rows hD=>?_,fun size rows hD=>?_,fun iW hD=>⟨rfl,cells,ho⟩⟩
   ·rw[gZ]at hD;cases hD
   ·rw[gZ]at hD;cases hD
  ·exact Cpt.same rfl (gd u i hu)
 have at_:∀{x:At}{v:Value},(fun _=>false:At->Bool) x=false->YK (Tof T0 X) h σ.ob w x v->YK (Tof T0 X') h (σ.Zy t 0 (.box (iO.map .d))).ob w' x v:=fun _ rx=>YK.tu hT hcp rx
 have gf:∀u i,(σ.Zy t 0 (.box (iO.map .d))).ob u i≠ .none->σ.ob u i≠ .none:=by
  intro u i hn
  by_cases hu:u=t/\i=0
  ·obtain⟨rfl,rfl⟩:=hu;exact iu
  ·rw[gd u i hu]at hn;exact hn
 refine⟨by rw[r.size,St.Xf],r.defers,fun b hb=>Nat.lt_of_lt_of_le (r.hB b hb) gT,fun k hk=>?_,r.hT,fun u hu=>?_,fun u i=>?_,fun u i k hn=>r.ub u i k (gf u i hn),fun u i k hn hk=>?_,fun u i u' i' k hn gF=>r.inj u i u' i' k (gf u i hn) (gf u' i' gF)⟩
 ·rcases cO k hk with hk|hk
  ·have:=r.hX k hk;exact⟨this.1,zAA⟩
  ·exact⟨fun fy=>by have:=r.hB k fy;omega,hk.2⟩
 ·rw[St.Xf]at hu
  rw[St.QP];exact JU.map at_ (qV _) (r.slot u hu)
 ·by_cases hu:u=t/\i=0
  ·obtain⟨rfl,rfl⟩:=hu
   rw[gZ]
   obtain⟨cs,e,hh,iN⟩:=eu
   exact⟨b,cs,e,hv,hh,Vq iN⟩
  ·rw[gd u i hu]
   exact J9.map at_ hT (fun ho b=>r.ub u i b ho) (fun hn k hk=>hw k (r.own u i k hn hk).2.2 (fun e=>by
    rw[e]at hk
    obtain⟨e1,e2⟩:=r.inj u i t 0 b hn iu hk ga
    exact hu ⟨e1,e2⟩)) (VU _) (r.obj u i)
 ·have:=r.own u i k (gf u i hn) hk
  refine⟨this.1,fun hx=>?_,zAA⟩
  rcases cO k hx with hx|hx
  ·exact this.2.1 hx
  ·omega
def AQ(dp:Bool)(σ:St)(d:Nat)(res:List (List D))(qs:List Bool):St:=match dp with|true=>σ.new d (kJ d res) (Ya qs res.flatten)|false=>σ.put d (jF res)
theorem Lq(r:Rel T0 B σ a w X h){o:Oper}{xs:List Operand}{t0:TypeId}{row:List D}(qs:List Bool)(iE:o.op= .call cl)(hc:cl.callee= .value (.func f))(hd:o.dst=some d)
  (ha:cl.args.toList=x0::xs) (hg:gOf (look P σ t0 x0)=true) (hx:unc (look P σ t0 x0)= .one (.bptr t 0)) (ho:σ.ob t 0= .box (row.map .d)) (iT:JE P σ xs ts im) (hC:Ym P σ xs ts=true) (hs:xz P f dp row im iO res)
  (gG:dp=true->(σ.Zy t 0 (.box (iO.map .d))).fresh d=true/\xe qs res.flatten)
  (hK:∀a' w',J5 T0 B (AQ dp (σ.Zy t 0 (.box (iO.map .d))) d res qs) a' w'->XF B w w'->K a' w'):o.wp P a w K Q:=by
 have iu:σ.ob t 0≠ .none:=zAx
 have har:=r.arg (P:=P) t0 x0 hx hg
 obtain⟨b,gX,hv⟩:=har.2 _ ho
 have gY:=r.obj t 0
 rw[ho]at gY
 obtain⟨b2,cs,e,hZ,hh,iN⟩:=gY
 rw[gX]at hZ
 have fy:b2=b:=zAq
 subst fy
 have hJ:blk (h t 0).v=some b2:=zB6
 have ga:=r.ub t 0 b2 iu hJ
 have iS:=r.own t 0 b2 iu ga
 have eF:=r.JE true iT (fun _=>hC)
 simp only[if_true]at eF
 unfold Oper.wp
 rw[UF iE hc hs.1,Oper.upon_enter]
 rw[show(cl.args.toList.map a.eval).toArray=(ptr b2::xs.map a.eval).toArray by rw[ha];simp[hv]]
 have hT:∀k i,Tof T0 X k i->k<w.heap.size/\k≠b2:=by
  intro k i hk
  refine⟨r.Tlt hk,?_⟩
  rintro rfl
  rcases hk with hk|hk
  ·exact iS.1 (r.hT _ _ hk)
  ·exact iS.2.1 hk
 refine(hs.2 (Tof T0 X) w b2 _ hT iS.2.2 ⟨cs,e,hh,RT iN⟩ eF).mono ?_
 rintro e' w' ⟨vs,hQ,Y,rfl,ir,hY,⟨cX,e2,eT,dF⟩,gA,hlen,fE⟩
 rw[hd]
 have bY:∀{v:Value}{x:D},Rd (Tof (Tof T0 X) Y) w' v x->Rd (Tof T0 (fun k=>X k\/Y k)) w' v x:=fun hr=>hr.mono (fun k i v hk hc=>⟨hc,by
  rcases hk with(hk|hk)|hk
  ·exact .inl hk
  ·exact .inr (.inl hk)
  ·exact .inr (.inr hk)⟩)
 have r1:=r.uQ (w':=w') (X':=fun k=>X k\/Y k) (iO:=iO) ho gX ir.size (fun k hk iH=>ir.block k ⟨hk,iH⟩) (fun k hk=>.inl hk) (fun k hk=>hk.imp id (hY k)) ⟨cX,e2,eT,dF.imp fun _ _=>bY⟩
 have hBk:XF B w w':=⟨ir.os,ir.tape,ir.output,ir.size,fun k hk=>ir.block k ⟨r.hB k hk,fun e=>iS.1 (e▸hk)⟩⟩
 cases dp with
 |false=>
  simp only[Bool.false_eq_true,if_false]at fE
  exact hK _ _ ⟨_,_,r1.put d _ _ (DG gA (LK (fun _ _ _ _ _=>bY) fE))⟩ hBk
 |true=>
  simp only[if_true]at fE
  obtain⟨hfr1,hq⟩:=gG rfl
  refine hK _ _ (r1.ox hfr1 (fun k=>w.heap.size<=k/\k<w'.heap.size/\¬Y k) (fun k hk=>⟨fun hb=>by have:=r.hB k hb;omega,?_,hk.2.1,fun u j hn hu=>?_⟩) qs gA hlen fE hq) hBk
  ·rintro(hx|hy)
   ·have:=(r.hX k hx).2;omega
   ·exact hk.2.2 hy
  ·have gF:σ.ob u j≠ .none:=by
    by_cases hc:u=t/\j=0
    ·obtain⟨rfl,rfl⟩:=hc;exact iu
    ·rw[St.Xx σ t 0 _ u j iu,if_neg hc]at hn;exact hn
   have:=(r.own u j k gF hu).2.2;omega
theorem B6(r:Rel T0 B σ a w X h){o:Oper}(iE:o.op= .call cl)(hc:cl.callee= .value (.func f))(hd:o.dst=some d)(gG:σ.fresh d=true)
  (iT:JE P σ cl.args.toList cl.argTypes.toList im) (hC:Ym P σ cl.args.toList cl.argTypes.toList=true) (hs:Mm P f im iO)
  (hK:∀a' w',J5 T0 B (σ.new d (.one (.bptr d 0)) [.box (iO.map .d)]) a' w'->XF B w w'->K a' w'):o.wp P a w K Q:=by
 have iQ:=St.zV gG
 have eF:=r.JE true iT (fun _=>hC)
 simp only[if_true]at eF
 unfold Oper.wp
 rw[UF iE hc hs.1,Oper.upon_enter]
 refine(hs.2 (Tof T0 X) w _ (fun k i hk=>r.Tlt hk) eF).mono ?_
 rintro e' w' ⟨b,Y,rfl,fF,gX,hZ,hY,cX,e2,eT,dF⟩
 rw[hd]
 have bY:∀{v:Value}{x:D},Rd (Tof (Tof T0 X) Y) w' v x->Rd (Tof T0 (fun k=>X k\/Y k)) w' v x:=fun hr=>hr.mono (fun k i v hk hc=>⟨hc,by
  rcases hk with(hk|hk)|hk
  ·exact .inl hk
  ·exact .inr (.inl hk)
  ·exact .inr (.inr hk)⟩)
 have iu:(σ.new d (.one (.bptr d 0)) [.box (iO.map .d)]).ob d 0= .box (iO.map .d):=zA8
 refine hK _ _ ⟨fun k=>X k\/Y k,fun t j=>if t=d then Hd.of (ptr b)else h t j,?_⟩ (XF.MW fF r.hB)
 refine r.new gG (Below.grownBy fF) (fun k hk=>.inl hk) (fun k hk=>hk.imp id (fun hy=>⟨(hY k hy).1,(hY k hy).2.1⟩)) _ _ _ (fun _=>Hd.of (ptr b)) ⟨rfl,fun cells _=>⟨b,by simp[Hd.of],rfl⟩⟩ (fun j=>?_) (fun j k _ hk=>hk) (fun j k _ hk=>?_) (fun i j k hi hj _ _=>?_)
 ·cases j with
  |zero=>exact⟨b,cX,e2,rfl,eT,Vq (dF.imp fun _ _=>bY)⟩
  |succ j=>simp[Yt,J9]
 ·simp[Hd.of,blk]at hk;subst hk
  refine⟨gX,?_,hZ⟩
  rintro(hx|hy)
  ·have:=(r.hX _ hx).2;omega
  ·exact(hY _ hy).2.2 rfl
 ·have hz:∀j,Yt [Ob.box (iO.map .d)] j≠ .none->j=0:=by
   intro j hj
   cases j with
   |zero=>rfl
   |succ j=>simp[Yt]at hj
  rw[hz i hi,hz j hj]
section
theorem Gt{d':Nat}(iH:d≠d')(hO:Xs σ d=true):Xs (AQ dp σ d' res qs) d=true:=by
 cases dp with
 |false=>exact MY iH hO
 |true=>exact WE iH hO
attribute [simp] AQ
theorem yX{c:Code}(hf:P.funcs[f]?=some fn)(hb:fn.body=some c)(iz:Tf P f=true){row:List D}
  (hw:∀v,@WI P (qd fn.ntmps [] v (row.map .d) [] args) ⟨c⟩ (.fin (nD P fn v dp iO res))):xz P f dp row args iO res:=Fi hf hb iz (fun v=>UQ (hw v))
theorem qQ(hf:fn.results=rv.toArray)(h:(KK P σ rv).1/\σ.head?=some (.fix v (.one (.bptr 0 0)),.box (iO.map .d)::(σ.head?.map (fun e=>e.2.tail)).getD [])/\
  (if dp then K2 σ (KK P σ rv).2=some res/\Kf σ (KK P σ rv).2/\(XP (KK P σ rv).2.flatten).Nodup else WS σ (KK P σ rv).2=some res)):nD P fn v dp iO res .ret σ:=
 ⟨.inl rfl,⟨_,h.2.1⟩,_,by rw[hf];exact T2 h.1,h.2.2⟩
theorem uu{c:Code}(hf:P.funcs[f]?=some fn)(hb:fn.body=some c)(iz:Tf P f=true)
  (hw:@WI P (ki fn.ntmps args) ⟨c⟩ (.fin (o8 P fn iO))):Mm P f args iO:=EL hf hb iz (UQ hw)
theorem mc(u:Nat)(hf:fn.results=rv.toArray)(h:(KK P σ rv).1/\(KK P σ rv).2=[[.bptr u 0]]/\σ.ob u 0= .box (iO.map .d)):o8 P fn iO .ret σ:=
 ⟨.inl rfl,u,by rw[hf,<-h.2.1];exact T2 h.1,h.2.2⟩
theorem Aq{o:Oper}{xs:List Operand}{t0:TypeId}{row:List D}(qs:List Bool)(iE:o.op= .call cl)(hc:cl.callee= .value (.func f))(ei:o.guard=none)(hd:o.dst=some d)
  (ha:cl.args.toList=x0::xs) (hs:xz P f dp row im iO res) (hg:gOf (look P σ t0 x0)=true) (hx:unc (look P σ t0 x0)= .one (.bptr t 0)) (ho:σ.ob t 0= .box (row.map .d))
  (iT:JE P σ xs ts im) (hC:Ym P σ xs ts=true) (gG:dp=true->(σ.Zy t 0 (.box (iO.map .d))).fresh d=true/\xe qs res.flatten):nb P ops o σ (AQ dp (σ.Zy t 0 (.box (iO.map .d))) d res qs):=by
 have hm:∀z∈x0::xs,z∈o.op.operands.toList:=fun z hz=>by rw[iE];exact yN (by rw[ha];exact hz)
 refine⟨d,t,row.map .d,iO.map .d,cond dp (kJ d res) (jF res),cond dp (some (Ya qs res.flatten)) none,hd,ho,⟨x0,xs,⟨f,cl.argTypes,?_⟩,t0,hx⟩,fun u=>⟨UC _,UC _⟩,fun u hu=>?_,fun hn=>?_,?_,fun σ2 hl cL iu hfr2=>?_⟩
 ·rw[iE]
  obtain⟨c1,c2,c3⟩:=cl
  simp only at hc ha⊢
  rw[hc,<-ha]
 ·cases dp with
  |true=>
   have hu:=hu.resolve_left zAE
   exact⟨FL hu res,fun l hl=>by cases hl;exact y8 u qs _⟩
  |false=>exact⟨Er u res,fun l hl=>by cases hl⟩
 ·cases dp with
  |true=>exact(gG rfl).1
  |false=>exact absurd rfl hn
 ·cases dp<;>rfl
 ·have hP:Sub P o.op.operands.toList σ σ2:=⟨hl,cL,iu⟩
  have hsx:Sub P xs σ σ2:=⟨hl,fun z hz=>cL z (hm z (by simp[hz])),fun z hz=>iu z (hm z (by simp[hz]))⟩
  have h0:=cL x0 (hm x0 zAE) t0
  have fp:σ2.ob t 0= .box (row.map .d):=by
   rw[<-ho]
   exact iu x0 (hm x0 zAE) t0 t (Qj hx zAy) 0 zAx
  have e:y9 t d (iO.map .d) (cond dp (kJ d res) (jF res)) (cond dp (some (Ya qs res.flatten)) none) σ2=AQ dp (σ2.Zy t 0 (.box (iO.map .d))) d res qs:=by cases dp<;>rfl
  rw[e]
  refine⟨?_,fun d' ic hO=>Gt (fun e=>ic zBs) (Qs hO)⟩
  rintro T0 B a w K Q' ⟨X,hh,r⟩ hK
  have hw:Region.wanted o (yielded ops a.tmps)=true:=zBj
  rw[if_pos hw]
  refine Lq r qs iE hc hd ha (by rw[<-h0];exact hg) (by rw[<-h0];exact hx) fp (Wh hsx iT) (by rw[WK hsx];exact hC) hs (fun hdp=>⟨?_,(gG hdp).2⟩) hK
  subst hdp
  exact hfr2 zAE
theorem oU{xs:List Operand}{t0:TypeId}{row:List D}(qs:List Bool)(iE:o.o.op= .call cl)(hc:cl.callee= .value (.func f))(ei:o.o.guard=none)(hd:o.o.dst=some d)(hU:A.bar o.o=true)
  (ha:cl.args.toList=x0::xs) (_hat:cl.argTypes.toList=t0::ts) (hs:xz P f dp row im iO res) (hx:gOf (look P σ t0 x0)=true/\unc (look P σ t0 x0)= .one (.bptr t 0)) (ho:σ.ob t 0= .box (row.map .d))
  (iT:(Xe P σ xs ts).1) (ij:(Xe P σ xs ts).2=some im) (hC:Ym P σ xs ts=true) (gG:dp=true->(σ.Zy t 0 (.box (iO.map .d))).fresh d=true/\xe qs res.flatten)
  (h:@EI P (AQ dp (σ.Zy t 0 (.box (iO.map .d))) d res qs) A l k):@SI P σ A o l k:=by
 refine⟨_,.inr ⟨hU,?_,fun d' ic hO=>Gt (fun e=>ic zBs) (Qs hO),fun hh=>by simp[UK,iE]at hh,fun hh=>by first|(simp[kr,iE]at hh;done)|(unfold kr at hh;rw[iE]at hh;split at hh<;>simp_all),fun _ _=>Aq qs iE hc ei hd ha hs hx.1 hx.2 ho (qh iT ij) hC gG⟩,Jm h⟩
 rintro T0 B a w K Q' ⟨X,hh,r⟩ hK
 have hw:Region.wanted o.o (yielded A.ops a.tmps)=true:=zBj
 rw[if_pos hw]
 exact Lq r qs iE hc hd ha hx.1 hx.2 ho (qh iT ij) hC hs gG hK
theorem mC(iE:o.o.op= .call cl)(hc:cl.callee= .value (.func f))(ei:o.o.guard=none)(hd:o.o.dst=some d)(hU:A.bar o.o=true)(hs:Mm P f im iO)
  (iT:(Xe P σ cl.args.toList cl.argTypes.toList).1) (ij:(Xe P σ cl.args.toList cl.argTypes.toList).2=some im) (hC:Ym P σ cl.args.toList cl.argTypes.toList=true) (gG:σ.fresh d=true)
  (h:@EI P (σ.new d (.one (.bptr d 0)) [.box (iO.map .d)]) A l k) (dM:KV P o.o=false:=by exact rfl):@SI P σ A o l k:=by
 refine⟨_,.inr ⟨hU,?_,fun d' ic hO=>WE (fun e=>ic zBs) hO,fun hh=>by simp[UK,iE]at hh,fun hh=>by first|(simp[kr,iE]at hh;done)|(unfold kr at hh;rw[iE]at hh;split at hh<;>simp_all),fun hh _=>by rw[dM]at hh;cases hh⟩,Jm h⟩
 rintro T0 B a w K Q' ⟨X,hh,r⟩ hK
 have hw:Region.wanted o.o (yielded A.ops a.tmps)=true:=zBj
 rw[if_pos hw]
 exact B6 r iE hc hd gG (qh iT ij) hC hs hK
end
open Go.RowKit
variable{dW:List At}
def oP(w:World)(S:Nat->Prop)(b:Nat)(iO:List D)(e:Ending)(w':World):Prop:=
 e= .returned (.tuple #[])/\XF (fun k=>k<w.heap.size/\k≠b/\¬S k) w w'/\∃cs e',w'.heap[b]?=some (.cells cs e' (0,0))/\Ke w' cs.toList iO (fun k=>(S k\/(w.heap.size<=k/\k<w'.heap.size))/\k≠b)
def FR(P:Program)(f:FuncId)(args:List (List D))(row iO:List D):Prop:=
 Tf P f=true/\∀(T:CS)(S:Nat->Prop)(w:World)(b:Nat)(gC:List Value),(∀k i,T k i->k<w.heap.size/\k≠b/\¬S k)->(∀k,S k->k<w.heap.size/\k≠b)->b<w.heap.size->
  (∃cs e,w.heap[b]?=some (.cells cs e (0,0))/\Ke w cs.toList row S)->Ep T w gC args->Calls P f (gC++[ptr b]).toArray w (oP w S b iO)
def o7(P:Program)(fn:Func)(p:Nat)(v:Value)(iO:List D)(e:Exit)(σ:St):Prop:=
 (e= .ret\/e= .normal)/\Sw P σ fn.results.toList []/\∃dW fH,σ[p]?=some (.fix v (.one (.bptr p 0)),.box dW::fH)/\KD σ dW=some iO/\Qk σ dW/\(XP dW).Nodup
def n7(n sz:Nat)(rows:List (List D))(args:List (List D)):St:=(.one (.sref 0 0 0 rows.length),[.arr false sz rows])::(Ow args++List.replicate (n-(args.length+1)) (V.any,[]))
def At.isO(u:Nat):At->Bool
 |.sref t _ _ _=>t==u
 |.ptr t _ _ _=>t==u
 |.tref t _ _ _ _=>t==u
 |_=>false
theorem vZ{row:List D}(hq:xe qs row)(k4:∀j size rows,row[j]?=some (.sl size rows)->∀T h ob,J9 T h ob w (hf j) (.arr true size rows))(T:CS)(ob:Nat->Nat->Ob)(j:Nat):J9 T h ob w (hf j) (Yt (Ya qs row) j):=by
 by_cases iH:Yt (Ya qs row) j= .none
 ·rw[iH];trivial
 ·obtain⟨size,rows,hj⟩:=(Y5 qs row j hq).2 iH;obtain⟨q,fe,hqf⟩:=(Y5 qs row j hq).1 size rows hj;rw[fe];have:=k4 j size rows hj T h ob
  cases q with
  |true=>exact this
  |false=>exact vm this (hqf rfl)
theorem F3{c:Code}(hf:P.funcs[f]?=some fn)(hb:fn.body=some c)(iz:Tf P f=true){row:List D}(qs:List Bool)(hq:xe qs row)
  (hw:∀v,AWP P c (o7 P fn args.length v iO) (qd fn.ntmps args v (K0 args.length 1 row) (Ya qs row) [])):FR P f args row iO:=by
 refine⟨iz,fun T S w b gC hT hS iq ⟨cs0,e0,hh0,dL⟩ iT=>calls_of_wp hf hb ?_⟩
 obtain⟨bP,Sk,k1,k2,k3,k4⟩:=Dw dL
 have cq:=DP (w:=w) (T:=T) (S:=S) (n:=fn.ntmps) (b:=b) (pre:=args) (post:=[]) (cells:=K0 args.length 1 row) (fH:=Ya qs row) (g8:=gC) (fM:=[]) (fun j=>match j with|0=>Hd.of (ptr b)|j+1=>bP j)
  hT hS iq rfl (fun h ob hh iu=>⟨b,cs0,e0,rfl,hh0,Sv dL.top (fun i size rows hi=>by
    obtain⟨q,fe,_⟩:=(Y5 qs row i hq).1 size rows hi
    exact⟨q,by rw[iu,Nat.add_comm,WU];exact fe⟩) (fun i c hc=>by rw[hh,Nat.add_comm];exact k1 i c hc)⟩)
  (fun h ob j=>vZ hq (fun j size rows hj=>(k4 j size rows hj).2.2) _ _ j)
  (fun j k hn hk=>by
   obtain⟨size,rows,hj⟩:=(Y5 qs row j hq).2 hn
   exact(k4 j size rows hj).2.1 k hk)
  (fun j k hn hk=>by
   obtain⟨size,rows,hj⟩:=(Y5 qs row j hq).2 hn
   exact k2 j k ((k4 j size rows hj).1 k hk))
  (fun i j k hn gF hk g7=>by
   obtain⟨size,rows,hj⟩:=(Y5 qs row i hq).2 hn
   obtain⟨iw,ig,eY⟩:=(Y5 qs row j hq).2 gF
   exact k3 i j k ((k4 i size rows hj).1 k hk) ((k4 j iw ig eY).1 k g7)) iT .nil
 refine wp_mono (hw (ptr b) T _ _ w cq) ?_
 rintro e a' w' ⟨σ',⟨he,fE,dW,fH,eQ,fQ,fg,gP⟩,⟨X,h,r⟩,ir⟩
 obtain⟨vs,hQ,iv,gA,iN⟩:=Wu r fE
 cases iN
 cases gA
 have gM:args.length<σ'.length:=(List.getElem?_eq_some_iff.1 eQ).1
 have hg0:σ'.get args.length= .fix (ptr b) (.one (.bptr args.length 0)):=by unfold St.get;rw[eQ]
 have gU:σ'.ob args.length 0= .box dW:=by unfold St.ob;rw[eQ];rfl
 have dn:=r.slot _ gM
 rw[hg0]at dn
 obtain⟨hveq,ff⟩:=dn
 obtain⟨b1,gX,gQ⟩:=ff.2 _ gU
 rw[hveq]at gQ
 have fy:b1=b:=zBV
 subst fy
 have gY:=r.obj args.length 0
 rw[gU]at gY
 obtain⟨b2,cX,e',hZ,eT,dF⟩:=gY
 rw[gX]at hZ
 have fy:b2=b1:=zAq
 subst fy
 have ga:=r.ub args.length 0 b2 zBk zB6
 have goal:a'.defers=[]/\∃v,(results fn a'.tmps).run P w'= .ok v w'/\oP w S b2 iO (.returned v) w':=by
  refine⟨r.defers,_,iv,rfl,ir,cX,e',eT,(Ro r dF fQ fg gP).mono (fun k hk=>?_)⟩
  have hg:=r.yQ _ k hk
  have iH:k≠b2:=by
   rintro rfl
   obtain⟨p,hp,iH,hu⟩:=hk
   obtain⟨e1,e2⟩:=r.inj p.1 p.2 args.length 0 k iH zBk hu ga
   obtain⟨i,lo,len,hx⟩:=Pg hp
   obtain⟨d,hd,hmd⟩:=(YC.get (R:=fun x d=>mvD σ' x=some d) (YC.qA (qk fQ).1 (fun i a b h1 h2=>(qk fQ).2 i a b h1 h2)) i _ hx)
   rw[e1,e2]at hmd
   simp[mvD,gU]at hmd
  refine⟨?_,iH⟩
  by_cases hs:S k
  ·exact .inl hs
  ·refine .inr ⟨?_,hg.2.2.1⟩
   rcases Nat.lt_or_ge k w.heap.size with iQ|ej
   ·exact absurd ⟨iQ,iH,hs⟩ hg.1
   ·exact ej
 rcases he with rfl|rfl
 ·exact goal
 ·exact goal
theorem Rel.nk(r:Rel T0 B σ a w X h){cells:List At}(ho:σ.ob u 0= .box cells)(hv:(h u 0).v=ptr b)(iQ:u<σ.length)(M S':Nat->Prop)(gT:w.heap.size<=w'.heap.size)(hw:∀k,k<w.heap.size->k≠b->¬M k->w'.heap[k]?=w.heap[k]?)
  (hm:∀k,M k->¬B k/\¬X k/\∀t j,σ.ob t j≠ .none->¬(h t j).u k) (bO:(σ.Zy u 0 .none).yn (At.isO u)=false) (hq:xe qs iO) {e':TypeId} (eT:w'.heap[b]?=some (.cells cX e' (0,0)))
  (iS:Ke w' cX.toList iO S') (hS':∀k,S' k->(w.heap.size<=k\/M k)/\k<w'.heap.size/\k≠b):J5 T0 B (σ.new u (σ.get u) (.box (K0 u 1 iO)::Ya qs iO)) a w':=by
 have iu:σ.ob u 0≠ .none:=zAx
 have hJ:blk (h u 0).v=some b:=by rw[hv];rfl
 have ga:=r.ub u 0 b iu hJ
 have hbB:=r.own u 0 b iu ga
 obtain⟨bP,Sk,k1,k2,k3,k4⟩:=Dw iS
 generalize hσ:σ.new u (σ.get u) (.box (K0 u 1 iO)::Ya qs iO)=σ2
 have cZ:∀j,σ2.ob u j=Yt (.box (K0 u 1 iO)::Ya qs iO) j:=fun j=>by rw[<-hσ,St.Jv];simp[iQ]
 have fT:∀t j,t≠u->σ2.ob t j=σ.ob t j:=fun t j iH=>by rw[<-hσ,St.Jv,if_neg (fun hh=>iH hh.1)]
 have gW:∀t,σ2.get t=σ.get t:=by
  intro t
  rw[<-hσ,St.VZ]
  split
  ·rename_i hh;rw[hh.1]
  ·rfl
 have hlen:σ2.length=σ.length:=by rw[<-hσ,St.WO]
 let ic:Nat->Hd:=fun j=>match j with|0=>h u 0|j+1=>bP j
 let h':Nat->Nat->Hd:=fun t j=>if t=u then ic j else h t j
 have hT:∀k i v,Tof T0 X k i->w.cell? ⟨k,i,none⟩=some v->w'.cell? ⟨k,i,none⟩=some v/\Tof T0 X k i:=by
  intro k i v hk hc
  refine⟨?_,hk⟩
  have iH:k≠b:=by
   rintro rfl
   rcases hk with hk|hk
   ·exact hbB.1 (r.hT _ _ hk)
   ·exact hbB.2.1 hk
  have av:¬M k:=by
   intro hmk
   rcases hk with hk|hk
   ·exact(hm k hmk).1 (r.hT _ _ hk)
   ·exact(hm k hmk).2.1 hk
  rw[World.cell?_of_block (hw k (r.Tlt hk) iH av)];exact hc
 have at_:∀{x:At}{v:Value},At.isO u x=false->YK (Tof T0 X) h σ.ob w x v->YK (Tof T0 X) h' σ2.ob w' x v:=by
  intro x v az rx
  cases x with
  |any=>exact rx
  |d x=>exact Rd.mono hT rx
  |nil s=>exact rx
  |sref t j lo len=>
   have iH:t≠u:=by simpa[At.isO]using az
   simp only[YK,h',if_neg iH,fT t j iH];exact rx
  |ptr t j i c=>
   have iH:t≠u:=by simpa[At.isO]using az
   simp only[YK,h',if_neg iH,fT t j iH];exact rx
  |tref t j i c o=>
   have iH:t≠u:=by simpa[At.isO]using az
   simp only[YK,h',if_neg iH,fT t j iH];exact rx
  |bptr t c=>
   by_cases hc:t=u
   ·subst hc
    refine⟨rx.1,fun iW _=>?_⟩
    simp only[h',if_true,ic];exact rx.2 _ ho
   ·simp only[YK,h',if_neg hc,fT t 0 hc];exact rx
  |fn f t=>
   by_cases hc:t=u
   ·subst hc
    refine⟨rx.1,fun iW _=>?_⟩
    simp only[h',if_true,ic];exact rx.2 _ ho
   ·simp only[YK,h',if_neg hc,fT t 0 hc];exact rx
  |rptr rr c=>
   obtain⟨b,off,g,e,hk⟩:=rx
   exact⟨b,off,g,e,fun k d hd=>⟨(hT _ _ _ (hk k d hd).2.1 (hk k d hd).1).1,(hk k d hd).2.1,Rd.mono hT (hk k d hd).2.2⟩⟩
 have gY:∀j,Yt (.box (K0 u 1 iO)::Ya qs iO) j≠ .none->j=0\/∃i size rows,j=i+1/\iO[i]?=some (.sl size rows):=by
  intro j hn
  cases j with
  |zero=>exact .inl rfl
  |succ j=>
   rw[WU]at hn
   obtain⟨size,rows,hj⟩:=(Y5 qs iO j hq).2 hn
   exact .inr ⟨j,size,rows,rfl,hj⟩
 have hu0:∀k,(h u 0).u k->k<w.heap.size/\¬M k/\¬B k/\¬X k:=fun k hk=>⟨(r.own u 0 k iu hk).2.2,fun hmk=>(hm k hmk).2.2 u 0 iu hk,(r.own u 0 k iu hk).1,(r.own u 0 k iu hk).2.1⟩
 have hfu:∀i size rows k,iO[i]?=some (.sl size rows)->(bP i).u k->(w.heap.size<=k\/M k)/\k<w'.heap.size/\k≠b:=fun i size rows k hi hk=>hS' k (k2 i k ((k4 i size rows hi).1 k hk))
 have hkeepu:∀t j,t≠u->σ.ob t j≠ .none->∀k,(h t j).u k->w'.heap[k]?=w.heap[k]?:=by
  intro t j iH hn k hk
  refine hw k (r.own t j k hn hk).2.2 ?_ (fun hmk=>(hm k hmk).2.2 t j hn hk)
  rintro rfl
  exact iH (r.inj t j u 0 k hn iu hk ga).1
 refine⟨X,h',by rw[r.size,hlen],r.defers,fun k hk=>Nat.lt_of_lt_of_le (r.hB k hk) gT,fun k hk=>⟨(r.hX k hk).1,Nat.lt_of_lt_of_le (r.hX k hk).2 gT⟩,r.hT,fun t ht=>?_,fun t j=>?_,fun t j k hn hk=>?_,fun t j k hn hk=>?_,fun t j t' j' k hn gF hk g7=>?_⟩
 ·rw[hlen]at ht
  rw[gW]
  have hp:(σ.get t).yn (At.isO u)=false:=by have:=St.NY bO t;rwa[St.QP]at this
  exact JU.map at_ hp (r.slot t ht)
 ·by_cases hc:t=u
  ·subst hc
   rw[cZ]
   cases j with
   |zero=>
    simp only[h',if_true,ic,DT]
    exact⟨b,cX,e',hv,eT,Sv iS.top (fun i size rows hi=>by
     obtain⟨q,fe,_⟩:=(Y5 qs iO i hq).1 size rows hi
     exact⟨q,by rw[cZ,Nat.add_comm,WU];exact fe⟩) (fun i c hc=>by simp only[if_true,Nat.add_comm 1 i];exact k1 i c hc)⟩
   |succ j=>
    simp only[h',if_true,ic,WU]
    exact vZ hq (fun j size rows hj=>(k4 j size rows hj).2.2) _ _ j
  ·rw[fT t j hc]
   simp only[h',if_neg hc]
   by_cases hn:σ.ob t j= .none
   ·rw[hn];trivial
   ·have hp:xY (At.isO u) [σ.ob t j]=false:=by
     have:=St.HZ bO t j
     rwa[St.Tq,if_neg (fun hh=>hc hh.1)]at this
    exact J9.map at_ hT (fun ho b=>r.ub t j b ho) (fun hn k hk=>hkeepu t j hc hn k hk) hp (r.obj t j)
 ·by_cases hc:t=u
  ·subst hc
   rw[cZ]at hn
   rcases gY j hn with rfl|⟨i,size,rows,rfl,hi⟩
   ·simp only[h',if_true,ic]at hk⊢;exact r.ub t 0 k iu hk
   ·simp only[h',if_true,ic]at hk⊢;exact(k4 i size rows hi).2.1 k hk
  ·rw[fT t j hc]at hn
   simp only[h',if_neg hc]at hk⊢;exact r.ub t j k hn hk
 ·by_cases hc:t=u
  ·subst hc
   rw[cZ]at hn
   rcases gY j hn with rfl|⟨i,size,rows,rfl,hi⟩
   ·simp only[h',if_true,ic]at hk
    have:=hu0 k hk;exact⟨this.2.2.1,this.2.2.2,zAA⟩
   ·simp only[h',if_true,ic]at hk
    have:=hfu i size rows k hi hk
    rcases this.1 with h1|h1
    ·exact⟨fun hb=>by have:=r.hB k hb;omega,fun hx=>by have:=(r.hX k hx).2;omega,this.2.1⟩
    ·exact⟨(hm k h1).1,(hm k h1).2.1,this.2.1⟩
  ·rw[fT t j hc]at hn
   simp only[h',if_neg hc]at hk
   have:=r.own t j k hn hk;exact⟨this.1,this.2.1,zAA⟩
 ·have key:∀t j i k,t≠u->σ.ob t j≠ .none->(h t j).u k->Yt (.box (K0 u 1 iO)::Ya qs iO) i≠ .none->(ic i).u k->False:=by
   intro t j i k iH hn hk gF g7
   rcases gY i gF with rfl|⟨i,size,rows,rfl,hi⟩
   ·exact iH (r.inj t j u 0 k hn iu hk g7).1
   ·have h1:=hfu i size rows k hi g7
    have h2:=r.own t j k hn hk
    rcases h1.1 with h3|h3
    ·omega
    ·exact(hm k h3).2.2 t j hn hk
  by_cases hc:t=u
  ·by_cases gD:t'=u
   ·subst hc;subst gD
    rw[cZ]at hn gF
    simp only[h',if_true]at hk g7
    refine⟨rfl,?_⟩
    rcases gY j hn with rfl|⟨i,size,rows,rfl,hi⟩
    ·rcases gY j' gF with rfl|⟨i',iw,ig,rfl,gm⟩
     ·rfl
     ·have h1:=hu0 k hk
      have h2:=hfu i' iw ig k gm g7
      rcases h2.1 with h3|h3
      ·omega
      ·exact absurd h3 h1.2.1
    ·rcases gY j' gF with rfl|⟨i',iw,ig,rfl,gm⟩
     ·have h1:=hu0 k g7
      have h2:=hfu i size rows k hi hk
      rcases h2.1 with h3|h3
      ·omega
      ·exact absurd h3 h1.2.1
     ·rw[k3 i i' k ((k4 i size rows hi).1 k hk) ((k4 i' iw ig gm).1 k g7)]
   ·subst hc
    rw[cZ]at hn
    rw[fT t' j' gD]at gF
    simp only[h',if_true,if_neg gD]at hk g7
    exact(key t' j' j k gD gF g7 hn hk).elim
  ·rw[fT t j hc]at hn
   simp only[h',if_neg hc]at hk
   by_cases gD:t'=u
   ·subst gD
    rw[cZ]at gF
    simp only[h',if_true]at g7
    exact(key t j j' k hc hn hk gF g7).elim
   ·rw[fT t' j' gD]at gF
    simp only[h',if_neg gD]at g7
    exact r.inj t j t' j' k hn gF hk g7
open Go.RowKit
theorem wH{o:Oper}{x:Value}(iE:o.op= .call c)(hc:c.callee= .value (.tmp t))(hv:a.tmps.getD t undef= .func (.func f) #[] #[x])(hf:Tf P f=true):
  (execOp a.eval o).run P w= .ok (.enter f (c.args.toList.map a.eval++[x]).toArray) w:=by
 unfold Tf at hf
 split at hf
 ·rename_i fn hfn
  simp only[Bool.and_eq_true,bne_iff_ne,ne_eq]at hf
  obtain⟨cd,hb⟩:=Option.isSome_iff_exists.1 hf.1
  obtain⟨callee,args,dW⟩:=c
  simp only at hc;subst hc
  have hm:(args.toList.map a.eval++[x]).toArray=args.map a.eval++#[x]:=by apply Array.toList_inj.1;simp
  have he:a.eval (.tmp t)= .func (.func f) #[] #[x]:=hv
  rw[hm]
  simp[execOp,iE,resolve,he,Deferred.ofValue,invoke,callFunc,hfn,hf.2,hb]
 ·cases hf
theorem Bo(r:Rel T0 B σ a w X h){o:Oper}{row:List D}{cells:List At}(qs:List Bool)(iE:o.op= .call cl)(hc:cl.callee= .value (.tmp tf))(hx:σ.get tf= .one (.fn f u))(ho:σ.ob u 0= .box cells)(iQ:u<σ.length)
  (iT:JE P σ cl.args.toList cl.argTypes.toList im) (hC:Ym P σ cl.args.toList cl.argTypes.toList=true) (hs:FR P f im row iO) (fQ:KD σ cells=some row) (fg:Qk σ cells) (gP:(XP cells).Nodup) (hnu:(u,0)∉XP cells)
  (bO:((σ.Z7 (XP cells)).Zy u 0 .none).yn (At.isO u)=false) (hq:xe qs iO)
  (hK:∀a' w',J5 T0 B (match o.dst with|some d=>((σ.Z7 (XP cells)).new u (σ.get u) (.box (K0 u 1 iO)::Ya qs iO)).put d .any|none=>(σ.Z7 (XP cells)).new u (σ.get u) (.box (K0 u 1 iO)::Ya qs iO)) a' w'->XF B w w'->K a' w'):o.wp P a w K Q:=by
 have iu:σ.ob u 0≠ .none:=zAx
 have hfn:=r.get tf
 rw[hx]at hfn
 obtain⟨b,gX,hv⟩:=hfn.2 _ ho
 have gY:=r.obj u 0
 rw[ho]at gY
 obtain⟨b2,cs,e,hZ,hh,iN⟩:=gY
 rw[gX]at hZ
 have fy:b2=b:=zAq
 subst fy
 have ga:=r.ub u 0 b2 iu zB6
 have iS:=r.own u 0 b2 iu ga
 have eF:=r.JE true iT (fun _=>hC)
 simp only[if_true]at eF
 have bJ:∀k,zd σ h (XP cells) k->k<w.heap.size/\k≠b2:=by
  rintro k ⟨p,hp,iH,hu⟩
  refine⟨(r.own _ _ k iH hu).2.2,?_⟩
  rintro rfl
  obtain⟨e1,e2⟩:=r.inj p.1 p.2 u 0 k iH iu hu ga
  exact hnu (by rw[<-e1,<-e2];exact hp)
 have gH:=r.yQ (XP cells)
 have hT:∀k i,Tof T0 X k i->k<w.heap.size/\k≠b2/\¬zd σ h (XP cells) k:=by
  intro k i hk
  refine⟨r.Tlt hk,?_,fun hg=>?_⟩
  ·rintro rfl
   rcases hk with hk|hk
   ·exact iS.1 (r.hT _ _ hk)
   ·exact iS.2.1 hk
  ·rcases hk with hk|hk
   ·exact(gH k hg).1 (r.hT _ _ hk)
   ·exact(gH k hg).2.1 hk
 unfold Oper.wp
 rw[wH iE hc hv hs.1,Oper.upon_enter]
 refine(hs.2 (Tof T0 X) (zd σ h (XP cells)) w b2 _ hT bJ iS.2.2 ⟨cs,e,hh,Ro r iN fQ fg gP⟩ eF).mono ?_
 rintro e' w' ⟨rfl,ir,cX,e2,eT,gI⟩
 have r1:=r.Z7 (XP cells)
 have ho1:(σ.Z7 (XP cells)).ob u 0= .box cells:=by rw[St.Ks,if_neg hnu,ho]
 have R:=r1.nk (w':=w') (iO:=iO) (qs:=qs) ho1 gX (by rw[St.Ka];exact iQ) (zd σ h (XP cells)) _ ir.size (fun k hk iH hg=>ir.block k ⟨hk,iH,hg⟩) (fun k hk=>⟨(gH k hk).1,(gH k hk).2.1,(gH k hk).2.2.2⟩) bO hq eT gI (fun k hk=>⟨hk.1.elim .inr (fun h1=>.inl h1.1),by
  rcases hk.1 with h1|h1
  ·have:=(bJ k h1).1;have:=ir.size;omega
  ·exact h1.2,hk.2⟩)
 rw[St.xB]at R
 have hBk:XF B w w':=⟨ir.os,ir.tape,ir.output,ir.size,fun k hk=>ir.block k ⟨r.hB k hk,fun e=>iS.1 (e▸hk),fun hg=>(gH k hg).1 hk⟩⟩
 cases hd:o.dst with
 |none=>
  rw[hd]at hK
  exact hK _ _ R hBk
 |some d=>
  rw[hd]at hK
  obtain⟨X2,h2,R2⟩:=R
  exact hK _ _ ⟨X2,h2,R2.put d .any _ trivial⟩ hBk
theorem wc(r:Rel T0 B σ a w X h){o:Oper}(iE:o.op= .makeFunc (.func f) #[] #[x])(hd:o.dst=some d)(hg:gOf (look P σ 0 x)=true)(hx:unc (look P σ 0 x)= .one (.bptr t 0)){cells:List At}(ho:σ.ob t 0= .box cells)
  (hK:∀a' w',J5 T0 B (σ.put d (.one (.fn f t))) a' w'->XF B w w'->K a' w'):o.wp P a w K Q:=by
 have har:=r.arg (P:=P) 0 x hx hg
 obtain⟨b,gX,hv⟩:=har.2 _ ho
 exact TD (v:=.one (.fn f t)) r hd ⟨.func (.func f) #[] #[a.eval x],by simp[execOp,iE,Instr.makeFunc],⟨rfl,fun iW _=>⟨b,gX,by rw[hv]⟩⟩⟩ hK
theorem np{cells:List At}(iE:o.o.op= .makeFunc (.func f) #[] #[x])(ei:o.o.guard=none)(hd:o.o.dst=some d)(hU:A.bar o.o=true)(hx:gOf (look P σ 0 x)=true/\unc (look P σ 0 x)= .one (.bptr t 0))(ho:σ.ob t 0= .box cells)
  (h:@EI P (σ.put d (.one (.fn f t))) A l k):@SI P σ A o l k:=by
 refine⟨_,.inr ⟨hU,?_,fun d' ic hO=>MY (fun e=>ic zBs) hO,fun hh=>by simp[UK,iE]at hh,fun hh=>by first|(simp[kr,iE]at hh;done)|(unfold kr at hh;rw[iE]at hh;split at hh<;>simp_all),fun hh _=>by first|(simp[KV,iE]at hh;done)|(unfold KV at hh;rw[iE]at hh;split at hh<;>simp_all)⟩,Jm h⟩
 rintro T0 B a w K Q' ⟨X,hh,r⟩ hK
 have hw:Region.wanted o.o (yielded A.ops a.tmps)=true:=zBj
 rw[if_pos hw]
 exact wc r iE hd hx.1 hx.2 ho hK
theorem uA{c:Code}(hf:P.funcs[f]?=some fn)(hb:fn.body=some c)(iz:Tf P f=true){row:List D}(qs:List Bool)(hq:xe qs row)
  (hw:∀v,@WI P (qd fn.ntmps args v (K0 args.length 1 row) (Ya qs row) []) ⟨c⟩ (.fin (o7 P fn args.length v iO))):FR P f args row iO:=F3 hf hb iz qs hq (fun v=>UQ (hw v))
theorem n8{p:Nat}(hf:fn.results=#[])(h:σ[p]?=some (.fix v (.one (.bptr p 0)),.box dW::((σ[p]?).map (fun e=>e.2.tail)).getD [])/\KD σ dW=some iO/\Qk σ dW/\(XP dW).Nodup)(he:e= .ret\/e= .normal):o7 P fn p v iO e σ:=
 ⟨he,by rw[hf];rfl,dW,_,h.1,h.2.1,h.2.2.1,h.2.2.2⟩
theorem GY{row:List D}{cells:List At}(qs:List Bool)(iE:o.o.op= .call cl)(hc:cl.callee= .value (.tmp tf))(ei:o.o.guard=none)(hU:A.bar o.o=true)(hs:FR P f im row iO)(hx:σ.get tf= .one (.fn f u))(ho:σ.ob u 0= .box cells)(iQ:u<σ.length)
  (iT:(Xe P σ cl.args.toList cl.argTypes.toList).1) (ij:(Xe P σ cl.args.toList cl.argTypes.toList).2=some im) (hC:Ym P σ cl.args.toList cl.argTypes.toList=true) (fQ:KD σ cells=some row) (fg:Qk σ cells) (gP:(XP cells).Nodup) (hnu:(u,0)∉XP cells) (hO:Xs σ u=false)
  (bO:((σ.Z7 (XP cells)).Zy u 0 .none).yn (At.isO u)=false) (hq:xe qs iO)
  (h:@EI P (match o.o.dst with|some d=>((σ.Z7 (XP cells)).new u (σ.get u) (.box (K0 u 1 iO)::Ya qs iO)).put d .any|none=>(σ.Z7 (XP cells)).new u (σ.get u) (.box (K0 u 1 iO)::Ya qs iO)) A l k):@SI P σ A o l k:=by
 refine⟨_,.inr ⟨hU,?_,fun d' ic gD=>?_,fun hh=>by simp[UK,iE]at hh,fun hh=>by first|(simp[kr,iE]at hh;done)|(unfold kr at hh;rw[iE]at hh;split at hh<;>simp_all),fun hh _=>by first|(simp[KV,iE]at hh;done)|(unfold KV at hh;rw[iE]at hh;split at hh<;>simp_all)⟩,Jm h⟩
 ·rintro T0 B a w K Q' ⟨X,hh,r⟩ hK
  have hw:Region.wanted o.o (yielded A.ops a.tmps)=true:=zBj
  rw[if_pos hw]
  exact Bo r qs iE hc hx ho iQ (qh iT ij) hC hs fQ fg gP hnu bO hq hK
 ·have h1:=WE (v:=σ.get u) (os:=.box (K0 u 1 iO)::Ya qs iO) (fun e=>by rw[e,hO]at gD;cases gD) (JP (l:=XP cells) gD)
  cases hd:o.o.dst with
  |none=>exact h1
  |some d=>exact MY (fun e=>ic zBs) h1
attribute [simp] qd n7 At.isO
open Go.RowKit
open Go.RowKit
theorem cR{own:Bool}(hs:JK P f own rows res)(h:@EI P (σ.put d (jF res)) A l k)(iE:o.o.op= .call c:=by exact rfl)(hc:c.callee= .value (.func f):=by exact rfl)(hg:o.o.guard=none:=by exact rfl)(hd:o.o.dst=some d:=by exact rfl)
  (ij:(Xe P σ c.args.toList c.argTypes.toList).2=some rows:=by simp) (iT:(Xe P σ c.args.toList c.argTypes.toList).1:=by simp) (hC:Ym P σ c.args.toList c.argTypes.toList=true\/Kn own res:=by simp):@SI P σ A o l k:=
 HY iE hc hg hd hs ij iT hC h
theorem cD(qs:List Bool)(hs:Yg P f rows res)(h:@EI P (σ.new d (kJ d res) (Ya qs res.flatten)) A l k)(iE:o.o.op= .call c:=by exact rfl)(hc:c.callee= .value (.func f):=by exact rfl)(hg:o.o.guard=none:=by exact rfl)(hd:o.o.dst=some d:=by exact rfl)
  (ij:(Xe P σ c.args.toList c.argTypes.toList).2=some rows:=by simp) (iT:(Xe P σ c.args.toList c.argTypes.toList).1:=by simp) (hq:xe qs res.flatten:=by simp) (hf:σ.fresh d=true:=by simp):@SI P σ A o l k:=CR qs iE hc hg hd hs ij iT hq hf h
theorem cC{b:Bool}{x:xg}(c:Bool)(ht:Vh σ->c=true->@WI P σ x k)(hf:Vh σ->c=false->@WI P σ y k)(hc:c=b:=by simp):@CI P b σ x y k:=Ns hc ht hf
@[simp] abbrev eI (t : Nat) (n : Int) : Nat × V × List Ob := (t, .one (.d (.int .i64 n)), [])
@[simp] abbrev eB (t : Nat) (b : Bool) : Nat × V × List Ob := (t, .one (.d (.bool b)), [])
@[simp] abbrev eL {α : Type} (t s : Nat) (l : List α) (f : α -> List D) : Nat × V × List Ob := (t, .one (.d (.sl s (l.map f))), [])
@[simp] abbrev eP (t u c : Nat) : Nat × V × List Ob := (t, .one (.bptr u c), [])
@[simp] abbrev eG (t : Nat) (xs : List At) : Nat × V × List Ob := (t, .agg xs, [])
@[simp] abbrev eX (t : Nat) (xs : List At) : Nat × V × List Ob := (t, .one (.bptr t 0), [.box xs])
open Go.RowKit
variable{br:Oper->Bool}
structure Me{α:Type}(x y:α):Prop where
 h:x=y
structure Bx(p:Prop):Prop where
 h:p
theorem me{α:Type}{x y:α}(h:x=y):Me x y:=⟨h⟩
theorem ms{α β:Type}{x y y':α}{l r:β}(f:Me x y)(e:Me l r)(h:l=r->y=y':=by intro e;simp only[e];exact rfl):Me x y':=⟨f.h.trans (h e.h)⟩
theorem an(h:p)(k:q):p/\q:=⟨h,k⟩
theorem ix{α:Type}{v:Nat}{l:List α}(h:decide ((v:Int)<(l.length:Int))=true):v<l.length:=zBh
theorem ml{α:Type}(l:List α)(m:q)(h:q->l.length<=9223372036854775807:=by intro m;simpa using m):l.length<=9223372036854775807:=h m
theorem wr(n:Nat)(h:(n:Int)+1<=9223372036854775807:=by first|omega|(simp only[decide_eq_true_eq,decide_eq_false_iff_not,beq_iff_eq,beq_eq_false_iff_ne,bne_iff_ne,ne_eq,Bool.or_eq_false_iff,Bool.or_eq_true,Bool.and_eq_true,Bool.not_eq_true',Bool.not_eq_false']at*;omega)):IntKind.i64.wrap ((n:Int)+1)=(n:Int)+1:=YX zAA zAA
theorem so{own:Bool}{args res:List (List D)}(hf:P.funcs[f]?=some fn)(hn:fn.ntmps=n)(h:p){c:Code}(hb:fn.body=some c:=by exact rfl)(iz:Tf P f=true:=by kernel_rfl)
  (kk:Bx p->@WI P (ki n args) ⟨c⟩ (.fin (AE P fn own res)):=by exact zB8):JK P f own args res:=rC hf hb iz (by rw[hn];exact kk ⟨h⟩)
theorem soD{args res:List (List D)}(hf:P.funcs[f]?=some fn)(hn:fn.ntmps=n)(h:p){c:Code}(hb:fn.body=some c:=by exact rfl)(iz:Tf P f=true:=by kernel_rfl)
  (kk:Bx p->@WI P (ki n args) ⟨c⟩ (.fin (uO P fn res)):=by exact zB8):Yg P f args res:=uY hf hb iz (by rw[hn];exact kk ⟨h⟩)
theorem cF{α:Type}{u y z:α}{b c:Bool}{xc yc:xg}(f:Me u (bif c then y else z))(ht:Vh σ->c=true->Me u y->p)(hf:Vh σ->c=false->Me u z->q)(hc:c=b:=by simp)(kt:Bx p->@WI P σ xc k:=by exact zB8)(kf:Bx q->@WI P σ yc k:=by exact zB8):@CI P b σ xc yc k:=
 Ns hc (fun s h=>kt ⟨ht s h ⟨f.h.trans zBN⟩⟩) (fun s h=>kf ⟨hf s h ⟨f.h.trans zBN⟩⟩)
theorem cFt{α:Type}{u y z:α}{b c:Bool}{xc:xg}(f:Me u (bif c then y else z))(ht:Vh σ->c=true->Me u y->p)(hf:Vh σ->c=false->Me u z->@WI P σ yc k)(hc:c=b:=by simp)(kt:Bx p->@WI P σ xc k:=by exact zB8):@CI P b σ xc yc k:=
 Ns hc (fun s h=>kt ⟨ht s h ⟨f.h.trans zBN⟩⟩) (fun s h=>hf s h ⟨f.h.trans zBN⟩)
theorem cFf{α:Type}{u y z:α}{b c:Bool}{yc:xg}(f:Me u (bif c then y else z))(ht:Vh σ->c=true->Me u y->@WI P σ xc k)(hf:Vh σ->c=false->Me u z->q)(hc:c=b:=by simp)(kf:Bx q->@WI P σ yc k:=by exact zB8):@CI P b σ xc yc k:=
 Ns hc (fun s h=>ht s h ⟨f.h.trans zBN⟩) (fun s h=>kf ⟨hf s h ⟨f.h.trans zBN⟩⟩)
theorem cFo{α:Type}{u y z:α}{b c:Bool}(f:Me u (bif c then y else z))(ht:Vh σ->c=true->Me u y->@WI P σ xc k)(hf:Vh σ->c=false->Me u z->@WI P σ yc k)(hc:c=b:=by simp):@CI P b σ xc yc k:=
 Ns hc (fun s h=>ht s h ⟨f.h.trans zBN⟩) (fun s h=>hf s h ⟨f.h.trans zBN⟩)
theorem cK{α:Type}{u y z:α}{b c:Bool}{xc yc:xg}(f:Me u (bif c then y else z))(ht:Vh σ->c=true->Me u y->p)(hf:Vh σ->c=false->Me u z->q)(hc:c=b:=by first|(simp[G];done)|grind)(kt:Bx p->@WI P σ xc k:=by exact zCB)(kf:Bx q->@WI P σ yc k:=by exact zCB):@CI P b σ xc yc k:=
 Ns hc (fun s h=>kt ⟨ht s h ⟨f.h.trans zBN⟩⟩) (fun s h=>kf ⟨hf s h ⟨f.h.trans zBN⟩⟩)
theorem cKt{α:Type}{u y z:α}{b c:Bool}{xc:xg}(f:Me u (bif c then y else z))(ht:Vh σ->c=true->Me u y->p)(hf:Vh σ->c=false->Me u z->@WI P σ yc k)(hc:c=b:=by first|(simp[G];done)|grind)(kt:Bx p->@WI P σ xc k:=by exact zCB):@CI P b σ xc yc k:=
 Ns hc (fun s h=>kt ⟨ht s h ⟨f.h.trans zBN⟩⟩) (fun s h=>hf s h ⟨f.h.trans zBN⟩)
theorem cKo{α:Type}{u y z:α}{b c:Bool}(f:Me u (bif c then y else z))(ht:Vh σ->c=true->Me u y->@WI P σ xc k)(hf:Vh σ->c=false->Me u z->@WI P σ yc k)(hc:c=b:=by first|(simp[G];done)|grind):@CI P b σ xc yc k:=
 Ns hc (fun s h=>ht s h ⟨f.h.trans zBN⟩) (fun s h=>hf s h ⟨f.h.trans zBN⟩)
theorem cY{c b:Bool}{xc yc:xg}(h:c=true)(kk:p)(hc:c=b:=by simp)(kt:Bx p->@WI P σ xc k:=by exact zB8):@CI P b σ xc yc k:=Ns hc (fun _ g=>kt ⟨kk⟩) (fun _ g=>absurd (h.symm.trans g) zAD)
theorem cRg{A:Kp}{l:zY}{d:Nat}{own:Bool}(hs:JK P f own rows res)(h:p)(iE:o.o.op= .call c:=by exact rfl)(hc:c.callee= .value (.func f):=by exact rfl)(hg:o.o.guard=none:=by exact rfl)(hd:o.o.dst=some d:=by exact rfl)(ij:(Xe P σ c.args.toList c.argTypes.toList).2=some rows:=by simp)(iT:(Xe P σ c.args.toList c.argTypes.toList).1:=by simp)(hC:Ym P σ c.args.toList c.argTypes.toList=true\/Kn own res:=by simp)(kk:Bx p->@EI P (σ.put d (jF res)) A l k:=by exact zCB):@SI P σ A o l k:=HY iE hc hg hd hs ij iT hC (kk ⟨h⟩)
theorem cRs{A:Kp}{l:zY}{d:Nat}{own:Bool}(hs:JK P f own rows res)(h:p)(iE:o.o.op= .call c:=by exact rfl)(hc:c.callee= .value (.func f):=by exact rfl)(hg:o.o.guard=none:=by exact rfl)(hd:o.o.dst=some d:=by exact rfl)(ij:(Xe P σ c.args.toList c.argTypes.toList).2=some rows:=by simp)(iT:(Xe P σ c.args.toList c.argTypes.toList).1:=by simp)(hC:Ym P σ c.args.toList c.argTypes.toList=true\/Kn own res:=by simp)(kk:Bx p->@EI P (σ.put d (jF res)) A l k:=by exact zB8):@SI P σ A o l k:=HY iE hc hg hd hs ij iT hC (kk ⟨h⟩)
theorem cRf{A:Kp}{l:zY}{d:Nat}{own:Bool}(F:q)(hs:JK P f own rows res)(h:p)(iE:o.o.op= .call c:=by exact rfl)(hc:c.callee= .value (.func f):=by exact rfl)(hg:o.o.guard=none:=by exact rfl)(hd:o.o.dst=some d:=by exact rfl)(ij:(Xe P σ c.args.toList c.argTypes.toList).2=some rows:=by simp)(iT:(Xe P σ c.args.toList c.argTypes.toList).1:=by simp)(hC:Ym P σ c.args.toList c.argTypes.toList=true\/Kn own res:=by simp)(kk:q->Bx p->@EI P (σ.put d (jF res)) A l k:=by(intro F z;simp[F,Go.Vm.ZD];(repeat(with_reducible refine Go.Mo.sd ?_));exact z.h)):@SI P σ A o l k:=HY iE hc hg hd hs ij iT hC (kk F ⟨h⟩)
theorem cOs{A:Kp}{l:zY}{d:Nat}(hs:JK P f true rows res)(h:p)(iE:o.o.op= .call c:=by exact rfl)(hc:c.callee= .value (.func f):=by exact rfl)(hg:o.o.guard=none:=by exact rfl)(hd:o.o.dst=some d:=by exact rfl)(ij:(Xe P σ c.args.toList c.argTypes.toList).2=some rows:=by simp)(iT:(Xe P σ c.args.toList c.argTypes.toList).1:=by simp)(hC:Ym P σ c.args.toList c.argTypes.toList=true\/Kn true res:=by simp)(hf:σ.fresh d=true:=by simp)(kk:Bx p->@EI P (σ.new d (kJ d res) (xy res.flatten)) A l k:=by exact zB8):@SI P σ A o l k:=su iE hc hg hd hs ij iT hC hf (kk ⟨h⟩)
theorem cDg{A:Kp}{l:zY}{d:Nat}(qs:List Bool)(hs:Yg P f rows res)(h:p)(iE:o.o.op= .call c:=by exact rfl)(hc:c.callee= .value (.func f):=by exact rfl)(hg:o.o.guard=none:=by exact rfl)(hd:o.o.dst=some d:=by exact rfl)(ij:(Xe P σ c.args.toList c.argTypes.toList).2=some rows:=by simp)(iT:(Xe P σ c.args.toList c.argTypes.toList).1:=by simp)(hq:xe qs res.flatten:=by simp[-Bool.exists_bool,-Bool.forall_bool])(hf:σ.fresh d=true:=by simp)(kk:Bx p->@EI P (σ.new d (kJ d res) (Ya qs res.flatten)) A l k:=by exact zCB):@SI P σ A o l k:=CR qs iE hc hg hd hs ij iT hq hf (kk ⟨h⟩)
theorem cDs{A:Kp}{l:zY}{d:Nat}(qs:List Bool)(hs:Yg P f rows res)(h:p)(iE:o.o.op= .call c:=by exact rfl)(hc:c.callee= .value (.func f):=by exact rfl)(hg:o.o.guard=none:=by exact rfl)(hd:o.o.dst=some d:=by exact rfl)(ij:(Xe P σ c.args.toList c.argTypes.toList).2=some rows:=by simp)(iT:(Xe P σ c.args.toList c.argTypes.toList).1:=by simp)(hq:xe qs res.flatten:=by simp[-Bool.exists_bool,-Bool.forall_bool])(hf:σ.fresh d=true:=by simp)(kk:Bx p->@EI P (σ.new d (kJ d res) (Ya qs res.flatten)) A l k:=by exact zB8):@SI P σ A o l k:=CR qs iE hc hg hd hs ij iT hq hf (kk ⟨h⟩)
theorem cDf{A:Kp}{l:zY}{d:Nat}(F:q)(qs:List Bool)(hs:Yg P f rows res)(h:p)(iE:o.o.op= .call c:=by exact rfl)(hc:c.callee= .value (.func f):=by exact rfl)(hg:o.o.guard=none:=by exact rfl)(hd:o.o.dst=some d:=by exact rfl)(ij:(Xe P σ c.args.toList c.argTypes.toList).2=some rows:=by simp)(iT:(Xe P σ c.args.toList c.argTypes.toList).1:=by simp)(hq:xe qs res.flatten:=by simp[-Bool.exists_bool,-Bool.forall_bool])(hf:σ.fresh d=true:=by simp)(kk:q->Bx p->@EI P (σ.new d (kJ d res) (Ya qs res.flatten)) A l k:=by(intro F z;simp[F,Go.Vm.ZD];(repeat(with_reducible refine Go.Mo.sd ?_));exact z.h)):@SI P σ A o l k:=CR qs iE hc hg hd hs ij iT hq hf (kk F ⟨h⟩)
theorem cGo{j dj:Nat}{want own:Bool}{res:List D}(hs:g=true->JK P f own rows [res])(h:@EI P (σ.put d (.cnd g (jF [res]))) A l k)(iE:o.o.op= .call c:=by exact rfl)(hc:c.callee= .value (.func f):=by exact rfl)(hg:o.o.guard=some (j,want):=by exact rfl)(hd:o.o.dst=some d:=by exact rfl)(fA:(A.ops[j]?).bind (·.dst)=some dj:=by exact rfl)(fK:jR want (σ.get dj)=some g:=by exact rfl)(ij:(Xe P σ c.args.toList c.argTypes.toList).2=some rows:=by first|(simp;done)|(simp[G];done)|(simp[G];omega)|(simp_all;done))(iQ:dj<σ.length:=by first|(simp;done)|(simp[G];done)|(simp[G];omega)|(simp_all;done))(iT:g=true->(Xe P σ c.args.toList c.argTypes.toList).1:=by first|(simp;done)|(simp[G];done)|(simp[G];omega)|(simp_all;done))(hC:Ym P σ c.args.toList c.argTypes.toList=true\/Kn own [res]:=by first|(simp;done)|(simp[G];done)|(simp[G];omega)|(simp_all;done)):@SI P σ A o l k:=Co iE hc hg hd fA fK hs ij iQ iT hC h
theorem cGg{A:Kp}{l:zY}{d:Nat}{j dj:Nat}{want own:Bool}{res:List D}(hs:g=true->JK P f own rows [res])(h:p)(iE:o.o.op= .call c:=by exact rfl)(hc:c.callee= .value (.func f):=by exact rfl)(hg:o.o.guard=some (j,want):=by exact rfl)(hd:o.o.dst=some d:=by exact rfl)(fA:(A.ops[j]?).bind (·.dst)=some dj:=by exact rfl)(fK:jR want (σ.get dj)=some g:=by exact rfl)(ij:(Xe P σ c.args.toList c.argTypes.toList).2=some rows:=by first|(simp;done)|(simp[G];done)|(simp[G];omega)|(simp_all;done))(iQ:dj<σ.length:=by first|(simp;done)|(simp[G];done)|(simp[G];omega)|(simp_all;done))(iT:g=true->(Xe P σ c.args.toList c.argTypes.toList).1:=by first|(simp;done)|(simp[G];done)|(simp[G];omega)|(simp_all;done))(hC:Ym P σ c.args.toList c.argTypes.toList=true\/Kn own [res]:=by first|(simp;done)|(simp[G];done)|(simp[G];omega)|(simp_all;done))(kk:Bx p->@EI P (σ.put d (.cnd g (jF [res]))) A l k:=by exact zCB):@SI P σ A o l k:=Co iE hc hg hd fA fK hs ij iQ iT hC (kk ⟨h⟩)
theorem cGs{A:Kp}{l:zY}{d:Nat}{j dj:Nat}{want own:Bool}{res:List D}(hs:g=true->JK P f own rows [res])(h:p)(iE:o.o.op= .call c:=by exact rfl)(hc:c.callee= .value (.func f):=by exact rfl)(hg:o.o.guard=some (j,want):=by exact rfl)(hd:o.o.dst=some d:=by exact rfl)(fA:(A.ops[j]?).bind (·.dst)=some dj:=by exact rfl)(fK:jR want (σ.get dj)=some g:=by exact rfl)(ij:(Xe P σ c.args.toList c.argTypes.toList).2=some rows:=by simp)(iQ:dj<σ.length:=by simp)(iT:g=true->(Xe P σ c.args.toList c.argTypes.toList).1:=by simp)(hC:Ym P σ c.args.toList c.argTypes.toList=true\/Kn own [res]:=by simp)(kk:Bx p->@EI P (σ.put d (.cnd g (jF [res]))) A l k:=by exact zB8):@SI P σ A o l k:=Co iE hc hg hd fA fK hs ij iQ iT hC (kk ⟨h⟩)
theorem cBo{x0:Operand}{xs:List Operand}{t0:TypeId}{ts:List TypeId}{row:List D}(qs:List Bool)(hs:xz P f dp row im iO res)(h:@EI P (AQ dp (σ.Zy t 0 (.box (iO.map .d))) d res qs) A l k)(iE:o.o.op= .call cl:=by exact rfl)(hc:cl.callee= .value (.func f):=by exact rfl)(ei:o.o.guard=none:=by exact rfl)(hd:o.o.dst=some d:=by exact rfl)(hU:A.bar o.o=true:=by exact rfl)(ha:cl.args.toList=x0::xs:=by exact rfl)(eQ:cl.argTypes.toList=t0::ts:=by exact rfl)(hx:gOf (look P σ t0 x0)=true/\unc (look P σ t0 x0)= .one (.bptr t 0):=by exact⟨rfl,rfl⟩)(ho:σ.ob t 0= .box (row.map .d):=by simp)(iT:(Xe P σ xs ts).1:=by simp)(ij:(Xe P σ xs ts).2=some im:=by simp)(hC:Ym P σ xs ts=true:=by simp)(gG:dp=true->(σ.Zy t 0 (.box (iO.map .d))).fresh d=true/\xe qs res.flatten:=by simp[-Bool.exists_bool,-Bool.forall_bool]):@SI P σ A o l k:=oU qs iE hc ei hd hU ha eQ hs hx ho iT ij hC gG h
theorem cBs{A:Kp}{l:zY}{d:Nat}{x0:Operand}{xs:List Operand}{t0:TypeId}{ts:List TypeId}{row:List D}{t:Nat}(qs:List Bool)(hs:xz P f dp row im iO res)(h:p)(iE:o.o.op= .call cl:=by exact rfl)(hc:cl.callee= .value (.func f):=by exact rfl)(ei:o.o.guard=none:=by exact rfl)(hd:o.o.dst=some d:=by exact rfl)(hU:A.bar o.o=true:=by exact rfl)(ha:cl.args.toList=x0::xs:=by exact rfl)(eQ:cl.argTypes.toList=t0::ts:=by exact rfl)(hx:gOf (look P σ t0 x0)=true/\unc (look P σ t0 x0)= .one (.bptr t 0):=by exact⟨rfl,rfl⟩)(ho:σ.ob t 0= .box (row.map .d):=by simp)(iT:(Xe P σ xs ts).1:=by simp)(ij:(Xe P σ xs ts).2=some im:=by simp)(hC:Ym P σ xs ts=true:=by simp)(gG:dp=true->(σ.Zy t 0 (.box (iO.map .d))).fresh d=true/\xe qs res.flatten:=by simp[-Bool.exists_bool,-Bool.forall_bool])(kk:Bx p->@EI P (AQ dp (σ.Zy t 0 (.box (iO.map .d))) d res qs) A l k:=by exact zB8):@SI P σ A o l k:=oU qs iE hc ei hd hU ha eQ hs hx ho iT ij hC gG (kk ⟨h⟩)
theorem cNs{A:Kp}{l:zY}{d:Nat}(hs:Mm P f im iO)(h:p)(iE:o.o.op= .call cl:=by exact rfl)(hc:cl.callee= .value (.func f):=by exact rfl)(ei:o.o.guard=none:=by exact rfl)(hd:o.o.dst=some d:=by exact rfl)(hU:A.bar o.o=true:=by exact rfl)(iT:(Xe P σ cl.args.toList cl.argTypes.toList).1:=by simp)(ij:(Xe P σ cl.args.toList cl.argTypes.toList).2=some im:=by simp)(hC:Ym P σ cl.args.toList cl.argTypes.toList=true:=by simp)(gG:σ.fresh d=true:=by simp)(dM:KV P o.o=false:=by exact rfl)(kk:Bx p->@EI P (σ.new d (.one (.bptr d 0)) [.box (iO.map .d)]) A l k:=by exact zB8):@SI P σ A o l k:=mC iE hc ei hd hU hs iT ij hC gG (kk ⟨h⟩) dM
theorem dIo{id:Nat}{l:List Oper}{br:Oper->Bool}(hm:P.follows .mixedOrders=true)(h:@EI P σ ⟨⟨l⟩,fun _=>false⟩ ⟨l⟩ k)(hdr:Nq P ⟨l⟩ (fun i=>i) (fun _=>false)=true:=by kernel_rfl)(hO:xf ⟨l⟩ (fun i=>i) σ=true:=by kernel_rfl):@DI P id σ ⟨⟨l⟩,br⟩ k:=rG hm hdr hO h
theorem dIg{id:Nat}{l:List Oper}{br:Oper->Bool}(hm:P.follows .mixedOrders=true)(h:p)(hdr:Nq P ⟨l⟩ (fun i=>i) (fun _=>false)=true:=by kernel_rfl)(hO:xf ⟨l⟩ (fun i=>i) σ=true:=by kernel_rfl)(kk:Bx p->@EI P σ ⟨⟨l⟩,fun _=>false⟩ ⟨l⟩ k:=by exact zCB):@DI P id σ ⟨⟨l⟩,br⟩ k:=rG hm hdr hO (kk ⟨h⟩)
theorem dIs{id:Nat}{l:List Oper}{br:Oper->Bool}(hm:P.follows .mixedOrders=true)(h:p)(hdr:Nq P ⟨l⟩ (fun i=>i) (fun _=>false)=true:=by kernel_rfl)(hO:xf ⟨l⟩ (fun i=>i) σ=true:=by kernel_rfl)(kk:Bx p->@EI P σ ⟨⟨l⟩,fun _=>false⟩ ⟨l⟩ k:=by(intro z;(try simp);(repeat(with_reducible refine Go.Mo.sd ?_));exact z.h)):@DI P id σ ⟨⟨l⟩,br⟩ k:=rG hm hdr hO (kk ⟨h⟩)
theorem eIs{A:Kp}{l:zY}{d:Nat}(h:p)(hp:Cx o.o=true:=by exact rfl)(hg:o.o.guard=none:=by exact rfl)(hd:o.o.dst=some d:=by exact rfl)(kk:Bx p->(evS P σ o.o d).1/\@EI P (evS P σ o.o d).2 A l k:=by exact zB8):@SI P σ A o l k:=evI hp hg hd (kk ⟨h⟩)
theorem sGo{dj:Nat}{g:Bool}(h:@EI P (σ.put d (.cnd false .any)) A l k)(hg:o.o.guard=some (j,want):=by exact rfl)(hd:o.o.dst=some d:=by exact rfl)(fA:(A.ops[j]?).bind (·.dst)=some dj:=by exact rfl)(fK:jR want (σ.get dj)=some g:=by exact rfl)(iQ:dj<σ.length:=by simp)(hgf:g=false:=by simp[G]):@SI P σ A o l k:=oN hg hd fA fK iQ hgf h
theorem sGg{A:Kp}{l:zY}{dj d:Nat}{g:Bool}(h:p)(hg:o.o.guard=some (j,want):=by exact rfl)(hd:o.o.dst=some d:=by exact rfl)(fA:(A.ops[j]?).bind (·.dst)=some dj:=by exact rfl)(fK:jR want (σ.get dj)=some g:=by exact rfl)(iQ:dj<σ.length:=by simp)(hgf:g=false:=by simp[G])(kk:Bx p->@EI P (σ.put d (.cnd false .any)) A l k:=by exact zCB):@SI P σ A o l k:=oN hg hd fA fK iQ hgf (kk ⟨h⟩)
theorem gIf{j dj:Nat}{want g:Bool}(ht:r1->((evV P σ o.o.op o.o.type).1/\gOf (evV P σ o.o.op o.o.type).2=true/\(unc (evV P σ o.o.op o.o.type).2).flat=true)/\@EI P (σ.put d (.cnd true (unc (evV P σ o.o.op o.o.type).2))) A l k)(hf:r2->q)(iE:LC o.o.op=false:=by exact rfl)(hg:o.o.guard=some (j,want):=by exact rfl)(hd:o.o.dst=some d:=by exact rfl)(fA:(A.ops[j]?).bind (·.dst)=some dj:=by exact rfl)(fK:jR want (σ.get dj)=some g:=by exact rfl)(iQ:dj<σ.length:=by simp)(k1:g=true->r1:=by exact zCA)(k2:g=false->r2:=by exact zCA)(kf:r2->Bx q->@EI P (σ.put d (.cnd false .any)) A l k:=by(intro G z;simp[G,Go.Vm.ZD];(repeat(with_reducible refine Go.Mo.sdg ?_));exact z.h)):@SI P σ A o l k:=FU iE hg hd fA fK iQ (fun h=>ht (k1 h)) (fun h=>(fun G=>kf G ⟨hf G⟩) (k2 h))
theorem gIo{j dj:Nat}{want g:Bool}(ht:r1->((evV P σ o.o.op o.o.type).1/\gOf (evV P σ o.o.op o.o.type).2=true/\(unc (evV P σ o.o.op o.o.type).2).flat=true)/\@EI P (σ.put d (.cnd true (unc (evV P σ o.o.op o.o.type).2))) A l k)(hf:r2->@EI P (σ.put d (.cnd false .any)) A l k)(iE:LC o.o.op=false:=by exact rfl)(hg:o.o.guard=some (j,want):=by exact rfl)(hd:o.o.dst=some d:=by exact rfl)(fA:(A.ops[j]?).bind (·.dst)=some dj:=by exact rfl)(fK:jR want (σ.get dj)=some g:=by exact rfl)(iQ:dj<σ.length:=by simp)(k1:g=true->r1:=by exact zCA)(k2:g=false->r2:=by exact zCA):@SI P σ A o l k:=FU iE hg hd fA fK iQ (fun h=>ht (k1 h)) (fun h=>hf (k2 h))
theorem gJf{j dj:Nat}{want g:Bool}(G:s)(ht:s/\r1->((evV P σ o.o.op o.o.type).1/\gOf (evV P σ o.o.op o.o.type).2=true/\(unc (evV P σ o.o.op o.o.type).2).flat=true)/\@EI P (σ.put d (.cnd true (unc (evV P σ o.o.op o.o.type).2))) A l k)(hf:s/\r2->q)(iE:LC o.o.op=false:=by exact rfl)(hg:o.o.guard=some (j,want):=by exact rfl)(hd:o.o.dst=some d:=by exact rfl)(fA:(A.ops[j]?).bind (·.dst)=some dj:=by exact rfl)(fK:jR want (σ.get dj)=some g:=by exact rfl)(iQ:dj<σ.length:=by simp)(k1:g=true->r1:=by exact zCA)(k2:g=false->r2:=by exact zCA)(kf:s/\r2->Bx q->@EI P (σ.put d (.cnd false .any)) A l k:=by(intro G z;simp[G,Go.Vm.ZD];(repeat(with_reducible refine Go.Mo.sdg ?_));exact z.h)):@SI P σ A o l k:=FU iE hg hd fA fK iQ (fun h=>ht ⟨G,k1 h⟩) (fun h=>(fun G=>kf G ⟨hf G⟩) ⟨G,k2 h⟩)
theorem gJo{j dj:Nat}{want g:Bool}(G:s)(ht:s/\r1->((evV P σ o.o.op o.o.type).1/\gOf (evV P σ o.o.op o.o.type).2=true/\(unc (evV P σ o.o.op o.o.type).2).flat=true)/\@EI P (σ.put d (.cnd true (unc (evV P σ o.o.op o.o.type).2))) A l k)(hf:s/\r2->@EI P (σ.put d (.cnd false .any)) A l k)(iE:LC o.o.op=false:=by exact rfl)(hg:o.o.guard=some (j,want):=by exact rfl)(hd:o.o.dst=some d:=by exact rfl)(fA:(A.ops[j]?).bind (·.dst)=some dj:=by exact rfl)(fK:jR want (σ.get dj)=some g:=by exact rfl)(iQ:dj<σ.length:=by simp)(k1:g=true->r1:=by exact zCA)(k2:g=false->r2:=by exact zCA):@SI P σ A o l k:=FU iE hg hd fA fK iQ (fun h=>ht ⟨G,k1 h⟩) (fun h=>hf ⟨G,k2 h⟩)
theorem gK{j dj:Nat}{want g:Bool}(ht:r1->((evV P σ o.o.op o.o.type).1/\gOf (evV P σ o.o.op o.o.type).2=true/\(unc (evV P σ o.o.op o.o.type).2).flat=true)/\@EI P (σ.put d (.cnd true (unc (evV P σ o.o.op o.o.type).2))) A l k)(iE:LC o.o.op=false:=by exact rfl)(hg:o.o.guard=some (j,want):=by exact rfl)(hd:o.o.dst=some d:=by exact rfl)(fA:(A.ops[j]?).bind (·.dst)=some dj:=by exact rfl)(fK:jR want (σ.get dj)=some g:=by exact rfl)(iQ:dj<σ.length:=by simp)(k1:g=true->r1:=by exact zCA)(k2:g=false->False:=by first|(intro g0;simp at g0;done)|(intro g0;simp[G]at g0;done)):@SI P σ A o l k:=FU iE hg hd fA fK iQ (fun h=>ht (k1 h)) (fun h=>(k2 h).elim)
theorem rt{α:Type}{x y:α}{res:List (List D)}(rv:List ResultVar)(f:Me x y)(hf:fn.results=rv.toArray:=by exact rfl)(h:x=y->(KK P σ rv).1/\WS σ (KK P σ rv).2=some res:=by(intro f;simp[f])):AE P fn false res .ret σ:=oX hf (h f.h)
theorem rtg{α:Type}{x y:α}{res:List (List D)}(rv:List ResultVar)(f:Me x y)(hf:fn.results=rv.toArray:=by exact rfl)(h:x=y->(KK P σ rv).1/\WS σ (KK P σ rv).2=some res:=by(intro f;simp[f,G])):AE P fn false res .ret σ:=oX hf (h f.h)
theorem rtO{α:Type}{x y:α}{res:List (List D)}(rv:List ResultVar)(f:Me x y)(hf:fn.results=rv.toArray:=by exact rfl)(h:x=y->(KK P σ rv).1/\Ur σ (KK P σ rv).2=some res/\(XP (KK P σ rv).2.flatten).Nodup:=by(intro f;simp[f])):AE P fn true res .ret σ:=nP hf (h f.h)
theorem rtD{α:Type}{x y:α}{res:List (List D)}(rv:List ResultVar)(f:Me x y)(hf:fn.results=rv.toArray:=by exact rfl)(h:x=y->(KK P σ rv).1/\K2 σ (KK P σ rv).2=some res/\Kf σ (KK P σ rv).2/\(XP (KK P σ rv).2.flatten).Nodup:=by(intro f;simp[f,-Bool.exists_bool,-Bool.forall_bool])):uO P fn res .ret σ:=Il hf (h f.h)
theorem yV{α:Type}{x y:α}{res:List (List D)}(rv:List ResultVar)(f:Me x y)(hf:fn.results=rv.toArray:=by exact rfl)(h:x=y->(KK P σ rv).1/\K2 σ (KK P σ rv).2=some res/\Kf σ (KK P σ rv).2/\(XP (KK P σ rv).2.flatten).Nodup:=by(intro f;simp[f,G,-Bool.exists_bool,-Bool.forall_bool])):uO P fn res .ret σ:=Il hf (h f.h)
class NxI where
 p:St->Prop
def Nx(σ:St)[n:NxI]:Prop:=n.p σ
theorem Rk{c:xg}{n n':St->Prop}(hn:∀σ',n σ'->n' σ')(h:@WI P σ c (.nxt n k)):AWP P c.c (Fr.run P (.nxt n' k)) σ:=
 C6 (fun e σ' hq=>by cases e<;>first|exact hn _ hq|exact hq) (UQ h)
abbrev Q1{R:Type}{A0:Type}(L:Nat->A0->R)(S:A0->St)(I:Nat->A0->Prop)(t:R)(b:Nat):NxI:=⟨fun τ=>∃a0,Me t (L b a0)/\(1<=b/\I b a0)/\Wk τ (S a0)⟩
theorem nx1{R:Type}{A0:Type}{L:Nat->A0->R}{S:A0->St}{I:Nat->A0->Prop}{t:R}{a0:A0}(e:Me t (L b a0))(hI:1<=b/\I b a0:=by exact zB9)(hw:Wk σ (S a0):=by exact Kl zAE):@Nx σ (Q1 L S I t b):=⟨a0,e,hI,hw⟩
theorem ny1{R:Type}{A0:Type}{L:Nat->A0->R}{S:A0->St}{I:Nat->A0->Prop}{t:R}{a0:A0}(F:q)(e:Me t (L b a0))(hI:1<=b/\I b a0:=by exact zB9)(kw:q->Wk σ (S a0):=by exact zCC):@Nx σ (Q1 L S I t b):=⟨a0,e,hI,kw F⟩
theorem lp1{c:xg}{R:Type}{A0:Type}{L B:Nat->A0->R}(hL:∀(a0:A0)(n:Nat),L (Nat.succ n) a0=B n a0)(S:A0->St)(I:Nat->A0->Prop)(n0:Nat)(b0:A0){p:Nat->A0->Prop}
  (round:∀n (a0:A0),Me (L n0 b0) (B n a0)->1<=n+1/\I (n+1) a0->p n a0) (hI:1<=n0/\I n0 b0:=by first|omega|(dsimp only;omega)|simp) (h0:Wk σ (S b0):=by exact Kl zAE) (kk:∀n (a0:A0),Bx (p n a0)->@WI P (S a0) c (.nxt (fun σ'=>@Nx σ' (Q1 L S I (L n0 b0) n)) k):=by(intro n_ a0_ z;simp;(repeat(with_reducible refine Go.Mo.sd ?_));exact z.h)):@RF P σ c k:=by
 refine W7 (ι:={s:Nat×A0//Me (L n0 b0) (L s.1 s.2)/\(1<=s.1/\I s.1 s.2)}) (fun s=>S s.1.2) (fun s=>s.1.1) ⟨(n0,b0),⟨rfl⟩,hI⟩ h0 ?_
 rintro⟨⟨n1,a0⟩,e,j⟩
 obtain⟨n,rfl⟩:∃q,n1=q+1:=⟨n1-1,by have:=j.1;(try dsimp only at this);omega⟩
 refine Rk (fun σ' hn=>?_) (kk n a0 ⟨round n a0 ⟨by have:=e.h;(try dsimp only at this);rw[this,hL]⟩ j⟩)
 obtain⟨c0,e2,j2,w2⟩:=hn
 exact⟨⟨(n,c0),e2,j2⟩,Nat.lt_succ_self n,w2⟩
theorem mW{c:xg}{R:Type}{A0:Type}{L B:Nat->A0->R}(hL:∀(a0:A0)(n:Nat),L (Nat.succ n) a0=B n a0)(S:A0->St)(I:Nat->A0->Prop)(n0:Nat)(b0:A0)
  (round:∀n (a0:A0),Me (L n0 b0) (B n a0)->1<=n+1/\I (n+1) a0->@WI P (S a0) c (.nxt (fun σ'=>@Nx σ' (Q1 L S I (L n0 b0) n)) k)) (hI:1<=n0/\I n0 b0:=by first|omega|(dsimp only;omega)|simp) (h0:Wk σ (S b0):=by exact Kl zAE):@RF P σ c k:=by
 refine W7 (ι:={s:Nat×A0//Me (L n0 b0) (L s.1 s.2)/\(1<=s.1/\I s.1 s.2)}) (fun s=>S s.1.2) (fun s=>s.1.1) ⟨(n0,b0),⟨rfl⟩,hI⟩ h0 ?_
 rintro⟨⟨n1,a0⟩,e,j⟩
 obtain⟨n,rfl⟩:∃q,n1=q+1:=⟨n1-1,by have:=j.1;(try dsimp only at this);omega⟩
 refine Rk (fun σ' hn=>?_) (round n a0 ⟨by have:=e.h;(try dsimp only at this);rw[this,hL]⟩ j)
 obtain⟨c0,e2,j2,w2⟩:=hn
 exact⟨⟨(n,c0),e2,j2⟩,Nat.lt_succ_self n,w2⟩
abbrev Q2{R:Type}{A0 A1:Type}(L:Nat->A0->A1->R)(S:A0->A1->St)(I:Nat->A0->A1->Prop)(t:R)(b:Nat):NxI:=⟨fun τ=>∃a0 a1,Me t (L b a0 a1)/\(1<=b/\I b a0 a1)/\Wk τ (S a0 a1)⟩
theorem nx2{R:Type}{A0 A1:Type}{L:Nat->A0->A1->R}{S:A0->A1->St}{I:Nat->A0->A1->Prop}{t:R}{a0:A0}{a1:A1}(e:Me t (L b a0 a1))(hI:1<=b/\I b a0 a1:=by exact zB9)(hw:Wk σ (S a0 a1):=by exact Kl zAE):@Nx σ (Q2 L S I t b):=⟨a0,a1,e,hI,hw⟩
theorem ny2{R:Type}{A0 A1:Type}{L:Nat->A0->A1->R}{S:A0->A1->St}{I:Nat->A0->A1->Prop}{t:R}{a0:A0}{a1:A1}(F:q)(e:Me t (L b a0 a1))(hI:1<=b/\I b a0 a1:=by exact zB9)(kw:q->Wk σ (S a0 a1):=by exact zCC):@Nx σ (Q2 L S I t b):=⟨a0,a1,e,hI,kw F⟩
theorem lp2{c:xg}{R:Type}{A0 A1:Type}{L B:Nat->A0->A1->R}(hL:∀(a0:A0)(a1:A1)(n:Nat),L (Nat.succ n) a0 a1=B n a0 a1)(S:A0->A1->St)(I:Nat->A0->A1->Prop)(n0:Nat)(b0:A0)(b1:A1){p:Nat->A0->A1->Prop}
  (round:∀n (a0:A0)(a1:A1),Me (L n0 b0 b1) (B n a0 a1)->1<=n+1/\I (n+1) a0 a1->p n a0 a1) (hI:1<=n0/\I n0 b0 b1:=by first|omega|(dsimp only;omega)|simp) (h0:Wk σ (S b0 b1):=by exact Kl zAE) (kk:∀n (a0:A0)(a1:A1),Bx (p n a0 a1)->@WI P (S a0 a1) c (.nxt (fun σ'=>@Nx σ' (Q2 L S I (L n0 b0 b1) n)) k):=by(intro n_ a0_ a1_ z;simp;(repeat(with_reducible refine Go.Mo.sd ?_));exact z.h)):@RF P σ c k:=by
 refine W7 (ι:={s:Nat×A0×A1//Me (L n0 b0 b1) (L s.1 s.2.1 s.2.2)/\(1<=s.1/\I s.1 s.2.1 s.2.2)}) (fun s=>S s.1.2.1 s.1.2.2) (fun s=>s.1.1) ⟨(n0,b0,b1),⟨rfl⟩,hI⟩ h0 ?_
 rintro⟨⟨n1,a0,a1⟩,e,j⟩
 obtain⟨n,rfl⟩:∃q,n1=q+1:=⟨n1-1,by have:=j.1;(try dsimp only at this);omega⟩
 refine Rk (fun σ' hn=>?_) (kk n a0 a1 ⟨round n a0 a1 ⟨by have:=e.h;(try dsimp only at this);rw[this,hL]⟩ j⟩)
 obtain⟨c0,c1,e2,j2,w2⟩:=hn
 exact⟨⟨(n,c0,c1),e2,j2⟩,Nat.lt_succ_self n,w2⟩
abbrev Q3{R:Type}{A0 A1 A2:Type}(L:Nat->A0->A1->A2->R)(S:A0->A1->A2->St)(I:Nat->A0->A1->A2->Prop)(t:R)(b:Nat):NxI:=⟨fun τ=>∃a0 a1 a2,Me t (L b a0 a1 a2)/\(1<=b/\I b a0 a1 a2)/\Wk τ (S a0 a1 a2)⟩
theorem nx3{R:Type}{A0 A1 A2:Type}{L:Nat->A0->A1->A2->R}{S:A0->A1->A2->St}{I:Nat->A0->A1->A2->Prop}{t:R}{a0:A0}{a1:A1}{a2:A2}(e:Me t (L b a0 a1 a2))(hI:1<=b/\I b a0 a1 a2:=by exact zB9)(hw:Wk σ (S a0 a1 a2):=by exact Kl zAE):@Nx σ (Q3 L S I t b):=⟨a0,a1,a2,e,hI,hw⟩
theorem ny3{R:Type}{A0 A1 A2:Type}{L:Nat->A0->A1->A2->R}{S:A0->A1->A2->St}{I:Nat->A0->A1->A2->Prop}{t:R}{a0:A0}{a1:A1}{a2:A2}(F:q)(e:Me t (L b a0 a1 a2))(hI:1<=b/\I b a0 a1 a2:=by exact zB9)(kw:q->Wk σ (S a0 a1 a2):=by exact zCC):@Nx σ (Q3 L S I t b):=⟨a0,a1,a2,e,hI,kw F⟩
theorem lp3{c:xg}{R:Type}{A0 A1 A2:Type}{L B:Nat->A0->A1->A2->R}(hL:∀(a0:A0)(a1:A1)(a2:A2)(n:Nat),L (Nat.succ n) a0 a1 a2=B n a0 a1 a2)(S:A0->A1->A2->St)(I:Nat->A0->A1->A2->Prop)(n0:Nat)(b0:A0)(b1:A1)(b2:A2){p:Nat->A0->A1->A2->Prop}
  (round:∀n (a0:A0)(a1:A1)(a2:A2),Me (L n0 b0 b1 b2) (B n a0 a1 a2)->1<=n+1/\I (n+1) a0 a1 a2->p n a0 a1 a2) (hI:1<=n0/\I n0 b0 b1 b2:=by first|omega|(dsimp only;omega)|simp) (h0:Wk σ (S b0 b1 b2):=by exact Kl zAE) (kk:∀n (a0:A0)(a1:A1)(a2:A2),Bx (p n a0 a1 a2)->@WI P (S a0 a1 a2) c (.nxt (fun σ'=>@Nx σ' (Q3 L S I (L n0 b0 b1 b2) n)) k):=by(intro n_ a0_ a1_ a2_ z;simp;(repeat(with_reducible refine Go.Mo.sd ?_));exact z.h)):@RF P σ c k:=by
 refine W7 (ι:={s:Nat×A0×A1×A2//Me (L n0 b0 b1 b2) (L s.1 s.2.1 s.2.2.1 s.2.2.2)/\(1<=s.1/\I s.1 s.2.1 s.2.2.1 s.2.2.2)}) (fun s=>S s.1.2.1 s.1.2.2.1 s.1.2.2.2) (fun s=>s.1.1) ⟨(n0,b0,b1,b2),⟨rfl⟩,hI⟩ h0 ?_
 rintro⟨⟨n1,a0,a1,a2⟩,e,j⟩
 obtain⟨n,rfl⟩:∃q,n1=q+1:=⟨n1-1,by have:=j.1;(try dsimp only at this);omega⟩
 refine Rk (fun σ' hn=>?_) (kk n a0 a1 a2 ⟨round n a0 a1 a2 ⟨by have:=e.h;(try dsimp only at this);rw[this,hL]⟩ j⟩)
 obtain⟨c0,c1,c2,e2,j2,w2⟩:=hn
 exact⟨⟨(n,c0,c1,c2),e2,j2⟩,Nat.lt_succ_self n,w2⟩
abbrev Q4{R:Type}{A0 A1 A2 A3:Type}(L:Nat->A0->A1->A2->A3->R)(S:A0->A1->A2->A3->St)(I:Nat->A0->A1->A2->A3->Prop)(t:R)(b:Nat):NxI:=⟨fun τ=>∃a0 a1 a2 a3,Me t (L b a0 a1 a2 a3)/\(1<=b/\I b a0 a1 a2 a3)/\Wk τ (S a0 a1 a2 a3)⟩
theorem nx4{R:Type}{A0 A1 A2 A3:Type}{L:Nat->A0->A1->A2->A3->R}{S:A0->A1->A2->A3->St}{I:Nat->A0->A1->A2->A3->Prop}{t:R}{a0:A0}{a1:A1}{a2:A2}{a3:A3}(e:Me t (L b a0 a1 a2 a3))(hI:1<=b/\I b a0 a1 a2 a3:=by exact zB9)(hw:Wk σ (S a0 a1 a2 a3):=by exact Kl zAE):@Nx σ (Q4 L S I t b):=⟨a0,a1,a2,a3,e,hI,hw⟩
theorem ny4{R:Type}{A0 A1 A2 A3:Type}{L:Nat->A0->A1->A2->A3->R}{S:A0->A1->A2->A3->St}{I:Nat->A0->A1->A2->A3->Prop}{t:R}{a0:A0}{a1:A1}{a2:A2}{a3:A3}(F:q)(e:Me t (L b a0 a1 a2 a3))(hI:1<=b/\I b a0 a1 a2 a3:=by exact zB9)(kw:q->Wk σ (S a0 a1 a2 a3):=by exact zCC):@Nx σ (Q4 L S I t b):=⟨a0,a1,a2,a3,e,hI,kw F⟩
theorem lp4{c:xg}{R:Type}{A0 A1 A2 A3:Type}{L B:Nat->A0->A1->A2->A3->R}(hL:∀(a0:A0)(a1:A1)(a2:A2)(a3:A3)(n:Nat),L (Nat.succ n) a0 a1 a2 a3=B n a0 a1 a2 a3)(S:A0->A1->A2->A3->St)(I:Nat->A0->A1->A2->A3->Prop)(n0:Nat)(b0:A0)(b1:A1)(b2:A2)(b3:A3){p:Nat->A0->A1->A2->A3->Prop}
  (round:∀n (a0:A0)(a1:A1)(a2:A2)(a3:A3),Me (L n0 b0 b1 b2 b3) (B n a0 a1 a2 a3)->1<=n+1/\I (n+1) a0 a1 a2 a3->p n a0 a1 a2 a3) (hI:1<=n0/\I n0 b0 b1 b2 b3:=by first|omega|(dsimp only;omega)|simp) (h0:Wk σ (S b0 b1 b2 b3):=by exact Kl zAE) (kk:∀n (a0:A0)(a1:A1)(a2:A2)(a3:A3),Bx (p n a0 a1 a2 a3)->@WI P (S a0 a1 a2 a3) c (.nxt (fun σ'=>@Nx σ' (Q4 L S I (L n0 b0 b1 b2 b3) n)) k):=by(intro n_ a0_ a1_ a2_ a3_ z;simp;(repeat(with_reducible refine Go.Mo.sd ?_));exact z.h)):@RF P σ c k:=by
 refine W7 (ι:={s:Nat×A0×A1×A2×A3//Me (L n0 b0 b1 b2 b3) (L s.1 s.2.1 s.2.2.1 s.2.2.2.1 s.2.2.2.2)/\(1<=s.1/\I s.1 s.2.1 s.2.2.1 s.2.2.2.1 s.2.2.2.2)}) (fun s=>S s.1.2.1 s.1.2.2.1 s.1.2.2.2.1 s.1.2.2.2.2) (fun s=>s.1.1) ⟨(n0,b0,b1,b2,b3),⟨rfl⟩,hI⟩ h0 ?_
 rintro⟨⟨n1,a0,a1,a2,a3⟩,e,j⟩
 obtain⟨n,rfl⟩:∃q,n1=q+1:=⟨n1-1,by have:=j.1;(try dsimp only at this);omega⟩
 refine Rk (fun σ' hn=>?_) (kk n a0 a1 a2 a3 ⟨round n a0 a1 a2 a3 ⟨by have:=e.h;(try dsimp only at this);rw[this,hL]⟩ j⟩)
 obtain⟨c0,c1,c2,c3,e2,j2,w2⟩:=hn
 exact⟨⟨(n,c0,c1,c2,c3),e2,j2⟩,Nat.lt_succ_self n,w2⟩
abbrev Q5{R:Type}{A0 A1 A2 A3 A4:Type}(L:Nat->A0->A1->A2->A3->A4->R)(S:A0->A1->A2->A3->A4->St)(I:Nat->A0->A1->A2->A3->A4->Prop)(t:R)(b:Nat):NxI:=⟨fun τ=>∃a0 a1 a2 a3 a4,Me t (L b a0 a1 a2 a3 a4)/\(1<=b/\I b a0 a1 a2 a3 a4)/\Wk τ (S a0 a1 a2 a3 a4)⟩
theorem nx5{R:Type}{A0 A1 A2 A3 A4:Type}{L:Nat->A0->A1->A2->A3->A4->R}{S:A0->A1->A2->A3->A4->St}{I:Nat->A0->A1->A2->A3->A4->Prop}{t:R}{a0:A0}{a1:A1}{a2:A2}{a3:A3}{a4:A4}(e:Me t (L b a0 a1 a2 a3 a4))(hI:1<=b/\I b a0 a1 a2 a3 a4:=by exact zB9)(hw:Wk σ (S a0 a1 a2 a3 a4):=by exact Kl zAE):@Nx σ (Q5 L S I t b):=⟨a0,a1,a2,a3,a4,e,hI,hw⟩
theorem lp5{c:xg}{R:Type}{A0 A1 A2 A3 A4:Type}{L B:Nat->A0->A1->A2->A3->A4->R}(hL:∀(a0:A0)(a1:A1)(a2:A2)(a3:A3)(a4:A4)(n:Nat),L (Nat.succ n) a0 a1 a2 a3 a4=B n a0 a1 a2 a3 a4)(S:A0->A1->A2->A3->A4->St)(I:Nat->A0->A1->A2->A3->A4->Prop)(n0:Nat)(b0:A0)(b1:A1)(b2:A2)(b3:A3)(b4:A4){p:Nat->A0->A1->A2->A3->A4->Prop}
  (round:∀n (a0:A0)(a1:A1)(a2:A2)(a3:A3)(a4:A4),Me (L n0 b0 b1 b2 b3 b4) (B n a0 a1 a2 a3 a4)->1<=n+1/\I (n+1) a0 a1 a2 a3 a4->p n a0 a1 a2 a3 a4) (hI:1<=n0/\I n0 b0 b1 b2 b3 b4:=by first|omega|(dsimp only;omega)|simp) (h0:Wk σ (S b0 b1 b2 b3 b4):=by exact Kl zAE) (kk:∀n (a0:A0)(a1:A1)(a2:A2)(a3:A3)(a4:A4),Bx (p n a0 a1 a2 a3 a4)->@WI P (S a0 a1 a2 a3 a4) c (.nxt (fun σ'=>@Nx σ' (Q5 L S I (L n0 b0 b1 b2 b3 b4) n)) k):=by(intro n_ a0_ a1_ a2_ a3_ a4_ z;simp;(repeat(with_reducible refine Go.Mo.sd ?_));exact z.h)):@RF P σ c k:=by
 refine W7 (ι:={s:Nat×A0×A1×A2×A3×A4//Me (L n0 b0 b1 b2 b3 b4) (L s.1 s.2.1 s.2.2.1 s.2.2.2.1 s.2.2.2.2.1 s.2.2.2.2.2)/\(1<=s.1/\I s.1 s.2.1 s.2.2.1 s.2.2.2.1 s.2.2.2.2.1 s.2.2.2.2.2)}) (fun s=>S s.1.2.1 s.1.2.2.1 s.1.2.2.2.1 s.1.2.2.2.2.1 s.1.2.2.2.2.2) (fun s=>s.1.1) ⟨(n0,b0,b1,b2,b3,b4),⟨rfl⟩,hI⟩ h0 ?_
 rintro⟨⟨n1,a0,a1,a2,a3,a4⟩,e,j⟩
 obtain⟨n,rfl⟩:∃q,n1=q+1:=⟨n1-1,by have:=j.1;(try dsimp only at this);omega⟩
 refine Rk (fun σ' hn=>?_) (kk n a0 a1 a2 a3 a4 ⟨round n a0 a1 a2 a3 a4 ⟨by have:=e.h;(try dsimp only at this);rw[this,hL]⟩ j⟩)
 obtain⟨c0,c1,c2,c3,c4,e2,j2,w2⟩:=hn
 exact⟨⟨(n,c0,c1,c2,c3,c4),e2,j2⟩,Nat.lt_succ_self n,w2⟩
abbrev Q9{R:Type}{A0 A1 A2 A3 A4 A5 A6 A7 A8:Type}(L:Nat->A0->A1->A2->A3->A4->A5->A6->A7->A8->R)(S:A0->A1->A2->A3->A4->A5->A6->A7->A8->St)(I:Nat->A0->A1->A2->A3->A4->A5->A6->A7->A8->Prop)(t:R)(b:Nat):NxI:=⟨fun τ=>∃a0 a1 a2 a3 a4 a5 a6 a7 a8,Me t (L b a0 a1 a2 a3 a4 a5 a6 a7 a8)/\(1<=b/\I b a0 a1 a2 a3 a4 a5 a6 a7 a8)/\Wk τ (S a0 a1 a2 a3 a4 a5 a6 a7 a8)⟩
theorem ny9{R:Type}{A0 A1 A2 A3 A4 A5 A6 A7 A8:Type}{L:Nat->A0->A1->A2->A3->A4->A5->A6->A7->A8->R}{S:A0->A1->A2->A3->A4->A5->A6->A7->A8->St}{I:Nat->A0->A1->A2->A3->A4->A5->A6->A7->A8->Prop}{t:R}{a0:A0}{a1:A1}{a2:A2}{a3:A3}{a4:A4}{a5:A5}{a6:A6}{a7:A7}{a8:A8}(F:q)(e:Me t (L b a0 a1 a2 a3 a4 a5 a6 a7 a8))(hI:1<=b/\I b a0 a1 a2 a3 a4 a5 a6 a7 a8:=by exact zB9)(kw:q->Wk σ (S a0 a1 a2 a3 a4 a5 a6 a7 a8):=by exact zCC):@Nx σ (Q9 L S I t b):=⟨a0,a1,a2,a3,a4,a5,a6,a7,a8,e,hI,kw F⟩
theorem lp9{c:xg}{R:Type}{A0 A1 A2 A3 A4 A5 A6 A7 A8:Type}{L B:Nat->A0->A1->A2->A3->A4->A5->A6->A7->A8->R}(hL:∀(a0:A0)(a1:A1)(a2:A2)(a3:A3)(a4:A4)(a5:A5)(a6:A6)(a7:A7)(a8:A8)(n:Nat),L (Nat.succ n) a0 a1 a2 a3 a4 a5 a6 a7 a8=B n a0 a1 a2 a3 a4 a5 a6 a7 a8)(S:A0->A1->A2->A3->A4->A5->A6->A7->A8->St)(I:Nat->A0->A1->A2->A3->A4->A5->A6->A7->A8->Prop)(n0:Nat)(b0:A0)(b1:A1)(b2:A2)(b3:A3)(b4:A4)(b5:A5)(b6:A6)(b7:A7)(b8:A8){p:Nat->A0->A1->A2->A3->A4->A5->A6->A7->A8->Prop}
  (round:∀n (a0:A0)(a1:A1)(a2:A2)(a3:A3)(a4:A4)(a5:A5)(a6:A6)(a7:A7)(a8:A8),Me (L n0 b0 b1 b2 b3 b4 b5 b6 b7 b8) (B n a0 a1 a2 a3 a4 a5 a6 a7 a8)->1<=n+1/\I (n+1) a0 a1 a2 a3 a4 a5 a6 a7 a8->p n a0 a1 a2 a3 a4 a5 a6 a7 a8) (hI:1<=n0/\I n0 b0 b1 b2 b3 b4 b5 b6 b7 b8:=by first|omega|(dsimp only;omega)|simp) (h0:Wk σ (S b0 b1 b2 b3 b4 b5 b6 b7 b8):=by exact Kl zAE) (kk:∀n (a0:A0)(a1:A1)(a2:A2)(a3:A3)(a4:A4)(a5:A5)(a6:A6)(a7:A7)(a8:A8),Bx (p n a0 a1 a2 a3 a4 a5 a6 a7 a8)->@WI P (S a0 a1 a2 a3 a4 a5 a6 a7 a8) c (.nxt (fun σ'=>@Nx σ' (Q9 L S I (L n0 b0 b1 b2 b3 b4 b5 b6 b7 b8) n)) k):=by(intro n_ a0_ a1_ a2_ a3_ a4_ a5_ a6_ a7_ a8_ z;simp;(repeat(with_reducible refine Go.Mo.sd ?_));exact z.h)):@RF P σ c k:=by
 refine W7 (ι:={s:Nat×A0×A1×A2×A3×A4×A5×A6×A7×A8//Me (L n0 b0 b1 b2 b3 b4 b5 b6 b7 b8) (L s.1 s.2.1 s.2.2.1 s.2.2.2.1 s.2.2.2.2.1 s.2.2.2.2.2.1 s.2.2.2.2.2.2.1 s.2.2.2.2.2.2.2.1 s.2.2.2.2.2.2.2.2.1 s.2.2.2.2.2.2.2.2.2)/\(1<=s.1/\I s.1 s.2.1 s.2.2.1 s.2.2.2.1 s.2.2.2.2.1 s.2.2.2.2.2.1 s.2.2.2.2.2.2.1 s.2.2.2.2.2.2.2.1 s.2.2.2.2.2.2.2.2.1 s.2.2.2.2.2.2.2.2.2)}) (fun s=>S s.1.2.1 s.1.2.2.1 s.1.2.2.2.1 s.1.2.2.2.2.1 s.1.2.2.2.2.2.1 s.1.2.2.2.2.2.2.1 s.1.2.2.2.2.2.2.2.1 s.1.2.2.2.2.2.2.2.2.1 s.1.2.2.2.2.2.2.2.2.2) (fun s=>s.1.1) ⟨(n0,b0,b1,b2,b3,b4,b5,b6,b7,b8),⟨rfl⟩,hI⟩ h0 ?_
 rintro⟨⟨n1,a0,a1,a2,a3,a4,a5,a6,a7,a8⟩,e,j⟩
 obtain⟨n,rfl⟩:∃q,n1=q+1:=⟨n1-1,by have:=j.1;(try dsimp only at this);omega⟩
 refine Rk (fun σ' hn=>?_) (kk n a0 a1 a2 a3 a4 a5 a6 a7 a8 ⟨round n a0 a1 a2 a3 a4 a5 a6 a7 a8 ⟨by have:=e.h;(try dsimp only at this);rw[this,hL]⟩ j⟩)
 obtain⟨c0,c1,c2,c3,c4,c5,c6,c7,c8,e2,j2,w2⟩:=hn
 exact⟨⟨(n,c0,c1,c2,c3,c4,c5,c6,c7,c8),e2,j2⟩,Nat.lt_succ_self n,w2⟩
abbrev Q13{R:Type}{A0 A1 A2 A3 A4 A5 A6 A7 A8 A9 dZ da db:Type}(L:Nat->A0->A1->A2->A3->A4->A5->A6->A7->A8->A9->dZ->da->db->R)(S:A0->A1->A2->A3->A4->A5->A6->A7->A8->A9->dZ->da->db->St)(I:Nat->A0->A1->A2->A3->A4->A5->A6->A7->A8->A9->dZ->da->db->Prop)(t:R)(b:Nat):NxI:=⟨fun τ=>∃a0 a1 a2 a3 a4 a5 a6 a7 a8 a9 dC dD dE,Me t (L b a0 a1 a2 a3 a4 a5 a6 a7 a8 a9 dC dD dE)/\(1<=b/\I b a0 a1 a2 a3 a4 a5 a6 a7 a8 a9 dC dD dE)/\Wk τ (S a0 a1 a2 a3 a4 a5 a6 a7 a8 a9 dC dD dE)⟩
theorem mY{R:Type}{A0 A1 A2 A3 A4 A5 A6 A7 A8 A9 dZ da db:Type}{L:Nat->A0->A1->A2->A3->A4->A5->A6->A7->A8->A9->dZ->da->db->R}{S:A0->A1->A2->A3->A4->A5->A6->A7->A8->A9->dZ->da->db->St}{I:Nat->A0->A1->A2->A3->A4->A5->A6->A7->A8->A9->dZ->da->db->Prop}{t:R}{a0:A0}{a1:A1}{a2:A2}{a3:A3}{a4:A4}{a5:A5}{a6:A6}{a7:A7}{a8:A8}{a9:A9}{dC:dZ}{dD:da}{dE:db}(F:q)(e:Me t (L b a0 a1 a2 a3 a4 a5 a6 a7 a8 a9 dC dD dE))(hI:1<=b/\I b a0 a1 a2 a3 a4 a5 a6 a7 a8 a9 dC dD dE:=by exact zB9)(kw:q->Wk σ (S a0 a1 a2 a3 a4 a5 a6 a7 a8 a9 dC dD dE):=by exact zCC):@Nx σ (Q13 L S I t b):=⟨a0,a1,a2,a3,a4,a5,a6,a7,a8,a9,dC,dD,dE,e,hI,kw F⟩
theorem mg{c:xg}{R:Type}{A0 A1 A2 A3 A4 A5 A6 A7 A8 A9 dZ da db:Type}{L B:Nat->A0->A1->A2->A3->A4->A5->A6->A7->A8->A9->dZ->da->db->R}(hL:∀(a0:A0)(a1:A1)(a2:A2)(a3:A3)(a4:A4)(a5:A5)(a6:A6)(a7:A7)(a8:A8)(a9:A9)(dC:dZ)(dD:da)(dE:db)(n:Nat),L (Nat.succ n) a0 a1 a2 a3 a4 a5 a6 a7 a8 a9 dC dD dE=B n a0 a1 a2 a3 a4 a5 a6 a7 a8 a9 dC dD dE)(S:A0->A1->A2->A3->A4->A5->A6->A7->A8->A9->dZ->da->db->St)(I:Nat->A0->A1->A2->A3->A4->A5->A6->A7->A8->A9->dZ->da->db->Prop)(n0:Nat)(b0:A0)(b1:A1)(b2:A2)(b3:A3)(b4:A4)(b5:A5)(b6:A6)(b7:A7)(b8:A8)(b9:A9)(b10:dZ)(b11:da)(b12:db){p:Nat->A0->A1->A2->A3->A4->A5->A6->A7->A8->A9->dZ->da->db->Prop}
  (round:∀n (a0:A0)(a1:A1)(a2:A2)(a3:A3)(a4:A4)(a5:A5)(a6:A6)(a7:A7)(a8:A8)(a9:A9)(dC:dZ)(dD:da)(dE:db),Me (L n0 b0 b1 b2 b3 b4 b5 b6 b7 b8 b9 b10 b11 b12) (B n a0 a1 a2 a3 a4 a5 a6 a7 a8 a9 dC dD dE)->1<=n+1/\I (n+1) a0 a1 a2 a3 a4 a5 a6 a7 a8 a9 dC dD dE->p n a0 a1 a2 a3 a4 a5 a6 a7 a8 a9 dC dD dE) (hI:1<=n0/\I n0 b0 b1 b2 b3 b4 b5 b6 b7 b8 b9 b10 b11 b12:=by first|omega|(dsimp only;omega)|simp) (h0:Wk σ (S b0 b1 b2 b3 b4 b5 b6 b7 b8 b9 b10 b11 b12):=by exact Kl zAE) (kk:∀n (a0:A0)(a1:A1)(a2:A2)(a3:A3)(a4:A4)(a5:A5)(a6:A6)(a7:A7)(a8:A8)(a9:A9)(dC:dZ)(dD:da)(dE:db),Bx (p n a0 a1 a2 a3 a4 a5 a6 a7 a8 a9 dC dD dE)->@WI P (S a0 a1 a2 a3 a4 a5 a6 a7 a8 a9 dC dD dE) c (.nxt (fun σ'=>@Nx σ' (Q13 L S I (L n0 b0 b1 b2 b3 b4 b5 b6 b7 b8 b9 b10 b11 b12) n)) k):=by(intro n_ a0_ a1_ a2_ a3_ a4_ a5_ a6_ a7_ a8_ a9_ a10_ a11_ a12_ z;simp;(repeat(with_reducible refine Go.Mo.sd ?_));exact z.h)):@RF P σ c k:=by
 refine W7 (ι:={s:Nat×A0×A1×A2×A3×A4×A5×A6×A7×A8×A9×dZ×da×db//Me (L n0 b0 b1 b2 b3 b4 b5 b6 b7 b8 b9 b10 b11 b12) (L s.1 s.2.1 s.2.2.1 s.2.2.2.1 s.2.2.2.2.1 s.2.2.2.2.2.1 s.2.2.2.2.2.2.1 s.2.2.2.2.2.2.2.1 s.2.2.2.2.2.2.2.2.1 s.2.2.2.2.2.2.2.2.2.1 s.2.2.2.2.2.2.2.2.2.2.1 s.2.2.2.2.2.2.2.2.2.2.2.1 s.2.2.2.2.2.2.2.2.2.2.2.2.1 s.2.2.2.2.2.2.2.2.2.2.2.2.2)/\(1<=s.1/\I s.1 s.2.1 s.2.2.1 s.2.2.2.1 s.2.2.2.2.1 s.2.2.2.2.2.1 s.2.2.2.2.2.2.1 s.2.2.2.2.2.2.2.1 s.2.2.2.2.2.2.2.2.1 s.2.2.2.2.2.2.2.2.2.1 s.2.2.2.2.2.2.2.2.2.2.1 s.2.2.2.2.2.2.2.2.2.2.2.1 s.2.2.2.2.2.2.2.2.2.2.2.2.1 s.2.2.2.2.2.2.2.2.2.2.2.2.2)}) (fun s=>S s.1.2.1 s.1.2.2.1 s.1.2.2.2.1 s.1.2.2.2.2.1 s.1.2.2.2.2.2.1 s.1.2.2.2.2.2.2.1 s.1.2.2.2.2.2.2.2.1 s.1.2.2.2.2.2.2.2.2.1 s.1.2.2.2.2.2.2.2.2.2.1 s.1.2.2.2.2.2.2.2.2.2.2.1 s.1.2.2.2.2.2.2.2.2.2.2.2.1 s.1.2.2.2.2.2.2.2.2.2.2.2.2.1 s.1.2.2.2.2.2.2.2.2.2.2.2.2.2) (fun s=>s.1.1) ⟨(n0,b0,b1,b2,b3,b4,b5,b6,b7,b8,b9,b10,b11,b12),⟨rfl⟩,hI⟩ h0 ?_
 rintro⟨⟨n1,a0,a1,a2,a3,a4,a5,a6,a7,a8,a9,dC,dD,dE⟩,e,j⟩
 obtain⟨n,rfl⟩:∃q,n1=q+1:=⟨n1-1,by have:=j.1;(try dsimp only at this);omega⟩
 refine Rk (fun σ' hn=>?_) (kk n a0 a1 a2 a3 a4 a5 a6 a7 a8 a9 dC dD dE ⟨round n a0 a1 a2 a3 a4 a5 a6 a7 a8 a9 dC dD dE ⟨by have:=e.h;(try dsimp only at this);rw[this,hL]⟩ j⟩)
 obtain⟨c0,c1,c2,c3,c4,c5,c6,c7,c8,c9,c10,c11,c12,e2,j2,w2⟩:=hn
 exact⟨⟨(n,c0,c1,c2,c3,c4,c5,c6,c7,c8,c9,c10,c11,c12),e2,j2⟩,Nat.lt_succ_self n,w2⟩
theorem kI{T:TypeId}(h:@EI P (σ.new d (.one (.sref d 0 0 (zc P σ (ZV P T) (P.cellsOf (ZV P T)) parts.toList 0).2.length)) [.lit (P.cellsOf (ZV P T)) (zc P σ (ZV P T) (P.cellsOf (ZV P T)) parts.toList 0).2]) A l k)(iE:o.o.op= .buildSlice T n parts:=by exact rfl)(hg:o.o.guard=none:=by exact rfl)(hd:o.o.dst=some d:=by exact rfl)
  (h1:σ.fresh d=true/\Xj P T=true/\Qg P (ZV P T)=true/\0<P.cellsOf (ZV P T)/\parts.toList.length=n/\n*P.cellsOf (ZV P T)<=16777216:=by simp) (h2:(zc P σ (ZV P T) (P.cellsOf (ZV P T)) parts.toList 0).1:=by simp)
  (h3:Yi d (zc P σ (ZV P T) (P.cellsOf (ZV P T)) parts.toList 0).2.flatten=false:=by simp)
  :@SI P σ A o l k:=mX iE hg hd h1 h2 h3 h
theorem WV{y:Operand}{t:TypeId}{iJ:List (List D)}(h:@EI P ((σ.Z7 (l1++l2)).new d (.one (.sref d 0 0 (iJ.length+news.length))) [.arr true size (iJ++news)]) A l k)(iE:o.o.op= .call ⟨.builtin .append,#[x,y],#[t,t]⟩:=by exact rfl)(hg:o.o.guard=none:=by exact rfl)(hd:o.o.dst=some d:=by exact rfl)(hU:A.bar o.o=true:=by exact rfl)
  (gT:size=P.cellsOf (ZV P t):=by simp) (h1:gOf (look P σ t x)=true/\gOf (look P σ t y)=true/\Xj P t=true/\Qg P (ZV P t)=true/\0<P.cellsOf (ZV P t):=by simp)
  (h2:(V1 σ (unc (look P σ t x)) size).1/\(V1 σ (unc (look P σ t x)) size).2=(iJ,l1):=by simp) (h3:(UA σ (unc (look P σ t y)) size).1/\(UA σ (unc (look P σ t y)) size).2=(news,l2):=by simp)
  (h4:(l1++l2).Nodup/\(σ.Z7 (l1++l2)).fresh d=true:=by simp) (h5:(iJ.length+news.length)*P.bytesOf (ZV P t)<=140737488355328/\iJ.length+news.length<=9223372036854775807:=by(simp<;>omega))
  :@SI P σ A o l k:=mE iE hg hd hU gT h1 h2 h3 h4 h5 h
theorem MU{T:TypeId}{y:Operand}(h:@EI P ((σ.Z7 L).Zy t j (.arr true size (rows.set i ds))) A l k)(iE:o.o.op= .store T x y:=by exact rfl)(hg:o.o.guard=none:=by exact rfl)(hd:o.o.dst=none:=by exact rfl)(hU:A.bar o.o=true:=by exact rfl)
  (hx:unc (look P σ 0 x)= .one (.ptr t j i 0):=by simp) (ho:σ.ob t j= .arr true size rows:=by simp) (hi:i<rows.length:=by(simp;try omega)) (h1:qm P T=true/\gOf (look P σ 0 x)=true/\gOf (look P σ T y)=true/\(unc (look P σ T y)).flat=true:=by simp)
  (h2:KD σ (unc (look P σ T y)).cells=some ds:=by simp) (h3:Qk σ (unc (look P σ T y)).cells:=by simp) (h4:XP (unc (look P σ T y)).cells=L:=by simp) (h5:L.Nodup/\(t,j)∉L/\(σ.Z7 L).yn (At.isT t)=false:=by simp) (h6:ds.length=P.cellsOf T/\P.cellsOf T=size:=by simp)
  :@SI P σ A o l k:=mj iE hg hd hU hx ho hi h1 h2 h3 h4 h5 h6 h
theorem wkS{σ:St}(ρ:Ren)(F:List (Nat×Nat))(iz:Uk σ' ρ ρ=true:=by exact rfl)(h:Rv σ ρ F σ σ' 0:=by simp):Wk σ σ':=XO ρ F iz h
theorem drJ{id:Nat}{l:List Oper}{br:Oper->Bool}(bs:List Nat)(hm:P.follows .mixedOrders=true)(h:@EI P σ ⟨⟨l⟩,Nd bs⟩ ⟨l⟩ k)(hdr:Vm.Nq P ⟨l⟩ (fun i=>i) (Nd bs)=true:=by kernel_rfl)(hO:xf ⟨l⟩ (fun i=>i) σ=true:=by kernel_rfl):@DI P id σ ⟨⟨l⟩,br⟩ k:=nz bs hm hdr hO h
theorem rpS{g:Prop}(h:p)(kk:Bx p->g:=by(intro z;(repeat(with_reducible refine Go.Mo.sd ?_));exact z.h)):g:=kk ⟨h⟩
theorem zCD{g:Prop}(h:p)(kk:Bx p->g:=by(intro z;(repeat(with_reducible refine Z0 ?_));exact z.h)):g:=kk ⟨h⟩
theorem zCE{g:Prop}(h:p)(kk:Bx p->g:=by(intro z;(repeat(with_reducible refine Yy ?_));exact z.h)):g:=kk ⟨h⟩
theorem zCF{g:Prop}(h:p)(kk:Bx p->g:=by(intro z;(repeat(with_reducible refine Yd ?_));exact z.h)):g:=kk ⟨h⟩
theorem zCG{g:Prop}(h:p)(kk:Bx p->g:=by(intro z;(repeat(with_reducible refine QJ ?_));exact z.h)):g:=kk ⟨h⟩
theorem zCH{g:Prop}(h:p)(kk:Bx p->g:=by(intro z;(repeat(with_reducible refine Qu ?_));exact z.h)):g:=kk ⟨h⟩
theorem zCI{g:Prop}(h:p)(kk:Bx p->g:=by(intro z;(repeat(with_reducible refine JL ?_));exact z.h)):g:=kk ⟨h⟩
theorem zCJ{g:Prop}(h:p)(kk:Bx p->g:=by(intro z;(repeat(with_reducible refine QV ?_));exact z.h)):g:=kk ⟨h⟩
theorem rpG{g:Prop}(h:p)(kk:Bx p->g:=by(intro z;(repeat(with_reducible refine Go.Mo.sdg ?_));exact z.h)):g:=kk ⟨h⟩
theorem xs(u:q)(h:q->p:=by(intro u;simp(maxDischargeDepth:=12) [u])):p:=h u
@[simp] abbrev rI (x : Int) : List D := [.int .i64 x]
@[simp] abbrev rB (b : Bool) : List D := [.bool b]
@[simp] abbrev rS (s : ByteArray) : List D := [.str s]
@[simp] abbrev rL {α : Type} (n : Nat) (f : α -> List D) (l : List α) : List D := [.sl n (l.map f)]
end Go.Vm
