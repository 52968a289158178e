/- An abstract machine C7 the model of Go, by value, and that it is sound: part Ve. No condition. -/
import Derived.Test.YtifogammcgmjpaaGreatVd
set_option linter.unusedVariables false
set_option linter.unusedSimpArgs false
namespace Go.Vm
open Go.RowKit
open Go.RowKit
theorem b{p:Prop}(h:p:=by(repeat' apply And.intro)<;>kernel_rfl):p:=h
theorem d{p:Prop}(h:p:=by kernel_rfl):p:=h
variable{P:Program}{f:FuncId}{Q ag aA aL aD am:List (List D)}{o:fw}{ao:xt}{l:qt}{σ σ':J}{p q r1 r2:Prop}{d b E n i j X H ri t u tf id s:Nat}{h:Nat->Nat->Hd}{k:Fr}{B X' ad S:Nat->Prop}{c cl:Call}{aG ds r:List D}{aM g:Bool}{af:Exit->Act->World->Prop}{T0 T:CS}{a:Act}{w w':World}{M A y:jn}{x0 x:Operand}{v:Value}{N:Array Oper}{hf:Nat->Hd}{hd:Hd}
def dy(σ:J):V->Option Nat
 |.one (.d (.sl _ Q))=>some Q.length
 |.one (.E t j _ ae)=>(match σ.ob t j with|.arr _ _ _=>some ae|_=>none)
 |.fix _ (.one (.E t j _ ae))=>(match σ.ob t j with|.arr _ _ _=>some ae|_=>none)
 |_=>none
def OL(σ:J):Prop:=∀t n,dy σ (σ.get t)=some n->n<=9223372036854775807
theorem mC:∀{v:V}{ak:Value}{n:Nat},dy σ v=some n->KA T h σ.ob w v ak->n<=maxLen
 |.one (.d (.sl s Q)),ak,n,hn,hv=>by simp only[dy]at hn;cases hn;obtain⟨ay,ah,_,M,Z⟩:=fY (r:=(show Rd T w ak (.sl s Q)from hv));omega
 |.one (.E u j lo ae),ak,n,hn,hv=>by
  simp only[dy]at hn;split at hn
  ·rename_i q s Q ho;cases hn;have hh:=(show Yk T h σ.ob w (.E u j lo ae) ak from hv).2.1 _ _ _ ho
   obtain⟨_,_,_,ay,ah,_,M,Z,_⟩:=hh;omega
  ·cases hn
 |.fix g (.one (.E u j lo ae)),ak,n,hn,hv=>by
  simp only[dy]at hn;split at hn
  ·rename_i q s Q ho;cases hn;have hh:=(show Yk T h σ.ob w (.E u j lo ae) ak from hv.2).2.1 _ _ _ ho
   obtain⟨_,_,_,ay,ah,_,M,Z,_⟩:=hh;omega
  ·cases hn
theorem nE(r:yO T0 B σ a w):OL σ:=by obtain⟨ad,h,r⟩:=r;intro t n hn;exact mC hn (r.get t)
theorem gQ{c:Code}{af:Exit->J->Prop}(h:OL σ->aX P c af σ):aX P c af σ:=fun T0 B a w r=>h (nE r) T0 B a w r
theorem up{b:Bool}{x:jn}(ht:OL σ->b=true->@WI P σ x k)(hf:OL σ->b=false->@WI P σ y k):@CI P b σ x y k:=
 ⟨fun h=>gQ fun hk=>Ol (ht hk h),fun h=>gQ fun hk=>Ol (hf hk h)⟩
theorem EM{b c:Bool}{x:jn}(hc:c=b)(ht:OL σ->c=true->@WI P σ x k)(hf:OL σ->c=false->@WI P σ y k):@CI P b σ x y k:=by subst hc;exact up ht hf
theorem bX{c:jn}(h:OL σ->@HR P σ c k):@HR P σ c k:=gQ h
theorem aW(h:OL σ->@DI P ri σ ao k):@DI P ri σ ao k:=gQ h
def wq:Op->Bool
 |.call _=>true
 |_=>false
theorem CO(A:wq o.o.op=false)(hg:o.o.guard=some (j,aM))(hd:o.o.dst=some d)
  (i:(ao.ops[j]?).bind (·.dst)=some E) (C:TK aM (σ.get E)=some g) (ac:E<σ.length)
  (ht:g=true->((aP P σ o.o.op o.o.type).1/\ap (aP P σ o.o.op o.o.type).2=true/\(unc (aP P σ o.o.op o.o.type).2).flat=true)/\@EI P (σ.put d (.E true (unc (aP P σ o.o.op o.o.type).2))) ao l k)
  (hf:g=false->@EI P (σ.put d (.E false .any)) ao l k):@SI P σ ao o l k:=by
 have step:∀v,(g=true->(aP P σ o.o.op o.o.type).1/\ap (aP P σ o.o.op o.o.type).2=true/\v=unc (aP P σ o.o.op o.o.type).2/\v.flat=true)->X8 P ao.ops o.o σ (σ.put d (.E g v)):=by
  intro v hv;unfold X8;simp only[hg];refine⟨E,d,g,v,i,ac,hd,C,fun p=>?_,rfl⟩;obtain⟨M,Z,h3,h4⟩:=hv p;have ay:∃z,XV P σ o.o.op o.o.type z/\ap z=true/\v=unc z/\v.flat=true:=⟨_,fS M,Z,h3,h4⟩
  unfold wS;split
  ·rename_i c hc;rw[hc]at A;cases A
  ·exact ay
 cases g with
 |true=>obtain⟨⟨M,Z,h3⟩,h4⟩:=ht rfl;exact⟨_,.inl (step _ fun _=>⟨M,Z,rfl,h3⟩),Kh h4⟩
 |false=>exact⟨_,.inl (step .any (fun h=>by cases h)),Kh (hf rfl)⟩
theorem fQ(hg:o.o.guard=some (j,aM))(hd:o.o.dst=some d)
  (i:(ao.ops[j]?).bind (·.dst)=some E) (C:TK aM (σ.get E)=some g) (ac:E<σ.length) (a:g=false)
  (h:@EI P (σ.put d (.E false .any)) ao l k):@SI P σ ao o l k:=by
 subst a;refine⟨_,.inl ?_,Kh h⟩;unfold X8;simp only[hg];exact⟨E,d,false,.any,i,ac,hd,C,(fun h=>by cases h),rfl⟩
def I{α:Type}[Inhabited α](l:List α)(i:Nat):α:=l.getD i default
theorem ZH{α:Type}[Inhabited α]{f:α->List D}{l:List α}(h:i<l.length):rowAt (l.map f) i=f (I l i):=by simp[rowAt,I,h]
theorem VT{α:Type}{f:α->List D}{l:List α}{x:α}(h:r=f x):(l.map f).set i r=(l.set i x).map f:=by rw[h,List.map_set]
abbrev W(x:Int):Int:=IntKind.i64.wrap x
theorem YB{x:Int}(M: -9223372036854775808<=x)(Z:x<=9223372036854775807):IntKind.i64.wrap x=x:=by
 have hr:IntKind.i64.min<=x/\x<=IntKind.i64.max:=by
  constructor
  ·show-9223372036854775808<=x;exact M
  ·show x<=9223372036854775807;exact Z
 simp only[IntKind.wrap];first
  |(simp[IntKind.bits,IntKind.signed];omega)
  |omega
theorem PK(i:Nat):((i:Int)-1).toNat=i-1:=Y
attribute [simp] J.fresh jt V.ref V.BK Xi HH
open Go.RowKit
variable{fn:Func}{ts:List TypeId}{rv:List ResultVar}{aC:List At}
attribute [simp] J.OP Uy ED At.AR F3
theorem mI{c:Code}(hf:P.funcs[f]?=some fn)(G:fn.body=some c)(ao:Ly P f=true){L:List D}{x:D}
  (hw:∀v,@WI P (F3 fn.ntmps v L aA) ⟨c⟩ (.fin (fA P fn v aG x))):Aj P f L aA aG x:=ry hf G ao (fun v=>Ol (hw v))
theorem mR{x:D}(hf:fn.results=rv.toArray)(h:(y4 P σ rv).1/\(y4 P σ rv).2=[[.d x]]/\x.scalar=true/\σ.head?=some (.fix v (aZ (Qz 0 0 aG)),Ya [] aG)):fA P fn v aG x .ret σ:=
 ⟨.inl rfl,by rw[hf];have:=I4 h.1;rw[h.2.1]at this;simpa using this,h.2.2⟩
theorem oP{xs:List Operand}{t0:TypeId}{L:List D}{y:D}(A:o.o.op= .call cl)(hc:cl.callee= .value (.func f))(n:o.o.guard=none)(hd:o.o.dst=some d)(b:ao.a o.o=true)
  (ha:cl.args.toList=x0::xs) (i:cl.argTypes.toList=t0::ts) (U:Aj P f L aL aG y) (O:ap (look P σ t0 x0)=true/\unc (look P σ t0 x0)=aZ aC) (Y:JF σ aC=some L) (S:ED σ aC) (aw:(Ye aC).Nodup) (ag:σ.zo At.AR=false)
  (am:(QA P σ xs ts).1) (al:(QA P σ xs ts).2=some aL) (ar:XB P σ xs ts=true) (c:Uy L aG)
  (h:@EI P ((σ.OP aC aG).put d (.one (.d y))) ao l k) (g:VX P o.o=false:=by exact rfl):@SI P σ ao o l k:=nr A hc n hd b ha O.1 O.2 Y S aw ag (Sh am al) ar U c g h
open Go.RowKit
variable{L l1 l2:List (Nat×Nat)}{K:Act->World->Prop}{parts:Array (Nat×Operand)}{e:Exit}
def At.isP(t:Nat):At->Bool
 |.Z u _ _ _ _=>u==t
 |.ptr u _ _ _=>u==t
 |_=>false
theorem av.ZCD(r:av T0 B σ a w ad h){Q:List (List At)}(ho:σ.ob t 0= .lit X Q)(Y:jg σ Q=some am)(ao:y3 σ Q)
  (hL:Ye Q.flatten=L) (aw:L.Nodup) (I:(t,0)∉L) (hp:(σ.YC L).zo (At.isP t)=false):yO T0 B ((σ.YC L).Yg t 0 (.arr true X am)) a w:=by
 have an:σ.ob t 0≠ .none:=bq;have h0:=r.obj t 0;rw[ho]at h0;obtain⟨e,xs,ar,hz,aa⟩:=h0;obtain⟨N,ai,j⟩:=Lb Y;have aq:=Mn r aa N (Pt ao) (by rw[hL];exact aw);rw[hL]at aq;have r1:=r.YC L;have aN:=r.zj L;have aC:∀b',(h t 0).u b'->zb σ h L b'->False:=by rintro b' aH ⟨p,aJ,W,aK⟩;obtain⟨q1,q2⟩:=r.inj t 0 p.1 p.2 b' an W aH aK;exact I (by rw[q1,q2];exact aJ)
 have aD:(σ.YC L).ob t 0= .lit X Q:=by rw[J.y0,if_neg I,ho]
 have C:(σ.YC L).ob t 0≠ .none:=by rw[aD];simp
 have Z:∀u i,¬(u=t/\i=0)->((σ.YC L).Yg t 0 (.arr true X am)).ob u i=(σ.YC L).ob u i:=by intro u i W;rw[J.ze _ t 0 _ u i C,if_neg W]
 have U:((σ.YC L).Yg t 0 (.arr true X am)).ob t 0= .arr true X am:=by rw[J.ze _ t 0 _ t 0 C];simp
 generalize P:(σ.YC L).Yg t 0 (.arr true X am)=σ2 at*;generalize bg:σ.YC L=σ1 at*;have az:σ2.length=σ1.length:=by rw[<-P,J.JQ]
 have af:∀u,σ2.get u=σ1.get u:=fun u=>by rw[<-P,J.JR]
 let m:Hd:=⟨(h t 0).v,fun k=>(xs[k]?).getD undef,fun b=>(h t 0).u b\/zb σ h L b⟩
 let h':Nat->Nat->Hd:=fun u i=>if u=t/\i=0 then m else h u i
 have aF:∀u i,¬(u=t/\i=0)->h' u i=h u i:=fun u i W=>if_neg W;have g:h' t 0=m:=by simp[h']
 have hv:∀u i,(h' u i).v=(h u i).v:=by
  intro u i;by_cases hc:u=t/\i=0
  ·obtain⟨rfl,rfl⟩:=hc;rw[g]
  ·rw[aF u i hc]
 have ah:∀{x:At}{v:Value},At.isP t x=false->Yk (al T0 ad) h σ1.ob w x v->Yk (al T0 ad) h' σ2.ob w x v:=by
  intro x v y n;cases x with
  |any=>exact n
  |d x=>exact n
  |nil s=>exact n
  |E u i lo ae=>
   refine⟨n.1,fun q s au hq=>?_,fun s au hq=>?_⟩
   ·by_cases hc:u=t/\i=0
    ·obtain⟨rfl,rfl⟩:=hc;rw[U]at hq;cases hq;rw[hv,<-ai];exact n.2.2 _ _ aD
    ·rw[Z u i hc]at hq;rw[hv];exact n.2.1 _ _ _ hq
   ·by_cases hc:u=t/\i=0
    ·obtain⟨rfl,rfl⟩:=hc;rw[U]at hq;cases hq
    ·rw[Z u i hc]at hq;rw[hv];exact n.2.2 _ _ hq
  |ptr u i k c=>
   refine⟨n.1,fun q s au hq=>?_⟩;have hc:¬(u=t/\i=0):=fun hc=>by simp[At.isP,hc.1]at y
   rw[Z u i hc]at hq;rw[hv];exact n.2 _ _ _ hq
  |O u c=>
   refine⟨n.1,fun E hq=>?_⟩;by_cases hc:u=t
   ·subst hc;rw[U]at hq;cases hq
   ·rw[Z u 0 (fun hh=>hc hh.1)]at hq;rw[hv];exact n.2 _ hq
  |fn f u=>
   refine⟨n.1,fun E hq=>?_⟩;by_cases hc:u=t
   ·subst hc;rw[U]at hq;cases hq
   ·rw[Z u 0 (fun hh=>hc hh.1)]at hq;rw[hv];exact n.2 _ hq
  |Z u i k c o=>
   refine⟨n.1,fun s au hq=>?_⟩;have hc:¬(u=t/\i=0):=fun hc=>by simp[At.isP,hc.1]at y
   rw[Z u i hc]at hq;rw[aF u i hc];exact n.2 _ _ hq
  |ac R c=>exact n
 have D:∀u i,σ2.ob u i≠ .none->σ1.ob u i≠ .none:=by
  intro u i hn;by_cases hc:u=t/\i=0
  ·obtain⟨rfl,rfl⟩:=hc;exact C
  ·rw[Z u i hc]at hn;exact hn
 refine⟨ad,h',by rw[r1.size,az],r1.defers,r1.d,r1.e,r1.f,fun u F=>?_,fun u i=>?_,fun u i b hn G=>?_,fun u i b hn G=>?_,fun u i l i' b hn A G aj=>?_⟩
 ·rw[az]at F;rw[af];exact KA.map ah (J.I9 hp u) (r1.slot u F)
 ·by_cases hc:u=t/\i=0
  ·obtain⟨rfl,rfl⟩:=hc;rw[U,g];refine⟨e,xs,by rw[<-ai];exact ar,j X hz,aq.mono (fun b G=>⟨.inr G,fun ay=>aC b (r.c u 0 b an ay) G⟩),fun k x d O _ _=>by simp[m,O]⟩
  ·rw[Z u i hc,aF u i hc];exact zf.map ah (fun b k v G hc=>⟨hc,G⟩) (fun ho b=>r1.c u i b ho) (fun _ _ _=>rfl) (J.El hp u i) (r1.obj u i)
 ·by_cases hc:u=t/\i=0
  ·obtain⟨rfl,rfl⟩:=hc;rw[g]at G⊢;exact .inl (r.c u 0 b an G)
  ·rw[aF u i hc]at G⊢;exact r1.c u i b (D u i hn) G
 ·by_cases hc:u=t/\i=0
  ·obtain⟨rfl,rfl⟩:=hc;rw[g]at G;rcases G with G|G
   ·exact r.own u 0 b an G
   ·have:=aN b G;exact⟨this.1,this.2.1,this.2.2.1⟩
  ·rw[aF u i hc]at G;exact r1.own u i b (D u i hn) G
 ·have ag:∀u i b,¬(u=t/\i=0)->σ1.ob u i≠ .none->(h u i).u b->(h' t 0).u b->False:=by
   intro u i b hc hn G aj;rw[g]at aj;rcases aj with aj|aj
   ·exact hc (r1.inj u i t 0 b hn C G aj)
   ·exact(aN b aj).2.2.2 u i hn G
  by_cases hc:u=t/\i=0
  ·by_cases z:l=t/\i'=0
   ·exact⟨hc.1.trans z.1.symm,hc.2.trans z.2.symm⟩
   ·obtain⟨rfl,rfl⟩:=hc;rw[aF l i' z]at aj;exact(ag l i' b z (D l i' A) aj G).elim
  ·rw[aF u i hc]at G;by_cases z:l=t/\i'=0
   ·obtain⟨rfl,rfl⟩:=z;exact(ag u i b hc (D u i hn) G aj).elim
   ·rw[aF l i' z]at aj;exact r1.inj u i l i' b (D u i hn) (D l i' A) G aj
theorem fi{T:TypeId}(A:o.o.op= .buildSlice T n parts)(hg:o.o.guard=none)(hd:o.o.dst=some d)(b:ao.a o.o=true)
  (M:(σ.fresh d=true/\d<σ.length)/\Xr P T=true/\JN P (C P T)=true/\0<P.cellsOf (C P T)/\parts.toList.length=n/\n*P.cellsOf (C P T)<=16777216) (Z:(qT P σ (C P T) (P.cellsOf (C P T)) parts.toList 0).1)
  (h3:U d (qT P σ (C P T) (P.cellsOf (C P T)) parts.toList 0).2.flatten=false)
  (h4:jg (σ.new d (.one (.E d 0 0 (qT P σ (C P T) (P.cellsOf (C P T)) parts.toList 0).2.length)) [.lit (P.cellsOf (C P T)) (qT P σ (C P T) (P.cellsOf (C P T)) parts.toList 0).2]) (qT P σ (C P T) (P.cellsOf (C P T)) parts.toList 0).2=some am/\
   y3 (σ.new d (.one (.E d 0 0 (qT P σ (C P T) (P.cellsOf (C P T)) parts.toList 0).2.length)) [.lit (P.cellsOf (C P T)) (qT P σ (C P T) (P.cellsOf (C P T)) parts.toList 0).2]) (qT P σ (C P T) (P.cellsOf (C P T)) parts.toList 0).2)
  (h5:Ye (qT P σ (C P T) (P.cellsOf (C P T)) parts.toList 0).2.flatten=L/\L.Nodup/\(d,0)∉L)
  (h6:((σ.new d (.one (.E d 0 0 (qT P σ (C P T) (P.cellsOf (C P T)) parts.toList 0).2.length)) [.lit (P.cellsOf (C P T)) (qT P σ (C P T) (P.cellsOf (C P T)) parts.toList 0).2]).YC L).zo (At.isP d)=false)
  (h:@EI P (((σ.new d (.one (.E d 0 0 (qT P σ (C P T) (P.cellsOf (C P T)) parts.toList 0).2.length)) [.lit (P.cellsOf (C P T)) (qT P σ (C P T) (P.cellsOf (C P T)) parts.toList 0).2]).YC L).Yg d 0 (.arr true (P.cellsOf (C P T)) am)) ao l k):@SI P σ ao o l k:=by
 refine⟨_,.inr ⟨b,?_,fun d' m hc=>KK (Jt (Nn (fun e=>m cr) hc)),fun hh=>by simp[GP,A]at hh,fun hh=>by first|(simp[Nf,A]at hh;done)|(unfold Nf at hh;rw[A]at hh;split at hh<;>simp_all),fun hh _=>by first|(simp[VX,A]at hh;done)|(unfold VX at hh;rw[A]at hh;split at hh<;>simp_all)⟩,Kh h⟩;rintro T0 B a w K F ⟨ad,hh,r⟩ hK;have hw:Region.wanted o.o (yielded ao.ops a.tmps)=true:=cA
 rw[if_pos hw];refine Fk r A hd M.1.1 M.2.1 M.2.2.1 M.2.2.2.1 M.2.2.2.2.1 M.2.2.2.2.2 (sn Z) h3 (fun a' w' hr c=>hK a' w' ?_ c);obtain⟨X',aF,r'⟩:=hr;exact av.ZCD r' (by rw[J.qK,if_pos ⟨rfl,M.1.2⟩];rfl) h4.1 h4.2 h5.1 h5.2.1 h5.2.2 h6
attribute [simp] At.isP
theorem Z7.own(U:Z7 P f aA ag):KJ P f true aA ag:=by
 refine⟨U.1,fun T w ar hT ha=>(U.2 T w ar hT ha).mono ?_⟩;rintro e w' ⟨vs,g,he,G,hf,hl,⟨az,l,M,Z,h3⟩⟩;refine⟨vs,g,fun b=>(w.heap.size<=b/\b<w'.heap.size)/\∀(k:Nat)(c:Value)(d:D),g.flatten[k]?=some c->ag.flatten[k]?=some d->d.scalar=false->blk c≠some b,he,G,fun b G=>G.1,hf,Pl hl (fun k x d O hd=>?_),fun _=>⟨fun i c d b hc hd N V=>?_,fun i j c c' d d' b hc hd z m N E V J=>?_⟩⟩
 ·simp only[R6,if_true];have ho:=M k x d O hd
  cases ho with
  |int k n=>exact .int _ _
  |bool b=>exact .bool _
  |str s=>exact .str _
  |unk v h=>exact .unk _ h
  |sl v X Q S e' xs F ho hz aj aE hk aB m=>
   refine⟨e',xs,ho,hz,Yd.V8 aE (fun i y dd hy R=>(hk i y dd hy R).rd (fun b k' G=>.inr ⟨Z k b (aB i b G).1,fun k2 c2 d2 C q r t=>?_⟩))⟩;have ac:=M k2 c2 d2 C q
   have au:l k2 b:=by
    cases ac with
    |int k n=>cases r
    |bool b=>cases r
    |str s=>cases r
    |unk=>cases r
    |sl o H an p e2 A I ac a0 ak aD a K B=>exact ak b t
   have:=h3 k k2 b (aB i b G).1 au;subst this;rw[O]at C;cases C;exact(aB i b G).2 t
 ·have ac:=M i c d hc hd;have au:l i b:=by
   cases ac with
   |int k n=>cases N
   |bool b=>cases N
   |str s=>cases N
   |unk=>cases N
   |sl o H an p e2 A I ac a0 ak aD a K B=>exact ak b V
  have:=Z i b au;exact⟨this.1,this.2,fun hy=>hy.2 i c d hc hd N V⟩
 ·have au:∀(i:Nat)(c:Value)(d:D),g.flatten[i]?=some c->ag.flatten[i]?=some d->d.scalar=false->blk c=some b->l i b:=by
   intro i c d hc hd N V;have ac:=M i c d hc hd
   cases ac with
   |int k n=>cases N
   |bool b=>cases N
   |str s=>cases N
   |unk=>cases N
   |sl o H an p e2 A I ac a0 ak aD a K B=>exact ak b V
  exact h3 i j b (au i c d hc hd N V) (au j c' d' z m E J)
open Go.RowKit
def mg(σ:J)(F:List (Nat×Nat)):At->At
 |.E t j lo ae=>if bI F t j then(match σ.ob t j with|.arr _ s Q=>.d (.sl s (cut Q lo ae))|_=>.any)else .E t j lo ae
 |.ptr t j i c=>if bI F t j then .any else .ptr t j i c
 |.Z t j i c o=>if bI F t j then .any else .Z t j i c o
 |x=>x
def gm(σ:J)(F:List (Nat×Nat)):V->V
 |.one x=>.one (mg σ F x)
 |.agg xs=>.agg (xs.map (mg σ F))
 |.fix u (.one x)=>.fix u (.one (mg σ F x))
 |.fix u (.agg xs)=>.fix u (.agg (xs.map (mg σ F)))
 |_=>.any
def gI(σ:J)(F:List (Nat×Nat))(t j:Nat)(o:Ob):Ob:=
 if bI F t j then .none else match o with|.box I=>.box (I.map (mg σ F))|.lit _ _=>.none|o=>o
def fj(σ:J)(F:List (Nat×Nat))(t:Nat):List Ob->Nat->List Ob
 |[],_=>[]
 |o::aa,j=>gI σ F t j o::fj σ F t aa (j+1)
def iA(σ:J)(F:List (Nat×Nat)):List bx->Nat->List bx
 |[],_=>[]
 |e::A,t=>(gm σ F e.1,fj σ F t e.2 0)::iA σ F A (t+1)
def J.frz(σ:J)(F:List (Nat×Nat)):J:=iA σ F σ 0
attribute [simp] mg gm gI fj iA J.frz
theorem Zl{Q:List (List At)}(ho:σ.ob t 0= .lit X Q)(Y:jg σ Q=some am)(ao:y3 σ Q)(hL:Ye Q.flatten=L)(aw:L.Nodup/\(t,0)∉L)
  (hp:(σ.YC L).zo (At.isP t)=false) (h:Wk ((σ.YC L).Yg t 0 (.arr true X am)) σ'):Wk σ σ':=
 fun T0 B a w ⟨_,_,r⟩=>h T0 B a w (av.ZCD r ho Y ao hL aw.1 aw.2 hp)
open Go.RowKit
variable{aT:List Ob}
abbrev ptr(b:Nat):Value:=.pointer (some ⟨b,0,none⟩)
abbrev fM(T:CS)(w:World)(ar:List Value)(aA:List (List D)):Prop:=Yd (fun v L=>∃I,xK v I/\Yd (Rd T w) I L) ar aA
def TR(n:Nat)(s:List (List D))(v:Value)(E:List At)(aT:List Ob)(ap:List (List D)):J:=
 FK s++(.fix v (.one (.O s.length 0)),.box E::aT)::(FK ap++List.replicate (n-(s.length+1+ap.length)) (V.any,[]))
theorem q3(ap:List (List D))(m t:Nat):∃x,(match(FK ap++List.replicate m ((V.any,[]):bx))[t]? with|some e=>e|none=>(V.any,[]))=(x,[])/\(x= .any\/∃r,ap[t]?=some r/\x=aZ (r.map .d)):=by
 rcases Nat.lt_or_ge t ap.length with h|h
 ·rw[List.getElem?_append_left cy,Mq,List.getElem?_eq_getElem h];exact⟨_,rfl,.inr ⟨_,rfl,rfl⟩⟩
 ·rw[List.getElem?_append_right cy,List.getElem?_replicate];refine⟨.any,?_,.inl rfl⟩;split
  ·rename_i e he;split at he
   ·cases he;rfl
   ·cases he
  ·rfl
theorem r4(n:Nat)(s:List (List D))(v:Value)(E:List At)(aT:List Ob)(ap:List (List D))(t:Nat):
  (t=s.length/\(TR n s v E aT ap)[t]?=some (.fix v (.one (.O s.length 0)),.box E::aT))\/
  (t≠s.length/\(∀j,(TR n s v E aT ap).ob t j= .none)/\((TR n s v E aT ap).get t= .any\/∃r,(TR n s v E aT ap).get t=aZ (r.map .d)/\((t<s.length/\s[t]?=some r)\/(s.length<t/\ap[t-s.length-1]?=some r)))):=by
 rcases Nat.lt_trichotomy t s.length with h|h|h
 ·refine .inr ⟨Y,?_⟩;have:(TR n s v E aT ap)[t]?=some (aZ (s[t].map .d),[]):=by unfold TR;rw[List.getElem?_append_left cy,Mq,List.getElem?_eq_getElem h];rfl
  refine⟨fun j=>by unfold J.ob;rw[this];simp[Y6],.inr ⟨s[t],by unfold J.get;rw[this],.inl ⟨h,List.getElem?_eq_getElem h⟩⟩⟩
 ·refine .inl ⟨h,?_⟩;unfold TR;rw[List.getElem?_append_right (by rw[QY];omega),QY,h,Nat.sub_self];rfl
 ·refine .inr ⟨Y,?_⟩;have H:(TR n s v E aT ap)[t]?=(FK ap++List.replicate (n-(s.length+1+ap.length)) ((V.any,[]):bx))[t-s.length-1]?:=by unfold TR;rw[List.getElem?_append_right (by rw[QY];omega),QY,show t-s.length=(t-s.length-1)+1 by omega,List.getElem?_cons_succ];rfl
  obtain⟨x,O,hr⟩:=q3 ap (n-(s.length+1+ap.length)) (t-s.length-1);rw[<-H]at O;constructor
  ·intro j;unfold J.ob;cases hq:(TR n s v E aT ap)[t]? with
   |none=>rfl
   |some e=>rw[hq]at O;simp only at O;rw[O];simp[Y6]
  ·have hg:(TR n s v E aT ap).get t=x:=by
    unfold J.get;cases hq:(TR n s v E aT ap)[t]? with
    |none=>rw[hq]at O;simp only at O;injection O
    |some e=>rw[hq]at O;simp only at O;rw[O]
   rcases hr with rfl|⟨r,hr,rfl⟩
   ·exact .inl hg
   ·exact .inr ⟨r,hg,.inr ⟨h,hr⟩⟩
theorem sB{s ap:List (List D)}{E:List At}{m o:List Value}(hd:Nat->Hd)
  (hT:∀k i,T k i->k<w.heap.size/\k≠b/\¬S k) (y:∀k,S k->k<w.heap.size/\k≠b) (G:b<w.heap.size) (h0:hd 0=Hd.of (ptr b))
  (B:∀(h:Nat->Nat->Hd)(ai:Nat->Nat->Ob),(∀j,h s.length j=hd j)->(∀j,ai s.length j=Y6 (.box E::aT) j)->zf (al T (fun _=>False)) h ai w (hd 0) (.box E))
  (Z:∀(h:Nat->Nat->Hd)(ai:Nat->Nat->Ob)(j:Nat),zf (al T (fun _=>False)) h ai w (hd (j+1)) (Y6 aT j))
  (au:∀j k,Y6 aT j≠ .none->blk (hd (j+1)).v=some k->(hd (j+1)).u k) (aq:∀j k,Y6 aT j≠ .none->(hd (j+1)).u k->S k)
  (am:∀i j k,Y6 aT i≠ .none->Y6 aT j≠ .none->(hd (i+1)).u k->(hd (j+1)).u k->i=j) (c:fM T w m s) (g:fM T w o ap):
  yO T (fun k=>k<w.heap.size/\k≠b/\¬S k) (TR n s (ptr b) E aT ap) {tmps:=(m++ptr b::o).toArray++Array.replicate (n-(m++ptr b::o).toArray.size) undef,defers:=[]} w:=by
 have e:=c.length;have aD:=g.length;have ah:=r4 n s (ptr b) E aT ap;have ak:∀j,(TR n s (ptr b) E aT ap).ob s.length j=Y6 (.box E::aT) j:=by
  intro j;rcases ah s.length with⟨_,h⟩|⟨h,_⟩
  ·unfold J.ob;rw[h]
  ·exact absurd rfl h
 have a:∀t j,(TR n s (ptr b) E aT ap).ob t j≠ .none->t=s.length:=by
  intro t j hn;rcases ah t with⟨h,_⟩|⟨_,h,_⟩
  ·exact h
  ·exact absurd (h j) hn
 have P:∀b k v,T b k->w.cell? ⟨b,k,none⟩=some v->w.cell? ⟨b,k,none⟩=some v/\al T (fun _=>False) b k:=fun b k v G hc=>⟨hc,.inl G⟩;have K:∀k,(hd 0).u k↔k=b:=fun k=>by rw[h0];simp[Hd.of,blk,eq_comm]
 have ax:∀j,Y6 (.box E::aT) j≠ .none->(j=0\/∃i,j=i+1/\Y6 aT i≠ .none):=by
  intro j hn;cases j with
  |zero=>exact .inl rfl
  |succ j=>exact .inr ⟨j,rfl,by rw[PN]at hn;exact hn⟩
 have L:∀j k,Y6 (.box E::aT) j≠ .none->(hd j).u k->k=b\/S k:=by
  intro j k hn F;rcases ax j hn with rfl|⟨i,rfl,hi⟩
  ·exact .inl ((K k).1 F)
  ·exact .inr (aq i k hi F)
 have l:∀{ar:List Value}{aA:List (List D)}{t:Nat}{r:List D},fM T w ar aA->aA[t]?=some r->∃v,ar[t]?=some v/\KA (al T (fun _=>False)) (fun t j=>if t=s.length then hd j else Hd.of undef) (TR n s (ptr b) E aT ap).ob w (aZ (r.map .d)) v:=by intro ar aA t r ha hr;obtain⟨v,hv,I,hf,aa⟩:=ha.get' t r hr;exact⟨v,hv,(Eo hf (Ek (aa.imp fun _ _=>Rd.mono P))).up⟩
 refine⟨fun _=>False,fun t j=>if t=s.length then hd j else Hd.of undef,?_⟩;refine⟨?_,rfl,(fun k hk=>hk.1),(fun b G=>G.elim),(fun k i hk=>hT k i hk),fun t ht=>?_,fun t j=>?_,fun t j k hn hk=>?_,fun t j k hn hk=>?_,fun t j t' j' k hn A hk aI=>?_⟩
 ·simp[TR,QY,e,aD];omega
 ·rcases ah t with⟨rfl,h⟩|⟨W,_,h⟩
  ·have d:((m++ptr b::o).toArray++Array.replicate (n-(m++ptr b::o).toArray.size) undef).getD s.length undef=ptr b:=by rw[Array.getD_eq_getD_getElem?,Array.getElem?_append_left a0];simp[<-e]
   rw[d];unfold J.get;rw[h];exact⟨rfl,rfl,fun N _=>⟨b,by simp[h0,Hd.of],rfl⟩⟩
  ·rcases h with h|⟨r,h,hr⟩
   ·rw[h];trivial
   ·rw[h];rcases hr with⟨ac,hr⟩|⟨ac,hr⟩
    ·obtain⟨v,hv,f⟩:=l c hr;have d:((m++ptr b::o).toArray++Array.replicate (n-(m++ptr b::o).toArray.size) undef).getD t undef=v:=by rw[Array.getD_eq_getD_getElem?,Array.getElem?_append_left a0];simp[List.getElem?_append_left (show t<m.length by omega),hv]
     simp only[d];exact f
    ·obtain⟨v,hv,f⟩:=l g hr;have av:=(List.getElem?_eq_some_iff.1 hv).1
     have d:((m++ptr b::o).toArray++Array.replicate (n-(m++ptr b::o).toArray.size) undef).getD t undef=v:=by rw[Array.getD_eq_getD_getElem?,Array.getElem?_append_left a0];simp only[List.getElem?_toArray];rw[List.getElem?_append_right Y,show t-m.length=(t-s.length-1)+1 by omega,List.getElem?_cons_succ,hv];rfl
     simp only[d];exact f
 ·by_cases hn:(TR n s (ptr b) E aT ap).ob t j= .none
  ·rw[hn];trivial
  ·obtain rfl:=a t j hn;rw[ak];simp only[if_true];cases j with
   |zero=>exact B _ _ (fun j=>ab) ak
   |succ j=>rw[PN];exact Z _ _ j
 ·obtain rfl:=a t j hn;rw[ak]at hn;simp only[if_true]at hk⊢;rcases ax j hn with rfl|⟨i,rfl,hi⟩
  ·rw[h0]at hk⊢;exact hk
  ·exact au i k hi hk
 ·obtain rfl:=a t j hn;rw[ak]at hn;simp only[if_true]at hk;rcases L j k hn hk with rfl|U
  ·exact⟨fun hh=>hh.2.1 rfl,fun hh=>hh,G⟩
  ·exact⟨fun hh=>hh.2.2 U,fun hh=>hh,(y k U).1⟩
 ·obtain rfl:=a t j hn;obtain rfl:=a t' j' A;rw[ak]at hn A;simp only[if_true]at hk aI;refine⟨rfl,?_⟩;rcases ax j hn with rfl|⟨i,rfl,hi⟩
  ·rcases ax j' A with rfl|⟨i',rfl,ao⟩
   ·rfl
   ·exact absurd ((K k).1 hk) (y k (aq i' k ao aI)).2
  ·rcases ax j' A with rfl|⟨i',rfl,ao⟩
   ·exact absurd ((K k).1 aI) (y k (aq i k hi hk)).2
   ·rw[am i i' k hi ao hk aI]
open Go.RowKit
open Go.RowKit
theorem iX{ai:Nat->Nat->Ob}(hr:zf T h ai w hd (.arr true X Q))(hf:∀r∈Q,∀x∈r,x.scalar=true):zf T h ai w hd (.arr false X Q):=by
 obtain⟨e,xs,ho,hz,⟨hl,l,hk,_,_⟩,_⟩:=hr;refine⟨e,xs,ho,hz,Yd.V8 hl (fun k x d O hd=>?_)⟩;obtain⟨r0,ap,ax⟩:=List.mem_flatten.1 (List.mem_of_getElem? hd);have N:=hf r0 ap d ax
 have:=hk k x d O hd;cases this with
 |int k n=>exact .int _ _
 |bool b=>exact .bool _
 |str s=>exact .str _
 |unk v h=>exact .unk _ h
 |sl=>cases N
def tT(a:Bool)(σ:J)(d:Nat)(ag:List (List D))(qs:List Bool):J:=match a with|true=>σ.new d (Mz d ag) (Ya qs ag.flatten)|false=>σ.put d (SW ag)
section
attribute [simp] tT
end
open Go.RowKit
variable{qs:List Bool}{aW:Array Value}
def hr(w:World)(S:Nat->Prop)(b:Nat)(aG:List D)(e:Ending)(w':World):Prop:=
 e= .returned (.tuple #[])/\Xv (fun k=>k<w.heap.size/\k≠b/\¬S k) w w'/\∃I e',w'.heap[b]?=some (.cells I e' (0,0))/\z6 w' I.toList aG (fun k=>(S k\/(w.heap.size<=k/\k<w'.heap.size))/\k≠b)
def wL(P:Program)(f:FuncId)(aA:List (List D))(L aG:List D):Prop:=
 Ly P f=true/\∀(T:CS)(S:Nat->Prop)(w:World)(b:Nat)(ar:List Value),(∀k i,T k i->k<w.heap.size/\k≠b/\¬S k)->(∀k,S k->k<w.heap.size/\k≠b)->b<w.heap.size->
  (∃I e,w.heap[b]?=some (.cells I e (0,0))/\z6 w I.toList L S)->fM T w ar aA->Calls P f (ar++[ptr b]).toArray w (hr w S b aG)
def gg(P:Program)(fn:Func)(p:Nat)(v:Value)(aG:List D)(e:Exit)(σ:J):Prop:=
 (e= .ret\/e= .normal)/\GY P σ fn.results.toList []/\∃aC aT,σ[p]?=some (.fix v (.one (.O p 0)),.box aC::aT)/\JF σ aC=some aG/\QQ σ aC/\(Ye aC).Nodup
def gT(w:World)(S:Nat->Prop)(H:Nat)(aD:List (List D))(e:Ending)(w':World):Prop:=
 ∃u,e= .returned u/\Xv (fun k=>k<w.heap.size/\¬S k) w w'/\aV w' u (.sl H aD) (fun k=>S k\/(w.heap.size<=k/\k<w'.heap.size))
def vC(P:Program)(f:FuncId)(H:Nat)(Q:List (List D))(aA:List (List D))(aD:List (List D)):Prop:=
 Ly P f=true/\∀(T:CS)(S:Nat->Prop)(w:World)(v:Value)(ar:List Value),(∀k i,T k i->k<w.heap.size/\¬S k)->(∀k,S k->k<w.heap.size)->aV w v (.sl H Q) S->
  fM T w ar aA->Calls P f (v::ar).toArray w (gT w S H aD)
def fk(P:Program)(fn:Func)(H:Nat)(aD:List (List D))(e:Exit)(σ:J):Prop:=
 (e= .ret\/e= .normal)/\∃x,GY P σ fn.results.toList [[x]]/\JF σ [x]=some [.sl H aD]/\QQ σ [x]
def eo(n H:Nat)(Q:List (List D))(aA:List (List D)):J:=(.one (.E 0 0 0 Q.length),[.arr false H Q])::(FK aA++List.replicate (n-(aA.length+1)) (V.any,[]))
def At.isO(u:Nat):At->Bool
 |.E t _ _ _=>t==u
 |.ptr t _ _ _=>t==u
 |.Z t _ _ _ _=>t==u
 |_=>false
def y5(Q:List (List D)):Prop:=∀r∈Q,∀x∈r,x.scalar=true
theorem hl{L:List D}(hq:Re qs L)(k4:∀j X Q,L[j]?=some (.sl X Q)->∀T h ai,zf T h ai w (hf j) (.arr true X Q))(T:CS)(ai:Nat->Nat->Ob)(j:Nat):zf T h ai w (hf j) (Y6 (Ya qs L) j):=by
 by_cases W:Y6 (Ya qs L) j= .none
 ·rw[W];trivial
 ·obtain⟨X,Q,hj⟩:=(Xt qs L j hq).2 W;obtain⟨q,aL,C⟩:=(Xt qs L j hq).1 X Q hj;rw[aL];have:=k4 j X Q hj T h ai
  cases q with
  |true=>exact this
  |false=>exact iX this (C rfl)
theorem Au{c:Code}(hf:P.funcs[f]?=some fn)(G:fn.body=some c)(ao:Ly P f=true){L:List D}(qs:List Bool)(hq:Re qs L)
  (hw:∀v,aX P c (gg P fn aA.length v aG) (TR fn.ntmps aA v (Qz aA.length 1 L) (Ya qs L) [])):wL P f aA L aG:=by
 refine⟨ao,fun T S w b ar hT y aj ⟨I,e0,aq,a8⟩ am=>calls_of_wp hf G ?_⟩;obtain⟨aO,l,k1,k2,k3,k4⟩:=sO a8;have u:=sB (w:=w) (T:=T) (S:=S) (n:=fn.ntmps) (b:=b) (s:=aA) (ap:=[]) (E:=Qz aA.length 1 L) (aT:=Ya qs L) (m:=ar) (o:=[]) (fun j=>match j with|0=>Hd.of (ptr b)|j+1=>aO j)
  hT y aj rfl (fun h ai hh an=>⟨b,I,e0,rfl,aq,N1 a8.top (fun i X Q hi=>by
    obtain⟨q,aL,_⟩:=(Xt qs L i hq).1 X Q hi;exact⟨q,by rw[an,Nat.add_comm,PN];exact aL⟩) (fun i c hc=>by rw[hh,Nat.add_comm];exact k1 i c hc)⟩)
  (fun h ai j=>hl hq (fun j X Q hj=>(k4 j X Q hj).2.2) _ _ j)
  (fun j k hn hk=>by
   obtain⟨X,Q,hj⟩:=(Xt qs L j hq).2 hn;exact(k4 j X Q hj).2.1 k hk)
  (fun j k hn hk=>by
   obtain⟨X,Q,hj⟩:=(Xt qs L j hq).2 hn;exact k2 j k ((k4 j X Q hj).1 k hk))
  (fun i j k hn A hk aI=>by
   obtain⟨X,Q,hj⟩:=(Xt qs L i hq).2 hn;obtain⟨aJ,aD,aH⟩:=(Xt qs L j hq).2 A;exact k3 i j k ((k4 i X Q hj).1 k hk) ((k4 j aJ aD aH).1 k aI)) am .nil
 refine wp_mono (hw (ptr b) T _ _ w u) ?_;rintro e a' w' ⟨σ',⟨he,af,aC,aT,ah,Y,N,aw⟩,⟨ad,h,r⟩,ab⟩;obtain⟨vs,g,aE,aM,aa⟩:=OD r af;cases aa;cases aM;have aK:aA.length<σ'.length:=(List.getElem?_eq_some_iff.1 ah).1
 have a0:σ'.get aA.length= .fix (ptr b) (.one (.O aA.length 0)):=by unfold J.get;rw[ah]
 have C:σ'.ob aA.length 0= .box aC:=by unfold J.ob;rw[ah];rfl
 have al:=r.slot _ aK;rw[a0]at al;obtain⟨av,B⟩:=al;obtain⟨V,ag,aB⟩:=B.2 _ C;rw[av]at aB;have ay:V=b:=by injection aB with aB;injection aB with aB;injection aB with aB;exact aB.symm
 subst ay;have ax:=r.obj aA.length 0
 rw[C]at ax;obtain⟨b2,aW,e',ak,aF,z⟩:=ax;rw[ag]at ak;have ay:b2=V:=gr
 subst ay;have au:=r.c aA.length 0 b2 (by rw[C];simp) (by rw[ag];rfl)
 have K:a'.defers=[]/\∃v,(results fn a'.tmps).run P w'= .ok v w'/\hr w S b2 aG (.returned v) w':=by
  refine⟨r.defers,_,aE,rfl,ab,aW,e',aF,(Mn r z Y N aw).mono (fun k hk=>?_)⟩;have hg:=r.zj _ k hk
  have W:k≠b2:=by rintro rfl;obtain⟨p,hp,W,F⟩:=hk;obtain⟨H,e2⟩:=r.inj p.1 p.2 aA.length 0 k W (by rw[C];simp) F au;obtain⟨i,lo,ae,O⟩:=HS hp;obtain⟨d,hd,t⟩:=(Yd.get (R:=fun x d=>a2 σ' x=some d) (Yd.V8 (Pc Y).1 (fun i a b M Z=>(Pc Y).2 i a b M Z)) i _ O);rw[H,e2]at t;simp[a2,C]at t
  refine⟨?_,W⟩;by_cases U:S k
  ·exact .inl U
  ·refine .inr ⟨?_,hg.2.2.1⟩;rcases Nat.lt_or_ge k w.heap.size with ac|aN
   ·exact absurd ⟨ac,W,U⟩ hg.1
   ·exact aN
 rcases he with rfl|rfl
 ·exact K
 ·exact K
theorem av.ZEx(r:av T0 B σ a w ad h){E:List At}(ho:σ.ob u 0= .box E)(hv:(h u 0).v=ptr b)(ac:u<σ.length)(T H:Nat->Prop)(aB:w.heap.size<=w'.heap.size)(hw:∀k,k<w.heap.size->k≠b->¬T k->w'.heap[k]?=w.heap[k]?)
  (hm:∀k,T k->¬B k/\¬ad k/\∀t j,σ.ob t j≠ .none->¬(h t j).u k) (ai:(σ.Yg u 0 .none).zo (At.isO u)=false) (hq:Re qs aG) {e':TypeId} (aF:w'.heap[b]?=some (.cells aW e' (0,0)))
  (aq:z6 w' aW.toList aG H) (L:∀k,H k->(w.heap.size<=k\/T k)/\k<w'.heap.size/\k≠b):yO T0 B (σ.new u (σ.get u) (.box (Qz u 1 aG)::Ya qs aG)) a w':=by
 have an:σ.ob u 0≠ .none:=bq;have aP:blk (h u 0).v=some b:=by rw[hv];rfl
 have au:=r.c u 0 b an aP;have I:=r.own u 0 b an au;obtain⟨aO,l,k1,k2,k3,k4⟩:=sO aq;generalize P:σ.new u (σ.get u) (.box (Qz u 1 aG)::Ya qs aG)=σ2;have p:∀j,σ2.ob u j=Y6 (.box (Qz u 1 aG)::Ya qs aG) j:=fun j=>by rw[<-P,J.qK];simp[ac]
 have C:∀t j,t≠u->σ2.ob t j=σ.ob t j:=fun t j W=>by rw[<-P,J.qK,if_neg (fun hh=>W hh.1)]
 have af:∀t,σ2.get t=σ.get t:=by
  intro t;rw[<-P,J.Lo];split
  ·rename_i hh;rw[hh.1]
  ·rfl
 have az:σ2.length=σ.length:=by rw[<-P,J.Mi]
 let m:Nat->Hd:=fun j=>match j with|0=>h u 0|j+1=>aO j
 let h':Nat->Nat->Hd:=fun t j=>if t=u then m j else h t j
 have hT:∀k i v,al T0 ad k i->w.cell? ⟨k,i,none⟩=some v->w'.cell? ⟨k,i,none⟩=some v/\al T0 ad k i:=by
  intro k i v hk hc;refine⟨?_,hk⟩;have W:k≠b:=by
   rintro rfl;rcases hk with hk|hk
   ·exact I.1 (r.f _ _ hk)
   ·exact I.2.1 hk
  have aj:¬T k:=by
   intro D;rcases hk with hk|hk
   ·exact(hm k D).1 (r.f _ _ hk)
   ·exact(hm k D).2.1 hk
  rw[World.cell?_of_block (hw k (r.Tlt hk) W aj)];exact hc
 have ah:∀{x:At}{v:Value},At.isO u x=false->Yk (al T0 ad) h σ.ob w x v->Yk (al T0 ad) h' σ2.ob w' x v:=by
  intro x v y n;cases x with
  |any=>exact n
  |d x=>exact Rd.mono hT n
  |nil s=>exact n
  |E t j lo ae=>
   have W:t≠u:=by simpa[At.isO]using y
   simp only[Yk,h',if_neg W,C t j W];exact n
  |ptr t j i c=>
   have W:t≠u:=by simpa[At.isO]using y
   simp only[Yk,h',if_neg W,C t j W];exact n
  |Z t j i c o=>
   have W:t≠u:=by simpa[At.isO]using y
   simp only[Yk,h',if_neg W,C t j W];exact n
  |O t c=>
   by_cases hc:t=u
   ·subst hc;refine⟨n.1,fun N _=>?_⟩;simp only[h',if_true,m];exact n.2 _ ho
   ·simp only[Yk,h',if_neg hc,C t 0 hc];exact n
  |fn f t=>
   by_cases hc:t=u
   ·subst hc;refine⟨n.1,fun N _=>?_⟩;simp only[h',if_true,m];exact n.2 _ ho
   ·simp only[Yk,h',if_neg hc,C t 0 hc];exact n
  |ac R c=>obtain⟨b,aw,g,e,hk⟩:=n;exact⟨b,aw,g,e,fun k d hd=>⟨(hT _ _ _ (hk k d hd).2.1 (hk k d hd).1).1,(hk k d hd).2.1,Rd.mono hT (hk k d hd).2.2⟩⟩
 have ax:∀j,Y6 (.box (Qz u 1 aG)::Ya qs aG) j≠ .none->j=0\/∃i X Q,j=i+1/\aG[i]?=some (.sl X Q):=by
  intro j hn;cases j with
  |zero=>exact .inl rfl
  |succ j=>rw[PN]at hn;obtain⟨X,Q,hj⟩:=(Xt qs aG j hq).2 hn;exact .inr ⟨j,X,Q,rfl,hj⟩
 have K:∀k,(h u 0).u k->k<w.heap.size/\¬T k/\¬B k/\¬ad k:=fun k hk=>⟨(r.own u 0 k an hk).2.2,fun D=>(hm k D).2.2 u 0 an hk,(r.own u 0 k an hk).1,(r.own u 0 k an hk).2.1⟩;have F:∀i X Q k,aG[i]?=some (.sl X Q)->(aO i).u k->(w.heap.size<=k\/T k)/\k<w'.heap.size/\k≠b:=fun i X Q k hi hk=>L k (k2 i k ((k4 i X Q hi).1 k hk));have S:∀t j,t≠u->σ.ob t j≠ .none->∀k,(h t j).u k->w'.heap[k]?=w.heap[k]?:=by intro t j W hn k hk;refine hw k (r.own t j k hn hk).2.2 ?_ (fun D=>(hm k D).2.2 t j hn hk);rintro rfl;exact W (r.inj t j u 0 k hn an hk au).1
 refine⟨ad,h',by rw[r.size,az],r.defers,fun k hk=>Nat.lt_of_lt_of_le (r.d k hk) aB,fun k hk=>⟨(r.e k hk).1,Nat.lt_of_lt_of_le (r.e k hk).2 aB⟩,r.f,fun t ht=>?_,fun t j=>?_,fun t j k hn hk=>?_,fun t j k hn hk=>?_,fun t j t' j' k hn A hk aI=>?_⟩
 ·rw[az]at ht;rw[af];have hp:(σ.get t).zo (At.isO u)=false:=by have:=J.I9 ai t;rwa[J.JR]at this
  exact KA.map ah hp (r.slot t ht)
 ·by_cases hc:t=u
  ·subst hc;rw[p];cases j with
   |zero=>
    simp only[h',if_true,m,mo];exact⟨b,aW,e',hv,aF,N1 aq.top (fun i X Q hi=>by
     obtain⟨q,aL,_⟩:=(Xt qs aG i hq).1 X Q hi;exact⟨q,by rw[p,Nat.add_comm,PN];exact aL⟩) (fun i c hc=>by simp only[if_true,Nat.add_comm 1 i];exact k1 i c hc)⟩
   |succ j=>simp only[h',if_true,m,PN];exact hl hq (fun j X Q hj=>(k4 j X Q hj).2.2) _ _ j
  ·rw[C t j hc];simp only[h',if_neg hc];by_cases hn:σ.ob t j= .none
   ·rw[hn];trivial
   ·have hp:qX (At.isO u) [σ.ob t j]=false:=by have:=J.El ai t j;rwa[J.Lx,if_neg (fun hh=>hc hh.1)]at this
    exact zf.map ah hT (fun ho b=>r.c t j b ho) (fun hn k hk=>S t j hc hn k hk) hp (r.obj t j)
 ·by_cases hc:t=u
  ·subst hc;rw[p]at hn;rcases ax j hn with rfl|⟨i,X,Q,rfl,hi⟩
   ·simp only[h',if_true,m]at hk⊢;exact r.c t 0 k an hk
   ·simp only[h',if_true,m]at hk⊢;exact(k4 i X Q hi).2.1 k hk
  ·rw[C t j hc]at hn;simp only[h',if_neg hc]at hk⊢;exact r.c t j k hn hk
 ·by_cases hc:t=u
  ·subst hc;rw[p]at hn;rcases ax j hn with rfl|⟨i,X,Q,rfl,hi⟩
   ·simp only[h',if_true,m]at hk;have:=K k hk;exact⟨this.2.2.1,this.2.2.2,Y⟩
   ·simp only[h',if_true,m]at hk;have:=F i X Q k hi hk
    rcases this.1 with M|M
    ·exact⟨fun G=>by have:=r.d k G;omega,fun O=>by have:=(r.e k O).2;omega,this.2.1⟩
    ·exact⟨(hm k M).1,(hm k M).2.1,this.2.1⟩
  ·rw[C t j hc]at hn;simp only[h',if_neg hc]at hk;have:=r.own t j k hn hk;exact⟨this.1,this.2.1,Y⟩
 ·have ag:∀t j i k,t≠u->σ.ob t j≠ .none->(h t j).u k->Y6 (.box (Qz u 1 aG)::Ya qs aG) i≠ .none->(m i).u k->False:=by
   intro t j i k W hn hk A aI;rcases ax i A with rfl|⟨i,X,Q,rfl,hi⟩
   ·exact W (r.inj t j u 0 k hn an hk aI).1
   ·have M:=F i X Q k hi aI;have Z:=r.own t j k hn hk;rcases M.1 with h3|h3
    ·omega
    ·exact(hm k h3).2.2 t j hn hk
  by_cases hc:t=u
  ·by_cases z:t'=u
   ·subst hc;subst z;rw[p]at hn A;simp only[h',if_true]at hk aI;refine⟨rfl,?_⟩;rcases ax j hn with rfl|⟨i,X,Q,rfl,hi⟩
    ·rcases ax j' A with rfl|⟨i',aJ,aD,rfl,ao⟩
     ·rfl
     ·have M:=K k hk;have Z:=F i' aJ aD k ao aI;rcases Z.1 with h3|h3
      ·omega
      ·exact absurd h3 M.2.1
    ·rcases ax j' A with rfl|⟨i',aJ,aD,rfl,ao⟩
     ·have M:=K k aI;have Z:=F i X Q k hi hk;rcases Z.1 with h3|h3
      ·omega
      ·exact absurd h3 M.2.1
     ·rw[k3 i i' k ((k4 i X Q hi).1 k hk) ((k4 i' aJ aD ao).1 k aI)]
   ·subst hc;rw[p]at hn;rw[C t' j' z]at A;simp only[h',if_true,if_neg z]at hk aI;exact(ag t' j' j k z A aI hn hk).elim
  ·rw[C t j hc]at hn;simp only[h',if_neg hc]at hk;by_cases z:t'=u
   ·subst z;rw[p]at A;simp only[h',if_true]at aI;exact(ag t j j' k hc hn hk A aI).elim
   ·rw[C t' j' z]at A;simp only[h',if_neg z]at aI;exact r.inj t j t' j' k hn A hk aI
open Go.RowKit
theorem r3{o:Oper}{x:Value}(A:o.op= .call c)(hc:c.callee= .value (.tmp t))(hv:a.tmps.getD t undef= .func (.func f) #[] #[x])(hf:Ly P f=true):
  (execOp a.eval o).run P w= .ok (.enter f (c.args.toList.map a.eval++[x]).toArray) w:=by
 unfold Ly at hf;split at hf
 ·rename_i fn g;simp only[Bool.and_eq_true,bne_iff_ne,ne_eq]at hf;obtain⟨b,G⟩:=Option.isSome_iff_exists.1 hf.1;obtain⟨p,aA,aC⟩:=c;simp only at hc;subst hc;have hm:(aA.toList.map a.eval++[x]).toArray=aA.map a.eval++#[x]:=by apply Array.toList_inj.1;simp
  have he:a.eval (.tmp t)= .func (.func f) #[] #[x]:=hv;rw[hm];simp[execOp,A,resolve,he,Deferred.ofValue,invoke,callFunc,g,hf.2,G]
 ·cases hf
theorem mk(r:av T0 B σ a w ad h){o:Oper}{L:List D}{E:List At}(qs:List Bool)(A:o.op= .call cl)(hc:cl.callee= .value (.tmp tf))(O:σ.get tf= .one (.fn f u))(ho:σ.ob u 0= .box E)(ac:u<σ.length)
  (am:Jx P σ cl.args.toList cl.argTypes.toList aL) (ar:XB P σ cl.args.toList cl.argTypes.toList=true) (U:wL P f aL L aG) (Y:JF σ E=some L) (N:QQ σ E) (aw:(Ye E).Nodup) (j:(u,0)∉Ye E)
  (ai:((σ.YC (Ye E)).Yg u 0 .none).zo (At.isO u)=false) (hq:Re qs aG)
  (hK:∀a' w',yO T0 B (match o.dst with|some d=>((σ.YC (Ye E)).new u (σ.get u) (.box (Qz u 1 aG)::Ya qs aG)).put d .any|none=>(σ.YC (Ye E)).new u (σ.get u) (.box (Qz u 1 aG)::Ya qs aG)) a' w'->Xv B w w'->K a' w'):o.wp P a w K af:=by
 have an:σ.ob u 0≠ .none:=bq;have g:=r.get tf;rw[O]at g;obtain⟨b,ag,hv⟩:=g.2 _ ho;have ax:=r.obj u 0;rw[ho]at ax;obtain⟨b2,I,e,ak,hh,aa⟩:=ax;rw[ag]at ak;have ay:b2=b:=gr;subst ay;have au:=r.c u 0 b2 an (by rw[ag];rfl);have aq:=r.own u 0 b2 an au;have n:=r.Jx true am (fun _=>ar);simp only[if_true]at n;have c:∀k,zb σ h (Ye E) k->k<w.heap.size/\k≠b2:=by rintro k ⟨p,hp,W,F⟩;refine⟨(r.own _ _ k W F).2.2,?_⟩;rintro rfl;obtain⟨H,e2⟩:=r.inj p.1 p.2 u 0 k W an F au;exact j (by rw[<-H,<-e2];exact hp)
 have aN:=r.zj (Ye E);have hT:∀k i,al T0 ad k i->k<w.heap.size/\k≠b2/\¬zb σ h (Ye E) k:=by
  intro k i hk;refine⟨r.Tlt hk,?_,fun hg=>?_⟩
  ·rintro rfl;rcases hk with hk|hk
   ·exact aq.1 (r.f _ _ hk)
   ·exact aq.2.1 hk
  ·rcases hk with hk|hk
   ·exact(aN k hg).1 (r.f _ _ hk)
   ·exact(aN k hg).2.1 hk
 unfold Oper.wp;rw[r3 A hc hv U.1,Oper.upon_enter];refine(U.2 (al T0 ad) (zb σ h (Ye E)) w b2 _ hT c aq.2.2 ⟨I,e,hh,Mn r aa Y N aw⟩ n).mono ?_;rintro e' w' ⟨rfl,ab,aW,e2,aF,a0⟩;have r1:=r.YC (Ye E)
 have l:(σ.YC (Ye E)).ob u 0= .box E:=by rw[J.y0,if_neg j,ho]
 have R:=r1.ZEx (w':=w') (aG:=aG) (qs:=qs) l ag (by rw[J.yh];exact ac) (zb σ h (Ye E)) _ ab.size (fun k hk W hg=>ab.block k ⟨hk,W,hg⟩) (fun k hk=>⟨(aN k hk).1,(aN k hk).2.1,(aN k hk).2.2.2⟩) ai hq aF a0 (fun k hk=>⟨hk.1.elim .inr (fun M=>.inl M.1),by
  rcases hk.1 with M|M
  ·have:=(c k M).1;have:=ab.size;omega
  ·exact M.2,hk.2⟩)
 rw[J.kg]at R;have ah:Xv B w w':=⟨ab.os,ab.tape,ab.output,ab.size,fun k hk=>ab.block k ⟨r.d k hk,fun e=>aq.1 (e▸hk),fun hg=>(aN k hg).1 hk⟩⟩
 cases hd:o.dst with
 |none=>rw[hd]at hK;exact hK _ _ R ah
 |some d=>rw[hd]at hK;obtain⟨q,Z,m⟩:=R;exact hK _ _ ⟨q,Z,m.put d .any _ trivial⟩ ah
theorem pX(r:av T0 B σ a w ad h){o:Oper}(A:o.op= .makeFunc (.func f) #[] #[x])(hd:o.dst=some d)(hg:ap (look P σ 0 x)=true)(O:unc (look P σ 0 x)= .one (.O t 0)){E:List At}(ho:σ.ob t 0= .box E)
  (hK:∀a' w',yO T0 B (σ.put d (.one (.fn f t))) a' w'->Xv B w w'->K a' w'):o.wp P a w K af:=by
 have g:=r.arg (P:=P) 0 x O hg;obtain⟨b,ag,hv⟩:=g.2 _ ho;exact Lg (v:=.one (.fn f t)) r hd ⟨.func (.func f) #[] #[a.eval x],by simp[execOp,A,Instr.makeFunc],⟨rfl,fun N _=>⟨b,ag,by rw[hv]⟩⟩⟩ hK
theorem av.ZCY{x:V}(r:av T0 B ((.fix v x,[.arr true s Q])::σ) a w ad h)(hf:y5 Q)(hp:J.zo At.AR ((.fix v x,[.arr true s Q])::σ)=false):av T0 B ((x,[.arr false s Q])::σ) a w ad h:=by
 have ak:J.ob ((x,[.arr false s Q])::σ) 0 0= .arr false s Q:=rfl;have an:∀t j,¬(t=0/\j=0)->J.ob ((x,[.arr false s Q])::σ) t j=J.ob ((.fix v x,[.arr true s Q])::σ) t j:=by
  intro t j W;cases t with
  |zero=>cases j with
   |zero=>exact absurd ⟨rfl,rfl⟩ W
   |succ j=>rfl
  |succ t=>rw[J.gM,J.gM]
 have D:∀t j,J.ob ((x,[.arr false s Q])::σ) t j≠ .none->J.ob ((.fix v x,[.arr true s Q])::σ) t j≠ .none:=by
  intro t j hn;by_cases hc:t=0/\j=0
  ·obtain⟨rfl,rfl⟩:=hc;intro hh;cases hh
  ·rwa[an t j hc]at hn
 have ah:∀{y:At}{u:Value},At.AR y=false->Yk (al T0 ad) h (J.ob ((.fix v x,[.arr true s Q])::σ)) w y u->Yk (al T0 ad) h (J.ob ((x,[.arr false s Q])::σ)) w y u:=by
  intro y u l b;cases y with
  |any=>exact b
  |d z=>exact b
  |nil q=>exact b
  |E t j lo ae=>
   by_cases hc:t=0/\j=0
   ·obtain⟨rfl,rfl⟩:=hc;exact⟨b.1,fun q X au hq=>by rw[ak]at hq;cases hq;exact b.2.1 _ _ _ rfl,fun X au hq=>by rw[ak]at hq;cases hq⟩
   ·simp only[Yk,an t j hc];exact b
  |ptr t j i c=>
   by_cases hc:t=0/\j=0
   ·obtain⟨rfl,rfl⟩:=hc;exact⟨b.1,fun q X au hq=>by rw[ak]at hq;cases hq;exact b.2 _ _ _ rfl⟩
   ·simp only[Yk,an t j hc];exact b
  |Z t j i c o=>cases l
  |O t c=>
   by_cases hc:t=0
   ·subst hc;exact⟨b.1,fun E hq=>by rw[ak]at hq;cases hq⟩
   ·simp only[Yk,an t 0 (fun hh=>hc hh.1)];exact b
  |fn f t=>
   by_cases hc:t=0
   ·subst hc;exact⟨b.1,fun E hq=>by rw[ak]at hq;cases hq⟩
   ·simp only[Yk,an t 0 (fun hh=>hc hh.1)];exact b
  |ac R c=>exact b
 refine⟨by simpa using r.size,r.defers,r.d,r.e,r.f,fun t ht=>?_,fun t j=>?_,fun t j k hn=>r.c t j k (D t j hn),fun t j k hn=>r.own t j k (D t j hn),fun t j t' j' k hn A=>r.inj t j t' j' k (D t j hn) (D t' j' A)⟩
 ·have U:=r.slot t (by simpa using ht);have g:=J.I9 hp t;cases t with
  |zero=>have aB:KA (al T0 ad) h (J.ob ((.fix v x,[.arr true s Q])::σ)) w (.fix v x) (a.tmps.getD 0 undef):=U;have m:V.zo At.AR (.fix v x)=false:=g;refine(KA.map ah (x:=x) ?_ aB.2.up);cases x<;>first|exact m|rfl|exact aB.2.elim
  |succ t=>rw[J.fb]at U g⊢;exact KA.map ah g U
 ·by_cases hc:t=0/\j=0
  ·obtain⟨rfl,rfl⟩:=hc;rw[ak];exact iX (h:=h) (ai:=J.ob ((x,[.arr false s Q])::σ)) (r.obj 0 0) hf
  ·rw[an t j hc];exact zf.map ah (fun k i v hk hc=>⟨hc,hk⟩) (fun ho k=>r.c t j k ho) (fun _ _ _=>rfl) (J.El hp t j) (r.obj t j)
theorem lF:∀(aA:List (List D))(m:Nat),J.zo At.AR (FK aA++List.replicate m (V.any,[]))=false
 |[],m=>by
  induction m with
  |zero=>rfl
  |succ m ih=>simpa[List.replicate_succ,FK,J.zo,V.zo,V.mI,qX]using ih
 |r::rs,m=>by
  have ih:=lF rs m;have M:∀(l:List D),Oe At.AR (l.map .d)=false:=fun l=>by induction l with
   |nil=>rfl
   |cons x l ih=>simpa[Oe,At.AR]using ih
  have:V.zo At.AR (aZ (r.map .d))=false:=by
   match r with
   |[]=>rfl
   |[x]=>rfl
   |x::y::l=>exact M (x::y::l)
  simp only[FK,List.cons_append,J.zo,this,qX,ih,Bool.or_false]
theorem pS{c:Code}(hf:P.funcs[f]?=some fn)(G:fn.body=some c)(ao:Ly P f=true)(aG:y5 Q)
  (hw:aX P c (fk P fn H aD) (eo fn.ntmps H Q aA)):vC P f H Q aA aD:=by
 refine⟨ao,fun T S w v ar hT y aq am=>calls_of_wp hf G ?_⟩;have ai:v.oneCell'=true:=aq.Qo
 have d:z6 w [v] [D.sl H Q] S:=⟨rfl,fun k b=>k=0/\S b,fun k x dd O R=>by
   cases k with
   |zero=>simp at O R;subst O;subst R;exact aq.mono (fun b G=>⟨rfl,G⟩)
   |succ k=>simp at O,fun k b G=>G.2,fun p q b hp hq=>by rw[hp.1,hq.1]⟩
 obtain⟨a,h0,r0⟩:=mb (n:=fn.ntmps) hT y (.inl ⟨v,rfl,rfl,ai⟩) d am;have r1:av T (fun b=>b<w.heap.size/\¬S b) (eo fn.ntmps H Q aA) _ w a h0:=av.ZCY (x:=.one (.E 0 0 0 Q.length)) (s:=H) r0 aG (by
  have:=lF aA (fn.ntmps-(aA.length+1));simp only[J.zo,V.zo,V.mI,At.AR,qX,this,Bool.or_false])
 refine wp_mono (hw T _ _ w ⟨a,h0,r1⟩) ?_;rintro e a' w' ⟨σ',⟨he,x,af,Y,N⟩,⟨ad,h,r⟩,ab⟩;obtain⟨vs,g,aE,aM,aa⟩:=OD r af;cases aa with
 |cons M aa=>
  cases aa;cases M with
  |@cons _ c0 _ _ O M=>
   cases M;cases aM with
   |@cons z _ _ _ F hn=>
    cases hn;have aH:z=c0:=by
     rcases F with⟨c',Z,rfl,_⟩|⟨hn,_⟩
     ·cases Z;rfl
     ·simp at hn
    subst aH;have aw:(Ye [x]).Nodup:=by cases x<;>simp[Ye]
    have i:=Mn r (.cons O .nil) Y N aw;have K:a'.defers=[]/\∃v,(results fn a'.tmps).run P w'= .ok v w'/\gT w S H aD (.returned v) w':=by
     refine⟨r.defers,_,aE,z,rfl,ab,?_⟩;obtain⟨_,l,q1,q2,q3⟩:=i;refine((q1 0 _ _ rfl rfl).mono (q2 0)).mono (fun k hk=>?_);have hg:=r.zj _ k hk
     by_cases U:S k
     ·exact .inl U
     ·refine .inr ⟨?_,hg.2.2.1⟩;rcases Nat.lt_or_ge k w.heap.size with ac|aN
      ·exact absurd ⟨ac,U⟩ hg.1
      ·exact aN
    rcases he with rfl|rfl
    ·exact K
    ·exact K
theorem mP(r:av T0 B σ a w ad h){o:Oper}{xs:List Operand}{t0:TypeId}{c:At}(A:o.op= .call cl)(hc:cl.callee= .value (.func f))(hd:o.dst=some d)
  (ha:cl.args.toList=x0::xs) (hg:ap (look P σ t0 x0)=true) (O:unc (look P σ t0 x0)= .one c) (Y:JF σ [c]=some [.sl H Q]) (N:QQ σ [c]) (am:Jx P σ xs ts aL) (ar:XB P σ xs ts=true) (U:vC P f H Q aL aD)
  (aG:y5 aD) (E:(σ.YC (Ye [c])).fresh d=true)
  (hK:∀a' w',yO T0 B ((σ.YC (Ye [c])).new d (.one (.E d 0 0 aD.length)) [.arr false H aD]) a' w'->Xv B w w'->K a' w'):o.wp P a w K af:=by
 have ac:=J.Vo E;have g:Yk (al T0 ad) h σ.ob w c (a.eval x0):=r.arg (P:=P) t0 x0 O hg;have n:=r.Jx true am (fun _=>ar);simp only[if_true]at n;have aw:(Ye [c]).Nodup:=by cases c<;>simp[Ye]
 obtain⟨_,l,q1,q2,q3⟩:=Mn r (.cons g .nil) Y N aw;have aq:=(q1 0 _ _ rfl rfl).mono (q2 0)
 have aN:=r.zj (Ye [c]);unfold Oper.wp;rw[MB A hc U.1,Oper.upon_enter];rw[show(cl.args.toList.map a.eval).toArray=(a.eval x0::xs.map a.eval).toArray by rw[ha];simp];have hT:∀k i,al T0 ad k i->k<w.heap.size/\¬zb σ h (Ye [c]) k:=by
  intro k i hk;refine⟨r.Tlt hk,fun hg=>?_⟩;rcases hk with hk|hk
  ·exact(aN k hg).1 (r.f _ _ hk)
  ·exact(aN k hg).2.1 hk
 refine(U.2 (al T0 ad) (zb σ h (Ye [c])) w _ _ hT (fun k hk=>(aN k hk).2.2.1) aq n).mono ?_;rintro e' w' ⟨u,rfl,ab,a0⟩;rw[hd];have r1:=r.YC (Ye [c])
 have ah:Xv B w w':=⟨ab.os,ab.tape,ab.output,ab.size,fun k hk=>ab.block k ⟨r.d k hk,fun hg=>(aN k hg).1 hk⟩⟩;obtain⟨e,p,ho,hz,G,hl,F,aI,aB,m⟩:∃e xs,w'.ownsRow 0 e H u aD.length xs/\(∀r∈aD,r.length=H)/\(∀b,blk u=some b->(zb σ h (Ye [c]) b\/(w.heap.size<=b/\b<w'.heap.size)))/\xs.length=aD.flatten.length/\∃l:Nat->Nat->Prop,(∀k x d,xs[k]?=some x->aD.flatten[k]?=some d->aV w' x d (l k))/\(∀k b,l k b->(zb σ h (Ye [c]) b\/(w.heap.size<=b/\b<w'.heap.size))/\blk u≠some b)/\(∀i j b,l i b->l j b->i=j):=by
  cases a0 with
  |sl v X Q S e xs l ho hz G hl hk U hd=>exact⟨e,xs,ho,hz,G,hl,l,hk,U,hd⟩
 have an:((σ.YC (Ye [c])).new d (.one (.E d 0 0 aD.length)) [.arr false H aD]).ob d 0= .arr false H aD:=cT;have s:∀T h ai,zf T h ai w' ⟨u,fun k=>(p[k]?).getD undef,fun b=>zb σ (fun t j=>h t j) (Ye [c]) b\/True⟩ (.arr true H aD):=fun T h ai=>⟨e,p,ho,hz,⟨hl,F,aI,fun k b G=>⟨.inr trivial,(aB k b G).2⟩,m⟩,fun k x d O _ _=>by simp[O]⟩;refine hK _ _ ⟨ad,fun t j=>if t=d then Hd.of u else h t j,?_⟩ ah;refine r1.ZCy E (zb σ h (Ye [c])) ab.size (fun k hk hg=>ab.block k ⟨hk,hg⟩) (fun k hk=>⟨(aN k hk).1,(aN k hk).2.1,fun t j _ hn=>(aN k hk).2.2.2 t j hn⟩) (fun k hk=>hk) (fun k hk=>.inl hk) _ _ _ (fun _=>Hd.of u) ?_ (fun j=>?_) (fun j k _ hk=>hk) (fun j k _ hk=>?_) (fun i j k hi hj _ _=>?_)
 ·refine⟨qn ho,fun q X au hq=>?_,fun X au hq=>by rw[an]at hq;cases hq⟩;rw[an]at hq;cases hq;simp only[if_true];exact Hz ho
 ·cases j with
  |zero=>have:=iX (s (al T0 ad) (fun t j=>if t=d then Hd.of u else h t j) ((σ.YC (Ye [c])).new d (.one (.E d 0 0 aD.length)) [.arr false H aD]).ob) aG;exact this
  |succ j=>simp[Y6,zf]
 ·have M:=G k hk;rcases M with M|M
  ·have:=aN k M;exact⟨.inr M,this.2.1,by have:=this.2.2.1;have:=ab.size;omega⟩
  ·exact⟨.inl M.1,fun O=>by have:=(r.e k O).2;omega,M.2⟩
 ·have hz:∀j,Y6 [Ob.arr false H aD] j≠ .none->j=0:=by
   intro j hj;cases j with
   |zero=>rfl
   |succ j=>simp[Y6]at hj
  rw[hz i hi,hz j hj]
theorem ih{E:List At}(A:o.o.op= .makeFunc (.func f) #[] #[x])(n:o.o.guard=none)(hd:o.o.dst=some d)(b:ao.a o.o=true)(O:ap (look P σ 0 x)=true/\unc (look P σ 0 x)= .one (.O t 0))(ho:σ.ob t 0= .box E)
  (h:@EI P (σ.put d (.one (.fn f t))) ao l k):@SI P σ ao o l k:=by
 refine⟨_,.inr ⟨b,?_,fun d' m R=>wz (fun e=>m cr) R,fun hh=>by simp[GP,A]at hh,fun hh=>by first|(simp[Nf,A]at hh;done)|(unfold Nf at hh;rw[A]at hh;split at hh<;>simp_all),fun hh _=>by first|(simp[VX,A]at hh;done)|(unfold VX at hh;rw[A]at hh;split at hh<;>simp_all)⟩,Kh h⟩;rintro T0 B a w K F ⟨ad,hh,r⟩ hK;have hw:Region.wanted o.o (yielded ao.ops a.tmps)=true:=eA
 rw[if_pos hw];exact pX r A hd O.1 O.2 ho hK
theorem lf{c:Code}(hf:P.funcs[f]?=some fn)(G:fn.body=some c)(ao:Ly P f=true){L:List D}(qs:List Bool)(hq:Re qs L)
  (hw:∀v,@WI P (TR fn.ntmps aA v (Qz aA.length 1 L) (Ya qs L) []) ⟨c⟩ (.fin (gg P fn aA.length v aG))):wL P f aA L aG:=Au hf G ao qs hq (fun v=>Ol (hw v))
theorem eS{p:Nat}(hf:fn.results=#[])(h:σ[p]?=some (.fix v (.one (.O p 0)),.box aC::((σ[p]?).map (fun e=>e.2.tail)).getD [])/\JF σ aC=some aG/\QQ σ aC/\(Ye aC).Nodup)(he:e= .ret\/e= .normal):gg P fn p v aG e σ:=
 ⟨he,by rw[hf];rfl,aC,_,h.1,h.2.1,h.2.2.1,h.2.2.2⟩
theorem C6{L:List D}{E:List At}(qs:List Bool)(A:o.o.op= .call cl)(hc:cl.callee= .value (.tmp tf))(n:o.o.guard=none)(b:ao.a o.o=true)(U:wL P f aL L aG)(O:σ.get tf= .one (.fn f u))(ho:σ.ob u 0= .box E)(ac:u<σ.length)
  (am:(QA P σ cl.args.toList cl.argTypes.toList).1) (al:(QA P σ cl.args.toList cl.argTypes.toList).2=some aL) (ar:XB P σ cl.args.toList cl.argTypes.toList=true) (Y:JF σ E=some L) (N:QQ σ E) (aw:(Ye E).Nodup) (j:(u,0)∉Ye E) (R:Ql σ u=false)
  (ai:((σ.YC (Ye E)).Yg u 0 .none).zo (At.isO u)=false) (hq:Re qs aG)
  (h:@EI P (match o.o.dst with|some d=>((σ.YC (Ye E)).new u (σ.get u) (.box (Qz u 1 aG)::Ya qs aG)).put d .any|none=>(σ.YC (Ye E)).new u (σ.get u) (.box (Qz u 1 aG)::Ya qs aG)) ao l k):@SI P σ ao o l k:=by
 refine⟨_,.inr ⟨b,?_,fun d' m z=>?_,fun hh=>by simp[GP,A]at hh,fun hh=>by first|(simp[Nf,A]at hh;done)|(unfold Nf at hh;rw[A]at hh;split at hh<;>simp_all),fun hh _=>by first|(simp[VX,A]at hh;done)|(unfold VX at hh;rw[A]at hh;split at hh<;>simp_all)⟩,Kh h⟩
 ·rintro T0 B a w K F ⟨ad,hh,r⟩ hK;have hw:Region.wanted o.o (yielded ao.ops a.tmps)=true:=eA
  rw[if_pos hw];exact mk r qs A hc O ho ac (Sh am al) ar U Y N aw j ai hq hK
 ·have M:=Nn (v:=σ.get u) (aa:=.box (Qz u 1 aG)::Ya qs aG) (fun e=>by rw[e,R]at z;cases z) (Jt (l:=Ye E) z);cases hd:o.o.dst with
  |none=>exact M
  |some d=>exact wz (fun e=>m cr) M
theorem mh{c:Code}(hf:P.funcs[f]?=some fn)(G:fn.body=some c)(ao:Ly P f=true)(aG:y5 Q)
  (hw:@WI P (eo fn.ntmps H Q aA) ⟨c⟩ (.fin (fk P fn H aD))):vC P f H Q aA aD:=pS hf G ao aG (Ol hw)
theorem fv(x:At)(hf:fn.results=rv.toArray)(h:(y4 P σ rv).1/\(y4 P σ rv).2=[[x]]/\JF σ [x]=some [.sl H aD]/\QQ σ [x]):fk P fn H aD .ret σ:=
 ⟨.inl rfl,x,by rw[hf,<-h.2.1];exact I4 h.1,h.2.2⟩
theorem Ch{xs:List Operand}{t0:TypeId}{c:At}(A:o.o.op= .call cl)(hc:cl.callee= .value (.func f))(n:o.o.guard=none)(hd:o.o.dst=some d)(b:ao.a o.o=true)
  (ha:cl.args.toList=x0::xs) (i:cl.argTypes.toList=t0::ts) (U:vC P f H Q aL aD) (O:ap (look P σ t0 x0)=true/\unc (look P σ t0 x0)= .one c) (Y:JF σ [c]=some [.sl H Q]) (N:QQ σ [c]) (hL:Ye [c]=L)
  (am:(QA P σ xs ts).1) (al:(QA P σ xs ts).2=some aL) (ar:XB P σ xs ts=true) (aG:y5 aD) (E:(σ.YC L).fresh d=true)
  (h:@EI P ((σ.YC L).new d (.one (.E d 0 0 aD.length)) [.arr false H aD]) ao l k) (g:VX P o.o=false:=by exact rfl):@SI P σ ao o l k:=by
 subst hL;refine⟨_,.inr ⟨b,?_,fun d' m R=>Nn (fun e=>m cr) (Jt R),fun hh=>by simp[GP,A]at hh,fun hh=>by first|(simp[Nf,A]at hh;done)|(unfold Nf at hh;rw[A]at hh;split at hh<;>simp_all),fun hh _=>by rw[g]at hh;cases hh⟩,Kh h⟩;rintro T0 B a w K F ⟨ad,hh,r⟩ hK;have hw:Region.wanted o.o (yielded ao.ops a.tmps)=true:=eA
 rw[if_pos hw];exact mP r A hc hd ha O.1 O.2 Y N (Sh am al) ar U aG E hK
attribute [simp] TR eo At.isO
open Go.RowKit
open Go.RowKit
theorem cR{own:Bool}(U:KJ P f own Q ag)(h:@EI P (σ.put d (SW ag)) ao l k)(A:o.o.op= .call c:=by exact rfl)(hc:c.callee= .value (.func f):=by exact rfl)(hg:o.o.guard=none:=by exact rfl)(hd:o.o.dst=some d:=by exact rfl)
  (al:(QA P σ c.args.toList c.argTypes.toList).2=some Q:=by simp) (am:(QA P σ c.args.toList c.argTypes.toList).1:=by simp) (ar:XB P σ c.args.toList c.argTypes.toList=true\/yl own ag:=by simp):@SI P σ ao o l k:=
 sL A hc hg hd U al am ar h
theorem cD(qs:List Bool)(U:Z7 P f Q ag)(h:@EI P (σ.new d (Mz d ag) (Ya qs ag.flatten)) ao l k)(A:o.o.op= .call c:=by exact rfl)(hc:c.callee= .value (.func f):=by exact rfl)(hg:o.o.guard=none:=by exact rfl)(hd:o.o.dst=some d:=by exact rfl)
  (al:(QA P σ c.args.toList c.argTypes.toList).2=some Q:=by simp) (am:(QA P σ c.args.toList c.argTypes.toList).1:=by simp) (hq:Re qs ag.flatten:=by simp) (hf:σ.fresh d=true:=by simp):@SI P σ ao o l k:=lh qs A hc hg hd U al am hq hf h
theorem cC{b:Bool}{x:jn}(c:Bool)(ht:OL σ->c=true->@WI P σ x k)(hf:OL σ->c=false->@WI P σ y k)(hc:c=b:=by simp):@CI P b σ x y k:=EM hc ht hf
@[simp] abbrev eI (t : Nat) (n : Int) : Nat × V × List Ob := (t, .one (.d (.int .i64 n)), [])
@[simp] abbrev eB (t : Nat) (b : Bool) : Nat × V × List Ob := (t, .one (.d (.bool b)), [])
@[simp] abbrev eL {α : Type} (t s : Nat) (l : List α) (f : α -> List D) : Nat × V × List Ob := (t, .one (.d (.sl s (l.map f))), [])
@[simp] abbrev zax (t u c : Nat) : Nat × V × List Ob := (t, .one (.O u c), [])
@[simp] abbrev nV (t : Nat) (xs : List At) : Nat × V × List Ob := (t, .agg xs, [])
@[simp] abbrev eX (t : Nat) (xs : List At) : Nat × V × List Ob := (t, .one (.O t 0), [.box xs])
open Go.RowKit
variable{br:Oper->Bool}
structure m{α:Type}(x y:α):Prop where
 h:x=y
structure Bx(p:Prop):Prop where
 h:p
theorem me{α:Type}{x y:α}(h:x=y):m x y:=⟨h⟩
theorem ms{α β:Type}{x y a:α}{l r:β}(f:m x y)(e:m l r)(h:l=r->y=a:=by intro e;simp only[e];exact rfl):m x a:=⟨f.h.trans (h e.h)⟩
theorem an(h:p)(k:q):p/\q:=⟨h,k⟩
theorem ix{α:Type}{v:Nat}{l:List α}(h:decide ((v:Int)<(l.length:Int))=true):v<l.length:=cx
theorem ml{α:Type}(l:List α)(m:q)(h:q->l.length<=9223372036854775807:=by intro m;simpa using m):l.length<=9223372036854775807:=h m
theorem wr(n:Nat)(h:(n:Int)+1<=9223372036854775807:=by first|omega|(simp only[decide_eq_true_eq,decide_eq_false_iff_not,beq_iff_eq,beq_eq_false_iff_ne,bne_iff_ne,ne_eq,Bool.or_eq_false_iff,Bool.or_eq_true,Bool.and_eq_true,Bool.not_eq_true',Bool.not_eq_false']at*;omega)):IntKind.i64.wrap ((n:Int)+1)=(n:Int)+1:=YB Y Y
theorem so{own:Bool}{aA ag:List (List D)}(hf:P.funcs[f]?=some fn)(hn:fn.ntmps=n)(h:p){c:Code}(G:fn.body=some c:=by exact rfl)(ao:Ly P f=true:=by kernel_rfl)
  (H:Bx p->@WI P (Oq n aA) ⟨c⟩ (.fin (fP P fn own ag)):=by exact bD):KJ P f own aA ag:=ra hf G ao (by rw[hn];exact H ⟨h⟩)
theorem ar{aA ag:List (List D)}(hf:P.funcs[f]?=some fn)(hn:fn.ntmps=n)(h:p){c:Code}(G:fn.body=some c:=by exact rfl)(ao:Ly P f=true:=by kernel_rfl)
  (H:Bx p->@WI P (Oq n aA) ⟨c⟩ (.fin (c0 P fn ag)):=by exact bD):Z7 P f aA ag:=lZ hf G ao (by rw[hn];exact H ⟨h⟩)
theorem cF{α:Type}{u y z:α}{b c:Bool}{M A:jn}(f:m u (bif c then y else z))(ht:OL σ->c=true->m u y->p)(hf:OL σ->c=false->m u z->q)(hc:c=b:=by simp)(a:Bx p->@WI P σ M k:=by exact bD)(t:Bx q->@WI P σ A k:=by exact bD):@CI P b σ M A k:=
 EM hc (fun s h=>a ⟨ht s h ⟨f.h.trans bt⟩⟩) (fun s h=>t ⟨hf s h ⟨f.h.trans bt⟩⟩)
theorem aQ{α:Type}{u y z:α}{b c:Bool}{M:jn}(f:m u (bif c then y else z))(ht:OL σ->c=true->m u y->p)(hf:OL σ->c=false->m u z->@WI P σ A k)(hc:c=b:=by simp)(a:Bx p->@WI P σ M k:=by exact bD):@CI P b σ M A k:=
 EM hc (fun s h=>a ⟨ht s h ⟨f.h.trans bt⟩⟩) (fun s h=>hf s h ⟨f.h.trans bt⟩)
theorem aj{α:Type}{u y z:α}{b c:Bool}{A:jn}(f:m u (bif c then y else z))(ht:OL σ->c=true->m u y->@WI P σ M k)(hf:OL σ->c=false->m u z->q)(hc:c=b:=by simp)(t:Bx q->@WI P σ A k:=by exact bD):@CI P b σ M A k:=
 EM hc (fun s h=>ht s h ⟨f.h.trans bt⟩) (fun s h=>t ⟨hf s h ⟨f.h.trans bt⟩⟩)
theorem aF{α:Type}{u y z:α}{b c:Bool}(f:m u (bif c then y else z))(ht:OL σ->c=true->m u y->@WI P σ M k)(hf:OL σ->c=false->m u z->@WI P σ A k)(hc:c=b:=by simp):@CI P b σ M A k:=
 EM hc (fun s h=>ht s h ⟨f.h.trans bt⟩) (fun s h=>hf s h ⟨f.h.trans bt⟩)
theorem cK{α:Type}{u y z:α}{b c:Bool}{M A:jn}(f:m u (bif c then y else z))(ht:OL σ->c=true->m u y->p)(hf:OL σ->c=false->m u z->q)(hc:c=b:=by first|(simp[G];done)|grind)(a:Bx p->@WI P σ M k:=by exact b6)(t:Bx q->@WI P σ A k:=by exact b6):@CI P b σ M A k:=
 EM hc (fun s h=>a ⟨ht s h ⟨f.h.trans bt⟩⟩) (fun s h=>t ⟨hf s h ⟨f.h.trans bt⟩⟩)
theorem dx{α:Type}{u y z:α}{b c:Bool}{M:jn}(f:m u (bif c then y else z))(ht:OL σ->c=true->m u y->p)(hf:OL σ->c=false->m u z->@WI P σ A k)(hc:c=b:=by first|(simp[G];done)|grind)(a:Bx p->@WI P σ M k:=by exact b6):@CI P b σ M A k:=
 EM hc (fun s h=>a ⟨ht s h ⟨f.h.trans bt⟩⟩) (fun s h=>hf s h ⟨f.h.trans bt⟩)
theorem bf{α:Type}{u y z:α}{b c:Bool}{A:jn}(f:m u (bif c then y else z))(ht:OL σ->c=true->m u y->@WI P σ M k)(hf:OL σ->c=false->m u z->q)(hc:c=b:=by first|(simp[G];done)|grind)(t:Bx q->@WI P σ A k:=by exact b6):@CI P b σ M A k:=
 EM hc (fun s h=>ht s h ⟨f.h.trans bt⟩) (fun s h=>t ⟨hf s h ⟨f.h.trans bt⟩⟩)
theorem aE{α:Type}{u y z:α}{b c:Bool}(f:m u (bif c then y else z))(ht:OL σ->c=true->m u y->@WI P σ M k)(hf:OL σ->c=false->m u z->@WI P σ A k)(hc:c=b:=by first|(simp[G];done)|grind):@CI P b σ M A k:=
 EM hc (fun s h=>ht s h ⟨f.h.trans bt⟩) (fun s h=>hf s h ⟨f.h.trans bt⟩)
theorem cY{c b:Bool}{M A:jn}(h:c=true)(H:p)(hc:c=b:=by simp)(a:Bx p->@WI P σ M k:=by exact bD):@CI P b σ M A k:=EM hc (fun _ g=>a ⟨H⟩) (fun _ g=>absurd (h.symm.trans g) au)
theorem cZ{c b:Bool}{M A:jn}(h:c=false)(H:p)(hc:c=b:=by simp)(a:Bx p->@WI P σ A k:=by exact bD):@CI P b σ M A k:=EM hc (fun _ g=>absurd (h.symm.trans g) au) (fun _ g=>a ⟨H⟩)
theorem a8{ao:xt}{l:qt}{d:Nat}{own:Bool}(U:KJ P f own Q ag)(h:p)(A:o.o.op= .call c:=by exact rfl)(hc:c.callee= .value (.func f):=by exact rfl)(hg:o.o.guard=none:=by exact rfl)(hd:o.o.dst=some d:=by exact rfl)(al:(QA P σ c.args.toList c.argTypes.toList).2=some Q:=by simp)(am:(QA P σ c.args.toList c.argTypes.toList).1:=by simp)(ar:XB P σ c.args.toList c.argTypes.toList=true\/yl own ag:=by simp)(H:Bx p->@EI P (σ.put d (SW ag)) ao l k:=by exact b6):@SI P σ ao o l k:=sL A hc hg hd U al am ar (H ⟨h⟩)
theorem aa{ao:xt}{l:qt}{d:Nat}{own:Bool}(U:KJ P f own Q ag)(h:p)(A:o.o.op= .call c:=by exact rfl)(hc:c.callee= .value (.func f):=by exact rfl)(hg:o.o.guard=none:=by exact rfl)(hd:o.o.dst=some d:=by exact rfl)(al:(QA P σ c.args.toList c.argTypes.toList).2=some Q:=by simp)(am:(QA P σ c.args.toList c.argTypes.toList).1:=by simp)(ar:XB P σ c.args.toList c.argTypes.toList=true\/yl own ag:=by simp)(H:Bx p->@EI P (σ.put d (SW ag)) ao l k:=by exact bD):@SI P σ ao o l k:=sL A hc hg hd U al am ar (H ⟨h⟩)
theorem fI{ao:xt}{l:qt}{d:Nat}{own:Bool}(F:q)(U:KJ P f own Q ag)(h:p)(A:o.o.op= .call c:=by exact rfl)(hc:c.callee= .value (.func f):=by exact rfl)(hg:o.o.guard=none:=by exact rfl)(hd:o.o.dst=some d:=by exact rfl)(al:(QA P σ c.args.toList c.argTypes.toList).2=some Q:=by simp)(am:(QA P σ c.args.toList c.argTypes.toList).1:=by simp)(ar:XB P σ c.args.toList c.argTypes.toList=true\/yl own ag:=by simp)(H:q->Bx p->@EI P (σ.put d (SW ag)) ao l k:=by exact gk):@SI P σ ao o l k:=sL A hc hg hd U al am ar (H F ⟨h⟩)
theorem e3{ao:xt}{l:qt}{d:Nat}(U:KJ P f true Q ag)(h:p)(A:o.o.op= .call c:=by exact rfl)(hc:c.callee= .value (.func f):=by exact rfl)(hg:o.o.guard=none:=by exact rfl)(hd:o.o.dst=some d:=by exact rfl)(al:(QA P σ c.args.toList c.argTypes.toList).2=some Q:=by simp)(am:(QA P σ c.args.toList c.argTypes.toList).1:=by simp)(ar:XB P σ c.args.toList c.argTypes.toList=true\/yl true ag:=by simp)(hf:σ.fresh d=true:=by simp)(H:Bx p->@EI P (σ.new d (Mz d ag) (UK ag.flatten)) ao l k:=by exact bD):@SI P σ ao o l k:=o6 A hc hg hd U al am ar hf (H ⟨h⟩)
theorem bo{ao:xt}{l:qt}{d:Nat}(qs:List Bool)(U:Z7 P f Q ag)(h:p)(A:o.o.op= .call c:=by exact rfl)(hc:c.callee= .value (.func f):=by exact rfl)(hg:o.o.guard=none:=by exact rfl)(hd:o.o.dst=some d:=by exact rfl)(al:(QA P σ c.args.toList c.argTypes.toList).2=some Q:=by simp)(am:(QA P σ c.args.toList c.argTypes.toList).1:=by simp)(hq:Re qs ag.flatten:=by simp[-Bool.exists_bool,-Bool.forall_bool])(hf:σ.fresh d=true:=by simp)(H:Bx p->@EI P (σ.new d (Mz d ag) (Ya qs ag.flatten)) ao l k:=by exact b6):@SI P σ ao o l k:=lh qs A hc hg hd U al am hq hf (H ⟨h⟩)
theorem ai{ao:xt}{l:qt}{d:Nat}(qs:List Bool)(U:Z7 P f Q ag)(h:p)(A:o.o.op= .call c:=by exact rfl)(hc:c.callee= .value (.func f):=by exact rfl)(hg:o.o.guard=none:=by exact rfl)(hd:o.o.dst=some d:=by exact rfl)(al:(QA P σ c.args.toList c.argTypes.toList).2=some Q:=by simp)(am:(QA P σ c.args.toList c.argTypes.toList).1:=by simp)(hq:Re qs ag.flatten:=by simp[-Bool.exists_bool,-Bool.forall_bool])(hf:σ.fresh d=true:=by simp)(H:Bx p->@EI P (σ.new d (Mz d ag) (Ya qs ag.flatten)) ao l k:=by exact bD):@SI P σ ao o l k:=lh qs A hc hg hd U al am hq hf (H ⟨h⟩)
theorem cP{ao:xt}{l:qt}{d:Nat}(F:q)(qs:List Bool)(U:Z7 P f Q ag)(h:p)(A:o.o.op= .call c:=by exact rfl)(hc:c.callee= .value (.func f):=by exact rfl)(hg:o.o.guard=none:=by exact rfl)(hd:o.o.dst=some d:=by exact rfl)(al:(QA P σ c.args.toList c.argTypes.toList).2=some Q:=by simp)(am:(QA P σ c.args.toList c.argTypes.toList).1:=by simp)(hq:Re qs ag.flatten:=by simp[-Bool.exists_bool,-Bool.forall_bool])(hf:σ.fresh d=true:=by simp)(H:q->Bx p->@EI P (σ.new d (Mz d ag) (Ya qs ag.flatten)) ao l k:=by exact gk):@SI P σ ao o l k:=lh qs A hc hg hd U al am hq hf (H F ⟨h⟩)
theorem cW{j E:Nat}{aM own:Bool}{ag:List D}(U:g=true->KJ P f own Q [ag])(h:@EI P (σ.put d (.E g (SW [ag]))) ao l k)(A:o.o.op= .call c:=by exact rfl)(hc:c.callee= .value (.func f):=by exact rfl)(hg:o.o.guard=some (j,aM):=by exact rfl)(hd:o.o.dst=some d:=by exact rfl)(i:(ao.ops[j]?).bind (·.dst)=some E:=by exact rfl)(C:TK aM (σ.get E)=some g:=by exact rfl)(al:(QA P σ c.args.toList c.argTypes.toList).2=some Q:=by first|(simp;done)|(simp[G];done)|(simp[G];omega)|(simp_all;done))(ac:E<σ.length:=by first|(simp;done)|(simp[G];done)|(simp[G];omega)|(simp_all;done))(am:g=true->(QA P σ c.args.toList c.argTypes.toList).1:=by first|(simp;done)|(simp[G];done)|(simp[G];omega)|(simp_all;done))(ar:XB P σ c.args.toList c.argTypes.toList=true\/yl own [ag]:=by first|(simp;done)|(simp[G];done)|(simp[G];omega)|(simp_all;done)):@SI P σ ao o l k:=hE A hc hg hd i C U al ac am ar h
theorem aO{ao:xt}{l:qt}{d:Nat}{j E:Nat}{aM own:Bool}{ag:List D}(U:g=true->KJ P f own Q [ag])(h:p)(A:o.o.op= .call c:=by exact rfl)(hc:c.callee= .value (.func f):=by exact rfl)(hg:o.o.guard=some (j,aM):=by exact rfl)(hd:o.o.dst=some d:=by exact rfl)(i:(ao.ops[j]?).bind (·.dst)=some E:=by exact rfl)(C:TK aM (σ.get E)=some g:=by exact rfl)(al:(QA P σ c.args.toList c.argTypes.toList).2=some Q:=by first|(simp;done)|(simp[G];done)|(simp[G];omega)|(simp_all;done))(ac:E<σ.length:=by first|(simp;done)|(simp[G];done)|(simp[G];omega)|(simp_all;done))(am:g=true->(QA P σ c.args.toList c.argTypes.toList).1:=by first|(simp;done)|(simp[G];done)|(simp[G];omega)|(simp_all;done))(ar:XB P σ c.args.toList c.argTypes.toList=true\/yl own [ag]:=by first|(simp;done)|(simp[G];done)|(simp[G];omega)|(simp_all;done))(H:Bx p->@EI P (σ.put d (.E g (SW [ag]))) ao l k:=by exact b6):@SI P σ ao o l k:=hE A hc hg hd i C U al ac am ar (H ⟨h⟩)
theorem ak{ao:xt}{l:qt}{d:Nat}{j E:Nat}{aM own:Bool}{ag:List D}(U:g=true->KJ P f own Q [ag])(h:p)(A:o.o.op= .call c:=by exact rfl)(hc:c.callee= .value (.func f):=by exact rfl)(hg:o.o.guard=some (j,aM):=by exact rfl)(hd:o.o.dst=some d:=by exact rfl)(i:(ao.ops[j]?).bind (·.dst)=some E:=by exact rfl)(C:TK aM (σ.get E)=some g:=by exact rfl)(al:(QA P σ c.args.toList c.argTypes.toList).2=some Q:=by simp)(ac:E<σ.length:=by simp)(am:g=true->(QA P σ c.args.toList c.argTypes.toList).1:=by simp)(ar:XB P σ c.args.toList c.argTypes.toList=true\/yl own [ag]:=by simp)(H:Bx p->@EI P (σ.put d (.E g (SW [ag]))) ao l k:=by exact bD):@SI P σ ao o l k:=hE A hc hg hd i C U al ac am ar (H ⟨h⟩)
theorem ae{ri:Nat}{l:List Oper}{br:Oper->Bool}(hm:P.follows .mixedOrders=true)(h:@EI P σ ⟨⟨l⟩,fun _=>false⟩ ⟨l⟩ k)(ax:Cw P ⟨l⟩ (fun i=>i) (fun _=>false)=true:=by kernel_rfl)(R:Wu ⟨l⟩ (fun i=>i) σ=true:=by kernel_rfl):@DI P ri σ ⟨⟨l⟩,br⟩ k:=eu hm ax R h
theorem bS{ri:Nat}{l:List Oper}{br:Oper->Bool}(hm:P.follows .mixedOrders=true)(h:p)(ax:Cw P ⟨l⟩ (fun i=>i) (fun _=>false)=true:=by kernel_rfl)(R:Wu ⟨l⟩ (fun i=>i) σ=true:=by kernel_rfl)(H:Bx p->@EI P σ ⟨⟨l⟩,fun _=>false⟩ ⟨l⟩ k:=by exact b6):@DI P ri σ ⟨⟨l⟩,br⟩ k:=eu hm ax R (H ⟨h⟩)
theorem aw{ri:Nat}{l:List Oper}{br:Oper->Bool}(hm:P.follows .mixedOrders=true)(h:p)(ax:Cw P ⟨l⟩ (fun i=>i) (fun _=>false)=true:=by kernel_rfl)(R:Wu ⟨l⟩ (fun i=>i) σ=true:=by kernel_rfl)(H:Bx p->@EI P σ ⟨⟨l⟩,fun _=>false⟩ ⟨l⟩ k:=by(intro z;(try simp);(repeat(with_reducible refine Go.Mo.sd ?_));exact z.h)):@DI P ri σ ⟨⟨l⟩,br⟩ k:=eu hm ax R (H ⟨h⟩)
theorem b2{ao:xt}{l:qt}{d:Nat}(h:p)(hp:sK o.o=true:=by exact rfl)(hg:o.o.guard=none:=by exact rfl)(hd:o.o.dst=some d:=by exact rfl)(H:Bx p->(bw P σ o.o d).1/\@EI P (bw P σ o.o d).2 ao l k:=by exact b6):@SI P σ ao o l k:=bs hp hg hd (H ⟨h⟩)
theorem bA{ao:xt}{l:qt}{d:Nat}(h:p)(hp:sK o.o=true:=by exact rfl)(hg:o.o.guard=none:=by exact rfl)(hd:o.o.dst=some d:=by exact rfl)(H:Bx p->(bw P σ o.o d).1/\@EI P (bw P σ o.o d).2 ao l k:=by exact bD):@SI P σ ao o l k:=bs hp hg hd (H ⟨h⟩)
theorem aN{E:Nat}{g:Bool}(h:@EI P (σ.put d (.E false .any)) ao l k)(hg:o.o.guard=some (j,aM):=by exact rfl)(hd:o.o.dst=some d:=by exact rfl)(i:(ao.ops[j]?).bind (·.dst)=some E:=by exact rfl)(C:TK aM (σ.get E)=some g:=by exact rfl)(ac:E<σ.length:=by simp)(a:g=false:=by simp[G]):@SI P σ ao o l k:=fQ hg hd i C ac a h
theorem aR{ao:xt}{l:qt}{E d:Nat}{g:Bool}(h:p)(hg:o.o.guard=some (j,aM):=by exact rfl)(hd:o.o.dst=some d:=by exact rfl)(i:(ao.ops[j]?).bind (·.dst)=some E:=by exact rfl)(C:TK aM (σ.get E)=some g:=by exact rfl)(ac:E<σ.length:=by simp)(a:g=false:=by simp[G])(H:Bx p->@EI P (σ.put d (.E false .any)) ao l k:=by exact b6):@SI P σ ao o l k:=fQ hg hd i C ac a (H ⟨h⟩)
theorem aK{j E:Nat}{aM g:Bool}(ht:r1->((aP P σ o.o.op o.o.type).1/\ap (aP P σ o.o.op o.o.type).2=true/\(unc (aP P σ o.o.op o.o.type).2).flat=true)/\@EI P (σ.put d (.E true (unc (aP P σ o.o.op o.o.type).2))) ao l k)(hf:r2->q)(A:wq o.o.op=false:=by exact rfl)(hg:o.o.guard=some (j,aM):=by exact rfl)(hd:o.o.dst=some d:=by exact rfl)(i:(ao.ops[j]?).bind (·.dst)=some E:=by exact rfl)(C:TK aM (σ.get E)=some g:=by exact rfl)(ac:E<σ.length:=by simp)(k1:g=true->r1:=by exact cf)(k2:g=false->r2:=by exact cf)(t:r2->Bx q->@EI P (σ.put d (.E false .any)) ao l k:=by(intro G z;simp[G,Go.Vm.ZH];(repeat(with_reducible refine Go.Mo.cV ?_));exact z.h)):@SI P σ ao o l k:=CO A hg hd i C ac (fun h=>ht (k1 h)) (fun h=>(fun G=>t G ⟨hf G⟩) (k2 h))
theorem bp{j E:Nat}{aM g:Bool}(ht:r1->((aP P σ o.o.op o.o.type).1/\ap (aP P σ o.o.op o.o.type).2=true/\(unc (aP P σ o.o.op o.o.type).2).flat=true)/\@EI P (σ.put d (.E true (unc (aP P σ o.o.op o.o.type).2))) ao l k)(hf:r2->@EI P (σ.put d (.E false .any)) ao l k)(A:wq o.o.op=false:=by exact rfl)(hg:o.o.guard=some (j,aM):=by exact rfl)(hd:o.o.dst=some d:=by exact rfl)(i:(ao.ops[j]?).bind (·.dst)=some E:=by exact rfl)(C:TK aM (σ.get E)=some g:=by exact rfl)(ac:E<σ.length:=by simp)(k1:g=true->r1:=by exact cf)(k2:g=false->r2:=by exact cf):@SI P σ ao o l k:=CO A hg hd i C ac (fun h=>ht (k1 h)) (fun h=>hf (k2 h))
theorem aJ{j E:Nat}{aM g:Bool}{s:Prop}(G:s)(ht:s/\r1->((aP P σ o.o.op o.o.type).1/\ap (aP P σ o.o.op o.o.type).2=true/\(unc (aP P σ o.o.op o.o.type).2).flat=true)/\@EI P (σ.put d (.E true (unc (aP P σ o.o.op o.o.type).2))) ao l k)(hf:s/\r2->q)(A:wq o.o.op=false:=by exact rfl)(hg:o.o.guard=some (j,aM):=by exact rfl)(hd:o.o.dst=some d:=by exact rfl)(i:(ao.ops[j]?).bind (·.dst)=some E:=by exact rfl)(C:TK aM (σ.get E)=some g:=by exact rfl)(ac:E<σ.length:=by simp)(k1:g=true->r1:=by exact cf)(k2:g=false->r2:=by exact cf)(t:s/\r2->Bx q->@EI P (σ.put d (.E false .any)) ao l k:=by(intro G z;simp[G,Go.Vm.ZH];(repeat(with_reducible refine Go.Mo.cV ?_));exact z.h)):@SI P σ ao o l k:=CO A hg hd i C ac (fun h=>ht ⟨G,k1 h⟩) (fun h=>(fun G=>t G ⟨hf G⟩) ⟨G,k2 h⟩)
theorem fE{j E:Nat}{aM g:Bool}{s:Prop}(G:s)(ht:s/\r1->((aP P σ o.o.op o.o.type).1/\ap (aP P σ o.o.op o.o.type).2=true/\(unc (aP P σ o.o.op o.o.type).2).flat=true)/\@EI P (σ.put d (.E true (unc (aP P σ o.o.op o.o.type).2))) ao l k)(hf:s/\r2->@EI P (σ.put d (.E false .any)) ao l k)(A:wq o.o.op=false:=by exact rfl)(hg:o.o.guard=some (j,aM):=by exact rfl)(hd:o.o.dst=some d:=by exact rfl)(i:(ao.ops[j]?).bind (·.dst)=some E:=by exact rfl)(C:TK aM (σ.get E)=some g:=by exact rfl)(ac:E<σ.length:=by simp)(k1:g=true->r1:=by exact cf)(k2:g=false->r2:=by exact cf):@SI P σ ao o l k:=CO A hg hd i C ac (fun h=>ht ⟨G,k1 h⟩) (fun h=>hf ⟨G,k2 h⟩)
theorem gK{j E:Nat}{aM g:Bool}(ht:r1->((aP P σ o.o.op o.o.type).1/\ap (aP P σ o.o.op o.o.type).2=true/\(unc (aP P σ o.o.op o.o.type).2).flat=true)/\@EI P (σ.put d (.E true (unc (aP P σ o.o.op o.o.type).2))) ao l k)(A:wq o.o.op=false:=by exact rfl)(hg:o.o.guard=some (j,aM):=by exact rfl)(hd:o.o.dst=some d:=by exact rfl)(i:(ao.ops[j]?).bind (·.dst)=some E:=by exact rfl)(C:TK aM (σ.get E)=some g:=by exact rfl)(ac:E<σ.length:=by simp)(k1:g=true->r1:=by exact cf)(k2:g=false->False:=by first|(intro g0;simp at g0;done)|(intro g0;simp[G]at g0;done)):@SI P σ ao o l k:=CO A hg hd i C ac (fun h=>ht (k1 h)) (fun h=>(k2 h).elim)
theorem rt{α:Type}{x y:α}{ag:List (List D)}(rv:List ResultVar)(f:m x y)(hf:fn.results=rv.toArray:=by exact rfl)(h:x=y->(y4 P σ rv).1/\GM σ (y4 P σ rv).2=some ag:=by(intro f;simp[f])):fP P fn false ag .ret σ:=hv hf (h f.h)
theorem O{α:Type}{x y:α}{ag:List (List D)}(rv:List ResultVar)(f:m x y)(hf:fn.results=rv.toArray:=by exact rfl)(h:x=y->(y4 P σ rv).1/\GM σ (y4 P σ rv).2=some ag:=by(intro f;simp[f,G])):fP P fn false ag .ret σ:=hv hf (h f.h)
theorem bJ{α:Type}{x y:α}{ag:List (List D)}(rv:List ResultVar)(f:m x y)(hf:fn.results=rv.toArray:=by exact rfl)(h:x=y->(y4 P σ rv).1/\Lu σ (y4 P σ rv).2=some ag/\(Ye (y4 P σ rv).2.flatten).Nodup:=by(intro f;simp[f])):fP P fn true ag .ret σ:=n4 hf (h f.h)
theorem ah{α:Type}{x y:α}{ag:List (List D)}(rv:List ResultVar)(f:m x y)(hf:fn.results=rv.toArray:=by exact rfl)(h:x=y->(y4 P σ rv).1/\jg σ (y4 P σ rv).2=some ag/\y3 σ (y4 P σ rv).2/\(Ye (y4 P σ rv).2.flatten).Nodup:=by(intro f;simp[f,-Bool.exists_bool,-Bool.forall_bool])):c0 P fn ag .ret σ:=BL hf (h f.h)
theorem jo{α:Type}{x y:α}{ag:List (List D)}(rv:List ResultVar)(f:m x y)(hf:fn.results=rv.toArray:=by exact rfl)(h:x=y->(y4 P σ rv).1/\jg σ (y4 P σ rv).2=some ag/\y3 σ (y4 P σ rv).2/\(Ye (y4 P σ rv).2.flatten).Nodup:=by(intro f;simp[f,G,-Bool.exists_bool,-Bool.forall_bool])):c0 P fn ag .ret σ:=BL hf (h f.h)
class cu where
 p:J->Prop
def Nx(σ:J)[n:cu]:Prop:=n.p σ
theorem Fx{c:jn}{n n':J->Prop}(hn:∀σ',n σ'->n' σ')(h:@WI P σ c (.nxt n k)):aX P c.c (Fr.run P (.nxt n' k)) σ:=
 kg (fun e σ' hq=>by cases e<;>first|exact hn _ hq|exact hq) (Ol h)
abbrev Q1{R:Type}{a:Type}(L:Nat->a->R)(S:a->J)(I:Nat->a->Prop)(t:R)(b:Nat):cu:=⟨fun τ=>∃A,m t (L b A)/\(1<=b/\I b A)/\Wk τ (S A)⟩
theorem iF{R:Type}{a:Type}{L:Nat->a->R}{S:a->J}{I:Nat->a->Prop}{t:R}{A:a}(e:m t (L b A))(v:1<=b/\I b A:=by exact bT)(hw:Wk σ (S A):=by exact Q6 ab):@Nx σ (Q1 L S I t b):=⟨A,e,v,hw⟩
theorem aH{R:Type}{a:Type}{L:Nat->a->R}{S:a->J}{I:Nat->a->Prop}{t:R}{A:a}(F:q)(e:m t (L b A))(v:1<=b/\I b A:=by exact bT)(c:q->Wk σ (S A):=by exact di):@Nx σ (Q1 L S I t b):=⟨A,e,v,c F⟩
theorem aI{c:jn}{R:Type}{a:Type}{L B:Nat->a->R}(hL:∀(A:a)(n:Nat),L (Nat.succ n) A=B n A)(S:a->J)(I:Nat->a->Prop)(u:Nat)(b:a){p:Nat->a->Prop}
  (ad:∀n (A:a),m (L u b) (B n A)->1<=n+1/\I (n+1) A->p n A) (v:1<=u/\I u b:=by first|omega|(dsimp only;omega)|simp) (h0:Wk σ (S b):=by exact Q6 ab) (H:∀n (A:a),Bx (p n A)->@WI P (S A) c (.nxt (fun σ'=>@Nx σ' (Q1 L S I (L u b) n)) k):=by(intro n_ aA z;simp;(repeat(with_reducible refine Go.Mo.sd ?_));exact z.h)):@HR P σ c k:=by
 refine Ru (ι:={s:Nat×a//m (L u b) (L s.1 s.2)/\(1<=s.1/\I s.1 s.2)}) (fun s=>S s.1.2) (fun s=>s.1.1) ⟨(u,b),⟨rfl⟩,v⟩ h0 ?_;rintro⟨⟨K,A⟩,e,j⟩;obtain⟨n,rfl⟩:∃q,K=q+1:=⟨K-1,by have:=j.1;(try dsimp only at this);omega⟩;refine Fx (fun σ' hn=>?_) (H n A ⟨ad n A ⟨by have:=e.h;(try dsimp only at this);rw[this,hL]⟩ j⟩);obtain⟨c0,e2,j2,w2⟩:=hn;exact⟨⟨(n,c0),e2,j2⟩,Nat.lt_succ_self n,w2⟩
abbrev Q2{R:Type}{a d:Type}(L:Nat->a->d->R)(S:a->d->J)(I:Nat->a->d->Prop)(t:R)(b:Nat):cu:=⟨fun τ=>∃A C,m t (L b A C)/\(1<=b/\I b A C)/\Wk τ (S A C)⟩
theorem aB{R:Type}{a d:Type}{L:Nat->a->d->R}{S:a->d->J}{I:Nat->a->d->Prop}{t:R}{A:a}{C:d}(e:m t (L b A C))(v:1<=b/\I b A C:=by exact bT)(hw:Wk σ (S A C):=by exact Q6 ab):@Nx σ (Q2 L S I t b):=⟨A,C,e,v,hw⟩
theorem ay{R:Type}{a d:Type}{L:Nat->a->d->R}{S:a->d->J}{I:Nat->a->d->Prop}{t:R}{A:a}{C:d}(F:q)(e:m t (L b A C))(v:1<=b/\I b A C:=by exact bT)(c:q->Wk σ (S A C):=by exact di):@Nx σ (Q2 L S I t b):=⟨A,C,e,v,c F⟩
theorem aq{c:jn}{R:Type}{a d:Type}{L B:Nat->a->d->R}(hL:∀(A:a)(C:d)(n:Nat),L (Nat.succ n) A C=B n A C)(S:a->d->J)(I:Nat->a->d->Prop)(u:Nat)(b:a)(V:d){p:Nat->a->d->Prop}
  (ad:∀n (A:a)(C:d),m (L u b V) (B n A C)->1<=n+1/\I (n+1) A C->p n A C) (v:1<=u/\I u b V:=by first|omega|(dsimp only;omega)|simp) (h0:Wk σ (S b V):=by exact Q6 ab) (H:∀n (A:a)(C:d),Bx (p n A C)->@WI P (S A C) c (.nxt (fun σ'=>@Nx σ' (Q2 L S I (L u b V) n)) k):=by(intro n_ aA aC z;simp;(repeat(with_reducible refine Go.Mo.sd ?_));exact z.h)):@HR P σ c k:=by
 refine Ru (ι:={s:Nat×a×d//m (L u b V) (L s.1 s.2.1 s.2.2)/\(1<=s.1/\I s.1 s.2.1 s.2.2)}) (fun s=>S s.1.2.1 s.1.2.2) (fun s=>s.1.1) ⟨(u,b,V),⟨rfl⟩,v⟩ h0 ?_;rintro⟨⟨K,A,C⟩,e,j⟩;obtain⟨n,rfl⟩:∃q,K=q+1:=⟨K-1,by have:=j.1;(try dsimp only at this);omega⟩;refine Fx (fun σ' hn=>?_) (H n A C ⟨ad n A C ⟨by have:=e.h;(try dsimp only at this);rw[this,hL]⟩ j⟩);obtain⟨c0,c1,e2,j2,w2⟩:=hn;exact⟨⟨(n,c0,c1),e2,j2⟩,Nat.lt_succ_self n,w2⟩
theorem eO{c:jn}{R:Type}{a d:Type}{L B:Nat->a->d->R}(hL:∀(A:a)(C:d)(n:Nat),L (Nat.succ n) A C=B n A C)(S:a->d->J)(I:Nat->a->d->Prop)(u:Nat)(b:a)(V:d)
  (ad:∀n (A:a)(C:d),m (L u b V) (B n A C)->1<=n+1/\I (n+1) A C->@WI P (S A C) c (.nxt (fun σ'=>@Nx σ' (Q2 L S I (L u b V) n)) k)) (v:1<=u/\I u b V:=by first|omega|(dsimp only;omega)|simp) (h0:Wk σ (S b V):=by exact Q6 ab):@HR P σ c k:=by
 refine Ru (ι:={s:Nat×a×d//m (L u b V) (L s.1 s.2.1 s.2.2)/\(1<=s.1/\I s.1 s.2.1 s.2.2)}) (fun s=>S s.1.2.1 s.1.2.2) (fun s=>s.1.1) ⟨(u,b,V),⟨rfl⟩,v⟩ h0 ?_;rintro⟨⟨K,A,C⟩,e,j⟩;obtain⟨n,rfl⟩:∃q,K=q+1:=⟨K-1,by have:=j.1;(try dsimp only at this);omega⟩;refine Fx (fun σ' hn=>?_) (ad n A C ⟨by have:=e.h;(try dsimp only at this);rw[this,hL]⟩ j);obtain⟨c0,c1,e2,j2,w2⟩:=hn;exact⟨⟨(n,c0,c1),e2,j2⟩,Nat.lt_succ_self n,w2⟩
abbrev Q3{R:Type}{a d f:Type}(L:Nat->a->d->f->R)(S:a->d->f->J)(I:Nat->a->d->f->Prop)(t:R)(b:Nat):cu:=⟨fun τ=>∃A C E,m t (L b A C E)/\(1<=b/\I b A C E)/\Wk τ (S A C E)⟩
theorem be{R:Type}{a d f:Type}{L:Nat->a->d->f->R}{S:a->d->f->J}{I:Nat->a->d->f->Prop}{t:R}{A:a}{C:d}{E:f}(e:m t (L b A C E))(v:1<=b/\I b A C E:=by exact bT)(hw:Wk σ (S A C E):=by exact Q6 ab):@Nx σ (Q3 L S I t b):=⟨A,C,E,e,v,hw⟩
theorem a3{R:Type}{a d f:Type}{L:Nat->a->d->f->R}{S:a->d->f->J}{I:Nat->a->d->f->Prop}{t:R}{A:a}{C:d}{E:f}(F:q)(e:m t (L b A C E))(v:1<=b/\I b A C E:=by exact bT)(c:q->Wk σ (S A C E):=by exact di):@Nx σ (Q3 L S I t b):=⟨A,C,E,e,v,c F⟩
theorem bu{c:jn}{R:Type}{a d f:Type}{L B:Nat->a->d->f->R}(hL:∀(A:a)(C:d)(E:f)(n:Nat),L (Nat.succ n) A C E=B n A C E)(S:a->d->f->J)(I:Nat->a->d->f->Prop)(u:Nat)(b:a)(V:d)(b2:f){p:Nat->a->d->f->Prop}
  (ad:∀n (A:a)(C:d)(E:f),m (L u b V b2) (B n A C E)->1<=n+1/\I (n+1) A C E->p n A C E) (v:1<=u/\I u b V b2:=by first|omega|(dsimp only;omega)|simp) (h0:Wk σ (S b V b2):=by exact Q6 ab) (H:∀n (A:a)(C:d)(E:f),Bx (p n A C E)->@WI P (S A C E) c (.nxt (fun σ'=>@Nx σ' (Q3 L S I (L u b V b2) n)) k):=by(intro n_ aA aC aD z;simp;(repeat(with_reducible refine Go.Mo.sd ?_));exact z.h)):@HR P σ c k:=by
 refine Ru (ι:={s:Nat×a×d×f//m (L u b V b2) (L s.1 s.2.1 s.2.2.1 s.2.2.2)/\(1<=s.1/\I s.1 s.2.1 s.2.2.1 s.2.2.2)}) (fun s=>S s.1.2.1 s.1.2.2.1 s.1.2.2.2) (fun s=>s.1.1) ⟨(u,b,V,b2),⟨rfl⟩,v⟩ h0 ?_;rintro⟨⟨K,A,C,E⟩,e,j⟩;obtain⟨n,rfl⟩:∃q,K=q+1:=⟨K-1,by have:=j.1;(try dsimp only at this);omega⟩;refine Fx (fun σ' hn=>?_) (H n A C E ⟨ad n A C E ⟨by have:=e.h;(try dsimp only at this);rw[this,hL]⟩ j⟩);obtain⟨c0,c1,c2,e2,j2,w2⟩:=hn;exact⟨⟨(n,c0,c1,c2),e2,j2⟩,Nat.lt_succ_self n,w2⟩
abbrev Q4{R:Type}{a d f g:Type}(L:Nat->a->d->f->g->R)(S:a->d->f->g->J)(I:Nat->a->d->f->g->Prop)(t:R)(b:Nat):cu:=⟨fun τ=>∃A C E N,m t (L b A C E N)/\(1<=b/\I b A C E N)/\Wk τ (S A C E N)⟩
theorem eh{R:Type}{a d f g:Type}{L:Nat->a->d->f->g->R}{S:a->d->f->g->J}{I:Nat->a->d->f->g->Prop}{t:R}{A:a}{C:d}{E:f}{N:g}(e:m t (L b A C E N))(v:1<=b/\I b A C E N:=by exact bT)(hw:Wk σ (S A C E N):=by exact Q6 ab):@Nx σ (Q4 L S I t b):=⟨A,C,E,N,e,v,hw⟩
theorem b9{R:Type}{a d f g:Type}{L:Nat->a->d->f->g->R}{S:a->d->f->g->J}{I:Nat->a->d->f->g->Prop}{t:R}{A:a}{C:d}{E:f}{N:g}(F:q)(e:m t (L b A C E N))(v:1<=b/\I b A C E N:=by exact bT)(c:q->Wk σ (S A C E N):=by exact di):@Nx σ (Q4 L S I t b):=⟨A,C,E,N,e,v,c F⟩
theorem dd{c:jn}{R:Type}{a d f g:Type}{L B:Nat->a->d->f->g->R}(hL:∀(A:a)(C:d)(E:f)(N:g)(n:Nat),L (Nat.succ n) A C E N=B n A C E N)(S:a->d->f->g->J)(I:Nat->a->d->f->g->Prop)(u:Nat)(b:a)(V:d)(b2:f)(t:g){p:Nat->a->d->f->g->Prop}
  (ad:∀n (A:a)(C:d)(E:f)(N:g),m (L u b V b2 t) (B n A C E N)->1<=n+1/\I (n+1) A C E N->p n A C E N) (v:1<=u/\I u b V b2 t:=by first|omega|(dsimp only;omega)|simp) (h0:Wk σ (S b V b2 t):=by exact Q6 ab) (H:∀n (A:a)(C:d)(E:f)(N:g),Bx (p n A C E N)->@WI P (S A C E N) c (.nxt (fun σ'=>@Nx σ' (Q4 L S I (L u b V b2 t) n)) k):=by(intro n_ aA aC aD ax z;simp;(repeat(with_reducible refine Go.Mo.sd ?_));exact z.h)):@HR P σ c k:=by
 refine Ru (ι:={s:Nat×a×d×f×g//m (L u b V b2 t) (L s.1 s.2.1 s.2.2.1 s.2.2.2.1 s.2.2.2.2)/\(1<=s.1/\I s.1 s.2.1 s.2.2.1 s.2.2.2.1 s.2.2.2.2)}) (fun s=>S s.1.2.1 s.1.2.2.1 s.1.2.2.2.1 s.1.2.2.2.2) (fun s=>s.1.1) ⟨(u,b,V,b2,t),⟨rfl⟩,v⟩ h0 ?_;rintro⟨⟨K,A,C,E,N⟩,e,j⟩;obtain⟨n,rfl⟩:∃q,K=q+1:=⟨K-1,by have:=j.1;(try dsimp only at this);omega⟩;refine Fx (fun σ' hn=>?_) (H n A C E N ⟨ad n A C E N ⟨by have:=e.h;(try dsimp only at this);rw[this,hL]⟩ j⟩);obtain⟨c0,c1,c2,c3,e2,j2,w2⟩:=hn;exact⟨⟨(n,c0,c1,c2,c3),e2,j2⟩,Nat.lt_succ_self n,w2⟩
abbrev Q5{R:Type}{a d f g h:Type}(L:Nat->a->d->f->g->h->R)(S:a->d->f->g->h->J)(I:Nat->a->d->f->g->h->Prop)(t:R)(b:Nat):cu:=⟨fun τ=>∃A C E N T,m t (L b A C E N T)/\(1<=b/\I b A C E N T)/\Wk τ (S A C E N T)⟩
theorem ek{R:Type}{a d f g h:Type}{L:Nat->a->d->f->g->h->R}{S:a->d->f->g->h->J}{I:Nat->a->d->f->g->h->Prop}{t:R}{A:a}{C:d}{E:f}{N:g}{T:h}(e:m t (L b A C E N T))(v:1<=b/\I b A C E N T:=by exact bT)(hw:Wk σ (S A C E N T):=by exact Q6 ab):@Nx σ (Q5 L S I t b):=⟨A,C,E,N,T,e,v,hw⟩
theorem g4{c:jn}{R:Type}{a d f g h:Type}{L B:Nat->a->d->f->g->h->R}(hL:∀(A:a)(C:d)(E:f)(N:g)(T:h)(n:Nat),L (Nat.succ n) A C E N T=B n A C E N T)(S:a->d->f->g->h->J)(I:Nat->a->d->f->g->h->Prop)(u:Nat)(b:a)(V:d)(b2:f)(t:g)(D:h){p:Nat->a->d->f->g->h->Prop}
  (ad:∀n (A:a)(C:d)(E:f)(N:g)(T:h),m (L u b V b2 t D) (B n A C E N T)->1<=n+1/\I (n+1) A C E N T->p n A C E N T) (v:1<=u/\I u b V b2 t D:=by first|omega|(dsimp only;omega)|simp) (h0:Wk σ (S b V b2 t D):=by exact Q6 ab) (H:∀n (A:a)(C:d)(E:f)(N:g)(T:h),Bx (p n A C E N T)->@WI P (S A C E N T) c (.nxt (fun σ'=>@Nx σ' (Q5 L S I (L u b V b2 t D) n)) k):=by(intro n_ aA aC aD ax ay z;simp;(repeat(with_reducible refine Go.Mo.sd ?_));exact z.h)):@HR P σ c k:=by
 refine Ru (ι:={s:Nat×a×d×f×g×h//m (L u b V b2 t D) (L s.1 s.2.1 s.2.2.1 s.2.2.2.1 s.2.2.2.2.1 s.2.2.2.2.2)/\(1<=s.1/\I s.1 s.2.1 s.2.2.1 s.2.2.2.1 s.2.2.2.2.1 s.2.2.2.2.2)}) (fun s=>S s.1.2.1 s.1.2.2.1 s.1.2.2.2.1 s.1.2.2.2.2.1 s.1.2.2.2.2.2) (fun s=>s.1.1) ⟨(u,b,V,b2,t,D),⟨rfl⟩,v⟩ h0 ?_;rintro⟨⟨K,A,C,E,N,T⟩,e,j⟩;obtain⟨n,rfl⟩:∃q,K=q+1:=⟨K-1,by have:=j.1;(try dsimp only at this);omega⟩;refine Fx (fun σ' hn=>?_) (H n A C E N T ⟨ad n A C E N T ⟨by have:=e.h;(try dsimp only at this);rw[this,hL]⟩ j⟩);obtain⟨c0,c1,c2,c3,c4,e2,j2,w2⟩:=hn;exact⟨⟨(n,c0,c1,c2,c3,c4),e2,j2⟩,Nat.lt_succ_self n,w2⟩
abbrev Q9{R:Type}{a d f g h o r y w:Type}(L:Nat->a->d->f->g->h->o->r->y->w->R)(S:a->d->f->g->h->o->r->y->w->J)(I:Nat->a->d->f->g->h->o->r->y->w->Prop)(t:R)(b:Nat):cu:=⟨fun τ=>∃A C E N T a5 i M l,m t (L b A C E N T a5 i M l)/\(1<=b/\I b A C E N T a5 i M l)/\Wk τ (S A C E N T a5 i M l)⟩
theorem eK{R:Type}{a d f g h o r y w:Type}{L:Nat->a->d->f->g->h->o->r->y->w->R}{S:a->d->f->g->h->o->r->y->w->J}{I:Nat->a->d->f->g->h->o->r->y->w->Prop}{t:R}{A:a}{C:d}{E:f}{N:g}{T:h}{a5:o}{i:r}{M:y}{l:w}(F:q)(e:m t (L b A C E N T a5 i M l))(v:1<=b/\I b A C E N T a5 i M l:=by exact bT)(c:q->Wk σ (S A C E N T a5 i M l):=by exact di):@Nx σ (Q9 L S I t b):=⟨A,C,E,N,T,a5,i,M,l,e,v,c F⟩
theorem k5{c:jn}{R:Type}{a d f g h o r y w:Type}{L B:Nat->a->d->f->g->h->o->r->y->w->R}(hL:∀(A:a)(C:d)(E:f)(N:g)(T:h)(a5:o)(i:r)(M:y)(l:w)(n:Nat),L (Nat.succ n) A C E N T a5 i M l=B n A C E N T a5 i M l)(S:a->d->f->g->h->o->r->y->w->J)(I:Nat->a->d->f->g->h->o->r->y->w->Prop)(u:Nat)(b:a)(V:d)(b2:f)(t:g)(D:h)(Q:o)(Z:r)(U:y)(G:w){p:Nat->a->d->f->g->h->o->r->y->w->Prop}
  (ad:∀n (A:a)(C:d)(E:f)(N:g)(T:h)(a5:o)(i:r)(M:y)(l:w),m (L u b V b2 t D Q Z U G) (B n A C E N T a5 i M l)->1<=n+1/\I (n+1) A C E N T a5 i M l->p n A C E N T a5 i M l) (v:1<=u/\I u b V b2 t D Q Z U G:=by first|omega|(dsimp only;omega)|simp) (h0:Wk σ (S b V b2 t D Q Z U G):=by exact Q6 ab) (H:∀n (A:a)(C:d)(E:f)(N:g)(T:h)(a5:o)(i:r)(M:y)(l:w),Bx (p n A C E N T a5 i M l)->@WI P (S A C E N T a5 i M l) c (.nxt (fun σ'=>@Nx σ' (Q9 L S I (L u b V b2 t D Q Z U G) n)) k):=by(intro n_ aA aC aD ax ay aF aB aG aH z;simp;(repeat(with_reducible refine Go.Mo.sd ?_));exact z.h)):@HR P σ c k:=by
 refine Ru (ι:={s:Nat×a×d×f×g×h×o×r×y×w//m (L u b V b2 t D Q Z U G) (L s.1 s.2.1 s.2.2.1 s.2.2.2.1 s.2.2.2.2.1 s.2.2.2.2.2.1 s.2.2.2.2.2.2.1 s.2.2.2.2.2.2.2.1 s.2.2.2.2.2.2.2.2.1 s.2.2.2.2.2.2.2.2.2)/\(1<=s.1/\I s.1 s.2.1 s.2.2.1 s.2.2.2.1 s.2.2.2.2.1 s.2.2.2.2.2.1 s.2.2.2.2.2.2.1 s.2.2.2.2.2.2.2.1 s.2.2.2.2.2.2.2.2.1 s.2.2.2.2.2.2.2.2.2)}) (fun s=>S s.1.2.1 s.1.2.2.1 s.1.2.2.2.1 s.1.2.2.2.2.1 s.1.2.2.2.2.2.1 s.1.2.2.2.2.2.2.1 s.1.2.2.2.2.2.2.2.1 s.1.2.2.2.2.2.2.2.2.1 s.1.2.2.2.2.2.2.2.2.2) (fun s=>s.1.1) ⟨(u,b,V,b2,t,D,Q,Z,U,G),⟨rfl⟩,v⟩ h0 ?_;rintro⟨⟨K,A,C,E,N,T,a5,i,M,l⟩,e,j⟩;obtain⟨n,rfl⟩:∃q,K=q+1:=⟨K-1,by have:=j.1;(try dsimp only at this);omega⟩;refine Fx (fun σ' hn=>?_) (H n A C E N T a5 i M l ⟨ad n A C E N T a5 i M l ⟨by have:=e.h;(try dsimp only at this);rw[this,hL]⟩ j⟩);obtain⟨c0,c1,c2,c3,c4,c5,c6,c7,c8,e2,j2,w2⟩:=hn;exact⟨⟨(n,c0,c1,c2,c3,c4,c5,c6,c7,c8),e2,j2⟩,Nat.lt_succ_self n,w2⟩
abbrev lc{R:Type}{a d f g h o r y w A9 ac ae ag af:Type}(L:Nat->a->d->f->g->h->o->r->y->w->A9->ac->ae->ag->af->R)(S:a->d->f->g->h->o->r->y->w->A9->ac->ae->ag->af->J)(I:Nat->a->d->f->g->h->o->r->y->w->A9->ac->ae->ag->af->Prop)(t:R)(b:Nat):cu:=⟨fun τ=>∃A C E N T a5 i M l Y X aa F O,m t (L b A C E N T a5 i M l Y X aa F O)/\(1<=b/\I b A C E N T a5 i M l Y X aa F O)/\Wk τ (S A C E N T a5 i M l Y X aa F O)⟩
theorem ee{R:Type}{a d f g h o r y w A9 ac ae ag af:Type}{L:Nat->a->d->f->g->h->o->r->y->w->A9->ac->ae->ag->af->R}{S:a->d->f->g->h->o->r->y->w->A9->ac->ae->ag->af->J}{I:Nat->a->d->f->g->h->o->r->y->w->A9->ac->ae->ag->af->Prop}{t:R}{A:a}{C:d}{E:f}{N:g}{T:h}{a5:o}{i:r}{M:y}{l:w}{Y:A9}{X:ac}{aa:ae}{F:ag}{O:af}(e:m t (L b A C E N T a5 i M l Y X aa F O))(v:1<=b/\I b A C E N T a5 i M l Y X aa F O:=by exact bT)(hw:Wk σ (S A C E N T a5 i M l Y X aa F O):=by exact Q6 ab):@Nx σ (lc L S I t b):=⟨A,C,E,N,T,a5,i,M,l,Y,X,aa,F,O,e,v,hw⟩
theorem dQ{c:jn}{R:Type}{a d f g h o r y w A9 ac ae ag af:Type}{L B:Nat->a->d->f->g->h->o->r->y->w->A9->ac->ae->ag->af->R}(hL:∀(A:a)(C:d)(E:f)(N:g)(T:h)(a5:o)(i:r)(M:y)(l:w)(Y:A9)(X:ac)(aa:ae)(F:ag)(O:af)(n:Nat),L (Nat.succ n) A C E N T a5 i M l Y X aa F O=B n A C E N T a5 i M l Y X aa F O)(S:a->d->f->g->h->o->r->y->w->A9->ac->ae->ag->af->J)(I:Nat->a->d->f->g->h->o->r->y->w->A9->ac->ae->ag->af->Prop)(u:Nat)(b:a)(V:d)(b2:f)(t:g)(D:h)(Q:o)(Z:r)(U:y)(G:w)(b9:A9)(ah:ac)(aj:ae)(ai:ag)(ak:af){p:Nat->a->d->f->g->h->o->r->y->w->A9->ac->ae->ag->af->Prop}
  (ad:∀n (A:a)(C:d)(E:f)(N:g)(T:h)(a5:o)(i:r)(M:y)(l:w)(Y:A9)(X:ac)(aa:ae)(F:ag)(O:af),m (L u b V b2 t D Q Z U G b9 ah aj ai ak) (B n A C E N T a5 i M l Y X aa F O)->1<=n+1/\I (n+1) A C E N T a5 i M l Y X aa F O->p n A C E N T a5 i M l Y X aa F O) (v:1<=u/\I u b V b2 t D Q Z U G b9 ah aj ai ak:=by first|omega|(dsimp only;omega)|simp) (h0:Wk σ (S b V b2 t D Q Z U G b9 ah aj ai ak):=by exact Q6 ab) (H:∀n (A:a)(C:d)(E:f)(N:g)(T:h)(a5:o)(i:r)(M:y)(l:w)(Y:A9)(X:ac)(aa:ae)(F:ag)(O:af),Bx (p n A C E N T a5 i M l Y X aa F O)->@WI P (S A C E N T a5 i M l Y X aa F O) c (.nxt (fun σ'=>@Nx σ' (lc L S I (L u b V b2 t D Q Z U G b9 ah aj ai ak) n)) k):=by(intro n_ aA aC aD ax ay aF aB aG aH aJ aI aL aM aK z;simp;(repeat(with_reducible refine Go.Mo.sd ?_));exact z.h)):@HR P σ c k:=by
 refine Ru (ι:={s:Nat×a×d×f×g×h×o×r×y×w×A9×ac×ae×ag×af//m (L u b V b2 t D Q Z U G b9 ah aj ai ak) (L s.1 s.2.1 s.2.2.1 s.2.2.2.1 s.2.2.2.2.1 s.2.2.2.2.2.1 s.2.2.2.2.2.2.1 s.2.2.2.2.2.2.2.1 s.2.2.2.2.2.2.2.2.1 s.2.2.2.2.2.2.2.2.2.1 s.2.2.2.2.2.2.2.2.2.2.1 s.2.2.2.2.2.2.2.2.2.2.2.1 s.2.2.2.2.2.2.2.2.2.2.2.2.1 s.2.2.2.2.2.2.2.2.2.2.2.2.2.1 s.2.2.2.2.2.2.2.2.2.2.2.2.2.2)/\(1<=s.1/\I s.1 s.2.1 s.2.2.1 s.2.2.2.1 s.2.2.2.2.1 s.2.2.2.2.2.1 s.2.2.2.2.2.2.1 s.2.2.2.2.2.2.2.1 s.2.2.2.2.2.2.2.2.1 s.2.2.2.2.2.2.2.2.2.1 s.2.2.2.2.2.2.2.2.2.2.1 s.2.2.2.2.2.2.2.2.2.2.2.1 s.2.2.2.2.2.2.2.2.2.2.2.2.1 s.2.2.2.2.2.2.2.2.2.2.2.2.2.1 s.2.2.2.2.2.2.2.2.2.2.2.2.2.2)}) (fun s=>S s.1.2.1 s.1.2.2.1 s.1.2.2.2.1 s.1.2.2.2.2.1 s.1.2.2.2.2.2.1 s.1.2.2.2.2.2.2.1 s.1.2.2.2.2.2.2.2.1 s.1.2.2.2.2.2.2.2.2.1 s.1.2.2.2.2.2.2.2.2.2.1 s.1.2.2.2.2.2.2.2.2.2.2.1 s.1.2.2.2.2.2.2.2.2.2.2.2.1 s.1.2.2.2.2.2.2.2.2.2.2.2.2.1 s.1.2.2.2.2.2.2.2.2.2.2.2.2.2.1 s.1.2.2.2.2.2.2.2.2.2.2.2.2.2.2) (fun s=>s.1.1) ⟨(u,b,V,b2,t,D,Q,Z,U,G,b9,ah,aj,ai,ak),⟨rfl⟩,v⟩ h0 ?_;rintro⟨⟨K,A,C,E,N,T,a5,i,M,l,Y,X,aa,F,O⟩,e,j⟩;obtain⟨n,rfl⟩:∃q,K=q+1:=⟨K-1,by have:=j.1;(try dsimp only at this);omega⟩;refine Fx (fun σ' hn=>?_) (H n A C E N T a5 i M l Y X aa F O ⟨ad n A C E N T a5 i M l Y X aa F O ⟨by have:=e.h;(try dsimp only at this);rw[this,hL]⟩ j⟩);obtain⟨c0,c1,c2,c3,c4,c5,c6,c7,c8,c9,ao,al,an,am,e2,j2,w2⟩:=hn;exact⟨⟨(n,c0,c1,c2,c3,c4,c5,c6,c7,c8,c9,ao,al,an,am),e2,j2⟩,Nat.lt_succ_self n,w2⟩
theorem SN{T:TypeId}(h:@EI P (σ.new d (.one (.E d 0 0 (qT P σ (C P T) (P.cellsOf (C P T)) parts.toList 0).2.length)) [.lit (P.cellsOf (C P T)) (qT P σ (C P T) (P.cellsOf (C P T)) parts.toList 0).2]) ao l k)(A:o.o.op= .buildSlice T n parts:=by exact rfl)(hg:o.o.guard=none:=by exact rfl)(hd:o.o.dst=some d:=by exact rfl)
  (M:σ.fresh d=true/\Xr P T=true/\JN P (C P T)=true/\0<P.cellsOf (C P T)/\parts.toList.length=n/\n*P.cellsOf (C P T)<=16777216:=by simp) (Z:(qT P σ (C P T) (P.cellsOf (C P T)) parts.toList 0).1:=by simp)
  (h3:U d (qT P σ (C P T) (P.cellsOf (C P T)) parts.toList 0).2.flatten=false:=by simp)
  :@SI P σ ao o l k:=EQ A hg hd M Z h3 h
theorem OT{y:Operand}{t:TypeId}{au:List (List D)}(h:@EI P ((σ.YC (l1++l2)).new d (.one (.E d 0 0 (au.length+am.length))) [.arr true X (au++am)]) ao l k)(A:o.o.op= .call ⟨.builtin .append,#[x,y],#[t,t]⟩:=by exact rfl)(hg:o.o.guard=none:=by exact rfl)(hd:o.o.dst=some d:=by exact rfl)(b:ao.a o.o=true:=by exact rfl)
  (aB:X=P.cellsOf (C P t):=by simp) (M:ap (look P σ t x)=true/\ap (look P σ t y)=true/\Xr P t=true/\JN P (C P t)=true/\0<P.cellsOf (C P t):=by simp)
  (Z:(Ma σ (unc (look P σ t x)) X).1/\(Ma σ (unc (look P σ t x)) X).2=(au,l1):=by simp) (h3:(MU σ (unc (look P σ t y)) X).1/\(MU σ (unc (look P σ t y)) X).2=(am,l2):=by simp)
  (h4:(l1++l2).Nodup/\(σ.YC (l1++l2)).fresh d=true:=by simp) (h5:(au.length+am.length)*P.bytesOf (C P t)<=140737488355328/\au.length+am.length<=9223372036854775807:=by(simp<;>omega))
  :@SI P σ ao o l k:=gc A hg hd b aB M Z h3 h4 h5 h
theorem C8{T:TypeId}{y:Operand}(h:@EI P ((σ.YC L).Yg t j (.arr true X (Q.set i ds))) ao l k)(A:o.o.op= .store T x y:=by exact rfl)(hg:o.o.guard=none:=by exact rfl)(hd:o.o.dst=none:=by exact rfl)(b:ao.a o.o=true:=by exact rfl)
  (O:unc (look P σ 0 x)= .one (.ptr t j i 0):=by simp) (ho:σ.ob t j= .arr true X Q:=by simp) (hi:i<Q.length:=by(simp;try omega)) (M:Uh P T=true/\ap (look P σ 0 x)=true/\ap (look P σ T y)=true/\(unc (look P σ T y)).flat=true:=by simp)
  (Z:JF σ (unc (look P σ T y)).cells=some ds:=by simp) (h3:QQ σ (unc (look P σ T y)).cells:=by simp) (h4:Ye (unc (look P σ T y)).cells=L:=by simp) (h5:L.Nodup/\(t,j)∉L/\(σ.YC L).zo (At.isT t)=false:=by simp) (h6:ds.length=P.cellsOf T/\P.cellsOf T=X:=by simp)
  :@SI P σ ao o l k:=mF A hg hd b O ho hi M Z h3 h4 h5 h6 h
theorem az{σ:J}(ρ:bb)(F:List (Nat×Nat))(ao:MH σ' ρ ρ=true:=by exact rfl)(h:D1 σ ρ F σ σ' 0:=by simp):Wk σ σ':=YR ρ F ao h
theorem bc{id:Nat}{l:List Oper}{br:Oper->Bool}(c:List Nat)(hm:P.follows .mixedOrders=true)(h:@EI P σ ⟨⟨l⟩,vg c⟩ ⟨l⟩ k)(ax:Vm.Cw P ⟨l⟩ (fun i=>i) (vg c)=true:=by kernel_rfl)(R:Wu ⟨l⟩ (fun i=>i) σ=true:=by kernel_rfl):@DI P id σ ⟨⟨l⟩,br⟩ k:=px c hm ax R h
theorem bN{g:Prop}(h:p)(H:Bx p->g:=by(intro z;(repeat(with_reducible refine Go.Mo.sd ?_));exact z.h)):g:=H ⟨h⟩
theorem aS{g:Prop}(h:p)(H:Bx p->g:=by(intro z;(repeat(with_reducible refine YD ?_));exact z.h)):g:=H ⟨h⟩
theorem ba{g:Prop}(h:p)(H:Bx p->g:=by(intro z;(repeat(with_reducible refine XC ?_));exact z.h)):g:=H ⟨h⟩
theorem bh{g:Prop}(h:p)(H:Bx p->g:=by(intro z;(repeat(with_reducible refine Yt ?_));exact z.h)):g:=H ⟨h⟩
theorem bP{g:Prop}(h:p)(H:Bx p->g:=by(intro z;(repeat(with_reducible refine KX ?_));exact z.h)):g:=H ⟨h⟩
theorem bR{g:Prop}(h:p)(H:Bx p->g:=by(intro z;(repeat(with_reducible refine Q0 ?_));exact z.h)):g:=H ⟨h⟩
theorem bW{g:Prop}(h:p)(H:Bx p->g:=by(intro z;(repeat(with_reducible refine zM ?_));exact z.h)):g:=H ⟨h⟩
theorem ax{g:Prop}(h:p)(H:Bx p->g:=by(intro z;(repeat(with_reducible refine Go.Mo.cV ?_));exact z.h)):g:=H ⟨h⟩
theorem xp{g:Prop}(F:q)(h:p)(H:q->Bx p->g:=by exact gk):g:=H F ⟨h⟩
theorem xg{g:Prop}(F:q)(h:p)(H:q->Bx p->g:=by(intro F z;simp[F,Go.Vm.ZH,G];(repeat(with_reducible refine Go.Mo.cV ?_));exact z.h)):g:=H F ⟨h⟩
theorem aU{g:Prop}(h:p)(H:Bx p->g:=by exact bD):g:=H ⟨h⟩
theorem a9{g:Prop}(h:p)(H:Bx p->g:=by(intro z;simp[G];(repeat(with_reducible refine Go.Mo.cV ?_));exact z.h)):g:=H ⟨h⟩
theorem xs(u:q)(h:q->p:=by(intro u;simp(maxDischargeDepth:=12) [u])):p:=h u
@[simp] def qW : List Bool := [false, false, false, true, true, false, false, true, false, false, true, false]
@[simp] abbrev rI (x : Int) : List D := [.int .i64 x]
@[simp] abbrev rB (b : Bool) : List D := [.bool b]
@[simp] abbrev rS (s : ByteArray) : List D := [.str s]
@[simp] abbrev rL {α : Type} (n : Nat) (f : α -> List D) (l : List α) : List D := [.sl n (l.map f)]
theorem pH{α:Type}[Inhabited α]{f:α->List D}{l:List α}(h:i<(l.take n).length):rowAt ((l.map f).take n) i=f (I (l.take n) i):=by rw[<-List.map_take];exact ZH h
theorem ij{α:Type}{l:List α}(h:i<(l.take n).length):i<min n l.length:=by rwa[List.length_take]at h
def N5(l:List Bool):List At:=l.map (fun b=>.d (.bool b))
def zB(n:Nat):List Bool:=List.replicate n false
@[simp] theorem ZEt (n : Nat) : (zB n).length = n := List.length_replicate ..
@[simp] theorem nw (σ : J) (ρ : bb) (F : List (Nat × Nat)) : ∀ l : List Bool, Ft σ ρ F (N5 l) (N5 l) = True
 |[]=>by simp[N5,Ft]
 |b::l=>by have h:=nw σ ρ F l;simp only[N5,List.map_cons,Ft,o9]at h⊢;simp[h]
@[simp] theorem Af (t : Nat) : ∀ l : List Bool, U t (N5 l) = false
 |[]=>by simp[N5,U]
 |b::l=>by have h:=Af t l;simp only[N5,List.map_cons]at h⊢;simp[U,At.ref]at h⊢;exact h
theorem LA(l:List Bool):(N5 l).length=l.length:=by simp[N5]
theorem o8{l:List Bool}(h:l.length=n):(N5 l).take n=N5 l:=List.take_of_length_le (by rw[LA];omega)
theorem gu{l:List Bool}{b:Bool}(h:i<l.length):(N5 l).take i++At.d (.bool b)::(N5 l).drop (i+1)=N5 (l.set i b):=by unfold N5;rw[List.map_set,List.set_eq_take_append_cons_drop,if_pos (by rw[List.length_map];exact h)]
theorem mz{l:List Bool}{b:Bool}(h:i<l.length):place (N5 l) i [At.d (.bool b)]=N5 (l.set i b):=by rw[<-gu h];simp[place]
theorem ok{l:List Bool}(h:i<l.length):((N5 l).drop i).take 1=[At.d (.bool (I l i))]:=by unfold N5;rw[<-List.map_drop,List.drop_eq_getElem_cons h,List.map_cons,List.take_succ_cons,List.take_zero];simp[I,h]
open Go.RowKit
def J.ZD7:J->List Nat->J
 |σ,[]=>σ
 |σ,s::l=>J.ZD7 (σ.put s .any) l
attribute [simp] J.ZD7
end Go.Vm
