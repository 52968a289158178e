/- An abstract machine Hb the model of Go, by value, and that it is sound: part Ve. No condition. -/
import Derived.Test.YtipadonicggnbaaGreatVd
set_option linter.unusedVariables false
set_option linter.unusedSimpArgs false
namespace Go.Vm
open Go.RowKit
open Go.RowKit
theorem d{p:Prop}(h:p:=by(repeat' apply And.intro)<;>kernel_rfl):p:=h
theorem ai{p:Prop}(h:p:=by kernel_rfl):p:=h
variable{f:FuncId}{P:Program}{M H ax aH az al:List (List D)}{o:dE}{ai:yC}{σ:U}{d n G i j Q X ri t u tf id:Nat}{h:Nat->Nat->Hd}{k:Fr}{B X' ad S:Nat->Prop}{c cl:Call}{aB ds r:List D}{b aN g:Bool}{af:Exit->Act->World->Prop}{T0 T:CS}{a:Act}{w w':World}{J A y:yL}{x0 x:Operand}{v:Value}{N:Array Oper}{hf:Nat->Hd}{hd:Hd}
def dS(σ:U):V->Option Nat
 |.one (.d (.sl _ M))=>some M.length
 |.one (.O t j _ ae)=>(match σ.ob t j with|.arr _ _ _=>some ae|_=>none)
 |.fix _ (.one (.O t j _ ae))=>(match σ.ob t j with|.arr _ _ _=>some ae|_=>none)
 |_=>none
def V3(σ:U):Prop:=∀t n,dS σ (σ.get t)=some n->n<=9223372036854775807
theorem k4:∀{v:V}{an:Value}{n:Nat},dS σ v=some n->J8 T h σ.ob w v an->n<=maxLen
 |.one (.d (.sl s M)),an,n,hn,hv=>by simp only[dS]at hn;cases hn;obtain⟨aA,ah,_,I,X⟩:=gL (r:=(show Rd T w an (.sl s M)from hv));omega
 |.one (.O u j lo ae),an,n,hn,hv=>by
  simp only[dS]at hn;split at hn
  ·rename_i q s M ho;cases hn;have hh:=(show Ys T h σ.ob w (.O u j lo ae) an from hv).2.1 _ _ _ ho
   obtain⟨_,_,_,aA,ah,_,I,X,_⟩:=hh;omega
  ·cases hn
 |.fix g (.one (.O u j lo ae)),an,n,hn,hv=>by
  simp only[dS]at hn;split at hn
  ·rename_i q s M ho;cases hn;have hh:=(show Ys T h σ.ob w (.O u j lo ae) an from hv.2).2.1 _ _ _ ho
   obtain⟨_,_,_,aA,ah,_,I,X,_⟩:=hh;omega
  ·cases hn
theorem lz(r:zh T0 B σ a w):V3 σ:=by obtain⟨ad,h,r⟩:=r;intro t n hn;exact k4 hn (r.get t)
theorem na{c:Code}{af:Exit->U->Prop}(h:V3 σ->a3 P c af σ):a3 P c af σ:=fun T0 B a w r=>h (lz r) T0 B a w r
theorem lw{x:yL}(ht:V3 σ->b=true->@WI P σ x k)(hf:V3 σ->b=false->@WI P σ y k):@CI P b σ x y k:=
 ⟨fun h=>na fun hk=>Sp (ht hk h),fun h=>na fun hk=>Sp (hf hk h)⟩
theorem RJ{c:Bool}{x:yL}(Z:c=b)(ht:V3 σ->c=true->@WI P σ x k)(hf:V3 σ->c=false->@WI P σ y k):@CI P b σ x y k:=by subst Z;exact lw ht hf
theorem cj{c:yL}(h:V3 σ->@Nm P σ c k):@Nm P σ c k:=na h
theorem aY(h:V3 σ->@DI P ri σ ai k):@DI P ri σ ai k:=na h
def DD:Op->Bool
 |.call _=>true
 |_=>false
theorem G0{l:yf}(A:DD o.o.op=false)(hg:o.o.guard=some (j,aN))(hd:o.o.dst=some d)
  (i:(ai.ops[j]?).bind (·.dst)=some G) (C:VT aN (σ.get G)=some g) (ag:G<σ.length)
  (ht:g=true->((aU P σ o.o.op o.o.type).1/\am (aU P σ o.o.op o.o.type).2=true/\(unc (aU P σ o.o.op o.o.type).2).flat=true)/\@EI P (σ.put d (.O true (unc (aU P σ o.o.op o.o.type).2))) ai l k)
  (hf:g=false->@EI P (σ.put d (.O false .any)) ai l k):@SI P σ ai o l k:=by
 have step:∀v,(g=true->(aU P σ o.o.op o.o.type).1/\am (aU P σ o.o.op o.o.type).2=true/\v=unc (aU P σ o.o.op o.o.type).2/\v.flat=true)->X5 P ai.ops o.o σ (σ.put d (.O g v)):=by
  intro v hv;unfold X5;simp only[hg];refine⟨G,d,g,v,i,ag,hd,C,fun b=>?_,rfl⟩;obtain⟨I,X,h3,h4⟩:=hv b;have aA:∃v0,Xa P σ o.o.op o.o.type v0/\am v0=true/\v=unc v0/\v.flat=true:=⟨_,gP I,X,h3,h4⟩
  unfold D5;split
  ·rename_i c Z;rw[Z]at A;cases A
  ·exact aA
 cases g with
 |true=>obtain⟨⟨I,X,h3⟩,h4⟩:=ht rfl;exact⟨_,.inl (step _ fun _=>⟨I,X,rfl,h3⟩),J7 h4⟩
 |false=>exact⟨_,.inl (step .any (fun h=>by cases h)),J7 (hf rfl)⟩
theorem fg{l:yf}(hg:o.o.guard=some (j,aN))(hd:o.o.dst=some d)
  (i:(ai.ops[j]?).bind (·.dst)=some G) (C:VT aN (σ.get G)=some g) (ag:G<σ.length) (a:g=false)
  (h:@EI P (σ.put d (.O false .any)) ai l k):@SI P σ ai o l k:=by
 subst a;refine⟨_,.inl ?_,J7 h⟩;unfold X5;simp only[hg];exact⟨G,d,false,.any,i,ag,hd,C,(fun h=>by cases h),rfl⟩
def C{α:Type}[Inhabited α](l:List α)(i:Nat):α:=l.getD i default
theorem ZG{α:Type}[Inhabited α]{f:α->List D}{l:List α}(h:i<l.length):rowAt (l.map f) i=f (C l i):=by simp[rowAt,C,h]
theorem Xv{α:Type}{f:α->List D}{l:List α}{x:α}(h:r=f x):(l.map f).set i r=(l.set i x).map f:=by rw[h,List.map_set]
abbrev W(x:Int):Int:=IntKind.i64.wrap x
theorem YF{x:Int}(I: -9223372036854775808<=x)(X:x<=9223372036854775807):IntKind.i64.wrap x=x:=by
 have hr:IntKind.i64.min<=x/\x<=IntKind.i64.max:=by
  constructor
  ·show-9223372036854775808<=x;exact I
  ·show x<=9223372036854775807;exact X
 simp only[IntKind.wrap];first
  |(simp[IntKind.bits,IntKind.signed];omega)
  |omega
theorem Ts(i:Nat):((i:Int)-1).toNat=i-1:=Y
attribute [simp] U.fresh qp V.ref V.Ft Xi N9
open Go.RowKit
variable{fn:Func}{ts:List TypeId}{rv:List ResultVar}{aK:List At}
attribute [simp] U.TV kT Ma At.Er LG
theorem o4{c:Code}(hf:P.funcs[f]?=some fn)(J:fn.body=some c)(ap:R7 P f=true){ac:List D}{x:D}
  (hw:∀v,@WI P (LG fn.ntmps v ac ax) ⟨c⟩ (.fin (dW P fn v aB x))):yS P f ac ax aB x:=A7 hf J ap (fun v=>Sp (hw v))
theorem mR{x:D}(hf:fn.results=rv.toArray)(h:(yB P σ rv).1/\(yB P σ rv).2=[[.d x]]/\x.scalar=true/\σ.head?=some (.fix v (a2 (Qt 0 0 aB)),Yg [] aB)):dW P fn v aB x .ret σ:=
 ⟨.inl rfl,by rw[hf];have:=Nb h.1;rw[h.2.1]at this;simpa using this,h.2.2⟩
theorem w6{l:yf}{xs:List Operand}{t0:TypeId}{s s':List (List D)}{y:D}{c:Nat}(A:o.o.op= .call cl)(Z:cl.callee= .value (.func f))(q:o.o.guard=none)(hd:o.o.dst=some d)(g:ai.a o.o=true)
  (ha:cl.args.toList=x0::xs) (aw:cl.argTypes.toList=t0::ts) (hs:yS P f [.sl n s] aH [.sl n s'] y) (O:am (look P σ t0 x0)=true/\unc (look P σ t0 x0)= .one (.ac t j i c none)) (ho:σ.ob t j= .arr true Q M) (hi:i<M.length)
  (aB:(rowAt M i)[c]?=some (.sl n s)) (al:(Xj P σ xs ts).1) (b:(Xj P σ xs ts).2=some aH) (au:Yz P σ xs ts=true)
  (h:@EI P ((σ.Yj t j (.arr true Q (M.set i (place (rowAt M i) c [.sl n s'])))).put d (.one (.d y))) ai l k) (v:qf P o.o=false:=by exact rfl):@SI P σ ai o l k:=pm A Z q hd g ha aw O.1 O.2 ho hi aB (WX al b) au hs v h
theorem qs{l:yf}{xs:List Operand}{t0:TypeId}{ac:List D}{y:D}(A:o.o.op= .call cl)(Z:cl.callee= .value (.func f))(q:o.o.guard=none)(hd:o.o.dst=some d)(g:ai.a o.o=true)
  (ha:cl.args.toList=x0::xs) (H:cl.argTypes.toList=t0::ts) (hs:yS P f ac aH aB y) (O:am (look P σ t0 x0)=true/\unc (look P σ t0 x0)=a2 aK) (Y:JA σ aK=some ac) (c:Ma σ aK) (aE:(Yp aK).Nodup) (n:σ.zX At.Er=false)
  (al:(Xj P σ xs ts).1) (b:(Xj P σ xs ts).2=some aH) (au:Yz P σ xs ts=true) (s:kT ac aB)
  (h:@EI P ((σ.TV aK aB).put d (.one (.d y))) ai l k) (v:qf P o.o=false:=by exact rfl):@SI P σ ai o l k:=Tk A Z q hd g ha O.1 O.2 Y c aE n (WX al b) au hs s v h
open Go.RowKit
variable{p r1 r2:Prop}{L l1 l2:List (Nat×Nat)}{K:Act->World->Prop}{parts:Array (Nat×Operand)}{e:Exit}
def At.isP(t:Nat):At->Bool
 |.ac u _ _ _ _=>u==t
 |.ptr u _ _ _=>u==t
 |_=>false
theorem ar.ZA3(r:ar T0 B σ a w ad h){M:List (List At)}(ho:σ.ob t 0= .lit Q M)(Y:qe σ M=some al)(ap:xB σ M)
  (N:Yp M.flatten=L) (aE:L.Nodup) (au:(t,0)∉L) (hp:(σ.YI L).zX (At.isP t)=false):zh T0 B ((σ.YI L).Yj t 0 (.arr true Q al)) a w:=by
 have ao:σ.ob t 0≠ .none:=bv;have h0:=r.obj t 0;rw[ho]at h0;obtain⟨e,xs,aw,hz,aa⟩:=h0;obtain⟨ag,X,I⟩:=P1 Y;have av:=PG r aa ag (Tv ap) (by rw[N];exact aE);rw[N]at av;have r1:=r.YI L;have aR:=r.zZ L;have aN:∀b',(h t 0).u b'->zO σ h L b'->False:=by rintro b' aL ⟨p,az,W,aQ⟩;obtain⟨q1,q2⟩:=r.inj t 0 p.1 p.2 b' ao W aL aQ;exact au (by rw[q1,q2];exact az)
 have aT:(σ.YI L).ob t 0= .lit Q M:=by rw[U.yU,if_neg au,ho]
 have H:(σ.YI L).ob t 0≠ .none:=by rw[aT];simp
 have ah:∀u i,¬(u=t/\i=0)->((σ.YI L).Yj t 0 (.arr true Q al)).ob u i=(σ.YI L).ob u i:=by intro u i W;rw[U.Kg _ t 0 _ u i H,if_neg W]
 have aq:((σ.YI L).Yj t 0 (.arr true Q al)).ob t 0= .arr true Q al:=by rw[U.Kg _ t 0 _ t 0 H];simp
 generalize hσ:(σ.YI L).Yj t 0 (.arr true Q al)=σ2 at*;generalize bg:σ.YI L=σ1 at*;have aC:σ2.length=σ1.length:=by rw[<-hσ,U.Qs]
 have am:∀u,σ2.get u=σ1.get u:=fun u=>by rw[<-hσ,U.JI]
 let m:Hd:=⟨(h t 0).v,fun k=>(xs[k]?).getD undef,fun b=>(h t 0).u b\/zO σ h L b⟩
 let h':Nat->Nat->Hd:=fun u i=>if u=t/\i=0 then m else h u i
 have aF:∀u i,¬(u=t/\i=0)->h' u i=h u i:=fun u i W=>if_neg W;have z:h' t 0=m:=by simp[h']
 have hv:∀u i,(h' u i).v=(h u i).v:=by
  intro u i;by_cases Z:u=t/\i=0
  ·obtain⟨rfl,rfl⟩:=Z;rw[z]
  ·rw[aF u i Z]
 have ac:∀{x:At}{v:Value},At.isP t x=false->Ys (ak T0 ad) h σ1.ob w x v->Ys (ak T0 ad) h' σ2.ob w x v:=by
  intro x v R E;cases x with
  |any=>exact E
  |d x=>exact E
  |nil s=>exact E
  |O u i lo ae=>
   refine⟨E.1,fun q s C hq=>?_,fun s C hq=>?_⟩
   ·by_cases Z:u=t/\i=0
    ·obtain⟨rfl,rfl⟩:=Z;rw[aq]at hq;cases hq;rw[hv,<-X];exact E.2.2 _ _ aT
    ·rw[ah u i Z]at hq;rw[hv];exact E.2.1 _ _ _ hq
   ·by_cases Z:u=t/\i=0
    ·obtain⟨rfl,rfl⟩:=Z;rw[aq]at hq;cases hq
    ·rw[ah u i Z]at hq;rw[hv];exact E.2.2 _ _ hq
  |ptr u i k c=>
   refine⟨E.1,fun q s C hq=>?_⟩;have Z:¬(u=t/\i=0):=fun Z=>by simp[At.isP,Z.1]at R
   rw[ah u i Z]at hq;rw[hv];exact E.2 _ _ _ hq
  |Z u c=>
   refine⟨E.1,fun G hq=>?_⟩;by_cases Z:u=t
   ·subst Z;rw[aq]at hq;cases hq
   ·rw[ah u 0 (fun hh=>Z hh.1)]at hq;rw[hv];exact E.2 _ hq
  |fn f u=>
   refine⟨E.1,fun G hq=>?_⟩;by_cases Z:u=t
   ·subst Z;rw[aq]at hq;cases hq
   ·rw[ah u 0 (fun hh=>Z hh.1)]at hq;rw[hv];exact E.2 _ hq
  |ac u i k c o=>
   refine⟨E.1,fun s C hq=>?_⟩;have Z:¬(u=t/\i=0):=fun Z=>by simp[At.isP,Z.1]at R
   rw[ah u i Z]at hq;rw[aF u i Z];exact E.2 _ _ hq
  |am rr c=>exact E
 have l:∀u i,σ2.ob u i≠ .none->σ1.ob u i≠ .none:=by
  intro u i hn;by_cases Z:u=t/\i=0
  ·obtain⟨rfl,rfl⟩:=Z;exact H
  ·rw[ah u i Z]at hn;exact hn
 refine⟨ad,h',by rw[r1.size,aC],r1.defers,r1.d,r1.e,r1.f,fun u F=>?_,fun u i=>?_,fun u i b hn J=>?_,fun u i b hn J=>?_,fun u i u' i' b hn A J aj=>?_⟩
 ·rw[aC]at F;rw[am];exact J8.map ac (U.Nh hp u) (r1.slot u F)
 ·by_cases Z:u=t/\i=0
  ·obtain⟨rfl,rfl⟩:=Z;rw[aq,z];refine⟨e,xs,by rw[<-X];exact aw,I Q hz,av.mono (fun b J=>⟨.inr J,fun aA=>aN b (r.c u 0 b ao aA) J⟩),fun k x d O _ _=>by simp[m,O]⟩
  ·rw[ah u i Z,aF u i Z];exact zR.map ac (fun b k v J Z=>⟨Z,J⟩) (fun ho b=>r1.c u i b ho) (fun _ _ _=>rfl) (U.HQ hp u i) (r1.obj u i)
 ·by_cases Z:u=t/\i=0
  ·obtain⟨rfl,rfl⟩:=Z;rw[z]at J⊢;exact .inl (r.c u 0 b ao J)
  ·rw[aF u i Z]at J⊢;exact r1.c u i b (l u i hn) J
 ·by_cases Z:u=t/\i=0
  ·obtain⟨rfl,rfl⟩:=Z;rw[z]at J;rcases J with J|J
   ·exact r.own u 0 b ao J
   ·have:=aR b J;exact⟨this.1,this.2.1,this.2.2.1⟩
  ·rw[aF u i Z]at J;exact r1.own u i b (l u i hn) J
 ·have ai:∀u i b,¬(u=t/\i=0)->σ1.ob u i≠ .none->(h u i).u b->(h' t 0).u b->False:=by
   intro u i b Z hn J aj;rw[z]at aj;rcases aj with aj|aj
   ·exact Z (r1.inj u i t 0 b hn H J aj)
   ·exact(aR b aj).2.2.2 u i hn J
  by_cases Z:u=t/\i=0
  ·by_cases an:u'=t/\i'=0
   ·exact⟨Z.1.trans an.1.symm,Z.2.trans an.2.symm⟩
   ·obtain⟨rfl,rfl⟩:=Z;rw[aF u' i' an]at aj;exact(ai u' i' b an (l u' i' A) aj J).elim
  ·rw[aF u i Z]at J;by_cases an:u'=t/\i'=0
   ·obtain⟨rfl,rfl⟩:=an;exact(ai u i b Z (l u i hn) J aj).elim
   ·rw[aF u' i' an]at aj;exact r1.inj u i u' i' b (l u i hn) (l u' i' A) J aj
theorem i6{l:yf}{T:TypeId}(A:o.o.op= .buildSlice T n parts)(hg:o.o.guard=none)(hd:o.o.dst=some d)(g:ai.a o.o=true)
  (I:(σ.fresh d=true/\d<σ.length)/\Xo P T=true/\Qq P (E P T)=true/\0<P.cellsOf (E P T)/\parts.toList.length=n/\n*P.cellsOf (E P T)<=16777216) (X:(xK P σ (E P T) (P.cellsOf (E P T)) parts.toList 0).1)
  (h3:Y6 d (xK P σ (E P T) (P.cellsOf (E P T)) parts.toList 0).2.flatten=false)
  (h4:qe (σ.new d (.one (.O d 0 0 (xK P σ (E P T) (P.cellsOf (E P T)) parts.toList 0).2.length)) [.lit (P.cellsOf (E P T)) (xK P σ (E P T) (P.cellsOf (E P T)) parts.toList 0).2]) (xK P σ (E P T) (P.cellsOf (E P T)) parts.toList 0).2=some al/\
   xB (σ.new d (.one (.O d 0 0 (xK P σ (E P T) (P.cellsOf (E P T)) parts.toList 0).2.length)) [.lit (P.cellsOf (E P T)) (xK P σ (E P T) (P.cellsOf (E P T)) parts.toList 0).2]) (xK P σ (E P T) (P.cellsOf (E P T)) parts.toList 0).2)
  (h5:Yp (xK P σ (E P T) (P.cellsOf (E P T)) parts.toList 0).2.flatten=L/\L.Nodup/\(d,0)∉L)
  (h6:((σ.new d (.one (.O d 0 0 (xK P σ (E P T) (P.cellsOf (E P T)) parts.toList 0).2.length)) [.lit (P.cellsOf (E P T)) (xK P σ (E P T) (P.cellsOf (E P T)) parts.toList 0).2]).YI L).zX (At.isP d)=false)
  (h:@EI P (((σ.new d (.one (.O d 0 0 (xK P σ (E P T) (P.cellsOf (E P T)) parts.toList 0).2.length)) [.lit (P.cellsOf (E P T)) (xK P σ (E P T) (P.cellsOf (E P T)) parts.toList 0).2]).YI L).Yj d 0 (.arr true (P.cellsOf (E P T)) al)) ai l k):@SI P σ ai o l k:=by
 refine⟨_,.inr ⟨g,?_,fun d' m Z=>Jf (Jo (Ru (fun e=>m cy) Z)),fun hh=>by simp[NS,A]at hh,fun hh=>by first|(simp[SO,A]at hh;done)|(unfold SO at hh;rw[A]at hh;split at hh<;>simp_all),fun hh _=>by first|(simp[qf,A]at hh;done)|(unfold qf at hh;rw[A]at hh;split at hh<;>simp_all)⟩,J7 h⟩;rintro T0 B a w K F ⟨ad,hh,r⟩ hK;have hw:Region.wanted o.o (yielded ai.ops a.tmps)=true:=c8
 rw[if_pos hw];refine Lu r A hd I.1.1 I.2.1 I.2.2.1 I.2.2.2.1 I.2.2.2.2.1 I.2.2.2.2.2 (wm X) h3 (fun a' w' hr C=>hK a' w' ?_ C);obtain⟨X',aF,r'⟩:=hr;exact ar.ZA3 r' (by rw[U.xG,if_pos ⟨rfl,I.1.2⟩];rfl) h4.1 h4.2 h5.1 h5.2.1 h5.2.2 h6
attribute [simp] At.isP
theorem YJ.own(hs:YJ P f ax H):JT P f true ax H:=by
 refine⟨hs.1,fun T w au hT ha=>(hs.2 T w au hT ha).mono ?_⟩;rintro e w' ⟨vs,E,he,J,hf,hl,⟨aC,l,I,X,h3⟩⟩;refine⟨vs,E,fun b=>(w.heap.size<=b/\b<w'.heap.size)/\∀(k:Nat)(c:Value)(d:D),E.flatten[k]?=some c->H.flatten[k]?=some d->d.scalar=false->blk c≠some b,he,J,fun b J=>J.1,hf,T9 hl (fun k x d O hd=>?_),fun _=>⟨fun i c d b Z hd aG ab=>?_,fun i j c R d d' b Z hd an m aG af ab ak=>?_⟩⟩
 ·simp only[U6,if_true];have ho:=I k x d O hd
  cases ho with
  |int k n=>exact .int _ _
  |bool b=>exact .bool _
  |str s=>exact .str _
  |unk v h=>exact .unk _ h
  |sl v Q M S e' xs F ho hz aj aq hk N m=>
   refine⟨e',xs,ho,hz,Yn.ka aq (fun i y dd hy G=>(hk i y dd hy G).rd (fun b k' J=>.inr ⟨X k b (N i b J).1,fun k2 c2 d2 q ae C ad=>?_⟩))⟩;have ag:=I k2 c2 d2 q ae
   have ao:l k2 b:=by
    cases ag with
    |int k n=>cases C
    |bool b=>cases C
    |str s=>cases C
    |unk=>cases C
    |sl V ai ah A e2 W aa ag aH aD ay z ac Y=>exact aD b ad
   have:=h3 k k2 b (N i b J).1 ao;subst this;rw[O]at q;cases q;exact(N i b J).2 ad
 ·have ag:=I i c d Z hd;have ao:l i b:=by
   cases ag with
   |int k n=>cases aG
   |bool b=>cases aG
   |str s=>cases aG
   |unk=>cases aG
   |sl V ai ah A e2 W aa ag aH aD ay z ac Y=>exact aD b ab
  have:=X i b ao;exact⟨this.1,this.2,fun hy=>hy.2 i c d Z hd aG ab⟩
 ·have ao:∀(i:Nat)(c:Value)(d:D),E.flatten[i]?=some c->H.flatten[i]?=some d->d.scalar=false->blk c=some b->l i b:=by
   intro i c d Z hd aG ab;have ag:=I i c d Z hd
   cases ag with
   |int k n=>cases aG
   |bool b=>cases aG
   |str s=>cases aG
   |unk=>cases aG
   |sl V ai ah A e2 W aa ag aH aD ay z ac Y=>exact aD b ab
  exact h3 i j b (ao i c d Z hd aG ab) (ao j R d' an m af ak)
open Go.RowKit
def oM(σ:U)(F:List (Nat×Nat)):At->At
 |.O t j lo ae=>if bS F t j then(match σ.ob t j with|.arr _ s M=>.d (.sl s (cut M lo ae))|_=>.any)else .O t j lo ae
 |.ptr t j i c=>if bS F t j then .any else .ptr t j i c
 |.ac t j i c o=>if bS F t j then .any else .ac t j i c o
 |x=>x
def iT(σ:U)(F:List (Nat×Nat)):V->V
 |.one x=>.one (oM σ F x)
 |.agg xs=>.agg (xs.map (oM σ F))
 |.fix u (.one x)=>.fix u (.one (oM σ F x))
 |.fix u (.agg xs)=>.fix u (.agg (xs.map (oM σ F)))
 |_=>.any
def hH(σ:U)(F:List (Nat×Nat))(t j:Nat)(o:Ob):Ob:=
 if bS F t j then .none else match o with|.box C=>.box (C.map (oM σ F))|.lit _ _=>.none|o=>o
def fW(σ:U)(F:List (Nat×Nat))(t:Nat):List Ob->Nat->List Ob
 |[],_=>[]
 |o::aa,j=>hH σ F t j o::fW σ F t aa (j+1)
def o0(σ:U)(F:List (Nat×Nat)):List bD->Nat->List bD
 |[],_=>[]
 |e::A,t=>(iT σ F e.1,fW σ F t e.2 0)::o0 σ F A (t+1)
def U.frz(σ:U)(F:List (Nat×Nat)):U:=o0 σ F σ 0
attribute [simp] oM iT hH fW o0 U.frz
open Go.RowKit
variable{aP:List Ob}
abbrev ptr(b:Nat):Value:=.pointer (some ⟨b,0,none⟩)
abbrev lM(T:CS)(w:World)(au:List Value)(ax:List (List D)):Prop:=Yn (fun v ac=>∃C,yg v C/\Yn (Rd T w) C ac) au ax
def VC(n:Nat)(s:List (List D))(v:Value)(G:List At)(aP:List Ob)(am:List (List D)):U:=
 Lk s++(.fix v (.one (.Z s.length 0)),.box G::aP)::(Lk am++List.replicate (n-(s.length+1+am.length)) (V.any,[]))
theorem u0(am:List (List D))(m t:Nat):∃x,(match(Lk am++List.replicate m ((V.any,[]):bD))[t]? with|some e=>e|none=>(V.any,[]))=(x,[])/\(x= .any\/∃r,am[t]?=some r/\x=a2 (r.map .d)):=by
 rcases Nat.lt_or_ge t am.length with h|h
 ·rw[List.getElem?_append_left da,PL,List.getElem?_eq_getElem h];exact⟨_,rfl,.inr ⟨_,rfl,rfl⟩⟩
 ·rw[List.getElem?_append_right da,List.getElem?_replicate];refine⟨.any,?_,.inl rfl⟩;split
  ·rename_i e he;split at he
   ·cases he;rfl
   ·cases he
  ·rfl
theorem kl(n:Nat)(s:List (List D))(v:Value)(G:List At)(aP:List Ob)(am:List (List D))(t:Nat):
  (t=s.length/\(VC n s v G aP am)[t]?=some (.fix v (.one (.Z s.length 0)),.box G::aP))\/
  (t≠s.length/\(∀j,(VC n s v G aP am).ob t j= .none)/\((VC n s v G aP am).get t= .any\/∃r,(VC n s v G aP am).get t=a2 (r.map .d)/\((t<s.length/\s[t]?=some r)\/(s.length<t/\am[t-s.length-1]?=some r)))):=by
 rcases Nat.lt_trichotomy t s.length with h|h|h
 ·refine .inr ⟨Y,?_⟩;have:(VC n s v G aP am)[t]?=some (a2 (s[t].map .d),[]):=by unfold VC;rw[List.getElem?_append_left da,PL,List.getElem?_eq_getElem h];rfl
  refine⟨fun j=>by unfold U.ob;rw[this];simp[XG],.inr ⟨s[t],by unfold U.get;rw[this],.inl ⟨h,List.getElem?_eq_getElem h⟩⟩⟩
 ·refine .inl ⟨h,?_⟩;unfold VC;rw[List.getElem?_append_right (by rw[QX];omega),QX,h,Nat.sub_self];rfl
 ·refine .inr ⟨Y,?_⟩;have H:(VC n s v G aP am)[t]?=(Lk am++List.replicate (n-(s.length+1+am.length)) ((V.any,[]):bD))[t-s.length-1]?:=by unfold VC;rw[List.getElem?_append_right (by rw[QX];omega),QX,show t-s.length=(t-s.length-1)+1 by omega,List.getElem?_cons_succ];rfl
  obtain⟨x,O,hr⟩:=u0 am (n-(s.length+1+am.length)) (t-s.length-1);rw[<-H]at O;constructor
  ·intro j;unfold U.ob;cases hq:(VC n s v G aP am)[t]? with
   |none=>rfl
   |some e=>rw[hq]at O;simp only at O;rw[O];simp[XG]
  ·have hg:(VC n s v G aP am).get t=x:=by
    unfold U.get;cases hq:(VC n s v G aP am)[t]? with
    |none=>rw[hq]at O;simp only at O;injection O
    |some e=>rw[hq]at O;simp only at O;rw[O]
   rcases hr with rfl|⟨r,hr,rfl⟩
   ·exact .inl hg
   ·exact .inr ⟨r,hg,.inr ⟨h,hr⟩⟩
theorem oi{b:Nat}{s am:List (List D)}{G:List At}{g m:List Value}(hd:Nat->Hd)
  (hT:∀k i,T k i->k<w.heap.size/\k≠b/\¬S k) (L:∀k,S k->k<w.heap.size/\k≠b) (J:b<w.heap.size) (h0:hd 0=Hd.of (ptr b))
  (B:∀(h:Nat->Nat->Hd)(ai:Nat->Nat->Ob),(∀j,h s.length j=hd j)->(∀j,ai s.length j=XG (.box G::aP) j)->zR (ak T (fun _=>False)) h ai w (hd 0) (.box G))
  (ah:∀(h:Nat->Nat->Hd)(ai:Nat->Nat->Ob)(j:Nat),zR (ak T (fun _=>False)) h ai w (hd (j+1)) (XG aP j))
  (aM:∀j k,XG aP j≠ .none->blk (hd (j+1)).v=some k->(hd (j+1)).u k) (av:∀j k,XG aP j≠ .none->(hd (j+1)).u k->S k)
  (az:∀i j k,XG aP i≠ .none->XG aP j≠ .none->(hd (i+1)).u k->(hd (j+1)).u k->i=j) (a:lM T w g s) (o:lM T w m am):
  zh T (fun k=>k<w.heap.size/\k≠b/\¬S k) (VC n s (ptr b) G aP am) {tmps:=(g++ptr b::m).toArray++Array.replicate (n-(g++ptr b::m).toArray.size) undef,defers:=[]} w:=by
 have e:=a.length;have ay:=o.length;have aw:=kl n s (ptr b) G aP am;have an:∀j,(VC n s (ptr b) G aP am).ob s.length j=XG (.box G::aP) j:=by
  intro j;rcases aw s.length with⟨_,h⟩|⟨h,_⟩
  ·unfold U.ob;rw[h]
  ·exact absurd rfl h
 have c:∀t j,(VC n s (ptr b) G aP am).ob t j≠ .none->t=s.length:=by
  intro t j hn;rcases aw t with⟨h,_⟩|⟨_,h,_⟩
  ·exact h
  ·exact absurd (h j) hn
 have P:∀b k v,T b k->w.cell? ⟨b,k,none⟩=some v->w.cell? ⟨b,k,none⟩=some v/\ak T (fun _=>False) b k:=fun b k v J Z=>⟨Z,.inl J⟩;have af:∀k,(hd 0).u k↔k=b:=fun k=>by rw[h0];simp[Hd.of,blk,eq_comm]
 have V:∀j,XG (.box G::aP) j≠ .none->(j=0\/∃i,j=i+1/\XG aP i≠ .none):=by
  intro j hn;cases j with
  |zero=>exact .inl rfl
  |succ j=>exact .inr ⟨j,rfl,by rw[TN]at hn;exact hn⟩
 have aA:∀j k,XG (.box G::aP) j≠ .none->(hd j).u k->k=b\/S k:=by
  intro j k hn F;rcases V j hn with rfl|⟨i,rfl,hi⟩
  ·exact .inl ((af k).1 F)
  ·exact .inr (av i k hi F)
 have l:∀{au:List Value}{ax:List (List D)}{t:Nat}{r:List D},lM T w au ax->ax[t]?=some r->∃v,au[t]?=some v/\J8 (ak T (fun _=>False)) (fun t j=>if t=s.length then hd j else Hd.of undef) (VC n s (ptr b) G aP am).ob w (a2 (r.map .d)) v:=by intro au ax t r ha hr;obtain⟨v,hv,C,hf,aa⟩:=ha.get' t r hr;exact⟨v,hv,(HP hf (HE (aa.imp fun _ _=>Rd.mono P))).up⟩
 refine⟨fun _=>False,fun t j=>if t=s.length then hd j else Hd.of undef,?_⟩;refine⟨?_,rfl,(fun k hk=>hk.1),(fun b J=>J.elim),(fun k i hk=>hT k i hk),fun t ht=>?_,fun t j=>?_,fun t j k hn hk=>?_,fun t j k hn hk=>?_,fun t j t' j' k hn A hk aq=>?_⟩
 ·simp[VC,QX,e,ay];omega
 ·rcases aw t with⟨rfl,h⟩|⟨W,_,h⟩
  ·have d:((g++ptr b::m).toArray++Array.replicate (n-(g++ptr b::m).toArray.size) undef).getD s.length undef=ptr b:=by rw[Array.getD_eq_getD_getElem?,Array.getElem?_append_left a0];simp[<-e]
   rw[d];unfold U.get;rw[h];exact⟨rfl,rfl,fun N _=>⟨b,by simp[h0,Hd.of],rfl⟩⟩
  ·rcases h with h|⟨r,h,hr⟩
   ·rw[h];trivial
   ·rw[h];rcases hr with⟨ag,hr⟩|⟨ag,hr⟩
    ·obtain⟨v,hv,f⟩:=l a hr;have d:((g++ptr b::m).toArray++Array.replicate (n-(g++ptr b::m).toArray.size) undef).getD t undef=v:=by rw[Array.getD_eq_getD_getElem?,Array.getElem?_append_left a0];simp[List.getElem?_append_left (show t<g.length by omega),hv]
     simp only[d];exact f
    ·obtain⟨v,hv,f⟩:=l o hr;have ar:=(List.getElem?_eq_some_iff.1 hv).1
     have d:((g++ptr b::m).toArray++Array.replicate (n-(g++ptr b::m).toArray.size) undef).getD t undef=v:=by rw[Array.getD_eq_getD_getElem?,Array.getElem?_append_left a0];simp only[List.getElem?_toArray];rw[List.getElem?_append_right Y,show t-g.length=(t-s.length-1)+1 by omega,List.getElem?_cons_succ,hv];rfl
     simp only[d];exact f
 ·by_cases hn:(VC n s (ptr b) G aP am).ob t j= .none
  ·rw[hn];trivial
  ·obtain rfl:=c t j hn;rw[an];simp only[if_true];cases j with
   |zero=>exact B _ _ (fun j=>ab) an
   |succ j=>rw[TN];exact ah _ _ j
 ·obtain rfl:=c t j hn;rw[an]at hn;simp only[if_true]at hk⊢;rcases V j hn with rfl|⟨i,rfl,hi⟩
  ·rw[h0]at hk⊢;exact hk
  ·exact aM i k hi hk
 ·obtain rfl:=c t j hn;rw[an]at hn;simp only[if_true]at hk;rcases aA j k hn hk with rfl|hs
  ·exact⟨fun hh=>hh.2.1 rfl,fun hh=>hh,J⟩
  ·exact⟨fun hh=>hh.2.2 hs,fun hh=>hh,(L k hs).1⟩
 ·obtain rfl:=c t j hn;obtain rfl:=c t' j' A;rw[an]at hn A;simp only[if_true]at hk aq;refine⟨rfl,?_⟩;rcases V j hn with rfl|⟨i,rfl,hi⟩
  ·rcases V j' A with rfl|⟨i',rfl,ap⟩
   ·rfl
   ·exact absurd ((af k).1 hk) (L k (av i' k ap aq)).2
  ·rcases V j' A with rfl|⟨i',rfl,ap⟩
   ·exact absurd ((af k).1 aq) (L k (av i k hi hk)).2
   ·rw[az i i' k hi ap hk aq]
open Go.RowKit
open Go.RowKit
theorem nZ{ai:Nat->Nat->Ob}(hr:zR T h ai w hd (.arr true Q M))(hf:∀r∈M,∀x∈r,x.scalar=true):zR T h ai w hd (.arr false Q M):=by
 obtain⟨e,xs,ho,hz,⟨hl,l,hk,_,_⟩,_⟩:=hr;refine⟨e,xs,ho,hz,Yn.ka hl (fun k x d O hd=>?_)⟩;obtain⟨r0,ah,L⟩:=List.mem_flatten.1 (List.mem_of_getElem? hd);have aG:=hf r0 ah d L
 have:=hk k x d O hd;cases this with
 |int k n=>exact .int _ _
 |bool b=>exact .bool _
 |str s=>exact .str _
 |unk v h=>exact .unk _ h
 |sl=>cases aG
def oe(a:Bool)(σ:U)(d:Nat)(H:List (List D))(qs:List Bool):U:=match a with|true=>σ.new d (Px d H) (Yg qs H.flatten)|false=>σ.put d (VO H)
section
attribute [simp] oe
end
open Go.RowKit
variable{qs:List Bool}{aV:Array Value}
def gz(w:World)(S:Nat->Prop)(b:Nat)(aB:List D)(e:Ending)(w':World):Prop:=
 e= .returned (.tuple #[])/\Xl (fun k=>k<w.heap.size/\k≠b/\¬S k) w w'/\∃C e',w'.heap[b]?=some (.cells C e' (0,0))/\zq w' C.toList aB (fun k=>(S k\/(w.heap.size<=k/\k<w'.heap.size))/\k≠b)
def D3(P:Program)(f:FuncId)(ax:List (List D))(ac aB:List D):Prop:=
 R7 P f=true/\∀(T:CS)(S:Nat->Prop)(w:World)(b:Nat)(au:List Value),(∀k i,T k i->k<w.heap.size/\k≠b/\¬S k)->(∀k,S k->k<w.heap.size/\k≠b)->b<w.heap.size->
  (∃C e,w.heap[b]?=some (.cells C e (0,0))/\zq w C.toList ac S)->lM T w au ax->Calls P f (au++[ptr b]).toArray w (gz w S b aB)
def gg(P:Program)(fn:Func)(p:Nat)(v:Value)(aB:List D)(e:Exit)(σ:U):Prop:=
 (e= .ret\/e= .normal)/\MF P σ fn.results.toList []/\∃aK aP,σ[p]?=some (.fix v (.one (.Z p 0)),.box aK::aP)/\JA σ aK=some aB/\QO σ aK/\(Yp aK).Nodup
def ht(w:World)(S:Nat->Prop)(X:Nat)(az:List (List D))(e:Ending)(w':World):Prop:=
 ∃u,e= .returned u/\Xl (fun k=>k<w.heap.size/\¬S k) w w'/\aZ w' u (.sl X az) (fun k=>S k\/(w.heap.size<=k/\k<w'.heap.size))
def CM(P:Program)(f:FuncId)(X:Nat)(M:List (List D))(ax:List (List D))(az:List (List D)):Prop:=
 R7 P f=true/\∀(T:CS)(S:Nat->Prop)(w:World)(v:Value)(au:List Value),(∀k i,T k i->k<w.heap.size/\¬S k)->(∀k,S k->k<w.heap.size)->aZ w v (.sl X M) S->
  lM T w au ax->Calls P f (v::au).toArray w (ht w S X az)
def gh(P:Program)(fn:Func)(X:Nat)(az:List (List D))(e:Exit)(σ:U):Prop:=
 (e= .ret\/e= .normal)/\∃x,MF P σ fn.results.toList [[x]]/\JA σ [x]=some [.sl X az]/\QO σ [x]
def eW(n X:Nat)(M:List (List D))(ax:List (List D)):U:=(.one (.O 0 0 0 M.length),[.arr false X M])::(Lk ax++List.replicate (n-(ax.length+1)) (V.any,[]))
def At.isO(u:Nat):At->Bool
 |.O t _ _ _=>t==u
 |.ptr t _ _ _=>t==u
 |.ac t _ _ _ _=>t==u
 |_=>false
def yZ(M:List (List D)):Prop:=∀r∈M,∀x∈r,x.scalar=true
theorem hb{ac:List D}(hq:Uz qs ac)(k4:∀j Q M,ac[j]?=some (.sl Q M)->∀T h ai,zR T h ai w (hf j) (.arr true Q M))(T:CS)(ai:Nat->Nat->Ob)(j:Nat):zR T h ai w (hf j) (XG (Yg qs ac) j):=by
 by_cases W:XG (Yg qs ac) j= .none
 ·rw[W];trivial
 ·obtain⟨Q,M,hj⟩:=(Xu qs ac j hq).2 W;obtain⟨q,z,Y⟩:=(Xu qs ac j hq).1 Q M hj;rw[z];have:=k4 j Q M hj T h ai
  cases q with
  |true=>exact this
  |false=>exact nZ this (Y rfl)
theorem vk{c:Code}(hf:P.funcs[f]?=some fn)(J:fn.body=some c)(ap:R7 P f=true){ac:List D}(qs:List Bool)(hq:Uz qs ac)
  (hw:∀v,a3 P c (gg P fn ax.length v aB) (VC fn.ntmps ax v (Qt ax.length 1 ac) (Yg qs ac) [])):D3 P f ax ac aB:=by
 refine⟨ap,fun T S w b au hT L aj ⟨u,e0,av,N⟩ al=>calls_of_wp hf J ?_⟩;obtain⟨aL,l,k1,k2,k3,k4⟩:=As N;have C:=oi (w:=w) (T:=T) (S:=S) (n:=fn.ntmps) (b:=b) (s:=ax) (am:=[]) (G:=Qt ax.length 1 ac) (aP:=Yg qs ac) (g:=au) (m:=[]) (fun j=>match j with|0=>Hd.of (ptr b)|j+1=>aL j)
  hT L aj rfl (fun h ai hh ao=>⟨b,u,e0,rfl,av,Pw N.top (fun i Q M hi=>by
    obtain⟨q,z,_⟩:=(Xu qs ac i hq).1 Q M hi;exact⟨q,by rw[ao,Nat.add_comm,TN];exact z⟩) (fun i c Z=>by rw[hh,Nat.add_comm];exact k1 i c Z)⟩)
  (fun h ai j=>hb hq (fun j Q M hj=>(k4 j Q M hj).2.2) _ _ j)
  (fun j k hn hk=>by
   obtain⟨Q,M,hj⟩:=(Xu qs ac j hq).2 hn;exact(k4 j Q M hj).2.1 k hk)
  (fun j k hn hk=>by
   obtain⟨Q,M,hj⟩:=(Xu qs ac j hq).2 hn;exact k2 j k ((k4 j Q M hj).1 k hk))
  (fun i j k hn A hk aq=>by
   obtain⟨Q,M,hj⟩:=(Xu qs ac i hq).2 hn;obtain⟨aN,az,ay⟩:=(Xu qs ac j hq).2 A;exact k3 i j k ((k4 i Q M hj).1 k hk) ((k4 j aN az ay).1 k aq)) al .nil
 refine wp_mono (hw (ptr b) T _ _ w C) ?_;rintro e a' w' ⟨σ',⟨he,K,aK,aP,aw,Y,aC,aE⟩,⟨ad,h,r⟩,ab⟩;obtain⟨vs,E,aH,aT,aa⟩:=SC r K;cases aa;cases aT;have aQ:ax.length<σ'.length:=(List.getElem?_eq_some_iff.1 aw).1
 have aS:σ'.get ax.length= .fix (ptr b) (.one (.Z ax.length 0)):=by unfold U.get;rw[aw]
 have af:σ'.ob ax.length 0= .box aK:=by unfold U.ob;rw[aw];rfl
 have ah:=r.slot _ aQ;rw[aS]at ah;obtain⟨ak,B⟩:=ah;obtain⟨b1,aJ,aI⟩:=B.2 _ af;rw[ak]at aI;have aA:b1=b:=by injection aI with aI;injection aI with aI;injection aI with aI;exact aI.symm
 subst aA;have V:=r.obj ax.length 0
 rw[af]at V;obtain⟨b2,aV,e',aD,aF,y⟩:=V;rw[aJ]at aD;have aA:b2=b1:=gp
 subst aA;have aM:=r.c ax.length 0 b2 (by rw[af];simp) (by rw[aJ];rfl)
 have o:a'.defers=[]/\∃v,(results fn a'.tmps).run P w'= .ok v w'/\gz w S b2 aB (.returned v) w':=by
  refine⟨r.defers,_,aH,rfl,ab,aV,e',aF,(PG r y Y aC aE).mono (fun k hk=>?_)⟩;have hg:=r.zZ _ k hk
  have W:k≠b2:=by rintro rfl;obtain⟨p,hp,W,F⟩:=hk;obtain⟨H,e2⟩:=r.inj p.1 p.2 ax.length 0 k W (by rw[af];simp) F aM;obtain⟨i,lo,ae,O⟩:=Ni hp;obtain⟨d,hd,t⟩:=(Yn.get (R:=fun x d=>a6 σ' x=some d) (Yn.ka (TT Y).1 (fun i a b I X=>(TT Y).2 i a b I X)) i _ O);rw[H,e2]at t;simp[a6,af]at t
  refine⟨?_,W⟩;by_cases hs:S k
  ·exact .inl hs
  ·refine .inr ⟨?_,hg.2.2.1⟩;rcases Nat.lt_or_ge k w.heap.size with ag|aG
   ·exact absurd ⟨ag,W,hs⟩ hg.1
   ·exact aG
 rcases he with rfl|rfl
 ·exact o
 ·exact o
theorem ar.ZCS(r:ar T0 B σ a w ad h){b:Nat}{G:List At}(ho:σ.ob u 0= .box G)(hv:(h u 0).v=ptr b)(ag:u<σ.length)(al C:Nat->Prop)(aI:w.heap.size<=w'.heap.size)(hw:∀k,k<w.heap.size->k≠b->¬al k->w'.heap[k]?=w.heap[k]?)
  (hm:∀k,al k->¬B k/\¬ad k/\∀t j,σ.ob t j≠ .none->¬(h t j).u k) (ah:(σ.Yj u 0 .none).zX (At.isO u)=false) (hq:Uz qs aB) {e':TypeId} (aF:w'.heap[b]?=some (.cells aV e' (0,0)))
  (av:zq w' aV.toList aB C) (aA:∀k,C k->(w.heap.size<=k\/al k)/\k<w'.heap.size/\k≠b):zh T0 B (σ.new u (σ.get u) (.box (Qt u 1 aB)::Yg qs aB)) a w':=by
 have ao:σ.ob u 0≠ .none:=bv;have aS:blk (h u 0).v=some b:=by rw[hv];rfl
 have aM:=r.c u 0 b ao aS;have au:=r.own u 0 b ao aM;obtain⟨aL,l,k1,k2,k3,k4⟩:=As av;generalize hσ:σ.new u (σ.get u) (.box (Qt u 1 aB)::Yg qs aB)=σ2;have F:∀j,σ2.ob u j=XG (.box (Qt u 1 aB)::Yg qs aB) j:=fun j=>by rw[<-hσ,U.xG];simp[ag]
 have H:∀t j,t≠u->σ2.ob t j=σ.ob t j:=fun t j W=>by rw[<-hσ,U.xG,if_neg (fun hh=>W hh.1)]
 have am:∀t,σ2.get t=σ.get t:=by
  intro t;rw[<-hσ,U.P7];split
  ·rename_i hh;rw[hh.1]
  ·rfl
 have aC:σ2.length=σ.length:=by rw[<-hσ,U.Rz]
 let m:Nat->Hd:=fun j=>match j with|0=>h u 0|j+1=>aL j
 let h':Nat->Nat->Hd:=fun t j=>if t=u then m j else h t j
 have hT:∀k i v,ak T0 ad k i->w.cell? ⟨k,i,none⟩=some v->w'.cell? ⟨k,i,none⟩=some v/\ak T0 ad k i:=by
  intro k i v hk Z;refine⟨?_,hk⟩;have W:k≠b:=by
   rintro rfl;rcases hk with hk|hk
   ·exact au.1 (r.f _ _ hk)
   ·exact au.2.1 hk
  have aj:¬al k:=by
   intro aa;rcases hk with hk|hk
   ·exact(hm k aa).1 (r.f _ _ hk)
   ·exact(hm k aa).2.1 hk
  rw[World.cell?_of_block (hw k (r.Tlt hk) W aj)];exact Z
 have ac:∀{x:At}{v:Value},At.isO u x=false->Ys (ak T0 ad) h σ.ob w x v->Ys (ak T0 ad) h' σ2.ob w' x v:=by
  intro x v R E;cases x with
  |any=>exact E
  |d x=>exact Rd.mono hT E
  |nil s=>exact E
  |O t j lo ae=>
   have W:t≠u:=by simpa[At.isO]using R
   simp only[Ys,h',if_neg W,H t j W];exact E
  |ptr t j i c=>
   have W:t≠u:=by simpa[At.isO]using R
   simp only[Ys,h',if_neg W,H t j W];exact E
  |ac t j i c o=>
   have W:t≠u:=by simpa[At.isO]using R
   simp only[Ys,h',if_neg W,H t j W];exact E
  |Z t c=>
   by_cases Z:t=u
   ·subst Z;refine⟨E.1,fun N _=>?_⟩;simp only[h',if_true,m];exact E.2 _ ho
   ·simp only[Ys,h',if_neg Z,H t 0 Z];exact E
  |fn f t=>
   by_cases Z:t=u
   ·subst Z;refine⟨E.1,fun N _=>?_⟩;simp only[h',if_true,m];exact E.2 _ ho
   ·simp only[Ys,h',if_neg Z,H t 0 Z];exact E
  |am rr c=>obtain⟨b,aw,g,e,hk⟩:=E;exact⟨b,aw,g,e,fun k d hd=>⟨(hT _ _ _ (hk k d hd).2.1 (hk k d hd).1).1,(hk k d hd).2.1,Rd.mono hT (hk k d hd).2.2⟩⟩
 have V:∀j,XG (.box (Qt u 1 aB)::Yg qs aB) j≠ .none->j=0\/∃i Q M,j=i+1/\aB[i]?=some (.sl Q M):=by
  intro j hn;cases j with
  |zero=>exact .inl rfl
  |succ j=>rw[TN]at hn;obtain⟨Q,M,hj⟩:=(Xu qs aB j hq).2 hn;exact .inr ⟨j,Q,M,rfl,hj⟩
 have af:∀k,(h u 0).u k->k<w.heap.size/\¬al k/\¬B k/\¬ad k:=fun k hk=>⟨(r.own u 0 k ao hk).2.2,fun aa=>(hm k aa).2.2 u 0 ao hk,(r.own u 0 k ao hk).1,(r.own u 0 k ao hk).2.1⟩;have ab:∀i Q M k,aB[i]?=some (.sl Q M)->(aL i).u k->(w.heap.size<=k\/al k)/\k<w'.heap.size/\k≠b:=fun i Q M k hi hk=>aA k (k2 i k ((k4 i Q M hi).1 k hk));have ax:∀t j,t≠u->σ.ob t j≠ .none->∀k,(h t j).u k->w'.heap[k]?=w.heap[k]?:=by intro t j W hn k hk;refine hw k (r.own t j k hn hk).2.2 ?_ (fun aa=>(hm k aa).2.2 t j hn hk);rintro rfl;exact W (r.inj t j u 0 k hn ao hk aM).1
 refine⟨ad,h',by rw[r.size,aC],r.defers,fun k hk=>Nat.lt_of_lt_of_le (r.d k hk) aI,fun k hk=>⟨(r.e k hk).1,Nat.lt_of_lt_of_le (r.e k hk).2 aI⟩,r.f,fun t ht=>?_,fun t j=>?_,fun t j k hn hk=>?_,fun t j k hn hk=>?_,fun t j t' j' k hn A hk aq=>?_⟩
 ·rw[aC]at ht;rw[am];have hp:(σ.get t).zX (At.isO u)=false:=by have:=U.Nh ah t;rwa[U.JI]at this
  exact J8.map ac hp (r.slot t ht)
 ·by_cases Z:t=u
  ·subst Z;rw[F];cases j with
   |zero=>
    simp only[h',if_true,m,pM];exact⟨b,aV,e',hv,aF,Pw av.top (fun i Q M hi=>by
     obtain⟨q,z,_⟩:=(Xu qs aB i hq).1 Q M hi;exact⟨q,by rw[F,Nat.add_comm,TN];exact z⟩) (fun i c Z=>by simp only[if_true,Nat.add_comm 1 i];exact k1 i c Z)⟩
   |succ j=>simp only[h',if_true,m,TN];exact hb hq (fun j Q M hj=>(k4 j Q M hj).2.2) _ _ j
  ·rw[H t j Z];simp only[h',if_neg Z];by_cases hn:σ.ob t j= .none
   ·rw[hn];trivial
   ·have hp:xM (At.isO u) [σ.ob t j]=false:=by have:=U.HQ ah t j;rwa[U.O3,if_neg (fun hh=>Z hh.1)]at this
    exact zR.map ac hT (fun ho b=>r.c t j b ho) (fun hn k hk=>ax t j Z hn k hk) hp (r.obj t j)
 ·by_cases Z:t=u
  ·subst Z;rw[F]at hn;rcases V j hn with rfl|⟨i,Q,M,rfl,hi⟩
   ·simp only[h',if_true,m]at hk⊢;exact r.c t 0 k ao hk
   ·simp only[h',if_true,m]at hk⊢;exact(k4 i Q M hi).2.1 k hk
  ·rw[H t j Z]at hn;simp only[h',if_neg Z]at hk⊢;exact r.c t j k hn hk
 ·by_cases Z:t=u
  ·subst Z;rw[F]at hn;rcases V j hn with rfl|⟨i,Q,M,rfl,hi⟩
   ·simp only[h',if_true,m]at hk;have:=af k hk;exact⟨this.2.2.1,this.2.2.2,Y⟩
   ·simp only[h',if_true,m]at hk;have:=ab i Q M k hi hk
    rcases this.1 with I|I
    ·exact⟨fun J=>by have:=r.d k J;omega,fun O=>by have:=(r.e k O).2;omega,this.2.1⟩
    ·exact⟨(hm k I).1,(hm k I).2.1,this.2.1⟩
  ·rw[H t j Z]at hn;simp only[h',if_neg Z]at hk;have:=r.own t j k hn hk;exact⟨this.1,this.2.1,Y⟩
 ·have ai:∀t j i k,t≠u->σ.ob t j≠ .none->(h t j).u k->XG (.box (Qt u 1 aB)::Yg qs aB) i≠ .none->(m i).u k->False:=by
   intro t j i k W hn hk A aq;rcases V i A with rfl|⟨i,Q,M,rfl,hi⟩
   ·exact W (r.inj t j u 0 k hn ao hk aq).1
   ·have I:=ab i Q M k hi aq;have X:=r.own t j k hn hk;rcases I.1 with h3|h3
    ·omega
    ·exact(hm k h3).2.2 t j hn hk
  by_cases Z:t=u
  ·by_cases an:t'=u
   ·subst Z;subst an;rw[F]at hn A;simp only[h',if_true]at hk aq;refine⟨rfl,?_⟩;rcases V j hn with rfl|⟨i,Q,M,rfl,hi⟩
    ·rcases V j' A with rfl|⟨i',aN,az,rfl,ap⟩
     ·rfl
     ·have I:=af k hk;have X:=ab i' aN az k ap aq;rcases X.1 with h3|h3
      ·omega
      ·exact absurd h3 I.2.1
    ·rcases V j' A with rfl|⟨i',aN,az,rfl,ap⟩
     ·have I:=af k aq;have X:=ab i Q M k hi hk;rcases X.1 with h3|h3
      ·omega
      ·exact absurd h3 I.2.1
     ·rw[k3 i i' k ((k4 i Q M hi).1 k hk) ((k4 i' aN az ap).1 k aq)]
   ·subst Z;rw[F]at hn;rw[H t' j' an]at A;simp only[h',if_true,if_neg an]at hk aq;exact(ai t' j' j k an A aq hn hk).elim
  ·rw[H t j Z]at hn;simp only[h',if_neg Z]at hk;by_cases an:t'=u
   ·subst an;rw[F]at A;simp only[h',if_true]at aq;exact(ai t j j' k Z hn hk A aq).elim
   ·rw[H t' j' an]at A;simp only[h',if_neg an]at aq;exact r.inj t j t' j' k hn A hk aq
open Go.RowKit
theorem B8{o:Oper}{x:Value}(A:o.op= .call c)(Z:c.callee= .value (.tmp t))(hv:a.tmps.getD t undef= .func (.func f) #[] #[x])(hf:R7 P f=true):
  (execOp a.eval o).run P w= .ok (.enter f (c.args.toList.map a.eval++[x]).toArray) w:=by
 unfold R7 at hf;split at hf
 ·rename_i fn j;simp only[Bool.and_eq_true,bne_iff_ne,ne_eq]at hf;obtain⟨b,J⟩:=Option.isSome_iff_exists.1 hf.1;obtain⟨p,ax,aK⟩:=c;simp only at Z;subst Z;have hm:(ax.toList.map a.eval++[x]).toArray=ax.map a.eval++#[x]:=by apply Array.toList_inj.1;simp
  have he:a.eval (.tmp t)= .func (.func f) #[] #[x]:=hv;rw[hm];simp[execOp,A,resolve,he,Deferred.ofValue,invoke,callFunc,j,hf.2,J]
 ·cases hf
theorem lW(r:ar T0 B σ a w ad h){o:Oper}{ac:List D}{G:List At}(qs:List Bool)(A:o.op= .call cl)(Z:cl.callee= .value (.tmp tf))(O:σ.get tf= .one (.fn f u))(ho:σ.ob u 0= .box G)(ag:u<σ.length)
  (al:JD P σ cl.args.toList cl.argTypes.toList aH) (au:Yz P σ cl.args.toList cl.argTypes.toList=true) (hs:D3 P f aH ac aB) (Y:JA σ G=some ac) (aC:QO σ G) (aE:(Yp G).Nodup) (n:(u,0)∉Yp G)
  (ah:((σ.YI (Yp G)).Yj u 0 .none).zX (At.isO u)=false) (hq:Uz qs aB)
  (hK:∀a' w',zh T0 B (match o.dst with|some d=>((σ.YI (Yp G)).new u (σ.get u) (.box (Qt u 1 aB)::Yg qs aB)).put d .any|none=>(σ.YI (Yp G)).new u (σ.get u) (.box (Qt u 1 aB)::Yg qs aB)) a' w'->Xl B w w'->K a' w'):o.wp P a w K af:=by
 have ao:σ.ob u 0≠ .none:=bv;have j:=r.get tf;rw[O]at j;obtain⟨b,aJ,hv⟩:=j.2 _ ho;have V:=r.obj u 0;rw[ho]at V;obtain⟨b2,C,e,aD,hh,aa⟩:=V;rw[aJ]at aD;have aA:b2=b:=gp;subst aA;have aM:=r.c u 0 b2 ao (by rw[aJ];rfl);have av:=r.own u 0 b2 ao aM;have g:=r.JD true al (fun _=>au);simp only[if_true]at g;have c:∀k,zO σ h (Yp G) k->k<w.heap.size/\k≠b2:=by rintro k ⟨p,hp,W,F⟩;refine⟨(r.own _ _ k W F).2.2,?_⟩;rintro rfl;obtain⟨H,e2⟩:=r.inj p.1 p.2 u 0 k W ao F aM;exact n (by rw[<-H,<-e2];exact hp)
 have aR:=r.zZ (Yp G);have hT:∀k i,ak T0 ad k i->k<w.heap.size/\k≠b2/\¬zO σ h (Yp G) k:=by
  intro k i hk;refine⟨r.Tlt hk,?_,fun hg=>?_⟩
  ·rintro rfl;rcases hk with hk|hk
   ·exact av.1 (r.f _ _ hk)
   ·exact av.2.1 hk
  ·rcases hk with hk|hk
   ·exact(aR k hg).1 (r.f _ _ hk)
   ·exact(aR k hg).2.1 hk
 unfold Oper.wp;rw[B8 A Z hv hs.1,Oper.upon_enter];refine(hs.2 (ak T0 ad) (zO σ h (Yp G)) w b2 _ hT c av.2.2 ⟨C,e,hh,PG r aa Y aC aE⟩ g).mono ?_;rintro e' w' ⟨rfl,ab,aV,e2,aF,a1⟩;have r1:=r.YI (Yp G)
 have q:(σ.YI (Yp G)).ob u 0= .box G:=by rw[U.yU,if_neg n,ho]
 have R:=r1.ZCS (w':=w') (aB:=aB) (qs:=qs) q aJ (by rw[U.z7];exact ag) (zO σ h (Yp G)) _ ab.size (fun k hk W hg=>ab.block k ⟨hk,W,hg⟩) (fun k hk=>⟨(aR k hk).1,(aR k hk).2.1,(aR k hk).2.2.2⟩) ah hq aF a1 (fun k hk=>⟨hk.1.elim .inr (fun I=>.inl I.1),by
  rcases hk.1 with I|I
  ·have:=(c k I).1;have:=ab.size;omega
  ·exact I.2,hk.2⟩)
 rw[U.jD]at R;have aI:Xl B w w':=⟨ab.os,ab.tape,ab.output,ab.size,fun k hk=>ab.block k ⟨r.d k hk,fun e=>av.1 (e▸hk),fun hg=>(aR k hg).1 hk⟩⟩
 cases hd:o.dst with
 |none=>rw[hd]at hK;exact hK _ _ R aI
 |some d=>rw[hd]at hK;obtain⟨m,X,l⟩:=R;exact hK _ _ ⟨m,X,l.put d .any _ trivial⟩ aI
theorem kw(r:ar T0 B σ a w ad h){o:Oper}(A:o.op= .makeFunc (.func f) #[] #[x])(hd:o.dst=some d)(hg:am (look P σ 0 x)=true)(O:unc (look P σ 0 x)= .one (.Z t 0)){G:List At}(ho:σ.ob t 0= .box G)
  (hK:∀a' w',zh T0 B (σ.put d (.one (.fn f t))) a' w'->Xl B w w'->K a' w'):o.wp P a w K af:=by
 have ay:=r.arg (P:=P) 0 x O hg;obtain⟨b,aJ,hv⟩:=ay.2 _ ho;exact P3 (v:=.one (.fn f t)) r hd ⟨.func (.func f) #[] #[a.eval x],by simp[execOp,A,Instr.makeFunc],⟨rfl,fun N _=>⟨b,aJ,by rw[hv]⟩⟩⟩ hK
theorem ar.dw{x:V}{s:Nat}(r:ar T0 B ((.fix v x,[.arr true s M])::σ) a w ad h)(hf:yZ M)(hp:U.zX At.Er ((.fix v x,[.arr true s M])::σ)=false):ar T0 B ((x,[.arr false s M])::σ) a w ad h:=by
 have an:U.ob ((x,[.arr false s M])::σ) 0 0= .arr false s M:=rfl;have ao:∀t j,¬(t=0/\j=0)->U.ob ((x,[.arr false s M])::σ) t j=U.ob ((.fix v x,[.arr true s M])::σ) t j:=by
  intro t j W;cases t with
  |zero=>cases j with
   |zero=>exact absurd ⟨rfl,rfl⟩ W
   |succ j=>rfl
  |succ t=>rw[U.oY,U.oY]
 have l:∀t j,U.ob ((x,[.arr false s M])::σ) t j≠ .none->U.ob ((.fix v x,[.arr true s M])::σ) t j≠ .none:=by
  intro t j hn;by_cases Z:t=0/\j=0
  ·obtain⟨rfl,rfl⟩:=Z;intro hh;cases hh
  ·rwa[ao t j Z]at hn
 have ac:∀{y:At}{u:Value},At.Er y=false->Ys (ak T0 ad) h (U.ob ((.fix v x,[.arr true s M])::σ)) w y u->Ys (ak T0 ad) h (U.ob ((x,[.arr false s M])::σ)) w y u:=by
  intro y u F m;cases y with
  |any=>exact m
  |d z=>exact m
  |nil q=>exact m
  |O t j lo ae=>
   by_cases Z:t=0/\j=0
   ·obtain⟨rfl,rfl⟩:=Z;exact⟨m.1,fun q Q C hq=>by rw[an]at hq;cases hq;exact m.2.1 _ _ _ rfl,fun Q C hq=>by rw[an]at hq;cases hq⟩
   ·simp only[Ys,ao t j Z];exact m
  |ptr t j i c=>
   by_cases Z:t=0/\j=0
   ·obtain⟨rfl,rfl⟩:=Z;exact⟨m.1,fun q Q C hq=>by rw[an]at hq;cases hq;exact m.2 _ _ _ rfl⟩
   ·simp only[Ys,ao t j Z];exact m
  |ac t j i c o=>cases F
  |Z t c=>
   by_cases Z:t=0
   ·subst Z;exact⟨m.1,fun G hq=>by rw[an]at hq;cases hq⟩
   ·simp only[Ys,ao t 0 (fun hh=>Z hh.1)];exact m
  |fn f t=>
   by_cases Z:t=0
   ·subst Z;exact⟨m.1,fun G hq=>by rw[an]at hq;cases hq⟩
   ·simp only[Ys,ao t 0 (fun hh=>Z hh.1)];exact m
  |am rr c=>exact m
 refine⟨by simpa using r.size,r.defers,r.d,r.e,r.f,fun t ht=>?_,fun t j=>?_,fun t j k hn=>r.c t j k (l t j hn),fun t j k hn=>r.own t j k (l t j hn),fun t j t' j' k hn A=>r.inj t j t' j' k (l t j hn) (l t' j' A)⟩
 ·have hs:=r.slot t (by simpa using ht);have E:=U.Nh hp t;cases t with
  |zero=>have N:J8 (ak T0 ad) h (U.ob ((.fix v x,[.arr true s M])::σ)) w (.fix v x) (a.tmps.getD 0 undef):=hs;have H:V.zX At.Er (.fix v x)=false:=E;refine(J8.map ac (x:=x) ?_ N.2.up);cases x<;>first|exact H|rfl|exact N.2.elim
  |succ t=>rw[U.lk]at hs E⊢;exact J8.map ac E hs
 ·by_cases Z:t=0/\j=0
  ·obtain⟨rfl,rfl⟩:=Z;rw[an];exact nZ (h:=h) (ai:=U.ob ((x,[.arr false s M])::σ)) (r.obj 0 0) hf
  ·rw[ao t j Z];exact zR.map ac (fun k i v hk Z=>⟨Z,hk⟩) (fun ho k=>r.c t j k ho) (fun _ _ _=>rfl) (U.HQ hp t j) (r.obj t j)
theorem pG:∀(ax:List (List D))(m:Nat),U.zX At.Er (Lk ax++List.replicate m (V.any,[]))=false
 |[],m=>by
  induction m with
  |zero=>rfl
  |succ m ih=>simpa[List.replicate_succ,Lk,U.zX,V.zX,V.tP,xM]using ih
 |r::rs,m=>by
  have ih:=pG rs m;have I:∀(l:List D),Sv At.Er (l.map .d)=false:=fun l=>by induction l with
   |nil=>rfl
   |cons x l ih=>simpa[Sv,At.Er]using ih
  have:V.zX At.Er (a2 (r.map .d))=false:=by
   match r with
   |[]=>rfl
   |[x]=>rfl
   |x::y::l=>exact I (x::y::l)
  simp only[Lk,List.cons_append,U.zX,this,xM,ih,Bool.or_false]
theorem tg{c:Code}(hf:P.funcs[f]?=some fn)(J:fn.body=some c)(ap:R7 P f=true)(aJ:yZ M)
  (hw:a3 P c (gh P fn X az) (eW fn.ntmps X M ax)):CM P f X M ax az:=by
 refine⟨ap,fun T S w v au hT L av al=>calls_of_wp hf J ?_⟩;have ah:v.oneCell'=true:=av.Qe
 have g:zq w [v] [D.sl X M] S:=⟨rfl,fun k b=>k=0/\S b,fun k x dd O G=>by
   cases k with
   |zero=>simp at O G;subst O;subst G;exact av.mono (fun b J=>⟨rfl,J⟩)
   |succ k=>simp at O,fun k b J=>J.2,fun p q b hp hq=>by rw[hp.1,hq.1]⟩
 obtain⟨a,h0,r0⟩:=oJ (n:=fn.ntmps) hT L (.inl ⟨v,rfl,rfl,ah⟩) g al;have r1:ar T (fun b=>b<w.heap.size/\¬S b) (eW fn.ntmps X M ax) _ w a h0:=ar.dw (x:=.one (.O 0 0 0 M.length)) (s:=X) r0 aJ (by
  have:=pG ax (fn.ntmps-(ax.length+1));simp only[U.zX,V.zX,V.tP,At.Er,xM,this,Bool.or_false])
 refine wp_mono (hw T _ _ w ⟨a,h0,r1⟩) ?_;rintro e a' w' ⟨σ',⟨he,x,K,Y,aC⟩,⟨ad,h,r⟩,ab⟩;obtain⟨vs,E,aH,aT,aa⟩:=SC r K;cases aa with
 |cons I aa=>
  cases aa;cases I with
  |@cons _ c0 _ _ O I=>
   cases I;cases aT with
   |@cons v0 _ _ _ F hn=>
    cases hn;have aL:v0=c0:=by
     rcases F with⟨R,an,rfl,_⟩|⟨hn,_⟩
     ·cases an;rfl
     ·simp at hn
    subst aL;have aE:(Yp [x]).Nodup:=by cases x<;>simp[Yp]
    have d:=PG r (.cons O .nil) Y aC aE;have o:a'.defers=[]/\∃v,(results fn a'.tmps).run P w'= .ok v w'/\ht w S X az (.returned v) w':=by
     refine⟨r.defers,_,aH,v0,rfl,ab,?_⟩;obtain⟨_,l,q1,q2,q3⟩:=d;refine((q1 0 _ _ rfl rfl).mono (q2 0)).mono (fun k hk=>?_);have hg:=r.zZ _ k hk
     by_cases hs:S k
     ·exact .inl hs
     ·refine .inr ⟨?_,hg.2.2.1⟩;rcases Nat.lt_or_ge k w.heap.size with ag|aG
      ·exact absurd ⟨ag,hs⟩ hg.1
      ·exact aG
    rcases he with rfl|rfl
    ·exact o
    ·exact o
theorem ly(r:ar T0 B σ a w ad h){o:Oper}{xs:List Operand}{t0:TypeId}{c:At}(A:o.op= .call cl)(Z:cl.callee= .value (.func f))(hd:o.dst=some d)
  (ha:cl.args.toList=x0::xs) (hg:am (look P σ t0 x0)=true) (O:unc (look P σ t0 x0)= .one c) (Y:JA σ [c]=some [.sl X M]) (aC:QO σ [c]) (al:JD P σ xs ts aH) (au:Yz P σ xs ts=true) (hs:CM P f X M aH az)
  (aJ:yZ az) (aw:(σ.YI (Yp [c])).fresh d=true)
  (hK:∀a' w',zh T0 B ((σ.YI (Yp [c])).new d (.one (.O d 0 0 az.length)) [.arr false X az]) a' w'->Xl B w w'->K a' w'):o.wp P a w K af:=by
 have ag:=U.kh aw;have ay:Ys (ak T0 ad) h σ.ob w c (a.eval x0):=r.arg (P:=P) t0 x0 O hg;have g:=r.JD true al (fun _=>au);simp only[if_true]at g;have aE:(Yp [c]).Nodup:=by cases c<;>simp[Yp]
 obtain⟨_,l,q1,q2,q3⟩:=PG r (.cons ay .nil) Y aC aE;have av:=(q1 0 _ _ rfl rfl).mono (q2 0)
 have aR:=r.zZ (Yp [c]);unfold Oper.wp;rw[Tl A Z hs.1,Oper.upon_enter];rw[show(cl.args.toList.map a.eval).toArray=(a.eval x0::xs.map a.eval).toArray by rw[ha];simp];have hT:∀k i,ak T0 ad k i->k<w.heap.size/\¬zO σ h (Yp [c]) k:=by
  intro k i hk;refine⟨r.Tlt hk,fun hg=>?_⟩;rcases hk with hk|hk
  ·exact(aR k hg).1 (r.f _ _ hk)
  ·exact(aR k hg).2.1 hk
 refine(hs.2 (ak T0 ad) (zO σ h (Yp [c])) w _ _ hT (fun k hk=>(aR k hk).2.2.1) av g).mono ?_;rintro e' w' ⟨u,rfl,ab,a1⟩;rw[hd];have r1:=r.YI (Yp [c])
 have aI:Xl B w w':=⟨ab.os,ab.tape,ab.output,ab.size,fun k hk=>ab.block k ⟨r.d k hk,fun hg=>(aR k hg).1 hk⟩⟩;obtain⟨e,n,ho,hz,J,hl,F,aq,N,m⟩:∃e xs,w'.ownsRow 0 e X u az.length xs/\(∀r∈az,r.length=X)/\(∀b,blk u=some b->(zO σ h (Yp [c]) b\/(w.heap.size<=b/\b<w'.heap.size)))/\xs.length=az.flatten.length/\∃l:Nat->Nat->Prop,(∀k x d,xs[k]?=some x->az.flatten[k]?=some d->aZ w' x d (l k))/\(∀k b,l k b->(zO σ h (Yp [c]) b\/(w.heap.size<=b/\b<w'.heap.size))/\blk u≠some b)/\(∀i j b,l i b->l j b->i=j):=by
  cases a1 with
  |sl v Q M S e xs l ho hz J hl hk hs hd=>exact⟨e,xs,ho,hz,J,hl,l,hk,hs,hd⟩
 have ao:((σ.YI (Yp [c])).new d (.one (.O d 0 0 az.length)) [.arr false X az]).ob d 0= .arr false X az:=du;have p:∀T h ai,zR T h ai w' ⟨u,fun k=>(n[k]?).getD undef,fun b=>zO σ (fun t j=>h t j) (Yp [c]) b\/True⟩ (.arr true X az):=fun T h ai=>⟨e,n,ho,hz,⟨hl,F,aq,fun k b J=>⟨.inr trivial,(N k b J).2⟩,m⟩,fun k x d O _ _=>by simp[O]⟩;refine hK _ _ ⟨ad,fun t j=>if t=d then Hd.of u else h t j,?_⟩ aI;refine r1.ZAM aw (zO σ h (Yp [c])) ab.size (fun k hk hg=>ab.block k ⟨hk,hg⟩) (fun k hk=>⟨(aR k hk).1,(aR k hk).2.1,fun t j _ hn=>(aR k hk).2.2.2 t j hn⟩) (fun k hk=>hk) (fun k hk=>.inl hk) _ _ _ (fun _=>Hd.of u) ?_ (fun j=>?_) (fun j k _ hk=>hk) (fun j k _ hk=>?_) (fun i j k hi hj _ _=>?_)
 ·refine⟨xr ho,fun q Q C hq=>?_,fun Q C hq=>by rw[ao]at hq;cases hq⟩;rw[ao]at hq;cases hq;simp only[if_true];exact MS ho
 ·cases j with
  |zero=>have:=nZ (p (ak T0 ad) (fun t j=>if t=d then Hd.of u else h t j) ((σ.YI (Yp [c])).new d (.one (.O d 0 0 az.length)) [.arr false X az]).ob) aJ;exact this
  |succ j=>simp[XG,zR]
 ·have I:=J k hk;rcases I with I|I
  ·have:=aR k I;exact⟨.inr I,this.2.1,by have:=this.2.2.1;have:=ab.size;omega⟩
  ·exact⟨.inl I.1,fun O=>by have:=(r.e k O).2;omega,I.2⟩
 ·have hz:∀j,XG [Ob.arr false X az] j≠ .none->j=0:=by
   intro j hj;cases j with
   |zero=>rfl
   |succ j=>simp[XG]at hj
  rw[hz i hi,hz j hj]
theorem gJ{l:yf}{G:List At}(A:o.o.op= .makeFunc (.func f) #[] #[x])(q:o.o.guard=none)(hd:o.o.dst=some d)(g:ai.a o.o=true)(O:am (look P σ 0 x)=true/\unc (look P σ 0 x)= .one (.Z t 0))(ho:σ.ob t 0= .box G)
  (h:@EI P (σ.put d (.one (.fn f t))) ai l k):@SI P σ ai o l k:=by
 refine⟨_,.inr ⟨g,?_,fun d' m R=>HM (fun e=>m cy) R,fun hh=>by simp[NS,A]at hh,fun hh=>by first|(simp[SO,A]at hh;done)|(unfold SO at hh;rw[A]at hh;split at hh<;>simp_all),fun hh _=>by first|(simp[qf,A]at hh;done)|(unfold qf at hh;rw[A]at hh;split at hh<;>simp_all)⟩,J7 h⟩;rintro T0 B a w K F ⟨ad,hh,r⟩ hK;have hw:Region.wanted o.o (yielded ai.ops a.tmps)=true:=dN
 rw[if_pos hw];exact kw r A hd O.1 O.2 ho hK
theorem pr{c:Code}(hf:P.funcs[f]?=some fn)(J:fn.body=some c)(ap:R7 P f=true){ac:List D}(qs:List Bool)(hq:Uz qs ac)
  (hw:∀v,@WI P (VC fn.ntmps ax v (Qt ax.length 1 ac) (Yg qs ac) []) ⟨c⟩ (.fin (gg P fn ax.length v aB))):D3 P f ax ac aB:=vk hf J ap qs hq (fun v=>Sp (hw v))
theorem fz{p:Nat}(hf:fn.results=#[])(h:σ[p]?=some (.fix v (.one (.Z p 0)),.box aK::((σ[p]?).map (fun e=>e.2.tail)).getD [])/\JA σ aK=some aB/\QO σ aK/\(Yp aK).Nodup)(he:e= .ret\/e= .normal):gg P fn p v aB e σ:=
 ⟨he,by rw[hf];rfl,aK,_,h.1,h.2.1,h.2.2.1,h.2.2.2⟩
theorem EY{l:yf}{ac:List D}{G:List At}(qs:List Bool)(A:o.o.op= .call cl)(Z:cl.callee= .value (.tmp tf))(q:o.o.guard=none)(g:ai.a o.o=true)(hs:D3 P f aH ac aB)(O:σ.get tf= .one (.fn f u))(ho:σ.ob u 0= .box G)(ag:u<σ.length)
  (al:(Xj P σ cl.args.toList cl.argTypes.toList).1) (b:(Xj P σ cl.args.toList cl.argTypes.toList).2=some aH) (au:Yz P σ cl.args.toList cl.argTypes.toList=true) (Y:JA σ G=some ac) (aC:QO σ G) (aE:(Yp G).Nodup) (n:(u,0)∉Yp G) (R:Qg σ u=false)
  (ah:((σ.YI (Yp G)).Yj u 0 .none).zX (At.isO u)=false) (hq:Uz qs aB)
  (h:@EI P (match o.o.dst with|some d=>((σ.YI (Yp G)).new u (σ.get u) (.box (Qt u 1 aB)::Yg qs aB)).put d .any|none=>(σ.YI (Yp G)).new u (σ.get u) (.box (Qt u 1 aB)::Yg qs aB)) ai l k):@SI P σ ai o l k:=by
 refine⟨_,.inr ⟨g,?_,fun d' m an=>?_,fun hh=>by simp[NS,A]at hh,fun hh=>by first|(simp[SO,A]at hh;done)|(unfold SO at hh;rw[A]at hh;split at hh<;>simp_all),fun hh _=>by first|(simp[qf,A]at hh;done)|(unfold qf at hh;rw[A]at hh;split at hh<;>simp_all)⟩,J7 h⟩
 ·rintro T0 B a w K F ⟨ad,hh,r⟩ hK;have hw:Region.wanted o.o (yielded ai.ops a.tmps)=true:=dN
  rw[if_pos hw];exact lW r qs A Z O ho ag (WX al b) au hs Y aC aE n ah hq hK
 ·have I:=Ru (v:=σ.get u) (aa:=.box (Qt u 1 aB)::Yg qs aB) (fun e=>by rw[e,R]at an;cases an) (Jo (l:=Yp G) an);cases hd:o.o.dst with
  |none=>exact I
  |some d=>exact HM (fun e=>m cy) I
theorem p9{c:Code}(hf:P.funcs[f]?=some fn)(J:fn.body=some c)(ap:R7 P f=true)(aJ:yZ M)
  (hw:@WI P (eW fn.ntmps X M ax) ⟨c⟩ (.fin (gh P fn X az))):CM P f X M ax az:=tg hf J ap aJ (Sp hw)
theorem fO(x:At)(hf:fn.results=rv.toArray)(h:(yB P σ rv).1/\(yB P σ rv).2=[[x]]/\JA σ [x]=some [.sl X az]/\QO σ [x]):gh P fn X az .ret σ:=
 ⟨.inl rfl,x,by rw[hf,<-h.2.1];exact Nb h.1,h.2.2⟩
theorem FG{l:yf}{xs:List Operand}{t0:TypeId}{c:At}(A:o.o.op= .call cl)(Z:cl.callee= .value (.func f))(q:o.o.guard=none)(hd:o.o.dst=some d)(g:ai.a o.o=true)(ha:cl.args.toList=x0::xs)(H:cl.argTypes.toList=t0::ts)(hs:CM P f X M aH az)(O:am (look P σ t0 x0)=true/\unc (look P σ t0 x0)= .one c)(Y:JA σ [c]=some [.sl X M])(aC:QO σ [c])(N:Yp [c]=L)(al:(Xj P σ xs ts).1)(b:(Xj P σ xs ts).2=some aH)(au:Yz P σ xs ts=true)(aJ:yZ az)(aw:(σ.YI L).fresh d=true)(v:qf P o.o=false:=by exact rfl)(h:@EI P ((σ.YI L).new d (.one (.O d 0 0 az.length)) [.arr false X az]) ai l k):@SI P σ ai o l k:=by
 subst N;refine⟨_,.inr ⟨g,?_,fun d' m R=>Ru (fun e=>m cy) (Jo R),fun hh=>by simp[NS,A]at hh,fun hh=>by first|(simp[SO,A]at hh;done)|(unfold SO at hh;rw[A]at hh;split at hh<;>simp_all),fun hh _=>by rw[v]at hh;cases hh⟩,J7 h⟩;rintro T0 B a w K F ⟨ad,hh,r⟩ hK;have hw:Region.wanted o.o (yielded ai.ops a.tmps)=true:=dN
 rw[if_pos hw];exact ly r A Z hd ha O.1 O.2 Y aC (WX al b) au hs aJ aw hK
attribute [simp] VC eW At.isO
open Go.RowKit
open Go.RowKit
theorem cR{ai:yC}{l:yf}{d:Nat}{own:Bool}(hs:JT P f own M H)(A:o.o.op= .call c:=by exact rfl)(Z:c.callee= .value (.func f):=by exact rfl)(hg:o.o.guard=none:=by exact rfl)(hd:o.o.dst=some d:=by exact rfl)(b:(Xj P σ c.args.toList c.argTypes.toList).2=some M:=by simp)(al:(Xj P σ c.args.toList c.argTypes.toList).1:=by simp)(au:Yz P σ c.args.toList c.argTypes.toList=true\/zu own H:=by simp)(h:@EI P (σ.put d (VO H)) ai l k):@SI P σ ai o l k:=
 Fa A Z hg hd hs b al au h
theorem cD{ai:yC}{l:yf}{d:Nat}(qs:List Bool)(hs:YJ P f M H)(A:o.o.op= .call c:=by exact rfl)(Z:c.callee= .value (.func f):=by exact rfl)(hg:o.o.guard=none:=by exact rfl)(hd:o.o.dst=some d:=by exact rfl)(b:(Xj P σ c.args.toList c.argTypes.toList).2=some M:=by simp)(al:(Xj P σ c.args.toList c.argTypes.toList).1:=by simp)(hq:Uz qs H.flatten:=by simp)(hf:σ.fresh d=true:=by simp)(h:@EI P (σ.new d (Px d H) (Yg qs H.flatten)) ai l k):@SI P σ ai o l k:=mn qs A Z hg hd hs b al hq hf h
theorem cP{x y:yL}(c:Bool)(Z:c=b:=by simp)(ht:V3 σ->c=true->@WI P σ x k)(hf:V3 σ->c=false->@WI P σ y k):@CI P b σ x y k:=RJ Z ht hf
@[simp] abbrev eI (t : Nat) (n : Int) : Nat × V × List Ob := (t, .one (.d (.int .i64 n)), [])
@[simp] abbrev eB (t : Nat) (b : Bool) : Nat × V × List Ob := (t, .one (.d (.bool b)), [])
@[simp] abbrev eL {α : Type} (t s : Nat) (l : List α) (f : α -> List D) : Nat × V × List Ob := (t, .one (.d (.sl s (l.map f))), [])
@[simp] abbrev YO (t u c : Nat) : Nat × V × List Ob := (t, .one (.Z u c), [])
@[simp] abbrev sU (t : Nat) (xs : List At) : Nat × V × List Ob := (t, .agg xs, [])
@[simp] abbrev eX (t : Nat) (xs : List At) : Nat × V × List Ob := (t, .one (.Z t 0), [.box xs])
open Go.RowKit
variable{O:Oper->Bool}
structure Me{α:Type}(x y:α):Prop where
 h:x=y
structure Bx(p:Prop):Prop where
 h:p
theorem me{α:Type}{x y:α}(h:x=y):Me x y:=⟨h⟩
theorem ms{α β:Type}{x y a:α}{l r:β}(f:Me x y)(e:Me l r)(h:l=r->y=a:=by intro e;simp only[e];exact rfl):Me x a:=⟨f.h.trans (h e.h)⟩
theorem an{q:Prop}(h:p)(k:q):p/\q:=⟨h,k⟩
theorem ix{α:Type}{v:Nat}{l:List α}(h:decide ((v:Int)<(l.length:Int))=true):v<l.length:=c3
theorem ml{α:Type}{q:Prop}(l:List α)(m:q)(h:q->l.length<=9223372036854775807:=by intro m;simpa using m):l.length<=9223372036854775807:=h m
theorem wr(n:Nat)(h:(n:Int)+1<=9223372036854775807:=by first|omega|(simp only[decide_eq_true_eq,decide_eq_false_iff_not,beq_iff_eq,beq_eq_false_iff_ne,bne_iff_ne,ne_eq,Bool.or_eq_false_iff,Bool.or_eq_true,Bool.and_eq_true,Bool.not_eq_true',Bool.not_eq_false']at*;omega)):IntKind.i64.wrap ((n:Int)+1)=(n:Int)+1:=YF Y Y
theorem so{own:Bool}{ax H:List (List D)}{p:Prop}(hf:P.funcs[f]?=some fn)(hn:fn.ntmps=n){c:Code}(J:fn.body=some c:=by exact rfl)(ap:R7 P f=true:=by kernel_rfl)(X:Bx p->@WI P (TW n ax) ⟨c⟩ (.fin (nO P fn own H)):=by exact bQ)(h:p):JT P f own ax H:=El hf J ap (by rw[hn];exact X ⟨h⟩)
theorem ao{ax H:List (List D)}{p:Prop}(hf:P.funcs[f]?=some fn)(hn:fn.ntmps=n){c:Code}(J:fn.body=some c:=by exact rfl)(ap:R7 P f=true:=by kernel_rfl)(X:Bx p->@WI P (TW n ax) ⟨c⟩ (.fin (de P fn H)):=by exact bQ)(h:p):YJ P f ax H:=j3 hf J ap (by rw[hn];exact X ⟨h⟩)
theorem cF{α:Type}{u y z:α}{c:Bool}{J A:yL}{p q:Prop}(f:Me u (bif c then y else z))(Z:c=b:=by simp)(d:Bx p->@WI P σ J k:=by exact bQ)(a:Bx q->@WI P σ A k:=by exact bQ)(ht:V3 σ->c=true->Me u y->p)(hf:V3 σ->c=false->Me u z->q):@CI P b σ J A k:=
 RJ Z (fun s h=>d ⟨ht s h ⟨f.h.trans bp⟩⟩) (fun s h=>a ⟨hf s h ⟨f.h.trans bp⟩⟩)
theorem bg{α:Type}{u y z:α}{c:Bool}{J A:yL}{p:Prop}(f:Me u (bif c then y else z))(Z:c=b:=by simp)(d:Bx p->@WI P σ J k:=by exact bQ)(ht:V3 σ->c=true->Me u y->p)(hf:V3 σ->c=false->Me u z->@WI P σ A k):@CI P b σ J A k:=
 RJ Z (fun s h=>d ⟨ht s h ⟨f.h.trans bp⟩⟩) (fun s h=>hf s h ⟨f.h.trans bp⟩)
theorem ae{α:Type}{u y z:α}{c:Bool}{J A:yL}{q:Prop}(f:Me u (bif c then y else z))(Z:c=b:=by simp)(a:Bx q->@WI P σ A k:=by exact bQ)(ht:V3 σ->c=true->Me u y->@WI P σ J k)(hf:V3 σ->c=false->Me u z->q):@CI P b σ J A k:=
 RJ Z (fun s h=>ht s h ⟨f.h.trans bp⟩) (fun s h=>a ⟨hf s h ⟨f.h.trans bp⟩⟩)
theorem aF{α:Type}{u y z:α}{c:Bool}{J A:yL}(f:Me u (bif c then y else z))(Z:c=b:=by simp)(ht:V3 σ->c=true->Me u y->@WI P σ J k)(hf:V3 σ->c=false->Me u z->@WI P σ A k):@CI P b σ J A k:=
 RJ Z (fun s h=>ht s h ⟨f.h.trans bp⟩) (fun s h=>hf s h ⟨f.h.trans bp⟩)
theorem cK{α:Type}{u y z:α}{c:Bool}{J A:yL}{p q:Prop}(f:Me u (bif c then y else z))(Z:c=b:=by first|(simp[B];done)|grind)(d:Bx p->@WI P σ J k:=by exact cq)(a:Bx q->@WI P σ A k:=by exact cq)(ht:V3 σ->c=true->Me u y->p)(hf:V3 σ->c=false->Me u z->q):@CI P b σ J A k:=
 RJ Z (fun s h=>d ⟨ht s h ⟨f.h.trans bp⟩⟩) (fun s h=>a ⟨hf s h ⟨f.h.trans bp⟩⟩)
theorem c9{α:Type}{u y z:α}{c:Bool}{J A:yL}{p:Prop}(f:Me u (bif c then y else z))(Z:c=b:=by first|(simp[B];done)|grind)(d:Bx p->@WI P σ J k:=by exact cq)(ht:V3 σ->c=true->Me u y->p)(hf:V3 σ->c=false->Me u z->@WI P σ A k):@CI P b σ J A k:=
 RJ Z (fun s h=>d ⟨ht s h ⟨f.h.trans bp⟩⟩) (fun s h=>hf s h ⟨f.h.trans bp⟩)
theorem ba{α:Type}{u y z:α}{c:Bool}{J A:yL}{q:Prop}(f:Me u (bif c then y else z))(Z:c=b:=by first|(simp[B];done)|grind)(a:Bx q->@WI P σ A k:=by exact cq)(ht:V3 σ->c=true->Me u y->@WI P σ J k)(hf:V3 σ->c=false->Me u z->q):@CI P b σ J A k:=
 RJ Z (fun s h=>ht s h ⟨f.h.trans bp⟩) (fun s h=>a ⟨hf s h ⟨f.h.trans bp⟩⟩)
theorem aA{α:Type}{u y z:α}{c:Bool}{J A:yL}(f:Me u (bif c then y else z))(Z:c=b:=by first|(simp[B];done)|grind)(ht:V3 σ->c=true->Me u y->@WI P σ J k)(hf:V3 σ->c=false->Me u z->@WI P σ A k):@CI P b σ J A k:=
 RJ Z (fun s h=>ht s h ⟨f.h.trans bp⟩) (fun s h=>hf s h ⟨f.h.trans bp⟩)
theorem dj{c:Bool}{J A:yL}(h:c=true)(X:p)(Z:c=b:=by simp)(d:Bx p->@WI P σ J k:=by exact bQ):@CI P b σ J A k:=RJ Z (fun _ g=>d ⟨X⟩) (fun _ g=>absurd (h.symm.trans g) aq)
theorem cZ{c:Bool}{J A:yL}(h:c=false)(X:p)(Z:c=b:=by simp)(d:Bx p->@WI P σ A k:=by exact bQ):@CI P b σ J A k:=RJ Z (fun _ g=>absurd (h.symm.trans g) aq) (fun _ g=>d ⟨X⟩)
theorem aT{ai:yC}{l:yf}{d:Nat}{own:Bool}{p:Prop}(hs:JT P f own M H)(A:o.o.op= .call c:=by exact rfl)(Z:c.callee= .value (.func f):=by exact rfl)(hg:o.o.guard=none:=by exact rfl)(hd:o.o.dst=some d:=by exact rfl)(b:(Xj P σ c.args.toList c.argTypes.toList).2=some M:=by simp)(al:(Xj P σ c.args.toList c.argTypes.toList).1:=by simp)(au:Yz P σ c.args.toList c.argTypes.toList=true\/zu own H:=by simp)(X:Bx p->@EI P (σ.put d (VO H)) ai l k:=by exact cq)(h:p):@SI P σ ai o l k:=Fa A Z hg hd hs b al au (X ⟨h⟩)
theorem aa{ai:yC}{l:yf}{d:Nat}{own:Bool}{p:Prop}(hs:JT P f own M H)(A:o.o.op= .call c:=by exact rfl)(Z:c.callee= .value (.func f):=by exact rfl)(hg:o.o.guard=none:=by exact rfl)(hd:o.o.dst=some d:=by exact rfl)(b:(Xj P σ c.args.toList c.argTypes.toList).2=some M:=by simp)(al:(Xj P σ c.args.toList c.argTypes.toList).1:=by simp)(au:Yz P σ c.args.toList c.argTypes.toList=true\/zu own H:=by simp)(X:Bx p->@EI P (σ.put d (VO H)) ai l k:=by exact bQ)(h:p):@SI P σ ai o l k:=Fa A Z hg hd hs b al au (X ⟨h⟩)
theorem fd{ai:yC}{l:yf}{d:Nat}{own:Bool}{p q:Prop}(F:q)(hs:JT P f own M H)(A:o.o.op= .call c:=by exact rfl)(Z:c.callee= .value (.func f):=by exact rfl)(hg:o.o.guard=none:=by exact rfl)(hd:o.o.dst=some d:=by exact rfl)(b:(Xj P σ c.args.toList c.argTypes.toList).2=some M:=by simp)(al:(Xj P σ c.args.toList c.argTypes.toList).1:=by simp)(au:Yz P σ c.args.toList c.argTypes.toList=true\/zu own H:=by simp)(X:q->Bx p->@EI P (σ.put d (VO H)) ai l k:=by exact fq)(h:p):@SI P σ ai o l k:=Fa A Z hg hd hs b al au (X F ⟨h⟩)
theorem fl{ai:yC}{l:yf}{d:Nat}{p:Prop}(hs:JT P f true M H)(A:o.o.op= .call c:=by exact rfl)(Z:c.callee= .value (.func f):=by exact rfl)(hg:o.o.guard=none:=by exact rfl)(hd:o.o.dst=some d:=by exact rfl)(b:(Xj P σ c.args.toList c.argTypes.toList).2=some M:=by simp)(al:(Xj P σ c.args.toList c.argTypes.toList).1:=by simp)(au:Yz P σ c.args.toList c.argTypes.toList=true\/zu true H:=by simp)(hf:σ.fresh d=true:=by simp)(X:Bx p->@EI P (σ.new d (Px d H) (kp H.flatten)) ai l k:=by exact bQ)(h:p):@SI P σ ai o l k:=zs A Z hg hd hs b al au hf (X ⟨h⟩)
theorem bf{ai:yC}{l:yf}{d:Nat}{p:Prop}(qs:List Bool)(hs:YJ P f M H)(A:o.o.op= .call c:=by exact rfl)(Z:c.callee= .value (.func f):=by exact rfl)(hg:o.o.guard=none:=by exact rfl)(hd:o.o.dst=some d:=by exact rfl)(b:(Xj P σ c.args.toList c.argTypes.toList).2=some M:=by simp)(al:(Xj P σ c.args.toList c.argTypes.toList).1:=by simp)(hq:Uz qs H.flatten:=by simp[-Bool.exists_bool,-Bool.forall_bool])(hf:σ.fresh d=true:=by simp)(X:Bx p->@EI P (σ.new d (Px d H) (Yg qs H.flatten)) ai l k:=by exact cq)(h:p):@SI P σ ai o l k:=mn qs A Z hg hd hs b al hq hf (X ⟨h⟩)
theorem ah{ai:yC}{l:yf}{d:Nat}{p:Prop}(qs:List Bool)(hs:YJ P f M H)(A:o.o.op= .call c:=by exact rfl)(Z:c.callee= .value (.func f):=by exact rfl)(hg:o.o.guard=none:=by exact rfl)(hd:o.o.dst=some d:=by exact rfl)(b:(Xj P σ c.args.toList c.argTypes.toList).2=some M:=by simp)(al:(Xj P σ c.args.toList c.argTypes.toList).1:=by simp)(hq:Uz qs H.flatten:=by simp[-Bool.exists_bool,-Bool.forall_bool])(hf:σ.fresh d=true:=by simp)(X:Bx p->@EI P (σ.new d (Px d H) (Yg qs H.flatten)) ai l k:=by exact bQ)(h:p):@SI P σ ai o l k:=mn qs A Z hg hd hs b al hq hf (X ⟨h⟩)
theorem cr{ai:yC}{l:yf}{d:Nat}{p q:Prop}(F:q)(qs:List Bool)(hs:YJ P f M H)(A:o.o.op= .call c:=by exact rfl)(Z:c.callee= .value (.func f):=by exact rfl)(hg:o.o.guard=none:=by exact rfl)(hd:o.o.dst=some d:=by exact rfl)(b:(Xj P σ c.args.toList c.argTypes.toList).2=some M:=by simp)(al:(Xj P σ c.args.toList c.argTypes.toList).1:=by simp)(hq:Uz qs H.flatten:=by simp[-Bool.exists_bool,-Bool.forall_bool])(hf:σ.fresh d=true:=by simp)(X:q->Bx p->@EI P (σ.new d (Px d H) (Yg qs H.flatten)) ai l k:=by exact fq)(h:p):@SI P σ ai o l k:=mn qs A Z hg hd hs b al hq hf (X F ⟨h⟩)
theorem db{ai:yC}{l:yf}{d:Nat}{j G:Nat}{aN own:Bool}{H:List D}(hs:g=true->JT P f own M [H])(A:o.o.op= .call c:=by exact rfl)(Z:c.callee= .value (.func f):=by exact rfl)(hg:o.o.guard=some (j,aN):=by exact rfl)(hd:o.o.dst=some d:=by exact rfl)(i:(ai.ops[j]?).bind (·.dst)=some G:=by exact rfl)(C:VT aN (σ.get G)=some g:=by exact rfl)(b:(Xj P σ c.args.toList c.argTypes.toList).2=some M:=by first|(simp;done)|(simp[B];done)|(simp[B];omega)|(simp_all;done))(ag:G<σ.length:=by first|(simp;done)|(simp[B];done)|(simp[B];omega)|(simp_all;done))(al:g=true->(Xj P σ c.args.toList c.argTypes.toList).1:=by first|(simp;done)|(simp[B];done)|(simp[B];omega)|(simp_all;done))(au:Yz P σ c.args.toList c.argTypes.toList=true\/zu own [H]:=by first|(simp;done)|(simp[B];done)|(simp[B];omega)|(simp_all;done))(h:@EI P (σ.put d (.O g (VO [H]))) ai l k):@SI P σ ai o l k:=np A Z hg hd i C hs b ag al au h
theorem aS{ai:yC}{l:yf}{d:Nat}{j G:Nat}{aN own:Bool}{H:List D}{p:Prop}(hs:g=true->JT P f own M [H])(A:o.o.op= .call c:=by exact rfl)(Z:c.callee= .value (.func f):=by exact rfl)(hg:o.o.guard=some (j,aN):=by exact rfl)(hd:o.o.dst=some d:=by exact rfl)(i:(ai.ops[j]?).bind (·.dst)=some G:=by exact rfl)(C:VT aN (σ.get G)=some g:=by exact rfl)(b:(Xj P σ c.args.toList c.argTypes.toList).2=some M:=by first|(simp;done)|(simp[B];done)|(simp[B];omega)|(simp_all;done))(ag:G<σ.length:=by first|(simp;done)|(simp[B];done)|(simp[B];omega)|(simp_all;done))(al:g=true->(Xj P σ c.args.toList c.argTypes.toList).1:=by first|(simp;done)|(simp[B];done)|(simp[B];omega)|(simp_all;done))(au:Yz P σ c.args.toList c.argTypes.toList=true\/zu own [H]:=by first|(simp;done)|(simp[B];done)|(simp[B];omega)|(simp_all;done))(X:Bx p->@EI P (σ.put d (.O g (VO [H]))) ai l k:=by exact cq)(h:p):@SI P σ ai o l k:=np A Z hg hd i C hs b ag al au (X ⟨h⟩)
theorem aj{ai:yC}{l:yf}{d:Nat}{j G:Nat}{aN own:Bool}{H:List D}{p:Prop}(hs:g=true->JT P f own M [H])(A:o.o.op= .call c:=by exact rfl)(Z:c.callee= .value (.func f):=by exact rfl)(hg:o.o.guard=some (j,aN):=by exact rfl)(hd:o.o.dst=some d:=by exact rfl)(i:(ai.ops[j]?).bind (·.dst)=some G:=by exact rfl)(C:VT aN (σ.get G)=some g:=by exact rfl)(b:(Xj P σ c.args.toList c.argTypes.toList).2=some M:=by simp)(ag:G<σ.length:=by simp)(al:g=true->(Xj P σ c.args.toList c.argTypes.toList).1:=by simp)(au:Yz P σ c.args.toList c.argTypes.toList=true\/zu own [H]:=by simp)(X:Bx p->@EI P (σ.put d (.O g (VO [H]))) ai l k:=by exact bQ)(h:p):@SI P σ ai o l k:=np A Z hg hd i C hs b ag al au (X ⟨h⟩)
theorem ac{ri:Nat}{l:List Oper}{O:Oper->Bool}(hm:P.follows .mixedOrders=true)(L:F7 P ⟨l⟩ (fun i=>i) (fun _=>false)=true:=by kernel_rfl)(R:jz ⟨l⟩ (fun i=>i) σ=true:=by kernel_rfl)(h:@EI P σ ⟨⟨l⟩,fun _=>false⟩ ⟨l⟩ k):@DI P ri σ ⟨⟨l⟩,O⟩ k:=fe hm L R h
theorem ca{ri:Nat}{l:List Oper}{O:Oper->Bool}{p:Prop}(hm:P.follows .mixedOrders=true)(L:F7 P ⟨l⟩ (fun i=>i) (fun _=>false)=true:=by kernel_rfl)(R:jz ⟨l⟩ (fun i=>i) σ=true:=by kernel_rfl)(X:Bx p->@EI P σ ⟨⟨l⟩,fun _=>false⟩ ⟨l⟩ k:=by exact cq)(h:p):@DI P ri σ ⟨⟨l⟩,O⟩ k:=fe hm L R (X ⟨h⟩)
theorem av{ri:Nat}{l:List Oper}{O:Oper->Bool}{p:Prop}(hm:P.follows .mixedOrders=true)(L:F7 P ⟨l⟩ (fun i=>i) (fun _=>false)=true:=by kernel_rfl)(R:jz ⟨l⟩ (fun i=>i) σ=true:=by kernel_rfl)(X:Bx p->@EI P σ ⟨⟨l⟩,fun _=>false⟩ ⟨l⟩ k:=by(intro z;(try simp);(repeat(with_reducible refine Go.Mo.sd ?_));exact z.h))(h:p):@DI P ri σ ⟨⟨l⟩,O⟩ k:=fe hm L R (X ⟨h⟩)
theorem cs{ai:yC}{l:yf}{d:Nat}{p:Prop}(hp:Av o.o=true:=by exact rfl)(hg:o.o.guard=none:=by exact rfl)(hd:o.o.dst=some d:=by exact rfl)(X:Bx p->(bF P σ o.o d).1/\@EI P (bF P σ o.o d).2 ai l k:=by exact cq)(h:p):@SI P σ ai o l k:=bz hp hg hd (X ⟨h⟩)
theorem bB{ai:yC}{l:yf}{d:Nat}{p:Prop}(hp:Av o.o=true:=by exact rfl)(hg:o.o.guard=none:=by exact rfl)(hd:o.o.dst=some d:=by exact rfl)(X:Bx p->(bF P σ o.o d).1/\@EI P (bF P σ o.o d).2 ai l k:=by exact bQ)(h:p):@SI P σ ai o l k:=bz hp hg hd (X ⟨h⟩)
theorem aO{ai:yC}{l:yf}{G d:Nat}{g:Bool}(hg:o.o.guard=some (j,aN):=by exact rfl)(hd:o.o.dst=some d:=by exact rfl)(i:(ai.ops[j]?).bind (·.dst)=some G:=by exact rfl)(C:VT aN (σ.get G)=some g:=by exact rfl)(ag:G<σ.length:=by simp)(a:g=false:=by simp[B])(h:@EI P (σ.put d (.O false .any)) ai l k):@SI P σ ai o l k:=fg hg hd i C ag a h
theorem aW{ai:yC}{l:yf}{G d:Nat}{g:Bool}{p:Prop}(hg:o.o.guard=some (j,aN):=by exact rfl)(hd:o.o.dst=some d:=by exact rfl)(i:(ai.ops[j]?).bind (·.dst)=some G:=by exact rfl)(C:VT aN (σ.get G)=some g:=by exact rfl)(ag:G<σ.length:=by simp)(a:g=false:=by simp[B])(X:Bx p->@EI P (σ.put d (.O false .any)) ai l k:=by exact cq)(h:p):@SI P σ ai o l k:=fg hg hd i C ag a (X ⟨h⟩)
theorem aM{ai:yC}{l:yf}{j G d:Nat}{aN g:Bool}{r1 r2:Prop}{q:Prop}(A:DD o.o.op=false:=by exact rfl)(hg:o.o.guard=some (j,aN):=by exact rfl)(hd:o.o.dst=some d:=by exact rfl)(i:(ai.ops[j]?).bind (·.dst)=some G:=by exact rfl)(C:VT aN (σ.get G)=some g:=by exact rfl)(ag:G<σ.length:=by simp)(k1:g=true->r1:=by exact cw)(k2:g=false->r2:=by exact cw)(a:r2->Bx q->@EI P (σ.put d (.O false .any)) ai l k:=by(intro B z;simp[B,Go.Vm.ZG];(repeat(with_reducible refine Go.Mo.dt ?_));exact z.h))(ht:r1->((aU P σ o.o.op o.o.type).1/\am (aU P σ o.o.op o.o.type).2=true/\(unc (aU P σ o.o.op o.o.type).2).flat=true)/\@EI P (σ.put d (.O true (unc (aU P σ o.o.op o.o.type).2))) ai l k)(hf:r2->q):@SI P σ ai o l k:=G0 A hg hd i C ag (fun h=>ht (k1 h)) (fun h=>(fun B=>a B ⟨hf B⟩) (k2 h))
theorem bE{ai:yC}{l:yf}{j G d:Nat}{aN g:Bool}{r1 r2:Prop}(A:DD o.o.op=false:=by exact rfl)(hg:o.o.guard=some (j,aN):=by exact rfl)(hd:o.o.dst=some d:=by exact rfl)(i:(ai.ops[j]?).bind (·.dst)=some G:=by exact rfl)(C:VT aN (σ.get G)=some g:=by exact rfl)(ag:G<σ.length:=by simp)(k1:g=true->r1:=by exact cw)(k2:g=false->r2:=by exact cw)(ht:r1->((aU P σ o.o.op o.o.type).1/\am (aU P σ o.o.op o.o.type).2=true/\(unc (aU P σ o.o.op o.o.type).2).flat=true)/\@EI P (σ.put d (.O true (unc (aU P σ o.o.op o.o.type).2))) ai l k)(hf:r2->@EI P (σ.put d (.O false .any)) ai l k):@SI P σ ai o l k:=G0 A hg hd i C ag (fun h=>ht (k1 h)) (fun h=>hf (k2 h))
theorem aI{ai:yC}{l:yf}{j G d:Nat}{aN g:Bool}{r1 r2 s:Prop}{q:Prop}(B:s)(A:DD o.o.op=false:=by exact rfl)(hg:o.o.guard=some (j,aN):=by exact rfl)(hd:o.o.dst=some d:=by exact rfl)(i:(ai.ops[j]?).bind (·.dst)=some G:=by exact rfl)(C:VT aN (σ.get G)=some g:=by exact rfl)(ag:G<σ.length:=by simp)(k1:g=true->r1:=by exact cw)(k2:g=false->r2:=by exact cw)(a:s/\r2->Bx q->@EI P (σ.put d (.O false .any)) ai l k:=by(intro B z;simp[B,Go.Vm.ZG];(repeat(with_reducible refine Go.Mo.dt ?_));exact z.h))(ht:s/\r1->((aU P σ o.o.op o.o.type).1/\am (aU P σ o.o.op o.o.type).2=true/\(unc (aU P σ o.o.op o.o.type).2).flat=true)/\@EI P (σ.put d (.O true (unc (aU P σ o.o.op o.o.type).2))) ai l k)(hf:s/\r2->q):@SI P σ ai o l k:=G0 A hg hd i C ag (fun h=>ht ⟨B,k1 h⟩) (fun h=>(fun B=>a B ⟨hf B⟩) ⟨B,k2 h⟩)
theorem dz{ai:yC}{l:yf}{j G d:Nat}{aN g:Bool}{r1 r2 s:Prop}(B:s)(A:DD o.o.op=false:=by exact rfl)(hg:o.o.guard=some (j,aN):=by exact rfl)(hd:o.o.dst=some d:=by exact rfl)(i:(ai.ops[j]?).bind (·.dst)=some G:=by exact rfl)(C:VT aN (σ.get G)=some g:=by exact rfl)(ag:G<σ.length:=by simp)(k1:g=true->r1:=by exact cw)(k2:g=false->r2:=by exact cw)(ht:s/\r1->((aU P σ o.o.op o.o.type).1/\am (aU P σ o.o.op o.o.type).2=true/\(unc (aU P σ o.o.op o.o.type).2).flat=true)/\@EI P (σ.put d (.O true (unc (aU P σ o.o.op o.o.type).2))) ai l k)(hf:s/\r2->@EI P (σ.put d (.O false .any)) ai l k):@SI P σ ai o l k:=G0 A hg hd i C ag (fun h=>ht ⟨B,k1 h⟩) (fun h=>hf ⟨B,k2 h⟩)
theorem gK{ai:yC}{l:yf}{j G d:Nat}{aN g:Bool}{r1:Prop}(A:DD o.o.op=false:=by exact rfl)(hg:o.o.guard=some (j,aN):=by exact rfl)(hd:o.o.dst=some d:=by exact rfl)(i:(ai.ops[j]?).bind (·.dst)=some G:=by exact rfl)(C:VT aN (σ.get G)=some g:=by exact rfl)(ag:G<σ.length:=by simp)(k1:g=true->r1:=by exact cw)(k2:g=false->False:=by first|(intro g0;simp at g0;done)|(intro g0;simp[B]at g0;done))(ht:r1->((aU P σ o.o.op o.o.type).1/\am (aU P σ o.o.op o.o.type).2=true/\(unc (aU P σ o.o.op o.o.type).2).flat=true)/\@EI P (σ.put d (.O true (unc (aU P σ o.o.op o.o.type).2))) ai l k):@SI P σ ai o l k:=G0 A hg hd i C ag (fun h=>ht (k1 h)) (fun h=>(k2 h).elim)
theorem rt{α:Type}{x y:α}{H:List (List D)}(rv:List ResultVar)(f:Me x y)(hf:fn.results=rv.toArray:=by exact rfl)(h:x=y->(yB P σ rv).1/\MA σ (yB P σ rv).2=some H:=by(intro f;simp[f])):nO P fn false H .ret σ:=iC hf (h f.h)
theorem s{α:Type}{x y:α}{H:List (List D)}(rv:List ResultVar)(f:Me x y)(hf:fn.results=rv.toArray:=by exact rfl)(h:x=y->(yB P σ rv).1/\MA σ (yB P σ rv).2=some H:=by(intro f;simp[f,B])):nO P fn false H .ret σ:=iC hf (h f.h)
theorem bT{α:Type}{x y:α}{H:List (List D)}(rv:List ResultVar)(f:Me x y)(hf:fn.results=rv.toArray:=by exact rfl)(h:x=y->(yB P σ rv).1/\Oa σ (yB P σ rv).2=some H/\(Yp (yB P σ rv).2.flatten).Nodup:=by(intro f;simp[f])):nO P fn true H .ret σ:=Qa hf (h f.h)
theorem ag{α:Type}{x y:α}{H:List (List D)}(rv:List ResultVar)(f:Me x y)(hf:fn.results=rv.toArray:=by exact rfl)(h:x=y->(yB P σ rv).1/\qe σ (yB P σ rv).2=some H/\xB σ (yB P σ rv).2/\(Yp (yB P σ rv).2.flatten).Nodup:=by(intro f;simp[f,-Bool.exists_bool,-Bool.forall_bool])):de P fn H .ret σ:=Hg hf (h f.h)
theorem Jq{α:Type}{x y:α}{H:List (List D)}(rv:List ResultVar)(f:Me x y)(hf:fn.results=rv.toArray:=by exact rfl)(h:x=y->(yB P σ rv).1/\qe σ (yB P σ rv).2=some H/\xB σ (yB P σ rv).2/\(Yp (yB P σ rv).2.flatten).Nodup:=by(intro f;simp[f,B,-Bool.exists_bool,-Bool.forall_bool])):de P fn H .ret σ:=Hg hf (h f.h)
class cX where
 p:U->Prop
def Nx(σ:U)[n:cX]:Prop:=n.p σ
theorem Iq{c:yL}{n n':U->Prop}(hn:∀σ',n σ'->n' σ')(h:@WI P σ c (.nxt n k)):a3 P c.c (Fr.run P (.nxt n' k)) σ:=
 lG (fun e σ' hq=>by cases e<;>first|exact hn _ hq|exact hq) (Sp h)
abbrev Q1{R:Type}{a:Type}(L:Nat->a->R)(S:a->U)(I:Nat->a->Prop)(t:R)(b:Nat):cX:=⟨fun τ=>∃A,Me t (L b A)/\(1<=b/\I b A)/\Wk τ (S A)⟩
theorem gU{R:Type}{a:Type}{L:Nat->a->R}{S:a->U}{I:Nat->a->Prop}{t:R}{b:Nat}{A:a}(e:Me t (L b A))(v:1<=b/\I b A:=by exact cm)(hw:Wk σ (S A):=by exact Qu ab):@Nx σ (Q1 L S I t b):=⟨A,e,v,hw⟩
theorem aE{R:Type}{a:Type}{L:Nat->a->R}{S:a->U}{I:Nat->a->Prop}{t:R}{b:Nat}{A:a}{q:Prop}(F:q)(e:Me t (L b A))(v:1<=b/\I b A:=by exact cm)(c:q->Wk σ (S A):=by exact dV):@Nx σ (Q1 L S I t b):=⟨A,e,v,c F⟩
theorem aG{c:yL}{R:Type}{a:Type}{L B:Nat->a->R}(N:∀(A:a)(n:Nat),L (Nat.succ n) A=B n A)(S:a->U)(I:Nat->a->Prop)(u:Nat)(b:a){p:Nat->a->Prop}(v:1<=u/\I u b:=by first|omega|(dsimp only;omega)|simp)(h0:Wk σ (S b):=by exact Qu ab)(X:∀n (A:a),Bx (p n A)->@WI P (S A) c (.nxt (fun σ'=>@Nx σ' (Q1 L S I (L u b) n)) k):=by(intro n_ aJ z;simp;(repeat(with_reducible refine Go.Mo.sd ?_));exact z.h))(m:∀n (A:a),Me (L u b) (B n A)->1<=n+1/\I (n+1) A->p n A):@Nm P σ c k:=by refine Uh (ι:={s:Nat×a//Me (L u b) (L s.1 s.2)/\(1<=s.1/\I s.1 s.2)}) (fun s=>S s.1.2) (fun s=>s.1.1) ⟨(u,b),⟨rfl⟩,v⟩ h0 ?_;rintro⟨⟨D,A⟩,e,j⟩;obtain⟨n,rfl⟩:∃q,D=q+1:=⟨D-1,by have:=j.1;(try dsimp only at this);omega⟩;refine Iq (fun σ' hn=>?_) (X n A ⟨m n A ⟨by have:=e.h;(try dsimp only at this);rw[this,N]⟩ j⟩);obtain⟨c0,e2,j2,w2⟩:=hn;exact⟨⟨(n,c0),e2,j2⟩,Nat.lt_succ_self n,w2⟩
abbrev Q2{R:Type}{a d:Type}(L:Nat->a->d->R)(S:a->d->U)(I:Nat->a->d->Prop)(t:R)(b:Nat):cX:=⟨fun τ=>∃A E,Me t (L b A E)/\(1<=b/\I b A E)/\Wk τ (S A E)⟩
theorem ay{R:Type}{a d:Type}{L:Nat->a->d->R}{S:a->d->U}{I:Nat->a->d->Prop}{t:R}{b:Nat}{A:a}{E:d}(e:Me t (L b A E))(v:1<=b/\I b A E:=by exact cm)(hw:Wk σ (S A E):=by exact Qu ab):@Nx σ (Q2 L S I t b):=⟨A,E,e,v,hw⟩
theorem au{R:Type}{a d:Type}{L:Nat->a->d->R}{S:a->d->U}{I:Nat->a->d->Prop}{t:R}{b:Nat}{A:a}{E:d}{q:Prop}(F:q)(e:Me t (L b A E))(v:1<=b/\I b A E:=by exact cm)(c:q->Wk σ (S A E):=by exact dV):@Nx σ (Q2 L S I t b):=⟨A,E,e,v,c F⟩
theorem ap{c:yL}{R:Type}{a d:Type}{L B:Nat->a->d->R}(N:∀(A:a)(E:d)(n:Nat),L (Nat.succ n) A E=B n A E)(S:a->d->U)(I:Nat->a->d->Prop)(u:Nat)(b:a)(b1:d){p:Nat->a->d->Prop}(v:1<=u/\I u b b1:=by first|omega|(dsimp only;omega)|simp)(h0:Wk σ (S b b1):=by exact Qu ab)(X:∀n (A:a)(E:d),Bx (p n A E)->@WI P (S A E) c (.nxt (fun σ'=>@Nx σ' (Q2 L S I (L u b b1) n)) k):=by(intro n_ aJ aK z;simp;(repeat(with_reducible refine Go.Mo.sd ?_));exact z.h))(m:∀n (A:a)(E:d),Me (L u b b1) (B n A E)->1<=n+1/\I (n+1) A E->p n A E):@Nm P σ c k:=by refine Uh (ι:={s:Nat×a×d//Me (L u b b1) (L s.1 s.2.1 s.2.2)/\(1<=s.1/\I s.1 s.2.1 s.2.2)}) (fun s=>S s.1.2.1 s.1.2.2) (fun s=>s.1.1) ⟨(u,b,b1),⟨rfl⟩,v⟩ h0 ?_;rintro⟨⟨D,A,E⟩,e,j⟩;obtain⟨n,rfl⟩:∃q,D=q+1:=⟨D-1,by have:=j.1;(try dsimp only at this);omega⟩;refine Iq (fun σ' hn=>?_) (X n A E ⟨m n A E ⟨by have:=e.h;(try dsimp only at this);rw[this,N]⟩ j⟩);obtain⟨c0,c1,e2,j2,w2⟩:=hn;exact⟨⟨(n,c0,c1),e2,j2⟩,Nat.lt_succ_self n,w2⟩
theorem lq{c:yL}{R:Type}{a d:Type}{L B:Nat->a->d->R}(N:∀(A:a)(E:d)(n:Nat),L (Nat.succ n) A E=B n A E)(S:a->d->U)(I:Nat->a->d->Prop)(u:Nat)(b:a)(b1:d)(v:1<=u/\I u b b1:=by first|omega|(dsimp only;omega)|simp)(h0:Wk σ (S b b1):=by exact Qu ab)(m:∀n (A:a)(E:d),Me (L u b b1) (B n A E)->1<=n+1/\I (n+1) A E->@WI P (S A E) c (.nxt (fun σ'=>@Nx σ' (Q2 L S I (L u b b1) n)) k)):@Nm P σ c k:=by refine Uh (ι:={s:Nat×a×d//Me (L u b b1) (L s.1 s.2.1 s.2.2)/\(1<=s.1/\I s.1 s.2.1 s.2.2)}) (fun s=>S s.1.2.1 s.1.2.2) (fun s=>s.1.1) ⟨(u,b,b1),⟨rfl⟩,v⟩ h0 ?_;rintro⟨⟨D,A,E⟩,e,j⟩;obtain⟨n,rfl⟩:∃q,D=q+1:=⟨D-1,by have:=j.1;(try dsimp only at this);omega⟩;refine Iq (fun σ' hn=>?_) (m n A E ⟨by have:=e.h;(try dsimp only at this);rw[this,N]⟩ j);obtain⟨c0,c1,e2,j2,w2⟩:=hn;exact⟨⟨(n,c0,c1),e2,j2⟩,Nat.lt_succ_self n,w2⟩
abbrev Q3{R:Type}{a d f:Type}(L:Nat->a->d->f->R)(S:a->d->f->U)(I:Nat->a->d->f->Prop)(t:R)(b:Nat):cX:=⟨fun τ=>∃A E G,Me t (L b A E G)/\(1<=b/\I b A E G)/\Wk τ (S A E G)⟩
theorem bh{R:Type}{a d f:Type}{L:Nat->a->d->f->R}{S:a->d->f->U}{I:Nat->a->d->f->Prop}{t:R}{b:Nat}{A:a}{E:d}{G:f}(e:Me t (L b A E G))(v:1<=b/\I b A E G:=by exact cm)(hw:Wk σ (S A E G):=by exact Qu ab):@Nx σ (Q3 L S I t b):=⟨A,E,G,e,v,hw⟩
theorem aR{R:Type}{a d f:Type}{L:Nat->a->d->f->R}{S:a->d->f->U}{I:Nat->a->d->f->Prop}{t:R}{b:Nat}{A:a}{E:d}{G:f}{q:Prop}(F:q)(e:Me t (L b A E G))(v:1<=b/\I b A E G:=by exact cm)(c:q->Wk σ (S A E G):=by exact dV):@Nx σ (Q3 L S I t b):=⟨A,E,G,e,v,c F⟩
theorem bH{c:yL}{R:Type}{a d f:Type}{L B:Nat->a->d->f->R}(N:∀(A:a)(E:d)(G:f)(n:Nat),L (Nat.succ n) A E G=B n A E G)(S:a->d->f->U)(I:Nat->a->d->f->Prop)(u:Nat)(b:a)(b1:d)(b2:f){p:Nat->a->d->f->Prop}(v:1<=u/\I u b b1 b2:=by first|omega|(dsimp only;omega)|simp)(h0:Wk σ (S b b1 b2):=by exact Qu ab)(X:∀n (A:a)(E:d)(G:f),Bx (p n A E G)->@WI P (S A E G) c (.nxt (fun σ'=>@Nx σ' (Q3 L S I (L u b b1 b2) n)) k):=by(intro n_ aJ aK aB z;simp;(repeat(with_reducible refine Go.Mo.sd ?_));exact z.h))(m:∀n (A:a)(E:d)(G:f),Me (L u b b1 b2) (B n A E G)->1<=n+1/\I (n+1) A E G->p n A E G):@Nm P σ c k:=by refine Uh (ι:={s:Nat×a×d×f//Me (L u b b1 b2) (L s.1 s.2.1 s.2.2.1 s.2.2.2)/\(1<=s.1/\I s.1 s.2.1 s.2.2.1 s.2.2.2)}) (fun s=>S s.1.2.1 s.1.2.2.1 s.1.2.2.2) (fun s=>s.1.1) ⟨(u,b,b1,b2),⟨rfl⟩,v⟩ h0 ?_;rintro⟨⟨D,A,E,G⟩,e,j⟩;obtain⟨n,rfl⟩:∃q,D=q+1:=⟨D-1,by have:=j.1;(try dsimp only at this);omega⟩;refine Iq (fun σ' hn=>?_) (X n A E G ⟨m n A E G ⟨by have:=e.h;(try dsimp only at this);rw[this,N]⟩ j⟩);obtain⟨c0,c1,c2,e2,j2,w2⟩:=hn;exact⟨⟨(n,c0,c1,c2),e2,j2⟩,Nat.lt_succ_self n,w2⟩
abbrev Q4{R:Type}{a d f g:Type}(L:Nat->a->d->f->g->R)(S:a->d->f->g->U)(I:Nat->a->d->f->g->Prop)(t:R)(b:Nat):cX:=⟨fun τ=>∃A E G V,Me t (L b A E G V)/\(1<=b/\I b A E G V)/\Wk τ (S A E G V)⟩
theorem ey{R:Type}{a d f g:Type}{L:Nat->a->d->f->g->R}{S:a->d->f->g->U}{I:Nat->a->d->f->g->Prop}{t:R}{b:Nat}{A:a}{E:d}{G:f}{V:g}(e:Me t (L b A E G V))(v:1<=b/\I b A E G V:=by exact cm)(hw:Wk σ (S A E G V):=by exact Qu ab):@Nx σ (Q4 L S I t b):=⟨A,E,G,V,e,v,hw⟩
theorem cC{R:Type}{a d f g:Type}{L:Nat->a->d->f->g->R}{S:a->d->f->g->U}{I:Nat->a->d->f->g->Prop}{t:R}{b:Nat}{A:a}{E:d}{G:f}{V:g}{q:Prop}(F:q)(e:Me t (L b A E G V))(v:1<=b/\I b A E G V:=by exact cm)(c:q->Wk σ (S A E G V):=by exact dV):@Nx σ (Q4 L S I t b):=⟨A,E,G,V,e,v,c F⟩
theorem dv{c:yL}{R:Type}{a d f g:Type}{L B:Nat->a->d->f->g->R}(N:∀(A:a)(E:d)(G:f)(V:g)(n:Nat),L (Nat.succ n) A E G V=B n A E G V)(S:a->d->f->g->U)(I:Nat->a->d->f->g->Prop)(u:Nat)(b:a)(b1:d)(b2:f)(r:g){p:Nat->a->d->f->g->Prop}(v:1<=u/\I u b b1 b2 r:=by first|omega|(dsimp only;omega)|simp)(h0:Wk σ (S b b1 b2 r):=by exact Qu ab)(X:∀n (A:a)(E:d)(G:f)(V:g),Bx (p n A E G V)->@WI P (S A E G V) c (.nxt (fun σ'=>@Nx σ' (Q4 L S I (L u b b1 b2 r) n)) k):=by(intro n_ aJ aK aB af z;simp;(repeat(with_reducible refine Go.Mo.sd ?_));exact z.h))(m:∀n (A:a)(E:d)(G:f)(V:g),Me (L u b b1 b2 r) (B n A E G V)->1<=n+1/\I (n+1) A E G V->p n A E G V):@Nm P σ c k:=by refine Uh (ι:={s:Nat×a×d×f×g//Me (L u b b1 b2 r) (L s.1 s.2.1 s.2.2.1 s.2.2.2.1 s.2.2.2.2)/\(1<=s.1/\I s.1 s.2.1 s.2.2.1 s.2.2.2.1 s.2.2.2.2)}) (fun s=>S s.1.2.1 s.1.2.2.1 s.1.2.2.2.1 s.1.2.2.2.2) (fun s=>s.1.1) ⟨(u,b,b1,b2,r),⟨rfl⟩,v⟩ h0 ?_;rintro⟨⟨D,A,E,G,V⟩,e,j⟩;obtain⟨n,rfl⟩:∃q,D=q+1:=⟨D-1,by have:=j.1;(try dsimp only at this);omega⟩;refine Iq (fun σ' hn=>?_) (X n A E G V ⟨m n A E G V ⟨by have:=e.h;(try dsimp only at this);rw[this,N]⟩ j⟩);obtain⟨c0,c1,c2,c3,e2,j2,w2⟩:=hn;exact⟨⟨(n,c0,c1,c2,c3),e2,j2⟩,Nat.lt_succ_self n,w2⟩
abbrev Q5{R:Type}{a d f g h:Type}(L:Nat->a->d->f->g->h->R)(S:a->d->f->g->h->U)(I:Nat->a->d->f->g->h->Prop)(t:R)(b:Nat):cX:=⟨fun τ=>∃A E G V a4,Me t (L b A E G V a4)/\(1<=b/\I b A E G V a4)/\Wk τ (S A E G V a4)⟩
theorem ed{R:Type}{a d f g h:Type}{L:Nat->a->d->f->g->h->R}{S:a->d->f->g->h->U}{I:Nat->a->d->f->g->h->Prop}{t:R}{b:Nat}{A:a}{E:d}{G:f}{V:g}{a4:h}(e:Me t (L b A E G V a4))(v:1<=b/\I b A E G V a4:=by exact cm)(hw:Wk σ (S A E G V a4):=by exact Qu ab):@Nx σ (Q5 L S I t b):=⟨A,E,G,V,a4,e,v,hw⟩
theorem hZ{c:yL}{R:Type}{a d f g h:Type}{L B:Nat->a->d->f->g->h->R}(N:∀(A:a)(E:d)(G:f)(V:g)(a4:h)(n:Nat),L (Nat.succ n) A E G V a4=B n A E G V a4)(S:a->d->f->g->h->U)(I:Nat->a->d->f->g->h->Prop)(u:Nat)(b:a)(b1:d)(b2:f)(r:g)(t:h){p:Nat->a->d->f->g->h->Prop}(v:1<=u/\I u b b1 b2 r t:=by first|omega|(dsimp only;omega)|simp)(h0:Wk σ (S b b1 b2 r t):=by exact Qu ab)(X:∀n (A:a)(E:d)(G:f)(V:g)(a4:h),Bx (p n A E G V a4)->@WI P (S A E G V a4) c (.nxt (fun σ'=>@Nx σ' (Q5 L S I (L u b b1 b2 r t) n)) k):=by(intro n_ aJ aK aB af O z;simp;(repeat(with_reducible refine Go.Mo.sd ?_));exact z.h))(m:∀n (A:a)(E:d)(G:f)(V:g)(a4:h),Me (L u b b1 b2 r t) (B n A E G V a4)->1<=n+1/\I (n+1) A E G V a4->p n A E G V a4):@Nm P σ c k:=by refine Uh (ι:={s:Nat×a×d×f×g×h//Me (L u b b1 b2 r t) (L s.1 s.2.1 s.2.2.1 s.2.2.2.1 s.2.2.2.2.1 s.2.2.2.2.2)/\(1<=s.1/\I s.1 s.2.1 s.2.2.1 s.2.2.2.1 s.2.2.2.2.1 s.2.2.2.2.2)}) (fun s=>S s.1.2.1 s.1.2.2.1 s.1.2.2.2.1 s.1.2.2.2.2.1 s.1.2.2.2.2.2) (fun s=>s.1.1) ⟨(u,b,b1,b2,r,t),⟨rfl⟩,v⟩ h0 ?_;rintro⟨⟨D,A,E,G,V,a4⟩,e,j⟩;obtain⟨n,rfl⟩:∃q,D=q+1:=⟨D-1,by have:=j.1;(try dsimp only at this);omega⟩;refine Iq (fun σ' hn=>?_) (X n A E G V a4 ⟨m n A E G V a4 ⟨by have:=e.h;(try dsimp only at this);rw[this,N]⟩ j⟩);obtain⟨c0,c1,c2,c3,c4,e2,j2,w2⟩:=hn;exact⟨⟨(n,c0,c1,c2,c3,c4),e2,j2⟩,Nat.lt_succ_self n,w2⟩
abbrev Q9{R:Type}{a d f g h y w o C:Type}(L:Nat->a->d->f->g->h->y->w->o->C->R)(S:a->d->f->g->h->y->w->o->C->U)(I:Nat->a->d->f->g->h->y->w->o->C->Prop)(t:R)(b:Nat):cX:=⟨fun τ=>∃A E G V a4 a5 i T l,Me t (L b A E G V a4 a5 i T l)/\(1<=b/\I b A E G V a4 a5 i T l)/\Wk τ (S A E G V a4 a5 i T l)⟩
theorem eK{R:Type}{a d f g h y w o C:Type}{L:Nat->a->d->f->g->h->y->w->o->C->R}{S:a->d->f->g->h->y->w->o->C->U}{I:Nat->a->d->f->g->h->y->w->o->C->Prop}{t:R}{b:Nat}{A:a}{E:d}{G:f}{V:g}{a4:h}{a5:y}{i:w}{T:o}{l:C}{q:Prop}(F:q)(e:Me t (L b A E G V a4 a5 i T l))(v:1<=b/\I b A E G V a4 a5 i T l:=by exact cm)(c:q->Wk σ (S A E G V a4 a5 i T l):=by exact dV):@Nx σ (Q9 L S I t b):=⟨A,E,G,V,a4,a5,i,T,l,e,v,c F⟩
theorem gF{c:yL}{R:Type}{a d f g h y w o C:Type}{L B:Nat->a->d->f->g->h->y->w->o->C->R}(N:∀(A:a)(E:d)(G:f)(V:g)(a4:h)(a5:y)(i:w)(T:o)(l:C)(n:Nat),L (Nat.succ n) A E G V a4 a5 i T l=B n A E G V a4 a5 i T l)(S:a->d->f->g->h->y->w->o->C->U)(I:Nat->a->d->f->g->h->y->w->o->C->Prop)(u:Nat)(b:a)(b1:d)(b2:f)(r:g)(t:h)(J:y)(F:w)(K:o)(H:C){p:Nat->a->d->f->g->h->y->w->o->C->Prop}(v:1<=u/\I u b b1 b2 r t J F K H:=by first|omega|(dsimp only;omega)|simp)(h0:Wk σ (S b b1 b2 r t J F K H):=by exact Qu ab)(X:∀n (A:a)(E:d)(G:f)(V:g)(a4:h)(a5:y)(i:w)(T:o)(l:C),Bx (p n A E G V a4 a5 i T l)->@WI P (S A E G V a4 a5 i T l) c (.nxt (fun σ'=>@Nx σ' (Q9 L S I (L u b b1 b2 r t J F K H) n)) k):=by(intro n_ aJ aK aB af O ac Y ad Q z;simp;(repeat(with_reducible refine Go.Mo.sd ?_));exact z.h))(m:∀n (A:a)(E:d)(G:f)(V:g)(a4:h)(a5:y)(i:w)(T:o)(l:C),Me (L u b b1 b2 r t J F K H) (B n A E G V a4 a5 i T l)->1<=n+1/\I (n+1) A E G V a4 a5 i T l->p n A E G V a4 a5 i T l):@Nm P σ c k:=by refine Uh (ι:={s:Nat×a×d×f×g×h×y×w×o×C//Me (L u b b1 b2 r t J F K H) (L s.1 s.2.1 s.2.2.1 s.2.2.2.1 s.2.2.2.2.1 s.2.2.2.2.2.1 s.2.2.2.2.2.2.1 s.2.2.2.2.2.2.2.1 s.2.2.2.2.2.2.2.2.1 s.2.2.2.2.2.2.2.2.2)/\(1<=s.1/\I s.1 s.2.1 s.2.2.1 s.2.2.2.1 s.2.2.2.2.1 s.2.2.2.2.2.1 s.2.2.2.2.2.2.1 s.2.2.2.2.2.2.2.1 s.2.2.2.2.2.2.2.2.1 s.2.2.2.2.2.2.2.2.2)}) (fun s=>S s.1.2.1 s.1.2.2.1 s.1.2.2.2.1 s.1.2.2.2.2.1 s.1.2.2.2.2.2.1 s.1.2.2.2.2.2.2.1 s.1.2.2.2.2.2.2.2.1 s.1.2.2.2.2.2.2.2.2.1 s.1.2.2.2.2.2.2.2.2.2) (fun s=>s.1.1) ⟨(u,b,b1,b2,r,t,J,F,K,H),⟨rfl⟩,v⟩ h0 ?_;rintro⟨⟨D,A,E,G,V,a4,a5,i,T,l⟩,e,j⟩;obtain⟨n,rfl⟩:∃q,D=q+1:=⟨D-1,by have:=j.1;(try dsimp only at this);omega⟩;refine Iq (fun σ' hn=>?_) (X n A E G V a4 a5 i T l ⟨m n A E G V a4 a5 i T l ⟨by have:=e.h;(try dsimp only at this);rw[this,N]⟩ j⟩);obtain⟨c0,c1,c2,c3,c4,c5,c6,c7,M,e2,j2,w2⟩:=hn;exact⟨⟨(n,c0,c1,c2,c3,c4,c5,c6,c7,M),e2,j2⟩,Nat.lt_succ_self n,w2⟩
theorem VR{ai:yC}{l:yf}{d:Nat}{T:TypeId}(A:o.o.op= .buildSlice T n parts:=by exact rfl)(hg:o.o.guard=none:=by exact rfl)(hd:o.o.dst=some d:=by exact rfl)(I:σ.fresh d=true/\Xo P T=true/\Qq P (E P T)=true/\0<P.cellsOf (E P T)/\parts.toList.length=n/\n*P.cellsOf (E P T)<=16777216:=by simp)(X:(xK P σ (E P T) (P.cellsOf (E P T)) parts.toList 0).1:=by simp)(h3:Y6 d (xK P σ (E P T) (P.cellsOf (E P T)) parts.toList 0).2.flatten=false:=by simp)(h:@EI P (σ.new d (.one (.O d 0 0 (xK P σ (E P T) (P.cellsOf (E P T)) parts.toList 0).2.length)) [.lit (P.cellsOf (E P T)) (xK P σ (E P T) (P.cellsOf (E P T)) parts.toList 0).2]) ai l k):@SI P σ ai o l k:=lu A hg hd I X h3 h
theorem TH{ai:yC}{l:yf}{d:Nat}{y:Operand}{t:TypeId}{aq al:List (List D)}{l1 l2:List (Nat×Nat)}{Q:Nat}(A:o.o.op= .call ⟨.builtin .append,#[x,y],#[t,t]⟩:=by exact rfl)(hg:o.o.guard=none:=by exact rfl)(hd:o.o.dst=some d:=by exact rfl)(g:ai.a o.o=true:=by exact rfl)(aI:Q=P.cellsOf (E P t):=by simp)(I:am (look P σ t x)=true/\am (look P σ t y)=true/\Xo P t=true/\Qq P (E P t)=true/\0<P.cellsOf (E P t):=by simp)(X:(Pp σ (unc (look P σ t x)) Q).1/\(Pp σ (unc (look P σ t x)) Q).2=(aq,l1):=by simp)(h3:(PK σ (unc (look P σ t y)) Q).1/\(PK σ (unc (look P σ t y)) Q).2=(al,l2):=by simp)(h4:(l1++l2).Nodup/\(σ.YI (l1++l2)).fresh d=true:=by simp)(h5:(aq.length+al.length)*P.bytesOf (E P t)<=140737488355328/\aq.length+al.length<=9223372036854775807:=by(simp<;>omega))(h:@EI P ((σ.YI (l1++l2)).new d (.one (.O d 0 0 (aq.length+al.length))) [.arr true Q (aq++al)]) ai l k):@SI P σ ai o l k:=fi A hg hd g aI I X h3 h4 h5 h
theorem TF{ai:yC}{l:yf}{T:TypeId}{y:Operand}{t j i Q:Nat}{M:List (List D)}{ds:List D}{L:List (Nat×Nat)}(A:o.o.op= .store T x y:=by exact rfl)(hg:o.o.guard=none:=by exact rfl)(hd:o.o.dst=none:=by exact rfl)(g:ai.a o.o=true:=by exact rfl)(O:unc (look P σ 0 x)= .one (.ptr t j i 0):=by simp)(ho:σ.ob t j= .arr true Q M:=by simp)(hi:i<M.length:=by(simp;try omega))(I:Wj P T=true/\am (look P σ 0 x)=true/\am (look P σ T y)=true/\(unc (look P σ T y)).flat=true:=by simp)(X:JA σ (unc (look P σ T y)).cells=some ds:=by simp)(h3:QO σ (unc (look P σ T y)).cells:=by simp)(h4:Yp (unc (look P σ T y)).cells=L:=by simp)(h5:L.Nodup/\(t,j)∉L/\(σ.YI L).zX (At.isT t)=false:=by simp)(h6:ds.length=P.cellsOf T/\P.cellsOf T=Q:=by simp)(h:@EI P ((σ.YI L).Yj t j (.arr true Q (M.set i ds))) ai l k):@SI P σ ai o l k:=rO A hg hd g O ho hi I X h3 h4 h5 h6 h
theorem aw{σ σ':U}(ρ:bj)(F:List (Nat×Nat))(ap:PA σ' ρ ρ=true:=by exact rfl)(h:Gd σ ρ F σ σ' 0:=by simp):Wk σ σ':=Ya ρ F ap h
theorem be{id:Nat}{σ:U}{l:List Oper}{O:Oper->Bool}{k:Fr}(c:List Nat)(hm:P.follows .mixedOrders=true)(L:Vm.F7 P ⟨l⟩ (fun i=>i) (Cg c)=true:=by kernel_rfl)(R:jz ⟨l⟩ (fun i=>i) σ=true:=by kernel_rfl)(h:@EI P σ ⟨⟨l⟩,Cg c⟩ ⟨l⟩ k):@DI P id σ ⟨⟨l⟩,O⟩ k:=rx c hm L R h
theorem bi{g:Prop}(X:Bx p->g:=by(intro z;(repeat(with_reducible refine Go.Mo.sd ?_));exact z.h))(h:p):g:=X ⟨h⟩
theorem q{g:Prop}(X:Bx p->g:=by(intro z;(repeat(with_reducible refine Zg ?_));exact z.h))(h:p):g:=X ⟨h⟩
theorem aJ{g:Prop}(X:Bx p->g:=by(intro z;(repeat(with_reducible refine Zy ?_));exact z.h))(h:p):g:=X ⟨h⟩
theorem a1{g:Prop}(X:Bx p->g:=by(intro z;(repeat(with_reducible refine Yl ?_));exact z.h))(h:p):g:=X ⟨h⟩
theorem bl{g:Prop}(X:Bx p->g:=by(intro z;(repeat(with_reducible refine Y1 ?_));exact z.h))(h:p):g:=X ⟨h⟩
theorem bo{g:Prop}(X:Bx p->g:=by(intro z;(repeat(with_reducible refine XO ?_));exact z.h))(h:p):g:=X ⟨h⟩
theorem bM{g:Prop}(X:Bx p->g:=by(intro z;(repeat(with_reducible refine Qn ?_));exact z.h))(h:p):g:=X ⟨h⟩
theorem bW{g:Prop}(X:Bx p->g:=by(intro z;(repeat(with_reducible refine KR ?_));exact z.h))(h:p):g:=X ⟨h⟩
theorem b6{g:Prop}(X:Bx p->g:=by(intro z;(repeat(with_reducible refine Q7 ?_));exact z.h))(h:p):g:=X ⟨h⟩
theorem bZ{g:Prop}(X:Bx p->g:=by(intro z;(repeat(with_reducible refine Ji ?_));exact z.h))(h:p):g:=X ⟨h⟩
theorem cb{g:Prop}(X:Bx p->g:=by(intro z;(repeat(with_reducible refine Ky ?_));exact z.h))(h:p):g:=X ⟨h⟩
theorem aC{g:Prop}(X:Bx p->g:=by(intro z;(repeat(with_reducible refine Go.Mo.dt ?_));exact z.h))(h:p):g:=X ⟨h⟩
theorem xp{q g:Prop}(F:q)(X:q->Bx p->g:=by exact fq)(h:p):g:=X F ⟨h⟩
theorem l{q g:Prop}(F:q)(X:q->Bx p->g:=by(intro F z;simp[F,Go.Vm.ZG,B];(repeat(with_reducible refine Go.Mo.dt ?_));exact z.h))(h:p):g:=X F ⟨h⟩
theorem bd{g:Prop}(X:Bx p->g:=by exact bQ)(h:p):g:=X ⟨h⟩
theorem aL{g:Prop}(X:Bx p->g:=by(intro z;simp[B];(repeat(with_reducible refine Go.Mo.dt ?_));exact z.h))(h:p):g:=X ⟨h⟩
theorem xs{q:Prop}(u:q)(h:q->p:=by(intro u;simp(maxDischargeDepth:=12) [u])):p:=h u
@[simp] def qW : List Bool := [false, false, false, true, true, false, false, true, false, false, true, false]
@[simp] abbrev rI (x : Int) : List D := [.int .i64 x]
@[simp] abbrev rB (b : Bool) : List D := [.bool b]
@[simp] abbrev rS (s : ByteArray) : List D := [.str s]
@[simp] abbrev Z {α : Type} (n : Nat) (f : α -> List D) (l : List α) : List D := [.sl n (l.map f)]
theorem oV{α:Type}[Inhabited α]{f:α->List D}{l:List α}(h:i<(l.take n).length):rowAt ((l.map f).take n) i=f (C (l.take n) i):=by rw[<-List.map_take];exact ZG h
theorem kt{α:Type}{l:List α}(h:i<(l.take n).length):i<min n l.length:=by rwa[List.length_take]at h
def Pj(l:List Bool):List At:=l.map (fun b=>.d (.bool b))
def zB(n:Nat):List Bool:=List.replicate n false
@[simp] theorem Vc (n : Nat) : (zB n).length = n := List.length_replicate ..
@[simp] theorem s4 (σ : U) (ρ : bj) (F : List (Nat × Nat)) : ∀ l : List Bool, ID σ ρ F (Pj l) (Pj l) = True
 |[]=>by simp[Pj,ID]
 |b::l=>by have h:=s4 σ ρ F l;simp only[Pj,List.map_cons,ID,ss]at h⊢;simp[h]
@[simp] theorem tn (t : Nat) : ∀ l : List Bool, Y6 t (Pj l) = false
 |[]=>by simp[Pj,Y6]
 |b::l=>by have h:=tn t l;simp only[Pj,List.map_cons]at h⊢;simp[Y6,At.ref]at h⊢;exact h
theorem OD(l:List Bool):(Pj l).length=l.length:=by simp[Pj]
theorem jp{l:List Bool}(h:l.length=n):(Pj l).take n=Pj l:=List.take_of_length_le (by rw[OD];omega)
theorem iw{l:List Bool}(h:i<l.length):(Pj l).take i++At.d (.bool b)::(Pj l).drop (i+1)=Pj (l.set i b):=by unfold Pj;rw[List.map_set,List.set_eq_take_append_cons_drop,if_pos (by rw[List.length_map];exact h)]
theorem NR{l:List Bool}(h:i<l.length):place (Pj l) i [At.d (.bool b)]=Pj (l.set i b):=by rw[<-iw h];simp[place]
theorem nv{l:List Bool}(h:i<l.length):((Pj l).drop i).take 1=[At.d (.bool (C l i))]:=by unfold Pj;rw[<-List.map_drop,List.drop_eq_getElem_cons h,List.map_cons,List.take_succ_cons,List.take_zero];simp[C,h]
open Go.RowKit
def U.ZAl:U->List Nat->U
 |σ,[]=>σ
 |σ,s::l=>U.ZAl (σ.put s .any) l
attribute [simp] U.ZAl
end Go.Vm
