/- An abstract machine Hb the model of Go, by value, and that it is sound: part Vc. No condition. -/
import Derived.Test.YtipadonicggnbaaGreatVf
import Derived.ProofKit
import Derived.OpenShut
import Derived.Below
import Derived.ChangeOld
import Derived.DataReads
import Derived.Carry
set_option linter.unusedVariables false
set_option linter.unusedSimpArgs false
namespace Go.Vm
open Go.RowKit
variable{M H al ax aq:List (List D)}{w:World}{d ri n Q j aA t ae ad aw G i b:Nat}{f:FuncId}{σ σ':U}{x y:Operand}{L F l1 l2:List (Nat×Nat)}{ds zr:List D}{J aN g:Bool}{c:Call}{C au:List Value}{a:Addr}{fn:Func}{v:Value}{r:Reach}{S:Nat->Prop}{s:ByteArray}{e:Exit}{T:CS}
abbrev bj:=List ((Nat×Nat)×Option (Nat×Nat))
variable{ρ O:bj}
def jm:bj->Nat->Nat->Option (Nat×Nat)
 |[],t,j=>some (t,j)
 |(n,o)::ρ,t,j=>if t=n.1/\j=n.2 then o else jm ρ t j
def bS:List (Nat×Nat)->Nat->Nat->Bool
 |[],_,_=>false
 |n::F,t,j=>(t==n.1&&j==n.2)||bS F t j
def ss(σ:U)(ρ:bj)(F:List (Nat×Nat)):At->At->Prop
 |_,.any=>True
 |.d x,.d y=>x=y
 |.nil _,.nil _=>True
 |.nil s,.d y=>y= .sl s []
 |.nil _,.O t j lo ae=>jm ρ t j=none/\lo=0/\ae=0
 |.O t j lo ae,.O t' j' E K=>jm ρ t' j'=some (t,j)/\lo=E/\ae=K
 |.O t j lo ae,.d y=>bS F t j=true/\(match σ.ob t j with|.arr _ s M=>y= .sl s (cut M lo ae)|_=>False)
 |.ac t j i c o,.ac t' j' i' R z=>jm ρ t' j'=some (t,j)/\i=i'/\c=R/\o=z/\(match σ.ob t j with|.arr true _ _=>True|_=>False)
 |.ptr t j i c,.ptr t' j' i' R=>jm ρ t' j'=some (t,j)/\i=i'/\c=R
 |.Z t c,.Z t' R=>jm ρ t' 0=some (t,0)/\c=R
 |.fn f t,.fn D t'=>jm ρ t' 0=some (t,0)/\f=D
 |.am r c,.am r' R=>r=r'/\c=R
 |_,_=>False
def ID(σ:U)(ρ:bj)(F:List (Nat×Nat)):List At->List At->Prop
 |[],[]=>True
 |x::xs,y::ys=>ss σ ρ F x y/\ID σ ρ F xs ys
 |_,_=>False
def dG(σ:U)(ρ:bj)(F:List (Nat×Nat)):V->V->Prop
 |_,.any=>True
 |.one x,.one y=>ss σ ρ F x y
 |.agg xs,.agg ys=>ID σ ρ F xs ys
 |.fix u (.one x),.fix u' (.one y)=>u=u'/\ss σ ρ F x y
 |.fix u (.agg xs),.fix u' (.agg ys)=>u=u'/\ID σ ρ F xs ys
 |.fix _ (.one x),.one y=>ss σ ρ F x y
 |.fix _ (.agg xs),.agg ys=>ID σ ρ F xs ys
 |_,_=>False
def nj(σ:U)(ρ:bj)(F:List (Nat×Nat))(t' j':Nat):Ob->Prop
 |.none=>True
 |.arr q Q M=>(match jm ρ t' j' with
  |none=>M=[]
  |some (t,j)=>bS F t j=false/\(match σ.ob t j with|.arr p s r=>(p=q\/p=false/\∀x∈M,∀y∈x,y.scalar=true)/\s=Q/\r=M|_=>False))
 |.lit _ _=>False
 |.box G=>(match jm ρ t' j' with
  |none=>False
  |some (t,j)=>bS F t j=false/\(match σ.ob t j with|.box C=>ID σ ρ F C G|_=>False))
def ff(σ:U)(ρ:bj)(F:List (Nat×Nat))(t:Nat):List Ob->Nat->Prop
 |[],_=>True
 |o::aa,j=>nj σ ρ F t j o/\ff σ ρ F t aa (j+1)
def Gd(σ:U)(ρ:bj)(F:List (Nat×Nat)):List bD->List bD->Nat->Prop
 |[],[],_=>True
 |e::A,e'::a,t=>(dG σ ρ F e.1 e'.1/\ff σ ρ F t e'.2 0)/\Gd σ ρ F A a (t+1)
 |_,_,_=>False
def xN:bj->Nat->Nat->Bool
 |[],_,_=>false
 |(n,_)::ρ,t,j=>(t==n.1&&j==n.2)||xN ρ t j
def Sx:bj->Nat->Nat->Bool
 |[],_,_=>false
 |(_,some o)::ρ,t,j=>(t==o.1&&j==o.2)||Sx ρ t j
 |(_,none)::ρ,t,j=>Sx ρ t j
def gI(σ':U)(t j:Nat):Bool:=match σ'.ob t j with|.none=>true|_=>false
def PA(σ':U)(O:bj):bj->Bool
 |[]=>true
 |(_,some o)::ρ=>!Sx ρ o.1 o.2&&(xN O o.1 o.2||gI σ' o.1 o.2)&&PA σ' O ρ
 |(_,none)::ρ=>PA σ' O ρ
theorem Rh:∀{ρ:bj}{t j:Nat},xN ρ t j=false->jm ρ t j=some (t,j)
 |[],_,_,_=>rfl
 |(n,o)::ρ,t,j,h=>by simp only[xN,Bool.or_eq_false_iff,Bool.and_eq_false_iff,beq_eq_false_iff_ne]at h;simp only[jm];rw[if_neg (by rintro⟨I,X⟩;rcases h.1 with h3|h3<;>contradiction)];exact Rh h.2
theorem Nn:∀{ρ:bj}{t j:Nat}{o:Nat×Nat},xN ρ t j=true->jm ρ t j=some o->Sx ρ o.1 o.2=true
 |[],_,_,_,h,_=>by simp[xN]at h
 |(n,z)::ρ,t,j,o,h,ho=>by
  simp only[jm]at ho;split at ho
  ·subst ho;simp[Sx]
  ·rename_i W;have h':xN ρ t j=true:=by
    simp only[xN,Bool.or_eq_true,Bool.and_eq_true,beq_iff_eq]at h;rcases h with h|h
    ·exact absurd h W
    ·exact h
   have:=Nn h' ho;cases z with
   |none=>simpa[Sx]using this
   |some z=>simp[Sx,this]
theorem pc{σ':U}{O:bj}:∀{ρ:bj}{t j t' j':Nat}{o:Nat×Nat},PA σ' O ρ=true->xN ρ t j=true->xN ρ t' j'=true->jm ρ t j=some o->jm ρ t' j'=some o->(t,j)=(t',j')
 |[],_,_,_,_,_,_,h,_,_,_=>by simp[xN]at h
 |(n,z)::ρ,t,j,t',j',o,ap,hn,A,ho,L=>by
  have b:PA σ' O ρ=true:=by
   cases z with
   |none=>simpa[PA]using ap
   |some z=>simp only[PA,Bool.and_eq_true]at ap;exact ap.2
  simp only[jm]at ho L;by_cases I:t=n.1/\j=n.2
  ·rw[if_pos I]at ho;by_cases X:t'=n.1/\j'=n.2
   ·rw[I.1,I.2,X.1,X.2]
   ·rw[if_neg X]at L;have h':xN ρ t' j'=true:=by simp only[xN,Bool.or_eq_true,Bool.and_eq_true,beq_iff_eq]at A;exact A.resolve_left X
    have a:=Nn h' L;subst ho;simp only[PA,Bool.and_eq_true,Bool.not_eq_true']at ap;rw[a]at ap;cases ap.1.1
  ·rw[if_neg I]at ho;have h:xN ρ t j=true:=by simp only[xN,Bool.or_eq_true,Bool.and_eq_true,beq_iff_eq]at hn;exact hn.resolve_left I
   by_cases X:t'=n.1/\j'=n.2
   ·rw[if_pos X]at L;have a:=Nn h ho
    subst L;simp only[PA,Bool.and_eq_true,Bool.not_eq_true']at ap;rw[a]at ap;cases ap.1.1
   ·rw[if_neg X]at L;have h':xN ρ t' j'=true:=by simp only[xN,Bool.or_eq_true,Bool.and_eq_true,beq_iff_eq]at A;exact A.resolve_left X
    exact pc b h h' ho L
theorem Mk{σ':U}{O:bj}:∀{ρ:bj}{t j:Nat},PA σ' O ρ=true->Sx ρ t j=true->xN O t j=true\/σ'.ob t j= .none
 |[],_,_,_,h=>by simp[Sx]at h
 |(n,z)::ρ,t,j,ap,h=>by
  cases z with
  |none=>exact Mk (ρ:=ρ) (by simpa[PA]using ap) (by simpa[Sx]using h)
  |some o=>
   simp only[PA,Bool.and_eq_true,Bool.or_eq_true]at ap;simp only[Sx,Bool.or_eq_true,Bool.and_eq_true,beq_iff_eq]at h;rcases h with⟨rfl,rfl⟩|h
   ·refine ap.1.2.imp id fun hf=>?_;unfold gI at hf;split at hf<;>first|assumption|cases hf
   ·exact Mk ap.2 h
theorem r7(ap:PA σ' ρ ρ=true){t' j':Nat}{o:Nat×Nat}(I:σ'.ob t j≠ .none)(X:σ'.ob t' j'≠ .none)(ho:jm ρ t j=some o)(L:jm ρ t' j'=some o):t=t'/\j=j':=by
 cases hn:xN ρ t j with
 |true=>
  cases A:xN ρ t' j' with
  |true=>have:=pc ap hn A ho L;cases this;exact⟨rfl,rfl⟩
  |false=>
   have b:=Rh A;rw[b]at L;cases L;have a:=Nn hn ho;rcases Mk ap a with h|h
   ·rw[A]at h;cases h
   ·exact absurd h X
 |false=>
  have b:=Rh hn;rw[b]at ho;cases ho;cases A:xN ρ t' j' with
  |true=>
   have a:=Nn A L;rcases Mk ap a with h|h
   ·rw[hn]at h;cases h
   ·exact absurd h I
  |false=>have c:=Rh A;rw[c]at L;cases L;exact⟨rfl,rfl⟩
theorem Hp{σ:U}{ρ:bj}{F:List (Nat×Nat)}:∀{A a:List bD}{t:Nat},Gd σ ρ F A a t->A.length=a.length
 |[],[],_,_=>rfl
 |_::_,_::_,_,h=>by simp[Hp h.2]
 |[],_::_,_,h=>h.elim
 |_::_,[],_,h=>h.elim
theorem vV{σ:U}{ρ:bj}{F:List (Nat×Nat)}:∀{A a:List bD}{t:Nat},Gd σ ρ F A a t->∀(i:Nat),dG σ ρ F (U.get A i) (U.get a i)/\∀j,nj σ ρ F (t+i) j (U.ob a i j)
 |[],[],t,_,i=>⟨by simp[U.get,dG],fun j=>by simp[U.ob,nj]⟩
 |e::A,e'::a,t,h,0=>by
  refine⟨h.1.1,fun j=>?_⟩;have:∀(aa:List Ob)(k:Nat),ff σ ρ F t aa k->∀j,nj σ ρ F t (k+j) (XG aa j):=by
   intro aa;induction aa with
   |nil=>intro k _ j;simp[XG,nj]
   |cons o aa ih=>
    intro k hk j;cases j with
    |zero=>exact hk.1
    |succ j=>have:=ih (k+1) hk.2 j;rw[show k+(j+1)=k+1+j by omega];simpa[XG]using this
  have:=this e'.2 0 h.1.2 j;simpa using this
 |e::A,e'::a,t,h,i+1=>by have:=vV h.2 i;rw[show t+(i+1)=t+1+i by omega];simpa[U.get,U.ob]using this
 |[],_::_,_,h,_=>h.elim
 |_::_,[],_,h,_=>h.elim
theorem n1{xs:List Value}(aa:Yn (Rd T w) xs ds)(hf:∀d∈ds,d.scalar=true):zq w xs ds S:=
 ⟨aa.length,fun _ _=>False,fun k x d O hd=>by
  obtain⟨d',m,hr⟩:=aa.get k x O;rw[hd]at m;cases m;exact Rd.own (hf d (List.mem_of_getElem? hd)) hr,fun _ _ J=>J.elim,fun _ _ _ J=>J.elim⟩
theorem Ya(ρ:bj)(F:List (Nat×Nat))(ap:PA σ' ρ ρ=true)(hs:Gd σ ρ F σ σ' 0):Wk σ σ':=by
 rintro T0 B a w ⟨ad,h,r⟩;let h':Nat->Nat->Hd:=fun t j=>match jm ρ t j with|some o=>h o.1 o.2|none=>Hd.of (.slice none 0 0)
 let X':Nat->Prop:=fun b=>ad b\/∃t j,bS F t j=true/\σ.ob t j≠ .none/\(h t j).u b
 have aC:=Hp hs;have am:=vV hs;have ao:∀t j,nj σ ρ F t j (σ'.ob t j):=fun t j=>by have:=(am t).2 j;simpa using this
 have P:∀b k v,ak T0 ad b k->w.cell? ⟨b,k,none⟩=some v->w.cell? ⟨b,k,none⟩=some v/\ak T0 X' b k:=fun b k v J Z=>⟨Z,J.imp id .inl⟩;have N:∀t' j' q Q M,σ'.ob t' j'= .arr q Q M->(jm ρ t' j'=none/\M=[])\/∃t j p,jm ρ t' j'=some (t,j)/\bS F t j=false/\σ.ob t j= .arr p Q M/\(p=q\/p=false/\∀x∈M,∀y∈x,y.scalar=true):=by
  intro t' j' q Q M ho;have:=ao t' j'
  rw[ho]at this;simp only[nj]at this;split at this
  ·rename_i hn;exact .inl ⟨hn,this⟩
  ·rename_i t j hn;obtain⟨l,this⟩:=this;split at this
   ·rename_i p s r m;obtain⟨hp,rfl,rfl⟩:=this;exact .inr ⟨t,j,p,hn,l,m,hp⟩
   ·exact this.elim
 have U:∀t' j' Q M,σ'.ob t' j'≠ .lit Q M:=by
  intro t' j' Q M ho;have:=ao t' j'
  rw[ho]at this;exact this
 have X:∀t' j' G,σ'.ob t' j'= .box G->∃t j C,jm ρ t' j'=some (t,j)/\bS F t j=false/\σ.ob t j= .box C/\ID σ ρ F C G:=by
  intro t' j' G ho;have:=ao t' j'
  rw[ho]at this;simp only[nj]at this;split at this
  ·exact this.elim
  ·rename_i t j hn;obtain⟨l,this⟩:=this;split at this
   ·rename_i C m;exact⟨t,j,C,hn,l,m,this⟩
   ·exact this.elim
 have ac:∀{x y:At}{v:Value},ss σ ρ F x y->Ys (ak T0 ad) h σ.ob w x v->Ys (ak T0 X') h' σ'.ob w y v:=by
  intro x y v hw hr;have I:=Ys.Qe hr
  cases y with
  |any=>exact I
  |d y=>
   cases x with
   |d x=>simp only[ss]at hw;subst hw;exact Rd.mono P hr
   |nil s=>simp only[ss]at hw;subst hw;cases hr;exact .nil _
   |O t j lo ae=>
    simp only[ss]at hw;obtain⟨l,hw⟩:=hw;split at hw
    ·rename_i q s M ho;subst hw;exact r.eU ho hr _ (fun b k J=>J.imp id .inl) (fun b k J=>.inr (.inr ⟨t,j,l,by rw[ho];simp,J⟩))
    ·exact hw.elim
   |_=>exact hw.elim
  |nil s=>
   cases x with
   |nil s'=>exact hr
   |_=>exact hw.elim
  |O t' j' E K=>
   cases x with
   |nil s=>obtain⟨hn,rfl,rfl⟩:=hw;cases hr;refine⟨rfl,fun q Q M ho=>?_,fun Q M ho=>absurd ho (U _ _ _ _)⟩;simp only[h',hn];exact⟨Y,fun _ _=>rfl,fun _=>rfl,none,0,rfl,Y,by simp[maxLen],fun _=>rfl,fun hh=>absurd hh Y⟩
   |O t j lo ae=>
    obtain⟨hn,rfl,rfl⟩:=hw;refine⟨I,fun q Q M ho=>?_,fun Q M ho=>absurd ho (U _ _ _ _)⟩;rcases N t' j' q Q M ho with⟨A,_⟩|⟨t2,j2,p,A,_,m,_⟩
    ·rw[hn]at A;cases A
    ·rw[hn]at A;cases A;simp only[h',hn];exact hr.2.1 p Q M m
   |_=>exact hw.elim
  |ptr t' j' i' R=>
   cases x with
   |ptr t j i c=>
    obtain⟨hn,rfl,rfl⟩:=hw;refine⟨I,fun q Q M ho=>?_⟩;rcases N t' j' q Q M ho with⟨A,_⟩|⟨t2,j2,p,A,_,m,_⟩
    ·rw[hn]at A;cases A
    ·rw[hn]at A;cases A;simp only[h',hn];exact hr.2 p Q M m
   |_=>exact hw.elim
  |ac t' j' i' R z=>
   cases x with
   |ac t j i c o=>
    obtain⟨hn,rfl,rfl,rfl,hq⟩:=hw;refine⟨I,fun Q M ho=>?_⟩;rcases N t' j' true Q M ho with⟨A,_⟩|⟨t2,j2,p,A,_,m,hp⟩
    ·rw[hn]at A;cases A
    ·rw[hn]at A;cases A;simp only[h',hn];rcases hp with rfl|⟨rfl,aJ⟩
     ·exact hr.2 Q M m
     ·rw[m]at hq;exact hq.elim
   |_=>exact hw.elim
  |Z t' R=>
   cases x with
   |Z t c=>obtain⟨hn,rfl⟩:=hw;refine⟨I,fun G ho=>?_⟩;obtain⟨t2,j2,C,A,_,m,_⟩:=X t' 0 G ho;rw[hn]at A;cases A;simp only[h',hn];exact hr.2 C m
   |_=>exact hw.elim
  |fn D t'=>
   cases x with
   |fn f t=>obtain⟨hn,rfl⟩:=hw;refine⟨I,fun G ho=>?_⟩;obtain⟨t2,j2,C,A,_,m,_⟩:=X t' 0 G ho;rw[hn]at A;cases A;simp only[h',hn];exact hr.2 C m
   |_=>exact hw.elim
  |am r' R=>
   cases x with
   |am r0 c=>obtain⟨rfl,rfl⟩:=hw;obtain⟨b,aw,g,e,hk⟩:=hr;exact⟨b,aw,g,e,fun k d hd=>⟨(hk k d hd).1,(hk k d hd).2.1.imp id .inl,Rd.mono P (hk k d hd).2.2⟩⟩
   |_=>exact hw.elim
 have T:∀{xs ys:List At}{vs:List Value},ID σ ρ F xs ys->Yn (Ys (ak T0 ad) h σ.ob w) xs vs->Yn (Ys (ak T0 X') h' σ'.ob w) ys vs:=by
  intro xs;induction xs with
  |nil=>intro ys vs hw hr;cases ys with
   |nil=>cases hr;exact .nil
   |cons y ys=>exact hw.elim
  |cons x xs ih=>intro ys vs hw hr;cases ys with
   |nil=>exact hw.elim
   |cons y ys=>cases hr with
    |cons I hr=>exact .cons (ac hw.1 I) (ih hw.2 hr)
 have v_:∀{x y:V}{v:Value},dG σ ρ F x y->J8 (ak T0 ad) h σ.ob w x v->J8 (ak T0 X') h' σ'.ob w y v:=by
  intro x y v hw hr;cases y with
  |any=>trivial
  |one y=>cases x with
   |one x=>exact ac hw hr
   |fix u x=>cases x with
    |one x=>exact ac hw hr.2
    |_=>exact hw.elim
   |_=>exact hw.elim
  |agg ys=>cases x with
   |agg xs=>obtain⟨C,e,hr⟩:=hr;exact⟨C,e,T hw hr⟩
   |fix u x=>cases x with
    |agg xs=>obtain⟨C,e,hr⟩:=hr.2;exact⟨C,e,T hw hr⟩
    |_=>exact hw.elim
   |_=>exact hw.elim
  |Z ys=>cases x with
   |fix u x=>cases x<;>exact hw.elim
   |_=>exact hw.elim
  |O g y=>cases x with
   |fix u x=>cases x<;>exact hw.elim
   |_=>exact hw.elim
  |fix u' y=>cases x with
   |fix u x=>cases x with
    |one x=>cases y with
     |one y=>obtain⟨rfl,hw⟩:=hw;exact⟨hr.1,ac hw hr.2⟩
     |_=>exact hw.elim
    |agg xs=>cases y with
     |agg ys=>obtain⟨rfl,hw⟩:=hw;obtain⟨H,C,e,hr⟩:=hr;exact⟨H,C,e,T hw hr⟩
     |_=>exact hw.elim
    |_=>cases y<;>exact hw.elim
   |_=>cases y<;>exact hw.elim
 have W:∀t j,σ'.ob t j≠ .none->(jm ρ t j=none/\∀b,¬(h' t j).u b)\/∃o,jm ρ t j=some o/\σ.ob o.1 o.2≠ .none/\bS F o.1 o.2=false/\h' t j=h o.1 o.2:=by
  intro t j hn;cases ho:σ'.ob t j with
  |none=>exact absurd ho hn
  |arr q Q M=>
   rcases N t j q Q M ho with⟨A,_⟩|⟨t2,j2,p,A,l,m,_⟩
   ·exact .inl ⟨A,fun b J=>by simp only[h',A,Hd.of,blk]at J;cases J⟩
   ·exact .inr ⟨(t2,j2),A,by rw[m];simp,l,by simp only[h',A]⟩
  |lit Q M=>exact absurd ho (U _ _ _ _)
  |box G=>obtain⟨t2,j2,C,A,l,m,_⟩:=X t j G ho;exact .inr ⟨(t2,j2),A,by rw[m];simp,l,by simp only[h',A]⟩
 refine⟨X',h',by rw[r.size,aC],r.defers,r.d,fun b J=>?_,r.f,fun t ht=>?_,fun t j=>?_,fun t j b hn J=>?_,fun t j b hn J=>?_,fun t j t' j' b hn A J aj=>?_⟩
 ·rcases J with J|⟨t,j,_,hn,J⟩
  ·exact r.e b J
  ·have:=r.own t j b hn J;exact⟨this.1,this.2.2⟩
 ·exact v_ (am t).1 (r.slot t (by rw[aC];exact ht))
 ·cases ho:σ'.ob t j with
  |none=>trivial
  |lit Q M=>exact absurd ho (U _ _ _ _)
  |arr q Q M=>
   rcases N t j q Q M ho with⟨hn,rfl⟩|⟨u,k,p,hn,_,m,hp⟩
   ·have:h' t j=Hd.of (.slice none 0 0):=by simp only[h',hn]
    rw[this];cases q with
    |false=>exact⟨0,[],World.ownsRow_nil w 0 0 Q,cN,.nil⟩
    |true=>exact⟨0,[],World.ownsRow_nil w 0 0 Q,cN,zq.nil _,fun k x d O=>by simp at O⟩
   ·have he:h' t j=h u k:=by simp only[h',hn]
    rw[he];have h0:=r.obj u k
    rw[m]at h0;cases p with
    |false=>
     obtain⟨e,xs,av,hz,aa⟩:=h0;cases q with
     |false=>exact⟨e,xs,av,hz,aa.imp fun _ _=>Rd.mono P⟩
     |true=>
      rcases hp with hp|⟨_,aJ⟩
      ·cases hp
      ·have S:∀d∈M.flatten,d.scalar=true:=fun d hd=>by obtain⟨r0,ah,L⟩:=List.mem_flatten.1 hd;exact aJ r0 ah d L
       exact⟨e,xs,av,hz,n1 aa S,fun k x d _ hd hs=>by rw[S d (List.mem_of_getElem? hd)]at hs;cases hs⟩
    |true=>
     rcases hp with rfl|⟨hp,_⟩
     ·exact h0
     ·cases hp
  |box G=>
   obtain⟨u,k,C,hn,_,m,aK⟩:=X t j G ho;have h0:=r.obj u k
   rw[m]at h0;obtain⟨b,vs,e,hv,hh,aa⟩:=h0;have he:h' t j=h u k:=by simp only[h',hn]
   rw[he];exact⟨b,vs,e,hv,hh,T aK aa⟩
 ·rcases W t j hn with⟨hr,_⟩|⟨o,hr,n,l,he⟩
  ·simp only[h',hr,Hd.of,blk]at J;cases J
  ·rw[he]at J⊢;exact r.c o.1 o.2 b n J
 ·rcases W t j hn with⟨_,n⟩|⟨o,hr,n,l,he⟩
  ·exact absurd J (n b)
  ·rw[he]at J;have h0:=r.own o.1 o.2 b n J
   refine⟨h0.1,?_,h0.2.2⟩;rintro(O|⟨t2,j2,ab,au,aD⟩)
   ·exact h0.2.1 O
   ·obtain⟨h3,h4⟩:=r.inj o.1 o.2 t2 j2 b n au J aD;rw[h3,h4]at l;rw[l]at ab;cases ab
 ·rcases W t j hn with⟨_,n⟩|⟨o,hr,n,_,he⟩
  ·exact absurd J (n b)
  ·rcases W t' j' A with⟨_,hno'⟩|⟨z,ax,hno',_,an⟩
   ·exact absurd aj (hno' b)
   ·rw[he]at J;rw[an]at aj;obtain⟨h3,h4⟩:=r.inj o.1 o.2 z.1 z.2 b n hno' J aj;have:o=z:=Prod.ext h3 h4
    subst this;exact r7 ap hn A hr ax
theorem Qu(hs:Gd σ [] [] σ σ' 0):Wk σ σ':=Ya [] [] rfl hs
attribute [simp] jm bS ss ID dG nj ff Gd xN Sx gI PA
open Go.RowKit
variable{P:Program}{N:Array Oper}{ap:List Oper}{ah:Oper->Bool}{af:U->Prop}
def Xj(P:Program)(σ:U):List Operand->List TypeId->Prop×Option (List (List D))
 |[],_=>(True,some [])
 |x::xs,t::ts=>(am (look P σ t x)=true/\(Xj P σ xs ts).1,match(unc (look P σ t x)).xJ σ,(Xj P σ xs ts).2 with|some r,some rs=>some (r::rs)|_,_=>none)
 |_::_,[]=>(False,none)
theorem WX{P:Program}{σ:U}:∀{xs:List Operand}{ts:List TypeId}{rs:List (List D)},(Xj P σ xs ts).1->(Xj P σ xs ts).2=some rs->JD P σ xs ts rs
 |[],_,rs,_,h=>by simp[Xj]at h;exact h
 |x::xs,t::ts,rs,I,h=>by
  simp only[Xj]at h;split at h
  ·rename_i r b hr s;cases h;exact⟨I.1,r,b,hr,WX I.2 s,rfl⟩
  ·cases h
 |_::_,[],_,I,_=>I.elim
attribute [simp] Xj
theorem Fa{o:Oper}{own:Bool}(A:o.op= .call c)(Z:c.callee= .value (.func f))(hg:o.guard=none)(hd:o.dst=some d)
  (hs:JT P f own M H) (b:(Xj P σ c.args.toList c.argTypes.toList).2=some M) (al:(Xj P σ c.args.toList c.argTypes.toList).1) (au:Yz P σ c.args.toList c.argTypes.toList=true\/zu own H) (h:Ev P N ah ap (σ.put d (VO H)) af):kU P N ah o ap σ af:=
 n2 A Z hg hd (WX al b) hs au h
theorem zs{o:Oper}(A:o.op= .call c)(Z:c.callee= .value (.func f))(hg:o.guard=none)(hd:o.dst=some d)
  (hs:JT P f true M H) (b:(Xj P σ c.args.toList c.argTypes.toList).2=some M) (al:(Xj P σ c.args.toList c.argTypes.toList).1) (au:Yz P σ c.args.toList c.argTypes.toList=true\/zu true H) (hf:σ.fresh d=true) (h:Ev P N ah ap (σ.new d (Px d H) (kp H.flatten)) af):kU P N ah o ap σ af:=
 r5 A Z hg hd (WX al b) hs au hf h
theorem mn{o:Oper}(qs:List Bool)(A:o.op= .call c)(Z:c.callee= .value (.func f))(hg:o.guard=none)(hd:o.dst=some d)
  (hs:YJ P f M H) (b:(Xj P σ c.args.toList c.argTypes.toList).2=some M) (al:(Xj P σ c.args.toList c.argTypes.toList).1) (hq:Uz qs H.flatten) (hf:σ.fresh d=true) (h:Ev P N ah ap (σ.new d (Px d H) (Yg qs H.flatten)) af):kU P N ah o ap σ af:=
 ox qs A Z hg hd (WX al b) hs hq hf h
theorem np{o:Oper}{own:Bool}{H:List D}(A:o.op= .call c)(Z:c.callee= .value (.func f))(hg:o.guard=some (j,aN))(hd:o.dst=some d)
  (i:(N[j]?).bind (·.dst)=some G) (C:VT aN (σ.get G)=some g) (hs:g=true->JT P f own M [H])
  (b:(Xj P σ c.args.toList c.argTypes.toList).2=some M) (ag:G<σ.length)
  (al:g=true->(Xj P σ c.args.toList c.argTypes.toList).1) (au:Yz P σ c.args.toList c.argTypes.toList=true\/zu own [H]) (h:Ev P N ah ap (σ.put d (.O g (VO [H]))) af):kU P N ah o ap σ af:=
 lH A Z hg hd i ag C (fun hh=>WX (al hh) b) hs au h
def Z3:Nat->List (Nat×V×List Ob)->U
 |n,[]=>List.replicate n (V.any,[])
 |n,(t,v,aa)::l=>(Z3 n l).new t v aa
attribute [simp] Z3
open Go.RowKit
variable{parts:Array (Nat×Operand)}{z:List At}
def gx(P:Program)(b:Bool)(x y:Code)(af:Exit->U->Prop)(σ:U):Prop:=(b=true->a3 P x af σ)/\(b=false->a3 P y af σ)
def h0(P:Program)(c:Code)(af:Exit->U->Prop)(σ:U):Prop:=a3 P (.loop c) af σ
def im(P:Program)(ri:Nat)(N:Array Oper)(af:Exit->U->Prop)(σ:U):Prop:=a3 P (.region ri N true) af σ
def v7(P:Program)(c:Code)(af:Exit->U->Prop)(σ:U):Prop:=a3 P c af σ
def Wx(P:Program):Code->(Exit->U->Prop)->U->Prop
 |.seq x y,af,σ=>Wx P x (wP (Wx P y af) af) σ
 |.region _ ⟨l⟩ false,af,σ=>Ev P ⟨l⟩ (fun _=>true) l σ (af .normal)
 |.region ri N true,af,σ=>im P ri N af σ
 |.cond c x y,af,σ=>(match look P σ 0 c with|.one (.d (.bool b))=>gx P b x y af σ|_=>False)
 |.block ri c,af,σ=>Wx P c (Ic ri af) σ
 |.loop c,af,σ=>h0 P c af σ
 |.skip,af,σ=>af .normal σ
 |.exit ri,af,σ=>af (.exit ri) σ
 |.ret,af,σ=>af .ret σ
 |.rangeFunc f K x y,af,σ=>v7 P (.rangeFunc f K x y) af σ
 |.scope c,af,σ=>v7 P (.scope c) af σ
 |.label l,af,σ=>v7 P (.label l) af σ
 |.goto l,af,σ=>v7 P (.goto l) af σ
 |.refuse s,af,σ=>v7 P (.refuse s) af σ
theorem Sp{P:Program}:∀{c:Code}{af:Exit->U->Prop}{σ:U},Wx P c af σ->a3 P c af σ
 |.seq x y,af,σ,h=>by rw[Wx]at h;refine xJ (lG (fun e σ' hq=>?_) (Sp h));cases e<;>simp only[wP]at hq⊢<;>first|exact Sp hq|exact hq
 |.region _ ⟨l⟩ false,af,σ,h=>mo h
 |.region ri N true,af,σ,h=>h
 |.cond c x y,af,σ,h=>by
  rw[Wx]at h;split at h
  ·rename_i b J;exact rm J h.1 h.2
  ·exact h.elim
 |.block ri c,af,σ,h=>px (Sp (by rw[Wx]at h;exact h))
 |.loop c,af,σ,h=>h
 |.skip,af,σ,h=>mZ h
 |.exit ri,af,σ,h=>lI h
 |.ret,af,σ,h=>m4 h
 |.rangeFunc _ _ _ _,af,σ,h=>h
 |.scope _,af,σ,h=>h
 |.label _,af,σ,h=>h
 |.goto _,af,σ,h=>h
 |.refuse _,af,σ,h=>h
class yL where
 c:Code
class yC where
 ops:Array Oper
 a:Oper->Bool
variable{ai:yC}
class yf where
 l:List Oper
class dE where
 o:Oper
variable{o:dE}
class inductive Fr where
 |fin (af:Exit->U->Prop)
 |sq (y:Code) (k:Fr)
 |blk (ri:Nat) (k:Fr)
 |nxt (n:U->Prop) (k:Fr)
variable{k:Fr}
def Fr.run(P:Program):Fr->Exit->U->Prop
 |.fin af,e,σ=>af e σ
 |.sq y k,e,σ=>wP (Wx P y (Fr.run P k)) (Fr.run P k) e σ
 |.blk ri k,e,σ=>Ic ri (Fr.run P k) e σ
 |.nxt n k,e,σ=>wP n (Fr.run P k) e σ
def WI(P:Program)(σ:U)[c:yL][k:Fr]:Prop:=Wx P c.c (k.run P) σ
def LI(P:Program)(e:Exit)(σ:U)[k:Fr]:Prop:=k.run P e σ
def EI(P:Program)(σ:U)[ai:yC][l:yf][k:Fr]:Prop:=Ev P ai.ops ai.a l.l σ (k.run P .normal)
def SI(P:Program)(σ:U)[ai:yC][o:dE][l:yf][k:Fr]:Prop:=kU P ai.ops ai.a o.o l.l σ (k.run P .normal)
def CI(P:Program)(b:Bool)(σ:U)[x:yL][y:yL][k:Fr]:Prop:=gx P b x.c y.c (k.run P) σ
def Nm(P:Program)(σ:U)[c:yL][k:Fr]:Prop:=h0 P c.c (k.run P) σ
def DI(P:Program)(ri:Nat)(σ:U)[ai:yC][k:Fr]:Prop:=im P ri ai.ops (k.run P) σ
theorem nL{x y:Code}:@WI P σ ⟨.seq x y⟩ k=@WI P σ ⟨x⟩ (.sq y k):=by simp only[WI];rw[Wx];congr 1
theorem O7{l:List Oper}:@WI P σ ⟨.region ri ⟨l⟩ false⟩ k=@EI P σ ⟨⟨l⟩,fun _=>true⟩ ⟨l⟩ k:=by simp only[WI,EI,Wx]
theorem rX:@WI P σ ⟨.region ri N true⟩ k=@DI P ri σ ⟨N,fun _=>true⟩ k:=by simp only[WI,DI,Wx]
theorem ov{c:Operand}{x y:Code}:@WI P σ ⟨.cond c x y⟩ k=(match look P σ 0 c with|.one (.d (.bool b))=>@CI P b σ ⟨x⟩ ⟨y⟩ k|_=>False):=by simp only[WI,CI,Wx]
theorem q2{c:Code}:@WI P σ ⟨.block ri c⟩ k=@WI P σ ⟨c⟩ (.blk ri k):=by simp only[WI];rw[Wx];congr 1
theorem x0{c:Code}:@WI P σ ⟨.loop c⟩ k=@Nm P σ ⟨c⟩ k:=by simp only[WI,Nm,Wx]
theorem un:@WI P σ ⟨.skip⟩ k=@LI P .normal σ k:=by simp only[WI,LI,Wx]
theorem s6:@WI P σ ⟨.exit ri⟩ k=@LI P (.exit ri) σ k:=by simp only[WI,LI,Wx]
theorem w7:@WI P σ ⟨.ret⟩ k=@LI P .ret σ k:=by simp only[WI,LI,Wx]
theorem nf{af:Exit->U->Prop}:@LI P e σ (.fin af)=af e σ:=rfl
theorem o7{y:Code}:@LI P .normal σ (.sq y k)=@WI P σ ⟨y⟩ k:=rfl
theorem sm{y:Code}:@LI P (.exit ri) σ (.sq y k)=@LI P (.exit ri) σ k:=rfl
theorem DS{y:Code}:@LI P .ret σ (.sq y k)=@LI P .ret σ k:=rfl
theorem wN{n:U->Prop}:@LI P .normal σ (.nxt n k)=n σ:=rfl
theorem To{n:U->Prop}:@LI P (.exit ri) σ (.nxt n k)=@LI P (.exit ri) σ k:=rfl
theorem p2{n:U->Prop}:@LI P .ret σ (.nxt n k)=@LI P .ret σ k:=rfl
theorem n6:@LI P .normal σ (.blk ri k)=@LI P .normal σ k:=rfl
theorem AO:@LI P .ret σ (.blk ri k)=@LI P .ret σ k:=rfl
theorem ol{b:Nat}:@LI P (.exit b) σ (.blk ri k)=if b=ri then@LI P .normal σ k else@LI P (.exit b) σ k:=rfl
theorem mM:@EI P σ ai ⟨[]⟩ k=@LI P .normal σ k:=by simp only[EI,LI,Ev]
theorem mm{o:Oper}:@EI P σ ai ⟨o::ap⟩ k=
  (if ew P ai.a o then@SI P σ ai ⟨o⟩ ⟨ap⟩ k else
  match o.guard with
  |none=>
   (match o.dst with
   |some d=>(bF P σ o d).1/\@EI P (bF P σ o d).2 ai ⟨ap⟩ k
   |none=>(match o.op with|.store T x y=>if fL P σ T x y then@SI P σ ai ⟨o⟩ ⟨ap⟩ k else(iO P σ T x y).1/\@EI P (iO P σ T x y).2 ai ⟨ap⟩ k|_=>False))
  |some (j,aN)=>
   (match(ai.ops[j]?).bind (·.dst),o.dst with
   |some G,some d=>(match VT aN (σ.get G)with
    |some g=>(G<σ.length/\(g=true->(aU P σ o.op o.type).1/\am (aU P σ o.op o.type).2=true/\(unc (aU P σ o.op o.type).2).flat=true))/\@EI P (σ.put d (.O g (unc (aU P σ o.op o.type).2))) ai ⟨ap⟩ k
    |none=>False)
   |_,_=>False)):=by
 simp only[EI,SI];rw[Ev];rfl
def gM{ι:Type}(S:ι->U)(μ:ι->Nat)(b:Nat)(σ:U):Prop:=∃i',μ i'<b/\Wk σ (S i')
theorem gw{ι:Type}{S:ι->U}{μ:ι->Nat}(i:ι)(hm:μ i<b)(hw:Wk σ (S i)):gM S μ b σ:=⟨i,hm,hw⟩
theorem fv{c:yL}{ι:Type}(S:ι->U)(μ:ι->Nat)(j:ι)(h0:Wk σ (S j))
  (m:∀i,@WI P (S i) c (.nxt (gM S μ (μ i)) k)):@Nm P σ c k:=
 Uh S μ j h0 fun i=>Sp (m i)
theorem El{c:Code}(hf:P.funcs[f]?=some fn)(J:fn.body=some c)(ap:R7 P f=true){own:Bool}
  (hw:@WI P (TW fn.ntmps ax) ⟨c⟩ (.fin (nO P fn own H))):JT P f own ax H:=mL hf J ap (Sp hw)
theorem fw{l:yf}{own:Bool}{H:List D}(A:o.o.op= .call c)(Z:c.callee= .value (.func f))(hg:o.o.guard=some (j,aN))(hd:o.o.dst=some d)
  (i:(ai.ops[j]?).bind (·.dst)=some G) (C:VT aN (σ.get G)=some g) (hs:g=true->JT P f own M [H])
  (b:(Xj P σ c.args.toList c.argTypes.toList).2=some M) (ag:G<σ.length)
  (al:g=true->(Xj P σ c.args.toList c.argTypes.toList).1) (au:Yz P σ c.args.toList c.argTypes.toList=true\/zu own [H]) (h:@EI P (σ.put d (.O g (VO [H]))) ai l k):@SI P σ ai o l k:=
 np A Z hg hd i C hs b ag al au h
theorem c4{ap:yf}{S T:TypeId}{l:List UInt8}(A:o.o.op= .convert S T x)(hg:o.o.guard=none)(hd:o.o.dst=some d)
  (I:am (look P σ S x)=true) (X:Ig P S=true) (h3:Oo P T=true) (h4:yh σ (unc (look P σ S x)) 1 (yY l)) (h:@EI P (σ.put d (.one (.d (.str ⟨l.toArray⟩)))) ai ap k):@SI P σ ai o ap k:=
 A3 A hg hd I X h3 h4 h
theorem rs{ap:yf}{S T:TypeId}(A:o.o.op= .convert S T x)(hg:o.o.guard=none)(hd:o.o.dst=some d)
  (I:am (look P σ S x)=true) (X:Oo P S=true) (h3:Ig P T=true) (h4:unc (look P σ S x)= .one (.d (.str s))) (h5:s.size<=9223372036854775807) (h:@EI P (σ.put d (.one (.d (.sl 1 (yY s.data.toList))))) ai ap k):@SI P σ ai o ap k:=
 Lm A hg hd I X h3 h4 h5 h
theorem j3{c:Code}(hf:P.funcs[f]?=some fn)(J:fn.body=some c)(ap:R7 P f=true)
  (hw:@WI P (TW fn.ntmps ax) ⟨c⟩ (.fin (de P fn H))):YJ P f ax H:=tb hf J ap (Sp hw)
def Av(o:Oper):Bool:=match o.op with|.call ⟨.value _,_,_⟩=>false|_=>true
theorem bz{l:yf}(hp:Av o.o=true)(hg:o.o.guard=none)(hd:o.o.dst=some d)(h:(bF P σ o.o d).1/\@EI P (bF P σ o.o d).2 ai l k):@SI P σ ai o l k:=by refine lB (fun c A f Z=>?_) hg hd h.1 h.2;obtain⟨cc,L,J⟩:=c;simp only at Z;subst Z;simp[Av,A]at hp
theorem lu{l:yf}{T:TypeId}(A:o.o.op= .buildSlice T n parts)(hg:o.o.guard=none)(hd:o.o.dst=some d)
  (I:σ.fresh d=true/\Xo P T=true/\Qq P (E P T)=true/\0<P.cellsOf (E P T)/\parts.toList.length=n/\n*P.cellsOf (E P T)<=16777216) (X:(xK P σ (E P T) (P.cellsOf (E P T)) parts.toList 0).1)
  (h3:Y6 d (xK P σ (E P T) (P.cellsOf (E P T)) parts.toList 0).2.flatten=false)
  (h:@EI P (σ.new d (.one (.O d 0 0 (xK P σ (E P T) (P.cellsOf (E P T)) parts.toList 0).2.length)) [.lit (P.cellsOf (E P T)) (xK P σ (E P T) (P.cellsOf (E P T)) parts.toList 0).2]) ai l k):@SI P σ ai o l k:=w5 A hg hd I X h3 h
theorem eo{l:yf}{T:TypeId}(A:o.o.op= .makeSlice T x x)(hg:o.o.guard=none)(hd:o.o.dst=some d)
  (hz:TG P 12 (E P T)=some z) (D:zD z=some zr) (j:C0 z=true) (I:σ.fresh d=true/\Xo P T=true/\Qq P (E P T)=true/\0<P.cellsOf (E P T)/\(aP P σ x).1) (hn:(aP P σ x).2=(n:Int)) (J:P.bytesOf (E P T)*n<=281474976710656) (hm:n<=9223372036854775807)
  (h:@EI P (σ.new d (.one (.O d 0 0 n)) [.arr true (P.cellsOf (E P T)) (List.replicate n zr)]) ai l k):@SI P σ ai o l k:=k6 A hg hd hz D j I hn J hm h
theorem fi{l:yf}{t:TypeId}(A:o.o.op= .call ⟨.builtin .append,#[x,y],#[t,t]⟩)(hg:o.o.guard=none)(hd:o.o.dst=some d)(g:ai.a o.o=true)
  (aI:Q=P.cellsOf (E P t)) (I:am (look P σ t x)=true/\am (look P σ t y)=true/\Xo P t=true/\Qq P (E P t)=true/\0<P.cellsOf (E P t))
  (X:(Pp σ (unc (look P σ t x)) Q).1/\(Pp σ (unc (look P σ t x)) Q).2=(aq,l1)) (h3:(PK σ (unc (look P σ t y)) Q).1/\(PK σ (unc (look P σ t y)) Q).2=(al,l2))
  (h4:(l1++l2).Nodup/\(σ.YI (l1++l2)).fresh d=true) (h5:(aq.length+al.length)*P.bytesOf (E P t)<=140737488355328/\aq.length+al.length<=9223372036854775807)
  (h:@EI P ((σ.YI (l1++l2)).new d (.one (.O d 0 0 (aq.length+al.length))) [.arr true Q (aq++al)]) ai l k):@SI P σ ai o l k:=u2 A hg hd g aI I X h3 h4 h5 h
theorem TV{l:yf}{t:TypeId}{u lo:Nat}(A:o.o.op= .call ⟨.builtin .append,#[x,y],#[t,t]⟩)(hg:o.o.guard=none)(hd:o.o.dst=some d)(g:ai.a o.o=true)
  (aI:Q=P.cellsOf (E P t)) (I:am (look P σ t x)=true/\am (look P σ t y)=true/\Xo P t=true/\Qq P (E P t)=true/\0<P.cellsOf (E P t))
  (X:unc (look P σ t x)= .one (.O u j 0 ae)) (h3:unc (look P σ t y)= .one (.O u j lo n)) (ho:σ.ob u j= .arr true Q M) (aF:ae<=lo) (H:lo+n<=M.length)
  (f:cut M lo n=al) (h4:(σ.Yj u j .none).fresh d=true) (h5:(ae+n)*P.bytesOf (E P t)<=140737488355328/\ae+n<=9223372036854775807)
  (h:@EI P ((σ.Yj u j .none).new d (.one (.O d 0 0 ((M.take ae).length+al.length))) [.arr true Q (M.take ae++al)]) ai l k):@SI P σ ai o l k:=xc A hg hd g aI I X h3 ho aF H f h4 h5 h
theorem eV{l:yf}{t:TypeId}{u lo:Nat}(A:o.o.op= .call ⟨.builtin .append,#[x,y],#[t,t]⟩)(hg:o.o.guard=none)(hd:o.o.dst=some d)(g:ai.a o.o=true)
  (aI:Q=P.cellsOf (E P t)) (I:am (look P σ t x)=true/\am (look P σ t y)=true/\Xo P t=true/\Qq P (E P t)=true/\0<P.cellsOf (E P t))
  (X:l4 σ (unc (look P σ t x)) Q aq l1) (h3:unc (look P σ t y)= .one (.O u j lo n)) (ho:σ.ob u j= .arr true Q M) (aj:(u,j)∉l1) (aF:lo+n<=M.length) (f:cut M lo n=al)
  (h4:((σ.Yj u j (.arr true Q (K6 M lo n))).YI l1).fresh d=true) (h5:(aq.length+n)*P.bytesOf (E P t)<=140737488355328/\aq.length+n<=9223372036854775807)
  (h:@EI P (((σ.Yj u j (.arr true Q (K6 M lo n))).YI l1).new d (.one (.O d 0 0 (aq.length+al.length))) [.arr true Q (aq++al)]) ai l k):@SI P σ ai o l k:=r8 A hg hd g aI I X h3 ho aj aF f h4 h5 h
theorem eE{l:yf}{T:TypeId}{c:Nat}(A:o.o.op= .store T x y)(hg:o.o.guard=none)(hd:o.o.dst=none)(g:ai.a o.o=true)
  (O:unc (look P σ 0 x)= .one (.ptr t j i c)) (ho:σ.ob t j= .arr true Q M) (hi:i<M.length) (I:Wj P T=true/\am (look P σ 0 x)=true/\am (look P σ T y)=true/\(unc (look P σ T y)).flat=true)
  (X:JA σ (unc (look P σ T y)).cells=some ds) (h3:QO σ (unc (look P σ T y)).cells) (h4:Yp (unc (look P σ T y)).cells=L) (h5:L.Nodup/\(t,j)∉L/\(σ.YI L).zX (At.isT t)=false) (h6:ds.length=P.cellsOf T/\c+P.cellsOf T<=Q)
  (h:@EI P ((σ.YI L).Yj t j (.arr true Q (M.set i (place (rowAt M i) c ds)))) ai l k):@SI P σ ai o l k:=ro A hg hd g O ho hi I X h3 h4 h5 h6 h
theorem rO{l:yf}{T:TypeId}(A:o.o.op= .store T x y)(hg:o.o.guard=none)(hd:o.o.dst=none)(g:ai.a o.o=true)
  (O:unc (look P σ 0 x)= .one (.ptr t j i 0)) (ho:σ.ob t j= .arr true Q M) (hi:i<M.length) (I:Wj P T=true/\am (look P σ 0 x)=true/\am (look P σ T y)=true/\(unc (look P σ T y)).flat=true)
  (X:JA σ (unc (look P σ T y)).cells=some ds) (h3:QO σ (unc (look P σ T y)).cells) (h4:Yp (unc (look P σ T y)).cells=L) (h5:L.Nodup/\(t,j)∉L/\(σ.YI L).zX (At.isT t)=false) (h6:ds.length=P.cellsOf T/\P.cellsOf T=Q)
  (h:@EI P ((σ.YI L).Yj t j (.arr true Q (M.set i ds))) ai l k):@SI P σ ai o l k:=sz A hg hd g O ho hi I X h3 h4 h5 h6 h
theorem iz{l:yf}{T:TypeId}{c k' q:Nat}{s:List (List D)}(A:o.o.op= .store T x y)(hg:o.o.guard=none)(hd:o.o.dst=none)(g:ai.a o.o=true)
  (O:unc (look P σ 0 x)= .one (.ac t j i c (some aw))) (d:aw=k'*n+q) (ho:σ.ob t j= .arr true Q M) (hi:i<M.length) (Z:(rowAt M i)[c]?=some (.sl n s)) (hk:k'<s.length) (I:Wj P T=true/\am (look P σ 0 x)=true/\am (look P σ T y)=true/\(unc (look P σ T y)).flat=true)
  (X:JA σ (unc (look P σ T y)).cells=some ds) (h3:QO σ (unc (look P σ T y)).cells) (h4:Yp (unc (look P σ T y)).cells=L) (h5:L.Nodup/\(t,j)∉L) (h6:ds.length=P.cellsOf T/\q+P.cellsOf T<=n)
  (h:@EI P ((σ.YI L).Yj t j (.arr true Q (M.set i (place (rowAt M i) c [.sl n (s.set k' (place (rowAt s k') q ds))])))) ai l k):@SI P σ ai o l k:=md A hg hd g ⟨d▸O,ho,hi,Z,hk,I,X,h3,h4,h5,h6⟩ h
attribute [simp] rX nL O7 ov q2 x0 un s6 w7 nf o7 sm DS wN To p2 n6 AO ol mM mm
open Go.RowKit
def cf(w:World):CS:=fun b _=>b<w.heap.size
def e2(w:World)(v:Value)(ac:List D):Prop:=∃C,yg v C/\Yn (Rd (cf w) w) C ac
theorem vY{own:Bool}(h:JT P f own M [[.bool true]])(hv:Yn (e2 w) au M):
  Calls P f au.toArray w fun e w'=>e= .returned (.bool true)/\Below w.heap.size w w':=by
 refine(h.2 (cf w) w au (fun _ _ J=>J) hv).mono ?_;rintro e w' ⟨vs,E,y,rfl,J,_,hf,hr,_⟩;refine⟨?_,J⟩;cases hr with
 |cons I hr=>
  cases hr;cases hf with
  |cons X hf=>
   cases hf;cases I with
   |cons h3 I=>
    cases I;have h4:∀v,U6 own (ak (cf w) y) w' v (.bool true)->Rd (ak (cf w) y) w' v (.bool true):=by
     intro v hv;unfold U6 at hv;split at hv
     ·exact hv
     ·exact hv
    have h4:=h4 _ h3;cases h4;rcases X with⟨v,aK,hvv,_⟩|⟨hl,_⟩
    ·cases aK;rw[hvv];rfl
    ·simp at hl
open Go.RowKit
variable{sp:Nat->Bool}{K:List MemPlace}{E:Array Field}
def Mf(P:Program):Nat->TypeId->Bool
 |0,_=>false
 |n+1,t=>
  match P.underlying t with
  |some .bool=>true
  |some (.int _)=>true
  |some .string=>true
  |some (.slice e)=>Mf P n e
  |some (.struct E)=>E.toList.all (fun f=>Mf P n f.type)&&P.cellsOf t !=1
  |_=>false
def az(P:Program):Nat->TypeId->List D->Prop
 |0,_,_=>False
 |n+1,t,ac=>
  match P.underlying t with
  |some .bool=>∃b,ac=[.bool b]
  |some (.int k)=>∃m,ac=[.int k m]/\k.min<=m/\m<=k.max
  |some .string=>∃s,ac=[.str s]/\s.size<=maxLen
  |some (.slice e)=>∃M,ac=[.sl (P.cellsOf e) M]/\M.length<=maxLen/\∀r∈M,az P n e r/\r.length=P.cellsOf e
  |some (.struct E)=>ac.length=P.cellsOf t/\∀f∈E.toList,az P n f.type (cut ac f.offset (P.cellsOf f.type))
  |_=>False
def Il(P:Program):Nat->List Field->Nat->Bool
 |k,[],n=>k==n
 |k,f::E,n=>f.offset==k&&Il P (k+P.cellsOf f.type) E n
def ph(P:Program):Nat->TypeId->Bool
 |0,_=>false
 |n+1,t=>
  match P.underlying t with
  |some .bool=>P.cellsOf t==1
  |some (.int _)=>P.cellsOf t==1
  |some .string=>P.cellsOf t==1
  |some (.slice e)=>P.cellsOf t==1&&ph P n e
  |some (.struct E)=>E.toList.all (fun f=>ph P n f.type)&&Il P 0 E.toList (P.cellsOf t)
  |_=>false
theorem F2{α β:Type}{f:α->Option β}:∀{l:List α}{m:List β},l.mapM f=some m->l.length=m.length/\∀(i:Nat) a,l[i]?=some a->∃b,m[i]?=some b/\f a=some b
 |[],m,h=>by simp at h;subst h;exact⟨rfl,fun i a ha=>by simp at ha⟩
 |x::l,m,h=>by
  simp only[List.mapM_cons,Option.bind_eq_bind,Option.bind_eq_some_iff]at h;obtain⟨b,J,c,g,h⟩:=h;simp at h;subst h;obtain⟨I,X⟩:=F2 g;refine⟨by simp[I],fun i a ha=>?_⟩;cases i with
  |zero=>simp at ha;subst ha;exact⟨b,ab,J⟩
  |succ i=>simpa using X i a (by simpa using ha)
theorem lk(h:w.cells? 0 a n=some C):C.length=n/\∀i v,C[i]?=some v->w.cell? (a.add i)=some v:=by
 unfold World.cells? at h;simp at h;obtain⟨I,X⟩:=F2 h;simp at I;refine⟨I.symm,fun i v hv=>?_⟩;have hi:i<n:=by have:=(List.getElem?_eq_some_iff.1 hv).1;omega
 obtain⟨b,J,hf⟩:=X i i (by simp[hi]);rw[hv]at J;cases J;exact hf
theorem LP{w:World}{P:Program}{q n:Nat}{C:List Value}(hl:C.length=n):∀{E:List Field}{k:Nat},Il P k E n=true->k<=n->
  (∀f∈E,∃ac,Yn (Rd (cf w) w) (cut C f.offset (P.cellsOf f.type)) ac/\az P q f.type ac)->
  ∃a,Yn (Rd (cf w) w) (C.drop k) a/\∀(s:List D),s.length=k->∀f∈E,az P q f.type (cut (s++a) f.offset (P.cellsOf f.type))
 |[],k,Z,hk,_=>by simp only[Il,beq_iff_eq]at Z;subst Z;exact⟨[],by rw[List.drop_eq_nil_of_le Y];exact .nil,fun _ _ f hf=>by cases hf⟩
 |f::E,k,Z,hk,h=>by
  simp only[Il,Bool.and_eq_true,beq_iff_eq]at Z;obtain⟨ac,aa,aj⟩:=h f ab;rw[Z.1]at aa;have d:k+P.cellsOf f.type<=n:=by
   clear h aa aj;have:∀(E:List Field)(k:Nat),Il P k E n=true->k<=n:=by
    intro E;induction E with
    |nil=>intro k hh;simp[Il]at hh;omega
    |cons g b ih=>intro k hh;simp only[Il,Bool.and_eq_true,beq_iff_eq]at hh;have:=ih _ hh.2;omega
   exact this _ _ Z.2
  have aV:ac.length=P.cellsOf f.type:=by rw[<-aa.length];simp[cut];omega
  obtain⟨a,S,c⟩:=LP hl Z.2 d (fun g hg=>h g (by simp[hg]));refine⟨ac++a,?_,?_⟩
  ·have:C.drop k=cut C k (P.cellsOf f.type)++C.drop (k+P.cellsOf f.type):=by unfold cut;rw[<-List.drop_drop];exact(List.take_append_drop _ _).symm
   rw[this];exact aa.append S
  ·intro s aR g hg;rcases List.mem_cons.1 hg with rfl|hg
   ·have:cut (s++(ac++a)) g.offset (P.cellsOf g.type)=ac:=by unfold cut;rw[Z.1,<-aR,List.drop_left,<-aV,List.take_left]
    rw[this];exact aj
   ·have:=c (s++ac) (by rw[List.length_append,aR,aV]) g hg;rw[<-List.append_assoc];exact this
section
variable{A:Type}{enc:TypeId×Value->A}{t:TypeId}{d:DataW A}
theorem nG(F:P.underlying t=some .bool)(h:DataW.trod enc P w 0 sp J ad t C=some (d,K)):∃b,C=[.bool b]:=by
 cases ad with
 |zero=>simp[DataW.trod]at h
 |succ ad=>unfold DataW.trod at h;rw[F]at h;split at h<;>simp_all
theorem m6{k:IntKind}(F:P.underlying t=some (.int k))(h:DataW.trod enc P w 0 sp J ad t C=some (d,K)):∃m,C=[.int k m]/\k.min<=m/\m<=k.max:=by
 cases ad with
 |zero=>simp[DataW.trod]at h
 |succ ad=>unfold DataW.trod at h;rw[F]at h;split at h<;>simp_all[Lit.wf]
theorem mV(F:P.underlying t=some .string)(h:DataW.trod enc P w 0 sp J ad t C=some (d,K)):∃s,C=[.string s]/\s.size<=maxLen:=by
 cases ad with
 |zero=>simp[DataW.trod]at h
 |succ ad=>unfold DataW.trod at h;rw[F]at h;split at h<;>simp_all
theorem p0{e:TypeId}(F:P.underlying t=some (.slice e))(h:DataW.trod enc P w 0 sp J ad t C=some (d,K)):
  C=[.slice none 0 0]\/∃a ae ah,C=[.slice (some a) ae ah]/\ae<=ah/\ah<=maxLen/\
   ∀i,i<ae->∃xs f x,w.cells? 0 (a.add (i*P.cellsOf e)) (P.cellsOf e)=some xs/\DataW.trod enc P w 0 sp J f e xs=some x:=by
 cases ad with
 |zero=>simp[DataW.trod]at h
 |succ ad=>
  unfold DataW.trod at h;rw[F]at h;split at h<;>first|(simp_all;done)|skip
  rename_i e' a ae ah heq;cases heq;refine .inr ⟨a,ae,ah,rfl,?_⟩;simp only at h;split at h
  ·rename_i Z;refine⟨Z.2.1,Z.2.2,fun i hi=>?_⟩;simp only[Option.bind_eq_some_iff]at h;obtain⟨c,b,_⟩:=h;obtain⟨hl,hg⟩:=F2 b;obtain⟨x,_,O⟩:=hg i i (by simp[hi]);obtain⟨xs,I,X⟩:=Option.bind_eq_some_iff.1 O;exact⟨xs,ad,x,I,X⟩
  ·cases h
theorem tp(F:P.underlying t=some (.struct E))(h:DataW.trod enc P w 0 sp J ad t C=some (d,K)):
  C.length=P.cellsOf t/\∀f∈E.toList,∃q x,DataW.trod enc P w 0 sp J q f.type (cut C f.offset (P.cellsOf f.type))=some x:=by
 cases ad with
 |zero=>simp[DataW.trod]at h
 |succ ad=>
  unfold DataW.trod at h;rw[F]at h;split at h<;>first|(simp_all;done)|skip
  rename_i a heq;cases heq;split at h
  ·rename_i Z;refine⟨Z,fun f hf=>?_⟩;simp only[Option.map_eq_some_iff]at h;obtain⟨xs,O,_⟩:=h;obtain⟨_,hg⟩:=F2 O;obtain⟨i,hi⟩:=List.mem_iff_getElem?.1 hf;obtain⟨x,_,O⟩:=hg i f hi;exact⟨ad,x,O⟩
  ·cases h
end
theorem mb(h:w.cell? a=some v):a.block<w.heap.size:=by
 unfold World.cell? at h;cases hh:w.heap[a.block]? with
 |none=>simp[hh]at h
 |some o=>exact(Array.getElem?_eq_some_iff.1 hh).1
theorem m0(a:Addr)(m k:Nat)(h:m<=k):a.add k=(a.add m).add (k-m):=by
 simp only[Addr.add];by_cases h0:m=0
 ·subst h0;simp
 ·by_cases I:k-m=0
  ·have:k=m:=Y;subst this;simp[h0]
  ·have:k≠0:=Y;simp only[h0,I,this,if_false];congr 1;omega
theorem T0{e:TypeId}{ah:Nat}(l:ae<=ah)(V:ah<=maxLen)
  (h:∀i,i<ae->∃xs ac,w.cells? 0 (a.add (i*Q)) Q=some xs/\Yn (Rd (cf w) w) xs ac/\az P n e ac):
  ∃M:List (List D),Rd (cf w) w (.slice (some a) ae ah) (.sl Q M)/\M.length<=maxLen/\∀r∈M,az P n e r/\r.length=Q:=by
 have ai:∀m,m<=ae->∃M:List (List D),M.length=m/\(∀r∈M,az P n e r/\r.length=Q)/\
   ∀k d,M.flatten[k]?=some d->∃v,w.cell? (a.add k)=some v/\Rd (cf w) w v d:=by
  intro m;induction m with
  |zero=>intro _;exact⟨[],rfl,(by intro r hr;cases hr),(by intro k d hk;simp at hk)⟩
  |succ m ih=>
   intro hm;obtain⟨M,hl,ht,hk⟩:=ih Y;obtain⟨xs,ac,O,aa,aj⟩:=h m Y;obtain⟨aq,j⟩:=lk O;have aV:ac.length=Q:=by rw[<-aa.length,aq]
   have aJ:M.flatten.length=m*Q:=by rw[XM M Q (fun r hr=>(ht r hr).2),hl]
   refine⟨M++[ac],by simp[hl],fun r hr=>?_,fun k d hd=>?_⟩
   ·rcases List.mem_append.1 hr with hr|hr
    ·exact ht r hr
    ·simp at hr;subst hr;exact⟨aj,aV⟩
   ·rw[List.flatten_append,List.flatten_singleton]at hd;rcases Nat.lt_or_ge k M.flatten.length with ag|aG
    ·rw[List.getElem?_append_left ag]at hd;exact hk k d hd
    ·rw[List.getElem?_append_right aG]at hd;obtain⟨v,hv,hr⟩:=aa.get' _ d hd;refine⟨v,?_,hr⟩;have:=j _ v hv
     rw[show a.add k=(a.add (m*Q)).add (k-M.flatten.length)by rw[aJ];rw[aJ]at aG;exact m0 a (m*Q) k aG];exact this
 obtain⟨M,hl,ht,hk⟩:=ai ae (Nat.le_refl _);refine⟨M,?_,Y,ht⟩;have f:M.flatten≠[]->a.spot=none:=by
  intro W;obtain⟨d,c,g⟩:=List.exists_cons_of_ne_nil W;obtain⟨v,hv,_⟩:=hk 0 d (by rw[g];rfl);have:=World.cell?_spot hv
  simpa[Addr.add]using this
 refine .sl a ae ah Q M (fun k=>(w.cell? (a.add k)).getD undef) hl l V (fun r hr=>(ht r hr).2) f (fun k d hd=>?_) (fun k d hd=>?_)
 ·obtain⟨v,hv,_⟩:=hk k d hd;have z:a.spot=none:=f (by intro hh;rw[hh]at hd;simp at hd)
  have he:a.add k=⟨a.block,a.off+k,none⟩:=by
   obtain⟨b,o,sp⟩:=a;simp only at z;subst z;simp only[Addr.add];split
   ·rename_i h0;subst h0;rfl
   ·rfl
  rw[he]at hv⊢;rw[hv];exact⟨rfl,mb (a:=⟨a.block,a.off+k,none⟩) hv⟩
 ·obtain⟨v,hv,hr⟩:=hk k d hd;simp only[hv,Option.getD_some];exact hr
theorem GP{A:Type}{enc:TypeId×Value->A}{P:Program}{w:World}{sp:Nat->Bool}{J:Bool}:∀(n:Nat){ad:Nat}{t:TypeId}{C:List Value}{d:DataW A}{K:List MemPlace},Mf P n t=true->ph P n t=true->
  DataW.trod enc P w 0 sp J ad t C=some (d,K)->∃ac,Yn (Rd (cf w) w) C ac/\az P n t ac
 |0,_,_,_,_,_,h,_,_=>by simp[Mf]at h
 |n+1,ad,t,C,d,K,hp,hl,h=>by
  simp only[Mf]at hp;simp only[ph]at hl;simp only[az];cases F:P.underlying t with
  |none=>simp[F]at hp
  |some j=>
   cases j with
   |bool=>obtain⟨b,rfl⟩:=nG F h;exact⟨_,.cons (.bool b) .nil,b,rfl⟩
   |int k=>obtain⟨m,rfl,I,X⟩:=m6 F h;exact⟨_,.cons (.int k m) .nil,m,rfl,I,X⟩
   |string=>obtain⟨s,rfl,I⟩:=mV F h;exact⟨_,.cons (.str s) .nil,s,rfl,I⟩
   |slice e=>
    simp only[F]at hp hl;simp only[Bool.and_eq_true]at hl;rcases p0 F h with rfl|⟨a,ae,ah,rfl,I,X,h3⟩
    ·exact⟨_,.cons (.nil (P.cellsOf e)) .nil,[],rfl,ab,ab⟩
    ·obtain⟨M,hr,aV,g⟩:=T0 (P:=P) (n:=n) (Q:=P.cellsOf e) (e:=e) I X (fun i hi=>by
      obtain⟨xs,f,x,O,ht⟩:=h3 i hi;obtain⟨ac,aa,aj⟩:=GP n hp hl.2 (d:=x.1) (K:=x.2) ht;exact⟨xs,ac,O,aa,aj⟩)
     exact⟨_,.cons hr .nil,M,rfl,aV,g⟩
   |struct E=>
    simp only[F]at hp hl;simp only[Bool.and_eq_true]at hp hl;obtain⟨I,X⟩:=tp F h;obtain⟨ac,aa,c⟩:=LP (w:=w) (P:=P) (q:=n) I hl.2 (Nat.zero_le _) (fun f hf=>by
     obtain⟨q,x,O⟩:=X f hf;exact GP n (List.all_eq_true.1 hp.1 f hf) (List.all_eq_true.1 hl.1 f hf) (d:=x.1) (K:=x.2) O)
    refine⟨ac,by simpa using aa,?_,fun f hf=>by simpa using c [] rfl f hf⟩;have:=aa.length
    simp at this;omega
   |_=>simp[F]at hp
open Go.RowKit Go.WideShapes Go.ChangeAt Go.ChangeShapes
theorem tX{A:Type}{enc:TypeId×Value->A}{t:TypeId}{d:DataW A}
  (hp:Mf P n t=true) (hl:ph P n t=true) (ap:Value.okWide P w r aA t v) (h:DataW.Trod enc P w 0 sp J t v d K):∃ac,e2 w v ac/\az P n t ac:=by
 obtain⟨ad,hf⟩:=h;obtain⟨ac,aa,aj⟩:=GP n hp hl hf;refine⟨ac,⟨v.cells.toList,?_,aa⟩,aj⟩;cases n with
 |zero=>simp[Mf]at hp
 |succ n=>
  simp only[Mf]at hp;cases F:P.underlying t with
  |none=>simp[F]at hp
  |some j=>
   cases j with
   |bool=>obtain⟨b,rfl⟩:=okWide_bool F ap;exact .inl ⟨_,rfl,rfl,rfl⟩
   |int k=>obtain⟨b,rfl⟩:=okWide_int F ap;exact .inl ⟨_,rfl,rfl,rfl⟩
   |string=>obtain⟨b,rfl⟩:=okWide_string F ap;exact .inl ⟨_,rfl,rfl,rfl⟩
   |slice e=>obtain⟨a,l,c,rfl⟩:=okWide_slice F ap;exact .inl ⟨_,rfl,rfl,rfl⟩
   |struct E=>obtain⟨C,rfl,aI⟩:=okWide_struct F ap;simp[F]at hp;exact .inr ⟨by simp[Value.cells,aI,hp.2],by simp[Value.cells]⟩
   |_=>simp[F]at hp
def pP(P:Program)(n:Nat):List TypeId->List (List D)->Prop
 |[],[]=>True
 |t::ts,r::rs=>az P n t r/\pP P n ts rs
 |_,_=>False
def PH(P:Program)(n:Nat)(ts:List TypeId):Bool:=ts.all fun t=>Mf P n t&&ph P n t&&P.readableRec t&&decide (t<P.types.size)
theorem pQ{A:Type}{enc:TypeId×Value->A}{P:Program}{w:World}{sp:Nat->Bool}{J:Bool}{n aA:Nat}{r:Reach}:∀{ts:List TypeId}{vs:List Value}{ds:List (DataW A)}{K:List MemPlace},PH P n ts=true->
  (∀(j:Nat) t v,ts[j]?=some t->vs[j]?=some v->Value.okWide P w r aA t v)->DataW.TrodAll enc P w 0 sp J ts vs ds K->∃M,Yn (e2 w) vs M/\pP P n ts M
 |[],[],[],_,_,_,_=>⟨[],.nil,trivial⟩
 |t::ts,v::vs,d::ds,_,hp,ap,h=>by obtain⟨p,q,I,X,_⟩:=h;simp only[PH,List.all_cons,Bool.and_eq_true]at hp;obtain⟨ac,hr,ht⟩:=tX hp.1.1.1.1 hp.1.1.1.2 (ap 0 t v rfl rfl) I;obtain⟨M,s,a⟩:=pQ (by simpa[PH]using hp.2) (fun j t v ht hv=>ap (j+1) t v ht hv) X;exact⟨ac::M,.cons hr s,ht,a⟩
 |[],[],_::_,_,_,_,h=>h.elim
 |[],_::_,_,_,_,_,h=>eG
 |_::_,[],_,_,_,_,h=>eG
 |_::_,_::_,[],_,_,_,h=>h.elim
theorem GI{A:Type}{enc:TypeId×Value->A}{P:Program}{n:Nat}(C:laidOutB P=true){W g:World}(J:Below W.heap.size W g):∀{ts:List TypeId}{vs:List Value}{ds:List (DataW A)}{K:List MemPlace},PH P n ts=true->
  DataW.TrodAll enc P W 0 (fun _=>true) true ts vs ds K->DataW.TrodAll enc P g 0 (fun b=>decide (b<W.heap.size)) true ts vs ds K
 |[],[],[],_,_,h=>h
 |t::ts,v::vs,d::ds,_,hp,h=>by
  obtain⟨p,q,I,X,rfl⟩:=h;simp only[PH,List.all_cons,Bool.and_eq_true,decide_eq_true_eq]at hp;have a:∀x∈p,x.block<W.heap.size:=by obtain⟨m,hm⟩:=I;exact DataW.trod_lt m _ _ _ hm
  exact⟨p,q,Below.trod C hp.1.1.2 hp.1.2 I J a,GI C J (by simpa[PH]using hp.2) X,rfl⟩
 |[],[],_::_,_,_,h=>h.elim
 |[],_::_,_,_,_,h=>eG
 |_::_,[],_,_,_,h=>eG
 |_::_,_::_,[],_,_,h=>h.elim
end Go.Vm
