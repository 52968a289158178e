/- An abstract machine C7 the model of Go, by value, and that it is sound: part Vc. No condition. -/
import Derived.Test.YtifogammcgmjpaaGreatVf
import Derived.ProofKit
import Derived.OpenShut
import Derived.Below
import Derived.ChangeOld
import Derived.DataReads
import Derived.Carry
set_option linter.unusedVariables false
set_option linter.unusedSimpArgs false
namespace Go.Vm
open Go.RowKit
variable{Q ag am aA au:List (List D)}{w:World}{d ri n X j ay t ae z aw E i b q:Nat}{f:FuncId}{σ σ':J}{x y:Operand}{L F l1 l2:List (Nat×Nat)}{ds:List D}{G aM g:Bool}{c:Call}{I ar:List Value}{a:Addr}{fn:Func}{v:Value}{r:Reach}{S:Nat->Prop}{s:ByteArray}{e:Exit}{T:CS}
abbrev bb:=List ((Nat×Nat)×Option (Nat×Nat))
variable{ρ K:bb}
def W5:bb->Nat->Nat->Option (Nat×Nat)
 |[],t,j=>some (t,j)
 |(n,o)::ρ,t,j=>if t=n.1/\j=n.2 then o else W5 ρ t j
def bI:List (Nat×Nat)->Nat->Nat->Bool
 |[],_,_=>false
 |n::F,t,j=>(t==n.1&&j==n.2)||bI F t j
def o9(σ:J)(ρ:bb)(F:List (Nat×Nat)):At->At->Prop
 |_,.any=>True
 |.d x,.d y=>x=y
 |.nil _,.nil _=>True
 |.nil s,.d y=>y= .sl s []
 |.nil _,.E t j lo ae=>W5 ρ t j=none/\lo=0/\ae=0
 |.E t j lo ae,.E t' j' C K=>W5 ρ t' j'=some (t,j)/\lo=C/\ae=K
 |.E t j lo ae,.d y=>bI F t j=true/\(match σ.ob t j with|.arr _ s Q=>y= .sl s (cut Q lo ae)|_=>False)
 |.Z t j i c o,.Z t' j' i' c' S=>W5 ρ t' j'=some (t,j)/\i=i'/\c=c'/\o=S/\(match σ.ob t j with|.arr true _ _=>True|_=>False)
 |.ptr t j i c,.ptr t' j' i' c'=>W5 ρ t' j'=some (t,j)/\i=i'/\c=c'
 |.O t c,.O t' c'=>W5 ρ t' 0=some (t,0)/\c=c'
 |.fn f t,.fn z t'=>W5 ρ t' 0=some (t,0)/\f=z
 |.ac r c,.ac r' c'=>r=r'/\c=c'
 |_,_=>False
def Ft(σ:J)(ρ:bb)(F:List (Nat×Nat)):List At->List At->Prop
 |[],[]=>True
 |x::xs,y::ys=>o9 σ ρ F x y/\Ft σ ρ F xs ys
 |_,_=>False
def dp(σ:J)(ρ:bb)(F:List (Nat×Nat)):V->V->Prop
 |_,.any=>True
 |.one x,.one y=>o9 σ ρ F x y
 |.agg xs,.agg ys=>Ft σ ρ F xs ys
 |.fix u (.one x),.fix l (.one y)=>u=l/\o9 σ ρ F x y
 |.fix u (.agg xs),.fix l (.agg ys)=>u=l/\Ft σ ρ F xs ys
 |.fix _ (.one x),.one y=>o9 σ ρ F x y
 |.fix _ (.agg xs),.agg ys=>Ft σ ρ F xs ys
 |_,_=>False
def l8(σ:J)(ρ:bb)(F:List (Nat×Nat))(t' j':Nat):Ob->Prop
 |.none=>True
 |.arr q X Q=>(match W5 ρ t' j' with
  |none=>Q=[]
  |some (t,j)=>bI F t j=false/\(match σ.ob t j with|.arr p s r=>(p=q\/p=false/\∀x∈Q,∀y∈x,y.scalar=true)/\s=X/\r=Q|_=>False))
 |.lit _ _=>False
 |.box E=>(match W5 ρ t' j' with
  |none=>False
  |some (t,j)=>bI F t j=false/\(match σ.ob t j with|.box I=>Ft σ ρ F I E|_=>False))
def ed(σ:J)(ρ:bb)(F:List (Nat×Nat))(t:Nat):List Ob->Nat->Prop
 |[],_=>True
 |o::aa,j=>l8 σ ρ F t j o/\ed σ ρ F t aa (j+1)
def D1(σ:J)(ρ:bb)(F:List (Nat×Nat)):List bx->List bx->Nat->Prop
 |[],[],_=>True
 |e::A,e'::a,t=>(dp σ ρ F e.1 e'.1/\ed σ ρ F t e'.2 0)/\D1 σ ρ F A a (t+1)
 |_,_,_=>False
def qV:bb->Nat->Nat->Bool
 |[],_,_=>false
 |(n,_)::ρ,t,j=>(t==n.1&&j==n.2)||qV ρ t j
def O3:bb->Nat->Nat->Bool
 |[],_,_=>false
 |(_,some o)::ρ,t,j=>(t==o.1&&j==o.2)||O3 ρ t j
 |(_,none)::ρ,t,j=>O3 ρ t j
def gb(σ':J)(t j:Nat):Bool:=match σ'.ob t j with|.none=>true|_=>false
def MH(σ':J)(K:bb):bb->Bool
 |[]=>true
 |(_,some o)::ρ=>!O3 ρ o.1 o.2&&(qV K o.1 o.2||gb σ' o.1 o.2)&&MH σ' K ρ
 |(_,none)::ρ=>MH σ' K ρ
theorem Nl:∀{ρ:bb}{t j:Nat},qV ρ t j=false->W5 ρ t j=some (t,j)
 |[],_,_,_=>rfl
 |(n,o)::ρ,t,j,h=>by simp only[qV,Bool.or_eq_false_iff,Bool.and_eq_false_iff,beq_eq_false_iff_ne]at h;simp only[W5];rw[if_neg (by rintro⟨M,Z⟩;rcases h.1 with h3|h3<;>contradiction)];exact Nl h.2
theorem HW:∀{ρ:bb}{t j:Nat}{o:Nat×Nat},qV ρ t j=true->W5 ρ t j=some o->O3 ρ o.1 o.2=true
 |[],_,_,_,h,_=>by simp[qV]at h
 |(n,S)::ρ,t,j,o,h,ho=>by
  simp only[W5]at ho;split at ho
  ·subst ho;simp[O3]
  ·rename_i W;have h':qV ρ t j=true:=by
    simp only[qV,Bool.or_eq_true,Bool.and_eq_true,beq_iff_eq]at h;rcases h with h|h
    ·exact absurd h W
    ·exact h
   have:=HW h' ho;cases S with
   |none=>simpa[O3]using this
   |some S=>simp[O3,this]
theorem lD{σ':J}{K:bb}:∀{ρ:bb}{t j t' j':Nat}{o:Nat×Nat},MH σ' K ρ=true->qV ρ t j=true->qV ρ t' j'=true->W5 ρ t j=some o->W5 ρ t' j'=some o->(t,j)=(t',j')
 |[],_,_,_,_,_,_,h,_,_,_=>by simp[qV]at h
 |(n,S)::ρ,t,j,t',j',o,ao,hn,A,ho,p=>by
  have b:MH σ' K ρ=true:=by
   cases S with
   |none=>simpa[MH]using ao
   |some S=>simp only[MH,Bool.and_eq_true]at ao;exact ao.2
  simp only[W5]at ho p;by_cases M:t=n.1/\j=n.2
  ·rw[if_pos M]at ho;by_cases Z:t'=n.1/\j'=n.2
   ·rw[M.1,M.2,Z.1,Z.2]
   ·rw[if_neg Z]at p;have h':qV ρ t' j'=true:=by simp only[qV,Bool.or_eq_true,Bool.and_eq_true,beq_iff_eq]at A;exact A.resolve_left Z
    have a:=HW h' p;subst ho;simp only[MH,Bool.and_eq_true,Bool.not_eq_true']at ao;rw[a]at ao;cases ao.1.1
  ·rw[if_neg M]at ho;have h:qV ρ t j=true:=by simp only[qV,Bool.or_eq_true,Bool.and_eq_true,beq_iff_eq]at hn;exact hn.resolve_left M
   by_cases Z:t'=n.1/\j'=n.2
   ·rw[if_pos Z]at p;have a:=HW h ho
    subst p;simp only[MH,Bool.and_eq_true,Bool.not_eq_true']at ao;rw[a]at ao;cases ao.1.1
   ·rw[if_neg Z]at p;have h':qV ρ t' j'=true:=by simp only[qV,Bool.or_eq_true,Bool.and_eq_true,beq_iff_eq]at A;exact A.resolve_left Z
    exact lD b h h' ho p
theorem GG{σ':J}{K:bb}:∀{ρ:bb}{t j:Nat},MH σ' K ρ=true->O3 ρ t j=true->qV K t j=true\/σ'.ob t j= .none
 |[],_,_,_,h=>by simp[O3]at h
 |(n,S)::ρ,t,j,ao,h=>by
  cases S with
  |none=>exact GG (ρ:=ρ) (by simpa[MH]using ao) (by simpa[O3]using h)
  |some o=>
   simp only[MH,Bool.and_eq_true,Bool.or_eq_true]at ao;simp only[O3,Bool.or_eq_true,Bool.and_eq_true,beq_iff_eq]at h;rcases h with⟨rfl,rfl⟩|h
   ·refine ao.1.2.imp id fun hf=>?_;unfold gb at hf;split at hf<;>first|assumption|cases hf
   ·exact GG ao.2 h
theorem n1(ao:MH σ' ρ ρ=true){t' j':Nat}{o:Nat×Nat}(M:σ'.ob t j≠ .none)(Z:σ'.ob t' j'≠ .none)(ho:W5 ρ t j=some o)(p:W5 ρ t' j'=some o):t=t'/\j=j':=by
 cases hn:qV ρ t j with
 |true=>
  cases A:qV ρ t' j' with
  |true=>have:=lD ao hn A ho p;cases this;exact⟨rfl,rfl⟩
  |false=>
   have b:=Nl A;rw[b]at p;cases p;have a:=HW hn ho;rcases GG ao a with h|h
   ·rw[A]at h;cases h
   ·exact absurd h Z
 |false=>
  have b:=Nl hn;rw[b]at ho;cases ho;cases A:qV ρ t' j' with
  |true=>
   have a:=HW A p;rcases GG ao a with h|h
   ·rw[hn]at h;cases h
   ·exact absurd h M
  |false=>have c:=Nl A;rw[c]at p;cases p;exact⟨rfl,rfl⟩
theorem DY{σ:J}{ρ:bb}{F:List (Nat×Nat)}:∀{A a:List bx}{t:Nat},D1 σ ρ F A a t->A.length=a.length
 |[],[],_,_=>rfl
 |_::_,_::_,_,h=>by simp[DY h.2]
 |[],_::_,_,h=>h.elim
 |_::_,[],_,h=>h.elim
theorem pd{σ:J}{ρ:bb}{F:List (Nat×Nat)}:∀{A a:List bx}{t:Nat},D1 σ ρ F A a t->∀(i:Nat),dp σ ρ F (J.get A i) (J.get a i)/\∀j,l8 σ ρ F (t+i) j (J.ob a i j)
 |[],[],t,_,i=>⟨by simp[J.get,dp],fun j=>by simp[J.ob,l8]⟩
 |e::A,e'::a,t,h,0=>by
  refine⟨h.1.1,fun j=>?_⟩;have:∀(aa:List Ob)(k:Nat),ed σ ρ F t aa k->∀j,l8 σ ρ F t (k+j) (Y6 aa j):=by
   intro aa;induction aa with
   |nil=>intro k _ j;simp[Y6,l8]
   |cons o aa ih=>
    intro k hk j;cases j with
    |zero=>exact hk.1
    |succ j=>have:=ih (k+1) hk.2 j;rw[show k+(j+1)=k+1+j by omega];simpa[Y6]using this
  have:=this e'.2 0 h.1.2 j;simpa using this
 |e::A,e'::a,t,h,i+1=>by have:=pd h.2 i;rw[show t+(i+1)=t+1+i by omega];simpa[J.get,J.ob]using this
 |[],_::_,_,h,_=>h.elim
 |_::_,[],_,h,_=>h.elim
theorem nA{xs:List Value}(aa:Yd (Rd T w) xs ds)(hf:∀d∈ds,d.scalar=true):z6 w xs ds S:=
 ⟨aa.length,fun _ _=>False,fun k x d O hd=>by
  obtain⟨d',m,hr⟩:=aa.get k x O;rw[hd]at m;cases m;exact Rd.own (hf d (List.mem_of_getElem? hd)) hr,fun _ _ G=>G.elim,fun _ _ _ G=>G.elim⟩
theorem YR(ρ:bb)(F:List (Nat×Nat))(ao:MH σ' ρ ρ=true)(U:D1 σ ρ F σ σ' 0):Wk σ σ':=by
 rintro T0 B a w ⟨ad,h,r⟩;let h':Nat->Nat->Hd:=fun t j=>match W5 ρ t j with|some o=>h o.1 o.2|none=>Hd.of (.slice none 0 0)
 let X':Nat->Prop:=fun b=>ad b\/∃t j,bI F t j=true/\σ.ob t j≠ .none/\(h t j).u b
 have az:=DY U;have af:=pd U;have an:∀t j,l8 σ ρ F t j (σ'.ob t j):=fun t j=>by have:=(af t).2 j;simpa using this
 have P:∀b k v,al T0 ad b k->w.cell? ⟨b,k,none⟩=some v->w.cell? ⟨b,k,none⟩=some v/\al T0 X' b k:=fun b k v G hc=>⟨hc,G.imp id .inl⟩;have L:∀t' j' q X Q,σ'.ob t' j'= .arr q X Q->(W5 ρ t' j'=none/\Q=[])\/∃t j p,W5 ρ t' j'=some (t,j)/\bI F t j=false/\σ.ob t j= .arr p X Q/\(p=q\/p=false/\∀x∈Q,∀y∈x,y.scalar=true):=by
  intro t' j' q X Q ho;have:=an t' j'
  rw[ho]at this;simp only[l8]at this;split at this
  ·rename_i hn;exact .inl ⟨hn,this⟩
  ·rename_i t j hn;obtain⟨n,this⟩:=this;split at this
   ·rename_i p s r m;obtain⟨hp,rfl,rfl⟩:=this;exact .inr ⟨t,j,p,hn,n,m,hp⟩
   ·exact this.elim
 have ab:∀t' j' X Q,σ'.ob t' j'≠ .lit X Q:=by
  intro t' j' X Q ho;have:=an t' j'
  rw[ho]at this;exact this
 have T:∀t' j' E,σ'.ob t' j'= .box E->∃t j I,W5 ρ t' j'=some (t,j)/\bI F t j=false/\σ.ob t j= .box I/\Ft σ ρ F I E:=by
  intro t' j' E ho;have:=an t' j'
  rw[ho]at this;simp only[l8]at this;split at this
  ·exact this.elim
  ·rename_i t j hn;obtain⟨n,this⟩:=this;split at this
   ·rename_i I m;exact⟨t,j,I,hn,n,m,this⟩
   ·exact this.elim
 have ah:∀{x y:At}{v:Value},o9 σ ρ F x y->Yk (al T0 ad) h σ.ob w x v->Yk (al T0 X') h' σ'.ob w y v:=by
  intro x y v hw hr;have M:=Yk.Qo hr
  cases y with
  |any=>exact M
  |d y=>
   cases x with
   |d x=>simp only[o9]at hw;subst hw;exact Rd.mono P hr
   |nil s=>simp only[o9]at hw;subst hw;cases hr;exact .nil _
   |E t j lo ae=>
    simp only[o9]at hw;obtain⟨n,hw⟩:=hw;split at hw
    ·rename_i q s Q ho;subst hw;exact r.bp ho hr _ (fun b k G=>G.imp id .inl) (fun b k G=>.inr (.inr ⟨t,j,n,by rw[ho];simp,G⟩))
    ·exact hw.elim
   |_=>exact hw.elim
  |nil s=>
   cases x with
   |nil J=>exact hr
   |_=>exact hw.elim
  |E t' j' C K=>
   cases x with
   |nil s=>obtain⟨hn,rfl,rfl⟩:=hw;cases hr;refine⟨rfl,fun q X Q ho=>?_,fun X Q ho=>absurd ho (ab _ _ _ _)⟩;simp only[h',hn];exact⟨Y,fun _ _=>rfl,fun _=>rfl,none,0,rfl,Y,by simp[maxLen],fun _=>rfl,fun hh=>absurd hh Y⟩
   |E t j lo ae=>
    obtain⟨hn,rfl,rfl⟩:=hw;refine⟨M,fun q X Q ho=>?_,fun X Q ho=>absurd ho (ab _ _ _ _)⟩;rcases L t' j' q X Q ho with⟨A,_⟩|⟨t2,j2,p,A,_,m,_⟩
    ·rw[hn]at A;cases A
    ·rw[hn]at A;cases A;simp only[h',hn];exact hr.2.1 p X Q m
   |_=>exact hw.elim
  |ptr t' j' i' c'=>
   cases x with
   |ptr t j i c=>
    obtain⟨hn,rfl,rfl⟩:=hw;refine⟨M,fun q X Q ho=>?_⟩;rcases L t' j' q X Q ho with⟨A,_⟩|⟨t2,j2,p,A,_,m,_⟩
    ·rw[hn]at A;cases A
    ·rw[hn]at A;cases A;simp only[h',hn];exact hr.2 p X Q m
   |_=>exact hw.elim
  |Z t' j' i' c' S=>
   cases x with
   |Z t j i c o=>
    obtain⟨hn,rfl,rfl,rfl,hq⟩:=hw;refine⟨M,fun X Q ho=>?_⟩;rcases L t' j' true X Q ho with⟨A,_⟩|⟨t2,j2,p,A,_,m,hp⟩
    ·rw[hn]at A;cases A
    ·rw[hn]at A;cases A;simp only[h',hn];rcases hp with rfl|⟨rfl,aG⟩
     ·exact hr.2 X Q m
     ·rw[m]at hq;exact hq.elim
   |_=>exact hw.elim
  |O t' c'=>
   cases x with
   |O t c=>obtain⟨hn,rfl⟩:=hw;refine⟨M,fun E ho=>?_⟩;obtain⟨t2,j2,I,A,_,m,_⟩:=T t' 0 E ho;rw[hn]at A;cases A;simp only[h',hn];exact hr.2 I m
   |_=>exact hw.elim
  |fn z t'=>
   cases x with
   |fn f t=>obtain⟨hn,rfl⟩:=hw;refine⟨M,fun E ho=>?_⟩;obtain⟨t2,j2,I,A,_,m,_⟩:=T t' 0 E ho;rw[hn]at A;cases A;simp only[h',hn];exact hr.2 I m
   |_=>exact hw.elim
  |ac r' c'=>
   cases x with
   |ac r0 c=>obtain⟨rfl,rfl⟩:=hw;obtain⟨b,aw,g,e,hk⟩:=hr;exact⟨b,aw,g,e,fun k d hd=>⟨(hk k d hd).1,(hk k d hd).2.1.imp id .inl,Rd.mono P (hk k d hd).2.2⟩⟩
   |_=>exact hw.elim
 have N:∀{xs ys:List At}{vs:List Value},Ft σ ρ F xs ys->Yd (Yk (al T0 ad) h σ.ob w) xs vs->Yd (Yk (al T0 X') h' σ'.ob w) ys vs:=by
  intro xs;induction xs with
  |nil=>intro ys vs hw hr;cases ys with
   |nil=>cases hr;exact .nil
   |cons y ys=>exact hw.elim
  |cons x xs ih=>intro ys vs hw hr;cases ys with
   |nil=>exact hw.elim
   |cons y ys=>cases hr with
    |cons M hr=>exact .cons (ah hw.1 M) (ih hw.2 hr)
 have v_:∀{x y:V}{v:Value},dp σ ρ F x y->KA (al T0 ad) h σ.ob w x v->KA (al T0 X') h' σ'.ob w y v:=by
  intro x y v hw hr;cases y with
  |any=>trivial
  |one y=>cases x with
   |one x=>exact ah hw hr
   |fix u x=>cases x with
    |one x=>exact ah hw hr.2
    |_=>exact hw.elim
   |_=>exact hw.elim
  |agg ys=>cases x with
   |agg xs=>obtain⟨I,e,hr⟩:=hr;exact⟨I,e,N hw hr⟩
   |fix u x=>cases x with
    |agg xs=>obtain⟨I,e,hr⟩:=hr.2;exact⟨I,e,N hw hr⟩
    |_=>exact hw.elim
   |_=>exact hw.elim
  |O ys=>cases x with
   |fix u x=>cases x<;>exact hw.elim
   |_=>exact hw.elim
  |E g y=>cases x with
   |fix u x=>cases x<;>exact hw.elim
   |_=>exact hw.elim
  |fix l y=>cases x with
   |fix u x=>cases x with
    |one x=>cases y with
     |one y=>obtain⟨rfl,hw⟩:=hw;exact⟨hr.1,ah hw hr.2⟩
     |_=>exact hw.elim
    |agg xs=>cases y with
     |agg ys=>obtain⟨rfl,hw⟩:=hw;obtain⟨H,I,e,hr⟩:=hr;exact⟨H,I,e,N hw hr⟩
     |_=>exact hw.elim
    |_=>cases y<;>exact hw.elim
   |_=>cases y<;>exact hw.elim
 have W:∀t j,σ'.ob t j≠ .none->(W5 ρ t j=none/\∀b,¬(h' t j).u b)\/∃o,W5 ρ t j=some o/\σ.ob o.1 o.2≠ .none/\bI F o.1 o.2=false/\h' t j=h o.1 o.2:=by
  intro t j hn;cases ho:σ'.ob t j with
  |none=>exact absurd ho hn
  |arr q X Q=>
   rcases L t j q X Q ho with⟨A,_⟩|⟨t2,j2,p,A,n,m,_⟩
   ·exact .inl ⟨A,fun b G=>by simp only[h',A,Hd.of,blk]at G;cases G⟩
   ·exact .inr ⟨(t2,j2),A,by rw[m];simp,n,by simp only[h',A]⟩
  |lit X Q=>exact absurd ho (ab _ _ _ _)
  |box E=>obtain⟨t2,j2,I,A,n,m,_⟩:=T t j E ho;exact .inr ⟨(t2,j2),A,by rw[m];simp,n,by simp only[h',A]⟩
 refine⟨X',h',by rw[r.size,az],r.defers,r.d,fun b G=>?_,r.f,fun t ht=>?_,fun t j=>?_,fun t j b hn G=>?_,fun t j b hn G=>?_,fun t j t' j' b hn A G aj=>?_⟩
 ·rcases G with G|⟨t,j,_,hn,G⟩
  ·exact r.e b G
  ·have:=r.own t j b hn G;exact⟨this.1,this.2.2⟩
 ·exact v_ (af t).1 (r.slot t (by rw[az];exact ht))
 ·cases ho:σ'.ob t j with
  |none=>trivial
  |lit X Q=>exact absurd ho (ab _ _ _ _)
  |arr q X Q=>
   rcases L t j q X Q ho with⟨hn,rfl⟩|⟨u,k,p,hn,_,m,hp⟩
   ·have:h' t j=Hd.of (.slice none 0 0):=by simp only[h',hn]
    rw[this];cases q with
    |false=>exact⟨0,[],World.ownsRow_nil w 0 0 X,ci,.nil⟩
    |true=>exact⟨0,[],World.ownsRow_nil w 0 0 X,ci,z6.nil _,fun k x d O=>by simp at O⟩
   ·have he:h' t j=h u k:=by simp only[h',hn]
    rw[he];have h0:=r.obj u k
    rw[m]at h0;cases p with
    |false=>
     obtain⟨e,xs,aq,hz,aa⟩:=h0;cases q with
     |false=>exact⟨e,xs,aq,hz,aa.imp fun _ _=>Rd.mono P⟩
     |true=>
      rcases hp with hp|⟨_,aG⟩
      ·cases hp
      ·have R:∀d∈Q.flatten,d.scalar=true:=fun d hd=>by obtain⟨r0,ap,ax⟩:=List.mem_flatten.1 hd;exact aG r0 ap d ax
       exact⟨e,xs,aq,hz,nA aa R,fun k x d _ hd U=>by rw[R d (List.mem_of_getElem? hd)]at U;cases U⟩
    |true=>
     rcases hp with rfl|⟨hp,_⟩
     ·exact h0
     ·cases hp
  |box E=>
   obtain⟨u,k,I,hn,_,m,aM⟩:=T t j E ho;have h0:=r.obj u k
   rw[m]at h0;obtain⟨b,vs,e,hv,hh,aa⟩:=h0;have he:h' t j=h u k:=by simp only[h',hn]
   rw[he];exact⟨b,vs,e,hv,hh,N aM aa⟩
 ·rcases W t j hn with⟨hr,_⟩|⟨o,hr,D,n,he⟩
  ·simp only[h',hr,Hd.of,blk]at G;cases G
  ·rw[he]at G⊢;exact r.c o.1 o.2 b D G
 ·rcases W t j hn with⟨_,D⟩|⟨o,hr,D,n,he⟩
  ·exact absurd G (D b)
  ·rw[he]at G;have h0:=r.own o.1 o.2 b D G
   refine⟨h0.1,?_,h0.2.2⟩;rintro(O|⟨t2,j2,ag,ac,ak⟩)
   ·exact h0.2.1 O
   ·obtain⟨h3,h4⟩:=r.inj o.1 o.2 t2 j2 b D ac G ak;rw[h3,h4]at n;rw[n]at ag;cases ag
 ·rcases W t j hn with⟨_,D⟩|⟨o,hr,D,_,he⟩
  ·exact absurd G (D b)
  ·rcases W t' j' A with⟨_,hno'⟩|⟨S,aF,hno',_,Z⟩
   ·exact absurd aj (hno' b)
   ·rw[he]at G;rw[Z]at aj;obtain⟨h3,h4⟩:=r.inj o.1 o.2 S.1 S.2 b D hno' G aj;have:o=S:=Prod.ext h3 h4
    subst this;exact n1 ao hn A hr aF
theorem Q6(U:D1 σ [] [] σ σ' 0):Wk σ σ':=YR [] [] rfl U
attribute [simp] W5 bI o9 Ft dp l8 ed D1 qV O3 gb MH
open Go.RowKit
variable{P:Program}{N:Array Oper}{ai:List Oper}{ah:Oper->Bool}{af:J->Prop}
def QA(P:Program)(σ:J):List Operand->List TypeId->Prop×Option (List (List D))
 |[],_=>(True,some [])
 |x::xs,t::ts=>(ap (look P σ t x)=true/\(QA P σ xs ts).1,match(unc (look P σ t x)).qS σ,(QA P σ xs ts).2 with|some r,some rs=>some (r::rs)|_,_=>none)
 |_::_,[]=>(False,none)
theorem Sh{P:Program}{σ:J}:∀{xs:List Operand}{ts:List TypeId}{rs:List (List D)},(QA P σ xs ts).1->(QA P σ xs ts).2=some rs->Jx P σ xs ts rs
 |[],_,rs,_,h=>by simp[QA]at h;exact h
 |x::xs,t::ts,rs,M,h=>by
  simp only[QA]at h;split at h
  ·rename_i r b hr E;cases h;exact⟨M.1,r,b,hr,Sh M.2 E,rfl⟩
  ·cases h
 |_::_,[],_,M,_=>M.elim
attribute [simp] QA
theorem sL{o:Oper}{own:Bool}(A:o.op= .call c)(hc:c.callee= .value (.func f))(hg:o.guard=none)(hd:o.dst=some d)
  (U:KJ P f own Q ag) (al:(QA P σ c.args.toList c.argTypes.toList).2=some Q) (am:(QA P σ c.args.toList c.argTypes.toList).1) (ar:XB P σ c.args.toList c.argTypes.toList=true\/yl own ag) (h:Ev P N ah ai (σ.put d (SW ag)) af):U8 P N ah o ai σ af:=
 rj A hc hg hd (Sh am al) U ar h
theorem o6{o:Oper}(A:o.op= .call c)(hc:c.callee= .value (.func f))(hg:o.guard=none)(hd:o.dst=some d)
  (U:KJ P f true Q ag) (al:(QA P σ c.args.toList c.argTypes.toList).2=some Q) (am:(QA P σ c.args.toList c.argTypes.toList).1) (ar:XB P σ c.args.toList c.argTypes.toList=true\/yl true ag) (hf:σ.fresh d=true) (h:Ev P N ah ai (σ.new d (Mz d ag) (UK ag.flatten)) af):U8 P N ah o ai σ af:=
 Lx A hc hg hd (Sh am al) U ar hf h
theorem lh{o:Oper}(qs:List Bool)(A:o.op= .call c)(hc:c.callee= .value (.func f))(hg:o.guard=none)(hd:o.dst=some d)
  (U:Z7 P f Q ag) (al:(QA P σ c.args.toList c.argTypes.toList).2=some Q) (am:(QA P σ c.args.toList c.argTypes.toList).1) (hq:Re qs ag.flatten) (hf:σ.fresh d=true) (h:Ev P N ah ai (σ.new d (Mz d ag) (Ya qs ag.flatten)) af):U8 P N ah o ai σ af:=
 pk qs A hc hg hd (Sh am al) U hq hf h
theorem hE{o:Oper}{own:Bool}{ag:List D}(A:o.op= .call c)(hc:c.callee= .value (.func f))(hg:o.guard=some (j,aM))(hd:o.dst=some d)
  (i:(N[j]?).bind (·.dst)=some E) (C:TK aM (σ.get E)=some g) (U:g=true->KJ P f own Q [ag])
  (al:(QA P σ c.args.toList c.argTypes.toList).2=some Q) (ac:E<σ.length)
  (am:g=true->(QA P σ c.args.toList c.argTypes.toList).1) (ar:XB P σ c.args.toList c.argTypes.toList=true\/yl own [ag]) (h:Ev P N ah ai (σ.put d (.E g (SW [ag]))) af):U8 P N ah o ai σ af:=
 tb A hc hg hd i ac C (fun hh=>Sh (am hh) al) U ar h
def Z6:Nat->List (Nat×V×List Ob)->J
 |n,[]=>List.replicate n (V.any,[])
 |n,(t,v,aa)::l=>(Z6 n l).new t v aa
attribute [simp] Z6
open Go.RowKit
variable{parts:Array (Nat×Operand)}
def j2(P:Program)(b:Bool)(x y:Code)(af:Exit->J->Prop)(σ:J):Prop:=(b=true->aX P x af σ)/\(b=false->aX P y af σ)
def gB(P:Program)(c:Code)(af:Exit->J->Prop)(σ:J):Prop:=aX P (.loop c) af σ
def hB(P:Program)(ri:Nat)(N:Array Oper)(af:Exit->J->Prop)(σ:J):Prop:=aX P (.region ri N true) af σ
def pr(P:Program)(c:Code)(af:Exit->J->Prop)(σ:J):Prop:=aX P c af σ
def Wx(P:Program):Code->(Exit->J->Prop)->J->Prop
 |.seq x y,af,σ=>Wx P x (sc (Wx P y af) af) σ
 |.region _ ⟨l⟩ false,af,σ=>Ev P ⟨l⟩ (fun _=>true) l σ (af .normal)
 |.region ri N true,af,σ=>hB P ri N af σ
 |.cond c x y,af,σ=>(match look P σ 0 c with|.one (.d (.bool b))=>j2 P b x y af σ|_=>False)
 |.block ri c,af,σ=>Wx P c (F1 ri af) σ
 |.loop c,af,σ=>gB P c af σ
 |.skip,af,σ=>af .normal σ
 |.exit ri,af,σ=>af (.exit ri) σ
 |.ret,af,σ=>af .ret σ
 |.rangeFunc f R x y,af,σ=>pr P (.rangeFunc f R x y) af σ
 |.scope c,af,σ=>pr P (.scope c) af σ
 |.label l,af,σ=>pr P (.label l) af σ
 |.goto l,af,σ=>pr P (.goto l) af σ
 |.refuse s,af,σ=>pr P (.refuse s) af σ
theorem Ol{P:Program}:∀{c:Code}{af:Exit->J->Prop}{σ:J},Wx P c af σ->aX P c af σ
 |.seq x y,af,σ,h=>by rw[Wx]at h;refine Za (kg (fun e σ' hq=>?_) (Ol h));cases e<;>simp only[sc]at hq⊢<;>first|exact Ol hq|exact hq
 |.region _ ⟨l⟩ false,af,σ,h=>n6 h
 |.region ri N true,af,σ,h=>h
 |.cond c x y,af,σ,h=>by
  rw[Wx]at h;split at h
  ·rename_i b G;exact rc G h.1 h.2
  ·exact h.elim
 |.block ri c,af,σ,h=>Mo (Ol (by rw[Wx]at h;exact h))
 |.loop c,af,σ,h=>h
 |.skip,af,σ,h=>YM h
 |.exit ri,af,σ,h=>om h
 |.ret,af,σ,h=>Mi h
 |.rangeFunc _ _ _ _,af,σ,h=>h
 |.scope _,af,σ,h=>h
 |.label _,af,σ,h=>h
 |.goto _,af,σ,h=>h
 |.refuse _,af,σ,h=>h
class jn where
 c:Code
class xt where
 ops:Array Oper
 a:Oper->Bool
variable{ao:xt}
class qt where
 l:List Oper
variable{l:qt}
class fw where
 o:Oper
variable{o:fw}
class inductive Fr where
 |fin (af:Exit->J->Prop)
 |sq (y:Code) (k:Fr)
 |blk (ri:Nat) (k:Fr)
 |nxt (n:J->Prop) (k:Fr)
variable{k:Fr}
def Fr.run(P:Program):Fr->Exit->J->Prop
 |.fin af,e,σ=>af e σ
 |.sq y k,e,σ=>sc (Wx P y (Fr.run P k)) (Fr.run P k) e σ
 |.blk ri k,e,σ=>F1 ri (Fr.run P k) e σ
 |.nxt n k,e,σ=>sc n (Fr.run P k) e σ
def WI(P:Program)(σ:J)[c:jn][k:Fr]:Prop:=Wx P c.c (k.run P) σ
def LI(P:Program)(e:Exit)(σ:J)[k:Fr]:Prop:=k.run P e σ
def EI(P:Program)(σ:J)[ao:xt][l:qt][k:Fr]:Prop:=Ev P ao.ops ao.a l.l σ (k.run P .normal)
def SI(P:Program)(σ:J)[ao:xt][o:fw][l:qt][k:Fr]:Prop:=U8 P ao.ops ao.a o.o l.l σ (k.run P .normal)
def CI(P:Program)(b:Bool)(σ:J)[x:jn][y:jn][k:Fr]:Prop:=j2 P b x.c y.c (k.run P) σ
def HR(P:Program)(σ:J)[c:jn][k:Fr]:Prop:=gB P c.c (k.run P) σ
def DI(P:Program)(ri:Nat)(σ:J)[ao:xt][k:Fr]:Prop:=hB P ri ao.ops (k.run P) σ
theorem q1{x y:Code}:@WI P σ ⟨.seq x y⟩ k=@WI P σ ⟨x⟩ (.sq y k):=by simp only[WI];rw[Wx];congr 1
theorem n5{l:List Oper}:@WI P σ ⟨.region ri ⟨l⟩ false⟩ k=@EI P σ ⟨⟨l⟩,fun _=>true⟩ ⟨l⟩ k:=by simp only[WI,EI,Wx]
theorem uk:@WI P σ ⟨.region ri N true⟩ k=@DI P ri σ ⟨N,fun _=>true⟩ k:=by simp only[WI,DI,Wx]
theorem A9{c:Operand}{x y:Code}:@WI P σ ⟨.cond c x y⟩ k=(match look P σ 0 c with|.one (.d (.bool b))=>@CI P b σ ⟨x⟩ ⟨y⟩ k|_=>False):=by simp only[WI,CI,Wx]
theorem Cl{c:Code}:@WI P σ ⟨.block ri c⟩ k=@WI P σ ⟨c⟩ (.blk ri k):=by simp only[WI];rw[Wx];congr 1
theorem Vf{c:Code}:@WI P σ ⟨.loop c⟩ k=@HR P σ ⟨c⟩ k:=by simp only[WI,HR,Wx]
theorem pZ:@WI P σ ⟨.skip⟩ k=@LI P .normal σ k:=by simp only[WI,LI,Wx]
theorem st:@WI P σ ⟨.exit ri⟩ k=@LI P (.exit ri) σ k:=by simp only[WI,LI,Wx]
theorem B7:@WI P σ ⟨.ret⟩ k=@LI P .ret σ k:=by simp only[WI,LI,Wx]
theorem oR{af:Exit->J->Prop}:@LI P e σ (.fin af)=af e σ:=rfl
theorem nU{y:Code}:@LI P .normal σ (.sq y k)=@WI P σ ⟨y⟩ k:=rfl
theorem lr{y:Code}:@LI P (.exit ri) σ (.sq y k)=@LI P (.exit ri) σ k:=rfl
theorem w3{y:Code}:@LI P .ret σ (.sq y k)=@LI P .ret σ k:=rfl
theorem ow{n:J->Prop}:@LI P .normal σ (.nxt n k)=n σ:=rfl
theorem sj{n:J->Prop}:@LI P (.exit ri) σ (.nxt n k)=@LI P (.exit ri) σ k:=rfl
theorem nR{n:J->Prop}:@LI P .ret σ (.nxt n k)=@LI P .ret σ k:=rfl
theorem ls:@LI P .normal σ (.blk ri k)=@LI P .normal σ k:=rfl
theorem lm:@LI P .ret σ (.blk ri k)=@LI P .ret σ k:=rfl
theorem ts{b:Nat}:@LI P (.exit b) σ (.blk ri k)=if b=ri then@LI P .normal σ k else@LI P (.exit b) σ k:=rfl
theorem oj:@EI P σ ao ⟨[]⟩ k=@LI P .normal σ k:=by simp only[EI,LI,Ev]
theorem zr{o:Oper}:@EI P σ ao ⟨o::ai⟩ k=
  (if eD P ao.a o then@SI P σ ao ⟨o⟩ ⟨ai⟩ k else
  match o.guard with
  |none=>
   (match o.dst with
   |some d=>(bw P σ o d).1/\@EI P (bw P σ o d).2 ao ⟨ai⟩ k
   |none=>(match o.op with|.store T x y=>if gh P σ T x y then@SI P σ ao ⟨o⟩ ⟨ai⟩ k else(fO P σ T x y).1/\@EI P (fO P σ T x y).2 ao ⟨ai⟩ k|_=>False))
  |some (j,aM)=>
   (match(ao.ops[j]?).bind (·.dst),o.dst with
   |some E,some d=>(match TK aM (σ.get E)with
    |some g=>(E<σ.length/\(g=true->(aP P σ o.op o.type).1/\ap (aP P σ o.op o.type).2=true/\(unc (aP P σ o.op o.type).2).flat=true))/\@EI P (σ.put d (.E g (unc (aP P σ o.op o.type).2))) ao ⟨ai⟩ k
    |none=>False)
   |_,_=>False)):=by
 simp only[EI,SI];rw[Ev];rfl
def k2{ι:Type}(S:ι->J)(μ:ι->Nat)(b:Nat)(σ:J):Prop:=∃i',μ i'<b/\Wk σ (S i')
theorem fo{ι:Type}{S:ι->J}{μ:ι->Nat}(i:ι)(hm:μ i<b)(hw:Wk σ (S i)):k2 S μ b σ:=⟨i,hm,hw⟩
theorem fx{c:jn}{ι:Type}(S:ι->J)(μ:ι->Nat)(m:ι)(h0:Wk σ (S m))
  (ad:∀i,@WI P (S i) c (.nxt (k2 S μ (μ i)) k)):@HR P σ c k:=
 Ru S μ m h0 fun i=>Ol (ad i)
theorem ra{c:Code}(hf:P.funcs[f]?=some fn)(G:fn.body=some c)(ao:Ly P f=true){own:Bool}
  (hw:@WI P (Oq fn.ntmps aA) ⟨c⟩ (.fin (fP P fn own ag))):KJ P f own aA ag:=nP hf G ao (Ol hw)
theorem dO{own:Bool}{ag:List D}(A:o.o.op= .call c)(hc:c.callee= .value (.func f))(hg:o.o.guard=some (j,aM))(hd:o.o.dst=some d)
  (i:(ao.ops[j]?).bind (·.dst)=some E) (C:TK aM (σ.get E)=some g) (U:g=true->KJ P f own Q [ag])
  (al:(QA P σ c.args.toList c.argTypes.toList).2=some Q) (ac:E<σ.length)
  (am:g=true->(QA P σ c.args.toList c.argTypes.toList).1) (ar:XB P σ c.args.toList c.argTypes.toList=true\/yl own [ag]) (h:@EI P (σ.put d (.E g (SW [ag]))) ao l k):@SI P σ ao o l k:=
 hE A hc hg hd i C U al ac am ar h
theorem cB{ai:qt}{S T:TypeId}{l:List UInt8}(A:o.o.op= .convert S T x)(hg:o.o.guard=none)(hd:o.o.dst=some d)
  (M:ap (look P σ S x)=true) (Z:F4 P S=true) (h3:L4 P T=true) (h4:y9 σ (unc (look P σ S x)) 1 (y8 l)) (h:@EI P (σ.put d (.one (.d (.str ⟨l.toArray⟩)))) ao ai k):@SI P σ ao o ai k:=
 s5 A hg hd M Z h3 h4 h
theorem Qo{ai:qt}{S T:TypeId}(A:o.o.op= .convert S T x)(hg:o.o.guard=none)(hd:o.o.dst=some d)
  (M:ap (look P σ S x)=true) (Z:L4 P S=true) (h3:F4 P T=true) (h4:unc (look P σ S x)= .one (.d (.str s))) (h5:s.size<=9223372036854775807) (h:@EI P (σ.put d (.one (.d (.sl 1 (y8 s.data.toList))))) ao ai k):@SI P σ ao o ai k:=
 ln A hg hd M Z h3 h4 h5 h
theorem lZ{c:Code}(hf:P.funcs[f]?=some fn)(G:fn.body=some c)(ao:Ly P f=true)
  (hw:@WI P (Oq fn.ntmps aA) ⟨c⟩ (.fin (c0 P fn ag))):Z7 P f aA ag:=p2 hf G ao (Ol hw)
def sK(o:Oper):Bool:=match o.op with|.call ⟨.value _,_,_⟩=>false|_=>true
theorem bs(hp:sK o.o=true)(hg:o.o.guard=none)(hd:o.o.dst=some d)(h:(bw P σ o.o d).1/\@EI P (bw P σ o.o d).2 ao l k):@SI P σ ao o l k:=by refine p1 (fun c A f hc=>?_) hg hd h.1 h.2;obtain⟨cc,G,W⟩:=c;simp only at hc;subst hc;simp[sK,A]at hp
theorem EQ{T:TypeId}(A:o.o.op= .buildSlice T n parts)(hg:o.o.guard=none)(hd:o.o.dst=some d)
  (M:σ.fresh d=true/\Xr P T=true/\JN P (C P T)=true/\0<P.cellsOf (C P T)/\parts.toList.length=n/\n*P.cellsOf (C P T)<=16777216) (Z:(qT P σ (C P T) (P.cellsOf (C P T)) parts.toList 0).1)
  (h3:U d (qT P σ (C P T) (P.cellsOf (C P T)) parts.toList 0).2.flatten=false)
  (h:@EI P (σ.new d (.one (.E d 0 0 (qT P σ (C P T) (P.cellsOf (C P T)) parts.toList 0).2.length)) [.lit (P.cellsOf (C P T)) (qT P σ (C P T) (P.cellsOf (C P T)) parts.toList 0).2]) ao l k):@SI P σ ao o l k:=Ac A hg hd M Z h3 h
theorem gc{t:TypeId}(A:o.o.op= .call ⟨.builtin .append,#[x,y],#[t,t]⟩)(hg:o.o.guard=none)(hd:o.o.dst=some d)(b:ao.a o.o=true)
  (aB:X=P.cellsOf (C P t)) (M:ap (look P σ t x)=true/\ap (look P σ t y)=true/\Xr P t=true/\JN P (C P t)=true/\0<P.cellsOf (C P t))
  (Z:(Ma σ (unc (look P σ t x)) X).1/\(Ma σ (unc (look P σ t x)) X).2=(au,l1)) (h3:(MU σ (unc (look P σ t y)) X).1/\(MU σ (unc (look P σ t y)) X).2=(am,l2))
  (h4:(l1++l2).Nodup/\(σ.YC (l1++l2)).fresh d=true) (h5:(au.length+am.length)*P.bytesOf (C P t)<=140737488355328/\au.length+am.length<=9223372036854775807)
  (h:@EI P ((σ.YC (l1++l2)).new d (.one (.E d 0 0 (au.length+am.length))) [.arr true X (au++am)]) ao l k):@SI P σ ao o l k:=w1 A hg hd b aB M Z h3 h4 h5 h
theorem uW{t:TypeId}{u lo:Nat}(A:o.o.op= .call ⟨.builtin .append,#[x,y],#[t,t]⟩)(hg:o.o.guard=none)(hd:o.o.dst=some d)(b:ao.a o.o=true)
  (aB:X=P.cellsOf (C P t)) (M:ap (look P σ t x)=true/\ap (look P σ t y)=true/\Xr P t=true/\JN P (C P t)=true/\0<P.cellsOf (C P t))
  (Z:unc (look P σ t x)= .one (.E u j 0 ae)) (h3:unc (look P σ t y)= .one (.E u j lo n)) (ho:σ.ob u j= .arr true X Q) (aA:ae<=lo) (H:lo+n<=Q.length)
  (f:cut Q lo n=am) (h4:(σ.Yg u j .none).fresh d=true) (h5:(ae+n)*P.bytesOf (C P t)<=140737488355328/\ae+n<=9223372036854775807)
  (h:@EI P ((σ.Yg u j .none).new d (.one (.E d 0 0 ((Q.take ae).length+am.length))) [.arr true X (Q.take ae++am)]) ao l k):@SI P σ ao o l k:=x1 A hg hd b aB M Z h3 ho aA H f h4 h5 h
theorem dU{t:TypeId}{u lo:Nat}(A:o.o.op= .call ⟨.builtin .append,#[x,y],#[t,t]⟩)(hg:o.o.guard=none)(hd:o.o.dst=some d)(b:ao.a o.o=true)
  (aB:X=P.cellsOf (C P t)) (M:ap (look P σ t x)=true/\ap (look P σ t y)=true/\Xr P t=true/\JN P (C P t)=true/\0<P.cellsOf (C P t))
  (Z:dB σ (unc (look P σ t x)) X au l1) (h3:unc (look P σ t y)= .one (.E u j lo n)) (ho:σ.ob u j= .arr true X Q) (aj:(u,j)∉l1) (aA:lo+n<=Q.length) (f:cut Q lo n=am)
  (h4:((σ.Yg u j (.arr true X (zJ Q lo n))).YC l1).fresh d=true) (h5:(au.length+n)*P.bytesOf (C P t)<=140737488355328/\au.length+n<=9223372036854775807)
  (h:@EI P (((σ.Yg u j (.arr true X (zJ Q lo n))).YC l1).new d (.one (.E d 0 0 (au.length+am.length))) [.arr true X (au++am)]) ao l k):@SI P σ ao o l k:=n3 A hg hd b aB M Z h3 ho aj aA f h4 h5 h
theorem ea{T:TypeId}{c:Nat}(A:o.o.op= .store T x y)(hg:o.o.guard=none)(hd:o.o.dst=none)(b:ao.a o.o=true)
  (O:unc (look P σ 0 x)= .one (.ptr t j i c)) (ho:σ.ob t j= .arr true X Q) (hi:i<Q.length) (M:Uh P T=true/\ap (look P σ 0 x)=true/\ap (look P σ T y)=true/\(unc (look P σ T y)).flat=true)
  (Z:JF σ (unc (look P σ T y)).cells=some ds) (h3:QQ σ (unc (look P σ T y)).cells) (h4:Ye (unc (look P σ T y)).cells=L) (h5:L.Nodup/\(t,j)∉L/\(σ.YC L).zo (At.isT t)=false) (h6:ds.length=P.cellsOf T/\c+P.cellsOf T<=X)
  (h:@EI P ((σ.YC L).Yg t j (.arr true X (Q.set i (place (rowAt Q i) c ds)))) ao l k):@SI P σ ao o l k:=na A hg hd b O ho hi M Z h3 h4 h5 h6 h
theorem mF{T:TypeId}(A:o.o.op= .store T x y)(hg:o.o.guard=none)(hd:o.o.dst=none)(b:ao.a o.o=true)
  (O:unc (look P σ 0 x)= .one (.ptr t j i 0)) (ho:σ.ob t j= .arr true X Q) (hi:i<Q.length) (M:Uh P T=true/\ap (look P σ 0 x)=true/\ap (look P σ T y)=true/\(unc (look P σ T y)).flat=true)
  (Z:JF σ (unc (look P σ T y)).cells=some ds) (h3:QQ σ (unc (look P σ T y)).cells) (h4:Ye (unc (look P σ T y)).cells=L) (h5:L.Nodup/\(t,j)∉L/\(σ.YC L).zo (At.isT t)=false) (h6:ds.length=P.cellsOf T/\P.cellsOf T=X)
  (h:@EI P ((σ.YC L).Yg t j (.arr true X (Q.set i ds))) ao l k):@SI P σ ao o l k:=lo A hg hd b O ho hi M Z h3 h4 h5 h6 h
theorem iR{T:TypeId}{c k':Nat}{s:List (List D)}(A:o.o.op= .store T x y)(hg:o.o.guard=none)(hd:o.o.dst=none)(b:ao.a o.o=true)
  (O:unc (look P σ 0 x)= .one (.Z t j i c (some aw))) (d:aw=k'*n+q) (ho:σ.ob t j= .arr true X Q) (hi:i<Q.length) (hc:(rowAt Q i)[c]?=some (.sl n s)) (hk:k'<s.length) (M:Uh P T=true/\ap (look P σ 0 x)=true/\ap (look P σ T y)=true/\(unc (look P σ T y)).flat=true)
  (Z:JF σ (unc (look P σ T y)).cells=some ds) (h3:QQ σ (unc (look P σ T y)).cells) (h4:Ye (unc (look P σ T y)).cells=L) (h5:L.Nodup/\(t,j)∉L) (h6:ds.length=P.cellsOf T/\q+P.cellsOf T<=n)
  (h:@EI P ((σ.YC L).Yg t j (.arr true X (Q.set i (place (rowAt Q i) c [.sl n (s.set k' (place (rowAt s k') q ds))])))) ao l k):@SI P σ ao o l k:=l6 A hg hd b ⟨d▸O,ho,hi,hc,hk,M,Z,h3,h4,h5,h6⟩ h
attribute [simp] uk q1 n5 A9 Cl Vf pZ st B7 oR nU lr w3 ow sj nR ls lm ts oj zr
open Go.RowKit
def b1(w:World):CS:=fun b _=>b<w.heap.size
def et(w:World)(v:Value)(L:List D):Prop:=∃I,xK v I/\Yd (Rd (b1 w) w) I L
theorem tm{own:Bool}(h:KJ P f own Q [[.bool true]])(hv:Yd (et w) ar Q):
  Calls P f ar.toArray w fun e w'=>e= .returned (.bool true)/\Below w.heap.size w w':=by
 refine(h.2 (b1 w) w ar (fun _ _ G=>G) hv).mono ?_;rintro e w' ⟨vs,g,p,rfl,G,_,hf,hr,_⟩;refine⟨?_,G⟩;cases hr with
 |cons M hr=>
  cases hr;cases hf with
  |cons Z hf=>
   cases hf;cases M with
   |cons h3 M=>
    cases M;have h4:∀v,R6 own (al (b1 w) p) w' v (.bool true)->Rd (al (b1 w) p) w' v (.bool true):=by
     intro v hv;unfold R6 at hv;split at hv
     ·exact hv
     ·exact hv
    have h4:=h4 _ h3;cases h4;rcases Z with⟨v,aM,hvv,_⟩|⟨hl,_⟩
    ·cases aM;rw[hvv];rfl
    ·simp at hl
open Go.RowKit
variable{A:Nat->Bool}{R:List MemPlace}{C:Array Field}
def H9(P:Program):Nat->TypeId->Bool
 |0,_=>false
 |n+1,t=>
  match P.underlying t with
  |some .bool=>true
  |some (.int _)=>true
  |some .string=>true
  |some (.slice e)=>H9 P n e
  |some (.struct C)=>C.toList.all (fun f=>H9 P n f.type)&&P.cellsOf t !=1
  |_=>false
def bF(P:Program):Nat->TypeId->List D->Prop
 |0,_,_=>False
 |n+1,t,L=>
  match P.underlying t with
  |some .bool=>∃b,L=[.bool b]
  |some (.int k)=>∃m,L=[.int k m]/\k.min<=m/\m<=k.max
  |some .string=>∃s,L=[.str s]/\s.size<=maxLen
  |some (.slice e)=>∃Q,L=[.sl (P.cellsOf e) Q]/\Q.length<=maxLen/\∀r∈Q,bF P n e r/\r.length=P.cellsOf e
  |some (.struct C)=>L.length=P.cellsOf t/\∀f∈C.toList,bF P n f.type (cut L f.offset (P.cellsOf f.type))
  |_=>False
def F5(P:Program):Nat->List Field->Nat->Bool
 |k,[],n=>k==n
 |k,f::C,n=>f.offset==k&&F5 P (k+P.cellsOf f.type) C n
def mv(P:Program):Nat->TypeId->Bool
 |0,_=>false
 |n+1,t=>
  match P.underlying t with
  |some .bool=>P.cellsOf t==1
  |some (.int _)=>P.cellsOf t==1
  |some .string=>P.cellsOf t==1
  |some (.slice e)=>P.cellsOf t==1&&mv P n e
  |some (.struct C)=>C.toList.all (fun f=>mv P n f.type)&&F5 P 0 C.toList (P.cellsOf t)
  |_=>false
theorem Cx{α β:Type}{f:α->Option β}:∀{l:List α}{m:List β},l.mapM f=some m->l.length=m.length/\∀(i:Nat) a,l[i]?=some a->∃b,m[i]?=some b/\f a=some b
 |[],m,h=>by simp at h;subst h;exact⟨rfl,fun i a ha=>by simp at ha⟩
 |x::l,m,h=>by
  simp only[List.mapM_cons,Option.bind_eq_bind,Option.bind_eq_some_iff]at h;obtain⟨b,G,c,k,h⟩:=h;simp at h;subst h;obtain⟨M,Z⟩:=Cx k;refine⟨by simp[M],fun i a ha=>?_⟩;cases i with
  |zero=>simp at ha;subst ha;exact⟨b,ab,G⟩
  |succ i=>simpa using Z i a (by simpa using ha)
theorem Yp(h:w.cells? 0 a n=some I):I.length=n/\∀i v,I[i]?=some v->w.cell? (a.add i)=some v:=by
 unfold World.cells? at h;simp at h;obtain⟨M,Z⟩:=Cx h;simp at M;refine⟨M.symm,fun i v hv=>?_⟩;have hi:i<n:=by have:=(List.getElem?_eq_some_iff.1 hv).1;omega
 obtain⟨b,G,hf⟩:=Z i i (by simp[hi]);rw[hv]at G;cases G;exact hf
theorem G4{w:World}{P:Program}{q n:Nat}{I:List Value}(hl:I.length=n):∀{C:List Field}{k:Nat},F5 P k C n=true->k<=n->
  (∀f∈C,∃L,Yd (Rd (b1 w) w) (cut I f.offset (P.cellsOf f.type)) L/\bF P q f.type L)->
  ∃b,Yd (Rd (b1 w) w) (I.drop k) b/\∀(s:List D),s.length=k->∀f∈C,bF P q f.type (cut (s++b) f.offset (P.cellsOf f.type))
 |[],k,hc,hk,_=>by simp only[F5,beq_iff_eq]at hc;subst hc;exact⟨[],by rw[List.drop_eq_nil_of_le Y];exact .nil,fun _ _ f hf=>by cases hf⟩
 |f::C,k,hc,hk,h=>by
  simp only[F5,Bool.and_eq_true,beq_iff_eq]at hc;obtain⟨L,aa,af⟩:=h f ab;rw[hc.1]at aa;have d:k+P.cellsOf f.type<=n:=by
   clear h aa af;have:∀(C:List Field)(k:Nat),F5 P k C n=true->k<=n:=by
    intro C;induction C with
    |nil=>intro k hh;simp[F5]at hh;omega
    |cons g a ih=>intro k hh;simp only[F5,Bool.and_eq_true,beq_iff_eq]at hh;have:=ih _ hh.2;omega
   exact this _ _ hc.2
  have aT:L.length=P.cellsOf f.type:=by rw[<-aa.length];simp[cut];omega
  obtain⟨b,aB,c⟩:=G4 hl hc.2 d (fun g hg=>h g (by simp[hg]));refine⟨L++b,?_,?_⟩
  ·have:I.drop k=cut I k (P.cellsOf f.type)++I.drop (k+P.cellsOf f.type):=by unfold cut;rw[<-List.drop_drop];exact(List.take_append_drop _ _).symm
   rw[this];exact aa.append aB
  ·intro s aN g hg;rcases List.mem_cons.1 hg with rfl|hg
   ·have:cut (s++(L++b)) g.offset (P.cellsOf g.type)=L:=by unfold cut;rw[hc.1,<-aN,List.drop_left,<-aT,List.take_left]
    rw[this];exact af
   ·have:=c (s++L) (by rw[List.length_append,aN,aT]) g hg;rw[<-List.append_assoc];exact this
section
variable{H:Type}{enc:TypeId×Value->H}{t:TypeId}{d:DataW H}
theorem nx(F:P.underlying t=some .bool)(h:DataW.trod enc P w 0 A G z t I=some (d,R)):∃b,I=[.bool b]:=by
 cases z with
 |zero=>simp[DataW.trod]at h
 |succ z=>unfold DataW.trod at h;rw[F]at h;split at h<;>simp_all
theorem n2{k:IntKind}(F:P.underlying t=some (.int k))(h:DataW.trod enc P w 0 A G z t I=some (d,R)):∃m,I=[.int k m]/\k.min<=m/\m<=k.max:=by
 cases z with
 |zero=>simp[DataW.trod]at h
 |succ z=>unfold DataW.trod at h;rw[F]at h;split at h<;>simp_all[Lit.wf]
theorem rr(F:P.underlying t=some .string)(h:DataW.trod enc P w 0 A G z t I=some (d,R)):∃s,I=[.string s]/\s.size<=maxLen:=by
 cases z with
 |zero=>simp[DataW.trod]at h
 |succ z=>unfold DataW.trod at h;rw[F]at h;split at h<;>simp_all
theorem qo{e:TypeId}(F:P.underlying t=some (.slice e))(h:DataW.trod enc P w 0 A G z t I=some (d,R)):
  I=[.slice none 0 0]\/∃a ae ah,I=[.slice (some a) ae ah]/\ae<=ah/\ah<=maxLen/\
   ∀i,i<ae->∃xs f x,w.cells? 0 (a.add (i*P.cellsOf e)) (P.cellsOf e)=some xs/\DataW.trod enc P w 0 A G f e xs=some x:=by
 cases z with
 |zero=>simp[DataW.trod]at h
 |succ z=>
  unfold DataW.trod at h;rw[F]at h;split at h<;>first|(simp_all;done)|skip
  rename_i e' a ae ah heq;cases heq;refine .inr ⟨a,ae,ah,rfl,?_⟩;simp only at h;split at h
  ·rename_i hc;refine⟨hc.2.1,hc.2.2,fun i hi=>?_⟩;simp only[Option.bind_eq_some_iff]at h;obtain⟨c,b,_⟩:=h;obtain⟨hl,hg⟩:=Cx b;obtain⟨x,_,O⟩:=hg i i (by simp[hi]);obtain⟨xs,M,Z⟩:=Option.bind_eq_some_iff.1 O;exact⟨xs,z,x,M,Z⟩
  ·cases h
theorem nf(F:P.underlying t=some (.struct C))(h:DataW.trod enc P w 0 A G z t I=some (d,R)):
  I.length=P.cellsOf t/\∀f∈C.toList,∃q x,DataW.trod enc P w 0 A G q f.type (cut I f.offset (P.cellsOf f.type))=some x:=by
 cases z with
 |zero=>simp[DataW.trod]at h
 |succ z=>
  unfold DataW.trod at h;rw[F]at h;split at h<;>first|(simp_all;done)|skip
  rename_i a heq;cases heq;split at h
  ·rename_i hc;refine⟨hc,fun f hf=>?_⟩;simp only[Option.map_eq_some_iff]at h;obtain⟨xs,O,_⟩:=h;obtain⟨_,hg⟩:=Cx O;obtain⟨i,hi⟩:=List.mem_iff_getElem?.1 hf;obtain⟨x,_,O⟩:=hg i f hi;exact⟨z,x,O⟩
  ·cases h
end
theorem ui(h:w.cell? a=some v):a.block<w.heap.size:=by
 unfold World.cell? at h;cases hh:w.heap[a.block]? with
 |none=>simp[hh]at h
 |some o=>exact(Array.getElem?_eq_some_iff.1 hh).1
theorem m6(a:Addr)(m k:Nat)(h:m<=k):a.add k=(a.add m).add (k-m):=by
 simp only[Addr.add];by_cases h0:m=0
 ·subst h0;simp
 ·by_cases M:k-m=0
  ·have:k=m:=Y;subst this;simp[h0]
  ·have:k≠0:=Y;simp only[h0,M,this,if_false];congr 1;omega
theorem r9{e:TypeId}{ah:Nat}(l:ae<=ah)(Z:ah<=maxLen)
  (h:∀i,i<ae->∃xs L,w.cells? 0 (a.add (i*X)) X=some xs/\Yd (Rd (b1 w) w) xs L/\bF P n e L):
  ∃Q:List (List D),Rd (b1 w) w (.slice (some a) ae ah) (.sl X Q)/\Q.length<=maxLen/\∀r∈Q,bF P n e r/\r.length=X:=by
 have ag:∀m,m<=ae->∃Q:List (List D),Q.length=m/\(∀r∈Q,bF P n e r/\r.length=X)/\
   ∀k d,Q.flatten[k]?=some d->∃v,w.cell? (a.add k)=some v/\Rd (b1 w) w v d:=by
  intro m;induction m with
  |zero=>intro _;exact⟨[],rfl,(by intro r hr;cases hr),(by intro k d hk;simp at hk)⟩
  |succ m ih=>
   intro hm;obtain⟨Q,hl,ht,hk⟩:=ih Y;obtain⟨xs,L,O,aa,af⟩:=h m Y;obtain⟨aI,j⟩:=Yp O;have aT:L.length=X:=by rw[<-aa.length,aI]
   have aG:Q.flatten.length=m*X:=by rw[XD Q X (fun r hr=>(ht r hr).2),hl]
   refine⟨Q++[L],by simp[hl],fun r hr=>?_,fun k d hd=>?_⟩
   ·rcases List.mem_append.1 hr with hr|hr
    ·exact ht r hr
    ·simp at hr;subst hr;exact⟨af,aT⟩
   ·rw[List.flatten_append,List.flatten_singleton]at hd;rcases Nat.lt_or_ge k Q.flatten.length with ac|aN
    ·rw[List.getElem?_append_left ac]at hd;exact hk k d hd
    ·rw[List.getElem?_append_right aN]at hd;obtain⟨v,hv,hr⟩:=aa.get' _ d hd;refine⟨v,?_,hr⟩;have:=j _ v hv
     rw[show a.add k=(a.add (m*X)).add (k-Q.flatten.length)by rw[aG];rw[aG]at aN;exact m6 a (m*X) k aN];exact this
 obtain⟨Q,hl,ht,hk⟩:=ag ae (Nat.le_refl _);refine⟨Q,?_,Y,ht⟩;have f:Q.flatten≠[]->a.spot=none:=by
  intro W;obtain⟨d,c,g⟩:=List.exists_cons_of_ne_nil W;obtain⟨v,hv,_⟩:=hk 0 d (by rw[g];rfl);have:=World.cell?_spot hv
  simpa[Addr.add]using this
 refine .sl a ae ah X Q (fun k=>(w.cell? (a.add k)).getD undef) hl l Z (fun r hr=>(ht r hr).2) f (fun k d hd=>?_) (fun k d hd=>?_)
 ·obtain⟨v,hv,_⟩:=hk k d hd;have y:a.spot=none:=f (by intro hh;rw[hh]at hd;simp at hd)
  have he:a.add k=⟨a.block,a.off+k,none⟩:=by
   obtain⟨b,o,A⟩:=a;simp only at y;subst y;simp only[Addr.add];split
   ·rename_i h0;subst h0;rfl
   ·rfl
  rw[he]at hv⊢;rw[hv];exact⟨rfl,ui (a:=⟨a.block,a.off+k,none⟩) hv⟩
 ·obtain⟨v,hv,hr⟩:=hk k d hd;simp only[hv,Option.getD_some];exact hr
theorem D8{H:Type}{enc:TypeId×Value->H}{P:Program}{w:World}{A:Nat->Bool}{G:Bool}:∀(n:Nat){z:Nat}{t:TypeId}{I:List Value}{d:DataW H}{R:List MemPlace},H9 P n t=true->mv P n t=true->
  DataW.trod enc P w 0 A G z t I=some (d,R)->∃L,Yd (Rd (b1 w) w) I L/\bF P n t L
 |0,_,_,_,_,_,h,_,_=>by simp[H9]at h
 |n+1,z,t,I,d,R,hp,hl,h=>by
  simp only[H9]at hp;simp only[mv]at hl;simp only[bF];cases F:P.underlying t with
  |none=>simp[F]at hp
  |some j=>
   cases j with
   |bool=>obtain⟨b,rfl⟩:=nx F h;exact⟨_,.cons (.bool b) .nil,b,rfl⟩
   |int k=>obtain⟨m,rfl,M,Z⟩:=n2 F h;exact⟨_,.cons (.int k m) .nil,m,rfl,M,Z⟩
   |string=>obtain⟨s,rfl,M⟩:=rr F h;exact⟨_,.cons (.str s) .nil,s,rfl,M⟩
   |slice e=>
    simp only[F]at hp hl;simp only[Bool.and_eq_true]at hl;rcases qo F h with rfl|⟨a,ae,ah,rfl,M,Z,h3⟩
    ·exact⟨_,.cons (.nil (P.cellsOf e)) .nil,[],rfl,ab,ab⟩
    ·obtain⟨Q,hr,aT,g⟩:=r9 (P:=P) (n:=n) (X:=P.cellsOf e) (e:=e) M Z (fun i hi=>by
      obtain⟨xs,f,x,O,ht⟩:=h3 i hi;obtain⟨L,aa,af⟩:=D8 n hp hl.2 (d:=x.1) (R:=x.2) ht;exact⟨xs,L,O,aa,af⟩)
     exact⟨_,.cons hr .nil,Q,rfl,aT,g⟩
   |struct C=>
    simp only[F]at hp hl;simp only[Bool.and_eq_true]at hp hl;obtain⟨M,Z⟩:=nf F h;obtain⟨L,aa,c⟩:=G4 (w:=w) (P:=P) (q:=n) M hl.2 (Nat.zero_le _) (fun f hf=>by
     obtain⟨q,x,O⟩:=Z f hf;exact D8 n (List.all_eq_true.1 hp.1 f hf) (List.all_eq_true.1 hl.1 f hf) (d:=x.1) (R:=x.2) O)
    refine⟨L,by simpa using aa,?_,fun f hf=>by simpa using c [] rfl f hf⟩;have:=aa.length
    simp at this;omega
   |_=>simp[F]at hp
open Go.RowKit Go.WideShapes Go.ChangeAt Go.ChangeShapes
theorem nq{H:Type}{enc:TypeId×Value->H}{t:TypeId}{d:DataW H}
  (hp:H9 P n t=true) (hl:mv P n t=true) (ao:Value.okWide P w r ay t v) (h:DataW.Trod enc P w 0 A G t v d R):∃L,et w v L/\bF P n t L:=by
 obtain⟨z,hf⟩:=h;obtain⟨L,aa,af⟩:=D8 n hp hl hf;refine⟨L,⟨v.cells.toList,?_,aa⟩,af⟩;cases n with
 |zero=>simp[H9]at hp
 |succ n=>
  simp only[H9]at hp;cases F:P.underlying t with
  |none=>simp[F]at hp
  |some j=>
   cases j with
   |bool=>obtain⟨b,rfl⟩:=okWide_bool F ao;exact .inl ⟨_,rfl,rfl,rfl⟩
   |int k=>obtain⟨b,rfl⟩:=okWide_int F ao;exact .inl ⟨_,rfl,rfl,rfl⟩
   |string=>obtain⟨b,rfl⟩:=okWide_string F ao;exact .inl ⟨_,rfl,rfl,rfl⟩
   |slice e=>obtain⟨a,l,c,rfl⟩:=okWide_slice F ao;exact .inl ⟨_,rfl,rfl,rfl⟩
   |struct C=>obtain⟨I,rfl,aB⟩:=okWide_struct F ao;simp[F]at hp;exact .inr ⟨by simp[Value.cells,aB,hp.2],by simp[Value.cells]⟩
   |_=>simp[F]at hp
def la(P:Program)(n:Nat):List TypeId->List (List D)->Prop
 |[],[]=>True
 |t::ts,r::rs=>bF P n t r/\la P n ts rs
 |_,_=>False
def MD(P:Program)(n:Nat)(ts:List TypeId):Bool:=ts.all fun t=>H9 P n t&&mv P n t&&P.readableRec t&&decide (t<P.types.size)
theorem mZ{H:Type}{enc:TypeId×Value->H}{P:Program}{w:World}{A:Nat->Bool}{G:Bool}{n ay:Nat}{r:Reach}:∀{ts:List TypeId}{vs:List Value}{ds:List (DataW H)}{R:List MemPlace},MD P n ts=true->
  (∀(j:Nat) t v,ts[j]?=some t->vs[j]?=some v->Value.okWide P w r ay t v)->DataW.TrodAll enc P w 0 A G ts vs ds R->∃Q,Yd (et w) vs Q/\la P n ts Q
 |[],[],[],_,_,_,_=>⟨[],.nil,trivial⟩
 |t::ts,v::vs,d::ds,_,hp,ao,h=>by obtain⟨p,q,M,Z,_⟩:=h;simp only[MD,List.all_cons,Bool.and_eq_true]at hp;obtain⟨L,hr,ht⟩:=nq hp.1.1.1.1 hp.1.1.1.2 (ao 0 t v rfl rfl) M;obtain⟨Q,E,a⟩:=mZ (by simpa[MD]using hp.2) (fun j t v ht hv=>ao (j+1) t v ht hv) Z;exact⟨L::Q,.cons hr E,ht,a⟩
 |[],[],_::_,_,_,_,h=>h.elim
 |[],_::_,_,_,_,_,h=>ei
 |_::_,[],_,_,_,_,h=>ei
 |_::_,_::_,[],_,_,_,h=>h.elim
theorem Df{H:Type}{enc:TypeId×Value->H}{P:Program}{n:Nat}(D:laidOutB P=true){W f:World}(G:Below W.heap.size W f):∀{ts:List TypeId}{vs:List Value}{ds:List (DataW H)}{R:List MemPlace},MD P n ts=true->
  DataW.TrodAll enc P W 0 (fun _=>true) true ts vs ds R->DataW.TrodAll enc P f 0 (fun b=>decide (b<W.heap.size)) true ts vs ds R
 |[],[],[],_,_,h=>h
 |t::ts,v::vs,d::ds,_,hp,h=>by
  obtain⟨p,q,M,Z,rfl⟩:=h;simp only[MD,List.all_cons,Bool.and_eq_true,decide_eq_true_eq]at hp;have a:∀x∈p,x.block<W.heap.size:=by obtain⟨m,hm⟩:=M;exact DataW.trod_lt m _ _ _ hm
  exact⟨p,q,Below.trod D hp.1.1.2 hp.1.2 M G a,Df D G (by simpa[MD]using hp.2) Z,rfl⟩
 |[],[],_::_,_,_,h=>h.elim
 |[],_::_,_,_,_,h=>ei
 |_::_,[],_,_,_,h=>ei
 |_::_,_::_,[],_,_,h=>h.elim
end Go.Vm
