/- An abstract machine Uw the model of Go, by value, and that it is sound: part Vc. No condition. -/
import Derived.Test.YtdffgedmahdehaaGreatVf
import Derived.ProofKit
import Derived.OpenShut
import Derived.Below
import Derived.ChangeOld
import Derived.DataReads
import Derived.Carry
set_option linter.unusedVariables false
set_option linter.unusedSimpArgs false
namespace Go.Vm
open Go.RowKit
variable{w:World}{rows res args:List (List D)}{σ σ':St}{id d n size base fuel j:Nat}{f:FuncId}{cs wm:List Value}{F L l1 l2:List (Nat×Nat)}{y:Code}{c:Call}{a:Addr}{x:Operand}{ds:List D}{fn:Func}{v:Value}{r:Reach}{S:Nat->Prop}{s:ByteArray}{e:Exit}{T:CS}
abbrev Ren:=List ((Nat×Nat)×Option (Nat×Nat))
variable{ρ all:Ren}
def JI:Ren->Nat->Nat->Option (Nat×Nat)
 |[],t,j=>some (t,j)
 |(n,o)::ρ,t,j=>if t=n.1/\j=n.2 then o else JI ρ t j
def inF:List (Nat×Nat)->Nat->Nat->Bool
 |[],_,_=>false
 |n::F,t,j=>(t==n.1&&j==n.2)||inF F t j
def T1(σ:St)(ρ:Ren)(F:List (Nat×Nat)):At->At->Prop
 |_,.any=>True
 |.d x,.d y=>x=y
 |.nil _,.nil _=>True
 |.nil s,.d y=>y= .sl s []
 |.nil _,.sref t j lo len=>JI ρ t j=none/\lo=0/\len=0
 |.sref t j lo len,.sref t' j' ri uu=>JI ρ t' j'=some (t,j)/\lo=ri/\len=uu
 |.sref t j lo len,.d y=>inF F t j=true/\(match σ.ob t j with|.arr _ s rows=>y= .sl s (cut rows lo len)|_=>False)
 |.tref t j i c o,.tref t' j' i' c' o'=>JI ρ t' j'=some (t,j)/\i=i'/\c=c'/\o=o'/\(match σ.ob t j with|.arr true _ _=>True|_=>False)
 |.ptr t j i c,.ptr t' j' i' c'=>JI ρ t' j'=some (t,j)/\i=i'/\c=c'
 |.bptr t c,.bptr t' c'=>JI ρ t' 0=some (t,0)/\c=c'
 |.fn f t,.fn f' t'=>JI ρ t' 0=some (t,0)/\f=f'
 |.rptr r c,.rptr r' c'=>r=r'/\c=c'
 |_,_=>False
def qi(σ:St)(ρ:Ren)(F:List (Nat×Nat)):List At->List At->Prop
 |[],[]=>True
 |x::xs,y::ys=>T1 σ ρ F x y/\qi σ ρ F xs ys
 |_,_=>False
def wkV(σ:St)(ρ:Ren)(F:List (Nat×Nat)):V->V->Prop
 |_,.any=>True
 |.one x,.one y=>T1 σ ρ F x y
 |.agg xs,.agg ys=>qi σ ρ F xs ys
 |.fix u (.one x),.fix u' (.one y)=>u=u'/\T1 σ ρ F x y
 |.fix u (.agg xs),.fix u' (.agg ys)=>u=u'/\qi σ ρ F xs ys
 |.fix _ (.one x),.one y=>T1 σ ρ F x y
 |.fix _ (.agg xs),.agg ys=>qi σ ρ F xs ys
 |_,_=>False
def PL(σ:St)(ρ:Ren)(F:List (Nat×Nat))(t' j':Nat):Ob->Prop
 |.none=>True
 |.arr q size rows=>(match JI ρ t' j' with
  |none=>rows=[]
  |some (t,j)=>inF F t j=false/\(match σ.ob t j with|.arr p s r=>(p=q\/p=false/\∀x∈rows,∀y∈x,y.scalar=true)/\s=size/\r=rows|_=>False))
 |.lit _ _=>False
 |.box cells=>(match JI ρ t' j' with
  |none=>False
  |some (t,j)=>inF F t j=false/\(match σ.ob t j with|.box cs=>qi σ ρ F cs cells|_=>False))
def Ny(σ:St)(ρ:Ren)(F:List (Nat×Nat))(t:Nat):List Ob->Nat->Prop
 |[],_=>True
 |o::os,j=>PL σ ρ F t j o/\Ny σ ρ F t os (j+1)
def jW(σ:St)(ρ:Ren)(F:List (Nat×Nat)):List Ent->List Ent->Nat->Prop
 |[],[],_=>True
 |e::es,e'::rh,t=>(wkV σ ρ F e.1 e'.1/\Ny σ ρ F t e'.2 0)/\jW σ ρ F es rh (t+1)
 |_,_,_=>False
def X6:Ren->Nat->Nat->Bool
 |[],_,_=>false
 |(n,_)::ρ,t,j=>(t==n.1&&j==n.2)||X6 ρ t j
def zx:Ren->Nat->Nat->Bool
 |[],_,_=>false
 |(_,some o)::ρ,t,j=>(t==o.1&&j==o.2)||zx ρ t j
 |(_,none)::ρ,t,j=>zx ρ t j
def O4(σ':St)(t j:Nat):Bool:=match σ'.ob t j with|.none=>true|_=>false
def yr(σ':St)(all:Ren):Ren->Bool
 |[]=>true
 |(_,some o)::ρ=>!zx ρ o.1 o.2&&(X6 all o.1 o.2||O4 σ' o.1 o.2)&&yr σ' all ρ
 |(_,none)::ρ=>yr σ' all ρ
theorem z9:∀{ρ:Ren}{t j:Nat},X6 ρ t j=false->JI ρ t j=some (t,j)
 |[],_,_,_=>rfl
 |(n,o)::ρ,t,j,h=>by simp only[X6,Bool.or_eq_false_iff,Bool.and_eq_false_iff,beq_eq_false_iff_ne]at h;simp only[JI];rw[if_neg (by rintro⟨h1,h2⟩;rcases h.1 with h3|h3<;>contradiction)];exact z9 h.2
theorem xp:∀{ρ:Ren}{t j:Nat}{o:Nat×Nat},X6 ρ t j=true->JI ρ t j=some o->zx ρ o.1 o.2=true
 |[],_,_,_,h,_=>by simp[X6]at h
 |(n,o')::ρ,t,j,o,h,ho=>by
  simp only[JI]at ho;split at ho
  ·subst ho;simp[zx]
  ·rename_i wC;have h':X6 ρ t j=true:=by
    simp only[X6,Bool.or_eq_true,Bool.and_eq_true,beq_iff_eq]at h;rcases h with h|h
    ·exact absurd h wC
    ·exact h
   have:=xp h' ho;cases o' with
   |none=>simpa[zx]using this
   |some o'=>simp[zx,this]
theorem Sr{σ':St}{all:Ren}:∀{ρ:Ren}{t j t' j':Nat}{o:Nat×Nat},yr σ' all ρ=true->X6 ρ t j=true->X6 ρ t' j'=true->JI ρ t j=some o->JI ρ t' j'=some o->(t,j)=(t',j')
 |[],_,_,_,_,_,_,h,_,_,_=>by simp[X6]at h
 |(n,o')::ρ,t,j,t',j',o,wT,hn,wv,ho,wV=>by
  have mo:yr σ' all ρ=true:=by
   cases o' with
   |none=>simpa[yr]using wT
   |some o'=>simp only[yr,Bool.and_eq_true]at wT;exact wT.2
  simp only[JI]at ho wV;by_cases h1:t=n.1/\j=n.2
  ·rw[if_pos h1]at ho;by_cases h2:t'=n.1/\j'=n.2
   ·rw[h1.1,h1.2,h2.1,h2.2]
   ·rw[if_neg h2]at wV;have h':X6 ρ t' j'=true:=by simp only[X6,Bool.or_eq_true,Bool.and_eq_true,beq_iff_eq]at wv;exact wv.resolve_left h2
    have hold:=xp h' wV;subst ho;simp only[yr,Bool.and_eq_true,Bool.not_eq_true']at wT;rw[hold]at wT;cases wT.1.1
  ·rw[if_neg h1]at ho;have h:X6 ρ t j=true:=by simp only[X6,Bool.or_eq_true,Bool.and_eq_true,beq_iff_eq]at hn;exact hn.resolve_left h1
   by_cases h2:t'=n.1/\j'=n.2
   ·rw[if_pos h2]at wV;have hold:=xp h ho
    subst wV;simp only[yr,Bool.and_eq_true,Bool.not_eq_true']at wT;rw[hold]at wT;cases wT.1.1
   ·rw[if_neg h2]at wV;have h':X6 ρ t' j'=true:=by simp only[X6,Bool.or_eq_true,Bool.and_eq_true,beq_iff_eq]at wv;exact wv.resolve_left h2
    exact Sr mo h h' ho wV
theorem qP{σ':St}{all:Ren}:∀{ρ:Ren}{t j:Nat},yr σ' all ρ=true->zx ρ t j=true->X6 all t j=true\/σ'.ob t j= .none
 |[],_,_,_,h=>by simp[zx]at h
 |(n,o')::ρ,t,j,wT,h=>by
  cases o' with
  |none=>exact qP (ρ:=ρ) (by simpa[yr]using wT) (by simpa[zx]using h)
  |some o=>
   simp only[yr,Bool.and_eq_true,Bool.or_eq_true]at wT;simp only[zx,Bool.or_eq_true,Bool.and_eq_true,beq_iff_eq]at h;rcases h with⟨rfl,rfl⟩|h
   ·refine wT.1.2.imp id fun hf=>?_;unfold O4 at hf;split at hf<;>first|assumption|cases hf
   ·exact qP wT.2 h
theorem IZ(wT:yr σ' ρ ρ=true){t t' j':Nat}{o:Nat×Nat}(h1:σ'.ob t j≠ .none)(h2:σ'.ob t' j'≠ .none)(ho:JI ρ t j=some o)(wV:JI ρ t' j'=some o):t=t'/\j=j':=by
 cases hn:X6 ρ t j with
 |true=>
  cases wv:X6 ρ t' j' with
  |true=>have:=Sr wT hn wv ho wV;cases this;exact⟨rfl,rfl⟩
  |false=>
   have mq:=z9 wv;rw[mq]at wV;cases wV;have hold:=xp hn ho;rcases qP wT hold with h|h
   ·rw[wv]at h;cases h
   ·exact absurd h h2
 |false=>
  have mq:=z9 hn;rw[mq]at ho;cases ho;cases wv:X6 ρ t' j' with
  |true=>
   have hold:=xp wv wV;rcases qP wT hold with h|h
   ·rw[hn]at h;cases h
   ·exact absurd h h1
  |false=>have mr:=z9 wv;rw[mr]at wV;cases wV;exact⟨rfl,rfl⟩
theorem kO{σ:St}{ρ:Ren}{F:List (Nat×Nat)}:∀{es rh:List Ent}{t:Nat},jW σ ρ F es rh t->es.length=rh.length
 |[],[],_,_=>rfl
 |_::_,_::_,_,h=>by simp[kO h.2]
 |[],_::_,_,h=>h.elim
 |_::_,[],_,h=>h.elim
theorem U6{σ:St}{ρ:Ren}{F:List (Nat×Nat)}:∀{es rh:List Ent}{t:Nat},jW σ ρ F es rh t->∀(i:Nat),wkV σ ρ F (St.get es i) (St.get rh i)/\∀j,PL σ ρ F (t+i) j (St.ob rh i j)
 |[],[],t,_,i=>⟨by simp[St.get,wkV],fun j=>by simp[St.ob,PL]⟩
 |e::es,e'::rh,t,h,0=>by
  refine⟨h.1.1,fun j=>?_⟩;have:∀(os:List Ob)(k:Nat),Ny σ ρ F t os k->∀j,PL σ ρ F t (k+j) (Zq os j):=by
   intro os;induction os with
   |nil=>intro k _ j;simp[Zq,PL]
   |cons o os ih=>
    intro k hk j;cases j with
    |zero=>exact hk.1
    |succ j=>have:=ih (k+1) hk.2 j;rw[show k+(j+1)=k+1+j by omega];simpa[Zq]using this
  have:=this e'.2 0 h.1.2 j;simpa using this
 |e::es,e'::rh,t,h,i+1=>by have:=U6 h.2 i;rw[show t+(i+1)=t+1+i by omega];simpa[St.get,St.ob]using this
 |[],_::_,_,h,_=>h.elim
 |_::_,[],_,h,_=>h.elim
theorem LX{xs:List Value}(wE:ZU (Rd T w) xs ds)(hf:∀d∈ds,d.scalar=true):Qk w xs ds S:=
 ⟨wE.length,fun _ _=>False,fun k x d hx hd=>by
  obtain⟨d',wL,hr⟩:=wE.get k x hx;rw[hd]at wL;cases wL;exact Rd.own (hf d (List.mem_of_getElem? hd)) hr,fun _ _ hb=>hb.elim,fun _ _ _ hb=>hb.elim⟩
theorem Y2(ρ:Ren)(F:List (Nat×Nat))(wT:yr σ' ρ ρ=true)(hs:jW σ ρ F σ σ' 0):Wk σ σ':=by
 rintro T0 B a w ⟨X,h,r⟩;let h':Nat->Nat->Hd:=fun t j=>match JI ρ t j with|some o=>h o.1 o.2|none=>Hd.of (.slice none 0 0)
 let X':Nat->Prop:=fun b=>X b\/∃t j,inF F t j=true/\σ.ob t j≠ .none/\(h t j).u b
 have hlen:=kO hs;have vD:=U6 hs;have wW:∀t j,PL σ ρ F t j (σ'.ob t j):=fun t j=>by have:=(vD t).2 j;simpa using this
 have se:∀b k v,Tof T0 X b k->w.cell? ⟨b,k,none⟩=some v->w.cell? ⟨b,k,none⟩=some v/\Tof T0 X' b k:=fun b k v hb hc=>⟨hc,hb.imp id .inl⟩;have tP:∀t' j' q size rows,σ'.ob t' j'= .arr q size rows->(JI ρ t' j'=none/\rows=[])\/∃t j p,JI ρ t' j'=some (t,j)/\inF F t j=false/\σ.ob t j= .arr p size rows/\(p=q\/p=false/\∀x∈rows,∀y∈x,y.scalar=true):=by
  intro t' j' q size rows ho;have:=wW t' j'
  rw[ho]at this;simp only[PL]at this;split at this
  ·rename_i hn;exact .inl ⟨hn,this⟩
  ·rename_i t j hn;obtain⟨hF,this⟩:=this;split at this
   ·rename_i p s r w5;obtain⟨hp,rfl,rfl⟩:=this;exact .inr ⟨t,j,p,hn,hF,w5,hp⟩
   ·exact this.elim
 have sL:∀t' j' size rows,σ'.ob t' j'≠ .lit size rows:=by
  intro t' j' size rows ho;have:=wW t' j'
  rw[ho]at this;exact this
 have sM:∀t' j' cells,σ'.ob t' j'= .box cells->∃t j cs,JI ρ t' j'=some (t,j)/\inF F t j=false/\σ.ob t j= .box cs/\qi σ ρ F cs cells:=by
  intro t' j' cells ho;have:=wW t' j'
  rw[ho]at this;simp only[PL]at this;split at this
  ·exact this.elim
  ·rename_i t j hn;obtain⟨hF,this⟩:=this;split at this
   ·rename_i cs w5;exact⟨t,j,cs,hn,hF,w5,this⟩
   ·exact this.elim
 have at_:∀{x y:At}{v:Value},T1 σ ρ F x y->Zf (Tof T0 X) h σ.ob w x v->Zf (Tof T0 X') h' σ'.ob w y v:=by
  intro x y v hw hr;have h1:=Zf.YN hr
  cases y with
  |any=>exact h1
  |d y=>
   cases x with
   |d x=>simp only[T1]at hw;subst hw;exact Rd.mono se hr
   |nil s=>simp only[T1]at hw;subst hw;cases hr;exact .nil _
   |sref t j lo len=>
    simp only[T1]at hw;obtain⟨hF,hw⟩:=hw;split at hw
    ·rename_i q s rows ho;subst hw;exact r.N4 ho hr _ (fun b k hb=>hb.imp id .inl) (fun b k hb=>.inr (.inr ⟨t,j,hF,by rw[ho];simp,hb⟩))
    ·exact hw.elim
   |_=>exact hw.elim
  |nil s=>
   cases x with
   |nil s'=>exact hr
   |_=>exact hw.elim
  |sref t' j' ri uu=>
   cases x with
   |nil s=>obtain⟨hn,rfl,rfl⟩:=hw;cases hr;refine⟨rfl,fun q size rows ho=>?_,fun size rows ho=>absurd ho (sL _ _ _ _)⟩;simp only[h',hn];exact⟨fJ,fun _ _=>rfl,fun _=>rfl,none,0,rfl,fJ,by simp[maxLen],fun _=>rfl,fun hh=>absurd hh fJ⟩
   |sref t j lo len=>
    obtain⟨hn,rfl,rfl⟩:=hw;refine⟨h1,fun q size rows ho=>?_,fun size rows ho=>absurd ho (sL _ _ _ _)⟩;rcases tP t' j' q size rows ho with⟨wv,_⟩|⟨t2,j2,p,wv,_,w5,_⟩
    ·rw[hn]at wv;cases wv
    ·rw[hn]at wv;cases wv;simp only[h',hn];exact hr.2.1 p size rows w5
   |_=>exact hw.elim
  |ptr t' j' i' c'=>
   cases x with
   |ptr t j i c=>
    obtain⟨hn,rfl,rfl⟩:=hw;refine⟨h1,fun q size rows ho=>?_⟩;rcases tP t' j' q size rows ho with⟨wv,_⟩|⟨t2,j2,p,wv,_,w5,_⟩
    ·rw[hn]at wv;cases wv
    ·rw[hn]at wv;cases wv;simp only[h',hn];exact hr.2 p size rows w5
   |_=>exact hw.elim
  |tref t' j' i' c' o'=>
   cases x with
   |tref t j i c o=>
    obtain⟨hn,rfl,rfl,rfl,hq⟩:=hw;refine⟨h1,fun size rows ho=>?_⟩;rcases tP t' j' true size rows ho with⟨wv,_⟩|⟨t2,j2,p,wv,_,w5,hp⟩
    ·rw[hn]at wv;cases wv
    ·rw[hn]at wv;cases wv;simp only[h',hn];rcases hp with rfl|⟨rfl,vV⟩
     ·exact hr.2 size rows w5
     ·rw[w5]at hq;exact hq.elim
   |_=>exact hw.elim
  |bptr t' c'=>
   cases x with
   |bptr t c=>obtain⟨hn,rfl⟩:=hw;refine⟨h1,fun cells ho=>?_⟩;obtain⟨t2,j2,cs,wv,_,w5,_⟩:=sM t' 0 cells ho;rw[hn]at wv;cases wv;simp only[h',hn];exact hr.2 cs w5
   |_=>exact hw.elim
  |fn f' t'=>
   cases x with
   |fn f t=>obtain⟨hn,rfl⟩:=hw;refine⟨h1,fun cells ho=>?_⟩;obtain⟨t2,j2,cs,wv,_,w5,_⟩:=sM t' 0 cells ho;rw[hn]at wv;cases wv;simp only[h',hn];exact hr.2 cs w5
   |_=>exact hw.elim
  |rptr r' c'=>
   cases x with
   |rptr r0 c=>obtain⟨rfl,rfl⟩:=hw;obtain⟨b,off,g,e,hk⟩:=hr;exact⟨b,off,g,e,fun k d hd=>⟨(hk k d hd).1,(hk k d hd).2.1.imp id .inl,Rd.mono se (hk k d hd).2.2⟩⟩
   |_=>exact hw.elim
 have r3:∀{xs ys:List At}{vs:List Value},qi σ ρ F xs ys->ZU (Zf (Tof T0 X) h σ.ob w) xs vs->ZU (Zf (Tof T0 X') h' σ'.ob w) ys vs:=by
  intro xs;induction xs with
  |nil=>intro ys vs hw hr;cases ys with
   |nil=>cases hr;exact .nil
   |cons y ys=>exact hw.elim
  |cons x xs ih=>intro ys vs hw hr;cases ys with
   |nil=>exact hw.elim
   |cons y ys=>cases hr with
    |cons h1 hr=>exact .cons (at_ hw.1 h1) (ih hw.2 hr)
 have v_:∀{x y:V}{v:Value},wkV σ ρ F x y->Yu (Tof T0 X) h σ.ob w x v->Yu (Tof T0 X') h' σ'.ob w y v:=by
  intro x y v hw hr;cases y with
  |any=>trivial
  |one y=>cases x with
   |one x=>exact at_ hw hr
   |fix u x=>cases x with
    |one x=>exact at_ hw hr.2
    |_=>exact hw.elim
   |_=>exact hw.elim
  |agg ys=>cases x with
   |agg xs=>obtain⟨cs,e,hr⟩:=hr;exact⟨cs,e,r3 hw hr⟩
   |fix u x=>cases x with
    |agg xs=>obtain⟨cs,e,hr⟩:=hr.2;exact⟨cs,e,r3 hw hr⟩
    |_=>exact hw.elim
   |_=>exact hw.elim
  |tup ys=>cases x with
   |fix u x=>cases x<;>exact hw.elim
   |_=>exact hw.elim
  |cnd g y=>cases x with
   |fix u x=>cases x<;>exact hw.elim
   |_=>exact hw.elim
  |fix u' y=>cases x with
   |fix u x=>cases x with
    |one x=>cases y with
     |one y=>obtain⟨rfl,hw⟩:=hw;exact⟨hr.1,at_ hw hr.2⟩
     |_=>exact hw.elim
    |agg xs=>cases y with
     |agg ys=>obtain⟨rfl,hw⟩:=hw;obtain⟨e1,cs,e,hr⟩:=hr;exact⟨e1,cs,e,r3 hw hr⟩
     |_=>exact hw.elim
    |_=>cases y<;>exact hw.elim
   |_=>cases y<;>exact hw.elim
 have wC:∀t j,σ'.ob t j≠ .none->(JI ρ t j=none/\∀b,¬(h' t j).u b)\/∃o,JI ρ t j=some o/\σ.ob o.1 o.2≠ .none/\inF F o.1 o.2=false/\h' t j=h o.1 o.2:=by
  intro t j hn;cases ho:σ'.ob t j with
  |none=>exact absurd ho hn
  |arr q size rows=>
   rcases tP t j q size rows ho with⟨wv,_⟩|⟨t2,j2,p,wv,hF,w5,_⟩
   ·exact .inl ⟨wv,fun b hb=>by simp only[h',wv,Hd.of,blk]at hb;cases hb⟩
   ·exact .inr ⟨(t2,j2),wv,by rw[w5];simp,hF,by simp only[h',wv]⟩
  |lit size rows=>exact absurd ho (sL _ _ _ _)
  |box cells=>obtain⟨t2,j2,cs,wv,hF,w5,_⟩:=sM t j cells ho;exact .inr ⟨(t2,j2),wv,by rw[w5];simp,hF,by simp only[h',wv]⟩
 refine⟨X',h',by rw[r.size,hlen],r.defers,r.hB,fun b hb=>?_,r.hT,fun t ht=>?_,fun t j=>?_,fun t j b hn hb=>?_,fun t j b hn hb=>?_,fun t j t' j' b hn wv hb wP=>?_⟩
 ·rcases hb with hb|⟨t,j,_,hn,hb⟩
  ·exact r.hX b hb
  ·have:=r.own t j b hn hb;exact⟨this.1,this.2.2⟩
 ·exact v_ (vD t).1 (r.slot t (by rw[hlen];exact ht))
 ·cases ho:σ'.ob t j with
  |none=>trivial
  |lit size rows=>exact absurd ho (sL _ _ _ _)
  |arr q size rows=>
   rcases tP t j q size rows ho with⟨hn,rfl⟩|⟨u,k,p,hn,_,w5,hp⟩
   ·have:h' t j=Hd.of (.slice none 0 0):=by simp only[h',hn]
    rw[this];cases q with
    |false=>exact⟨0,[],World.ownsRow_nil w 0 0 size,fu,.nil⟩
    |true=>exact⟨0,[],World.ownsRow_nil w 0 0 size,fu,Qk.nil _,fun k x d hx=>by simp at hx⟩
   ·have he:h' t j=h u k:=by simp only[h',hn]
    rw[he];have h0:=r.obj u k
    rw[w5]at h0;cases p with
    |false=>
     obtain⟨e,xs,wI,hz,wE⟩:=h0;cases q with
     |false=>exact⟨e,xs,wI,hz,wE.imp fun _ _=>Rd.mono se⟩
     |true=>
      rcases hp with hp|⟨_,vV⟩
      ·cases hp
      ·have rD:∀d∈rows.flatten,d.scalar=true:=fun d hd=>by obtain⟨r0,um,hdr⟩:=List.mem_flatten.1 hd;exact vV r0 um d hdr
       exact⟨e,xs,wI,hz,LX wE rD,fun k x d _ hd hs=>by rw[rD d (List.mem_of_getElem? hd)]at hs;cases hs⟩
    |true=>
     rcases hp with rfl|⟨hp,_⟩
     ·exact h0
     ·cases hp
  |box cells=>
   obtain⟨u,k,cs,hn,_,w5,uM⟩:=sM t j cells ho;have h0:=r.obj u k
   rw[w5]at h0;obtain⟨b,vs,e,hv,hh,wE⟩:=h0;have he:h' t j=h u k:=by simp only[h',hn]
   rw[he];exact⟨b,vs,e,hv,hh,r3 uM wE⟩
 ·rcases wC t j hn with⟨hr,_⟩|⟨o,hr,tu,hF,he⟩
  ·simp only[h',hr,Hd.of,blk]at hb;cases hb
  ·rw[he]at hb⊢;exact r.ub o.1 o.2 b tu hb
 ·rcases wC t j hn with⟨_,tu⟩|⟨o,hr,tu,hF,he⟩
  ·exact absurd hb (tu b)
  ·rw[he]at hb;have h0:=r.own o.1 o.2 b tu hb
   refine⟨h0.1,?_,h0.2.2⟩;rintro(hx|⟨t2,j2,lr,nK,wo⟩)
   ·exact h0.2.1 hx
   ·obtain⟨h3,h4⟩:=r.inj o.1 o.2 t2 j2 b tu nK hb wo;rw[h3,h4]at hF;rw[hF]at lr;cases lr
 ·rcases wC t j hn with⟨_,tu⟩|⟨o,hr,tu,_,he⟩
  ·exact absurd hb (tu b)
  ·rcases wC t' j' wv with⟨_,pv⟩|⟨o',vU,pv,_,oc⟩
   ·exact absurd wP (pv b)
   ·rw[he]at hb;rw[oc]at wP;obtain⟨h3,h4⟩:=r.inj o.1 o.2 o'.1 o'.2 b tu pv hb wP;have:o=o':=Prod.ext h3 h4
    subst this;exact IZ wT hn wv hr vU
theorem Qb(hs:jW σ [] [] σ σ' 0):Wk σ σ':=Y2 [] [] rfl hs
attribute [simp] JI inF T1 qi wkV PL Ny jW X6 zx O4 yr
open Go.RowKit
variable{P:Program}{ops:Array Oper}{rest:List Oper}{bar:Oper->Bool}{Q:St->Prop}
def YA(P:Program)(σ:St):List Operand->List TypeId->Prop×Option (List (List D))
 |[],_=>(True,some [])
 |x::xs,t::ts=>(gOf (look P σ t x)=true/\(YA P σ xs ts).1,match(unc (look P σ t x)).X3 σ,(YA P σ xs ts).2 with|some r,some rs=>some (r::rs)|_,_=>none)
 |_::_,[]=>(False,none)
theorem Kb{P:Program}{σ:St}:∀{xs:List Operand}{ts:List TypeId}{rs:List (List D)},(YA P σ xs ts).1->(YA P σ xs ts).2=some rs->Yq P σ xs ts rs
 |[],_,rs,_,h=>by simp[YA]at h;exact h
 |x::xs,t::ts,rs,h1,h=>by
  simp only[YA]at h;split at h
  ·rename_i r oO hr uO;cases h;exact⟨h1.1,r,oO,hr,Kb h1.2 uO,rfl⟩
  ·cases h
 |_::_,[],_,h1,_=>h1.elim
attribute [simp] YA
theorem Rb{o:Oper}{own:Bool}(wA:o.op= .call c)(hc:c.callee= .value (.func f))(hg:o.guard=none)(hd:o.dst=some d)
  (hs:Y0 P f own rows res) (wR:(YA P σ c.args.toList c.argTypes.toList).2=some rows) (wH:(YA P σ c.args.toList c.argTypes.toList).1) (wY:Zl P σ c.args.toList c.argTypes.toList=true\/X4 own res) (h:Ev P ops bar rest (σ.put d (Ki res)) Q):Ks P ops bar o rest σ Q:=
 Om wA hc hg hd (Kb wH wR) hs wY h
theorem Lq{o:Oper}(wA:o.op= .call c)(hc:c.callee= .value (.func f))(hg:o.guard=none)(hd:o.dst=some d)
  (hs:Y0 P f true rows res) (wR:(YA P σ c.args.toList c.argTypes.toList).2=some rows) (wH:(YA P σ c.args.toList c.argTypes.toList).1) (wY:Zl P σ c.args.toList c.argTypes.toList=true\/X4 true res) (hf:σ.fresh d=true) (h:Ev P ops bar rest (σ.new d (Kp d res) (JV res.flatten)) Q):Ks P ops bar o rest σ Q:=
 RW wA hc hg hd (Kb wH wR) hs wY hf h
theorem O8{o:Oper}(qs:List Bool)(wA:o.op= .call c)(hc:c.callee= .value (.func f))(hg:o.guard=none)(hd:o.dst=some d)
  (hs:Zp P f rows res) (wR:(YA P σ c.args.toList c.argTypes.toList).2=some rows) (wH:(YA P σ c.args.toList c.argTypes.toList).1) (hq:zC qs res.flatten) (hf:σ.fresh d=true) (h:Ev P ops bar rest (σ.new d (Kp d res) (Zr qs res.flatten)) Q):Ks P ops bar o rest σ Q:=
 O6 qs wA hc hg hd (Kb wH wR) hs hq hf h
theorem NQ{o:Oper}{dj:Nat}{want g own:Bool}{res:List D}(wA:o.op= .call c)(hc:c.callee= .value (.func f))(hg:o.guard=some (j,want))(hd:o.dst=some d)
  (vk:(ops[j]?).bind (·.dst)=some dj) (vz:zE want (σ.get dj)=some g) (hs:g=true->Y0 P f own rows [res])
  (wR:(YA P σ c.args.toList c.argTypes.toList).2=some rows) (wO:dj<σ.length)
  (wH:g=true->(YA P σ c.args.toList c.argTypes.toList).1) (wY:Zl P σ c.args.toList c.argTypes.toList=true\/X4 own [res]) (h:Ev P ops bar rest (σ.put d (.cnd g (Ki [res]))) Q):Ks P ops bar o rest σ Q:=
 Nf wA hc hg hd vk wO vz (fun hh=>Kb (wH hh) wR) hs wY h
def Ys:Nat->List (Nat×V×List Ob)->St
 |n,[]=>List.replicate n (V.any,[])
 |n,(t,v,os)::l=>(Ys n l).new t v os
attribute [simp] Ys
open Go.RowKit
variable{parts:Array (Nat×Operand)}
def HK(P:Program)(b:Bool)(x y:Code)(Q:Exit->St->Prop)(σ:St):Prop:=(b=true->AWP P x Q σ)/\(b=false->AWP P y Q σ)
def HI(P:Program)(c:Code)(Q:Exit->St->Prop)(σ:St):Prop:=AWP P (.loop c) Q σ
def HN(P:Program)(id:Nat)(ops:Array Oper)(Q:Exit->St->Prop)(σ:St):Prop:=AWP P (.region id ops true) Q σ
def TE(P:Program)(c:Code)(Q:Exit->St->Prop)(σ:St):Prop:=AWP P c Q σ
def Wx(P:Program):Code->(Exit->St->Prop)->St->Prop
 |.seq x y,Q,σ=>Wx P x (Ut (Wx P y Q) Q) σ
 |.region _ ⟨l⟩ false,Q,σ=>Ev P ⟨l⟩ (fun _=>true) l σ (Q .normal)
 |.region id ops true,Q,σ=>HN P id ops Q σ
 |.cond c x y,Q,σ=>(match look P σ 0 c with|.one (.d (.bool b))=>HK P b x y Q σ|_=>False)
 |.block id c,Q,σ=>Wx P c (qt id Q) σ
 |.loop c,Q,σ=>HI P c Q σ
 |.skip,Q,σ=>Q .normal σ
 |.exit id,Q,σ=>Q (.exit id) σ
 |.ret,Q,σ=>Q .ret σ
 |.rangeFunc f ps x y,Q,σ=>TE P (.rangeFunc f ps x y) Q σ
 |.scope c,Q,σ=>TE P (.scope c) Q σ
 |.label l,Q,σ=>TE P (.label l) Q σ
 |.goto l,Q,σ=>TE P (.goto l) Q σ
 |.refuse s,Q,σ=>TE P (.refuse s) Q σ
theorem xU{P:Program}:∀{c:Code}{Q:Exit->St->Prop}{σ:St},Wx P c Q σ->AWP P c Q σ
 |.seq x y,Q,σ,h=>by rw[Wx]at h;refine Io (Ps (fun e σ' hq=>?_) (xU h));cases e<;>simp only[Ut]at hq⊢<;>first|exact xU hq|exact hq
 |.region _ ⟨l⟩ false,Q,σ,h=>Hi h
 |.region id ops true,Q,σ,h=>h
 |.cond c x y,Q,σ,h=>by
  rw[Wx]at h;split at h
  ·rename_i b hb;exact Le hb h.1 h.2
  ·exact h.elim
 |.block id c,Q,σ,h=>Mw (xU (by rw[Wx]at h;exact h))
 |.loop c,Q,σ,h=>h
 |.skip,Q,σ,h=>L1 h
 |.exit id,Q,σ,h=>L3 h
 |.ret,Q,σ,h=>IV h
 |.rangeFunc _ _ _ _,Q,σ,h=>h
 |.scope _,Q,σ,h=>h
 |.label _,Q,σ,h=>h
 |.goto _,Q,σ,h=>h
 |.refuse _,Q,σ,h=>h
class KA where
 c:Code
class QT where
 ops:Array Oper
 bar:Oper->Bool
variable{A:QT}
class Q9 where
 l:List Oper
variable{l:Q9}
class OpI where
 o:Oper
variable{o:OpI}
class inductive Fr where
 |fin (Q:Exit->St->Prop)
 |sq (y:Code) (k:Fr)
 |blk (id:Nat) (k:Fr)
 |nxt (n:St->Prop) (k:Fr)
variable{k:Fr}
def Fr.run(P:Program):Fr->Exit->St->Prop
 |.fin Q,e,σ=>Q e σ
 |.sq y k,e,σ=>Ut (Wx P y (Fr.run P k)) (Fr.run P k) e σ
 |.blk id k,e,σ=>qt id (Fr.run P k) e σ
 |.nxt n k,e,σ=>Ut n (Fr.run P k) e σ
def WI(P:Program)(σ:St)[c:KA][k:Fr]:Prop:=Wx P c.c (k.run P) σ
def LI(P:Program)(e:Exit)(σ:St)[k:Fr]:Prop:=k.run P e σ
def EI(P:Program)(σ:St)[A:QT][l:Q9][k:Fr]:Prop:=Ev P A.ops A.bar l.l σ (k.run P .normal)
def SI(P:Program)(σ:St)[A:QT][o:OpI][l:Q9][k:Fr]:Prop:=Ks P A.ops A.bar o.o l.l σ (k.run P .normal)
def CI(P:Program)(b:Bool)(σ:St)[x:KA][y:KA][k:Fr]:Prop:=HK P b x.c y.c (k.run P) σ
def jN(P:Program)(σ:St)[c:KA][k:Fr]:Prop:=HI P c.c (k.run P) σ
def DI(P:Program)(id:Nat)(σ:St)[A:QT][k:Fr]:Prop:=HN P id A.ops (k.run P) σ
theorem HT{x:Code}:@WI P σ ⟨.seq x y⟩ k=@WI P σ ⟨x⟩ (.sq y k):=by simp only[WI];rw[Wx];congr 1
theorem M0{l:List Oper}:@WI P σ ⟨.region id ⟨l⟩ false⟩ k=@EI P σ ⟨⟨l⟩,fun _=>true⟩ ⟨l⟩ k:=by simp only[WI,EI,Wx]
theorem I2:@WI P σ ⟨.region id ops true⟩ k=@DI P id σ ⟨ops,fun _=>true⟩ k:=by simp only[WI,DI,Wx]
theorem Im{c:Operand}{x:Code}:@WI P σ ⟨.cond c x y⟩ k=(match look P σ 0 c with|.one (.d (.bool b))=>@CI P b σ ⟨x⟩ ⟨y⟩ k|_=>False):=by simp only[WI,CI,Wx]
theorem Lk{c:Code}:@WI P σ ⟨.block id c⟩ k=@WI P σ ⟨c⟩ (.blk id k):=by simp only[WI];rw[Wx];congr 1
theorem IM{c:Code}:@WI P σ ⟨.loop c⟩ k=@jN P σ ⟨c⟩ k:=by simp only[WI,jN,Wx]
theorem Ir:@WI P σ ⟨.skip⟩ k=@LI P .normal σ k:=by simp only[WI,LI,Wx]
theorem Iz:@WI P σ ⟨.exit id⟩ k=@LI P (.exit id) σ k:=by simp only[WI,LI,Wx]
theorem Hp:@WI P σ ⟨.ret⟩ k=@LI P .ret σ k:=by simp only[WI,LI,Wx]
theorem Hr{Q:Exit->St->Prop}:@LI P e σ (.fin Q)=Q e σ:=rfl
theorem H0:@LI P .normal σ (.sq y k)=@WI P σ ⟨y⟩ k:=rfl
theorem Nd:@LI P (.exit id) σ (.sq y k)=@LI P (.exit id) σ k:=rfl
theorem M6:@LI P .ret σ (.sq y k)=@LI P .ret σ k:=rfl
theorem Hu{n:St->Prop}:@LI P .normal σ (.nxt n k)=n σ:=rfl
theorem OP{n:St->Prop}:@LI P (.exit id) σ (.nxt n k)=@LI P (.exit id) σ k:=rfl
theorem NR{n:St->Prop}:@LI P .ret σ (.nxt n k)=@LI P .ret σ k:=rfl
theorem Hh:@LI P .normal σ (.blk id k)=@LI P .normal σ k:=rfl
theorem NK:@LI P .ret σ (.blk id k)=@LI P .ret σ k:=rfl
theorem PS{pt:Nat}:@LI P (.exit pt) σ (.blk id k)=if pt=id then@LI P .normal σ k else@LI P (.exit pt) σ k:=rfl
theorem HU:@EI P σ A ⟨[]⟩ k=@LI P .normal σ k:=by simp only[EI,LI,Ev]
theorem Ic{o:Oper}:@EI P σ A ⟨o::rest⟩ k=
  (if stops P A.bar o then@SI P σ A ⟨o⟩ ⟨rest⟩ k else
  match o.guard with
  |none=>
   (match o.dst with
   |some d=>(evS P σ o d).1/\@EI P (evS P σ o d).2 A ⟨rest⟩ k
   |none=>(match o.op with|.store T x y=>if HS P σ T x y then@SI P σ A ⟨o⟩ ⟨rest⟩ k else(PZ P σ T x y).1/\@EI P (PZ P σ T x y).2 A ⟨rest⟩ k|_=>False))
  |some (j,want)=>
   (match(A.ops[j]?).bind (·.dst),o.dst with
   |some dj,some d=>(match zE want (σ.get dj)with
    |some g=>(dj<σ.length/\(g=true->(evV P σ o.op o.type).1/\gOf (evV P σ o.op o.type).2=true/\(unc (evV P σ o.op o.type).2).flat=true))/\@EI P (σ.put d (.cnd g (unc (evV P σ o.op o.type).2))) A ⟨rest⟩ k
    |none=>False)
   |_,_=>False)):=by
 simp only[EI,SI];rw[Ev];rfl
theorem LJ{c:Code}(hf:P.funcs[f]?=some fn)(hb:fn.body=some c)(wT:j4 P f=true){own:Bool}
  (hw:@WI P (K0 fn.ntmps args) ⟨c⟩ (.fin (Mt P fn own res))):Y0 P f own args res:=PD hf hb wT (xU hw)
theorem Iw{rest:Q9}{S T:TypeId}(wA:o.o.op= .convert S T x)(hg:o.o.guard=none)(hd:o.o.dst=some d)
  (h1:gOf (look P σ S x)=true) (h2:qF P S=true) (h3:WX P T=true) (h4:unc (look P σ S x)= .one (.d (.str s))) (h5:s.size<=9223372036854775807) (h:@EI P (σ.put d (.one (.d (.sl 1 (QG s.data.toList))))) A rest k):@SI P σ A o rest k:=
 Rm wA hg hd h1 h2 h3 h4 h5 h
theorem Mm{c:Code}(hf:P.funcs[f]?=some fn)(hb:fn.body=some c)(wT:j4 P f=true)
  (hw:@WI P (K0 fn.ntmps args) ⟨c⟩ (.fin (Lz P fn res))):Zp P f args res:=SG hf hb wT (xU hw)
def RM(o:Oper):Bool:=match o.op with|.call ⟨.value _,_,_⟩=>false|_=>true
theorem evI(hp:RM o.o=true)(hg:o.o.guard=none)(hd:o.o.dst=some d)(h:(evS P σ o.o d).1/\@EI P (evS P σ o.o d).2 A l k):@SI P σ A o l k:=by refine Ib (fun c wA f hc=>?_) hg hd h.1 h.2;obtain⟨cc,ca,ct⟩:=c;simp only at hc;subst hc;simp[RM,wA]at hp
theorem Gl{T:TypeId}(wA:o.o.op= .buildSlice T n parts)(hg:o.o.guard=none)(hd:o.o.dst=some d)
  (h1:σ.fresh d=true/\Zy P T=true/\YR P (ZD P T)=true/\0<P.cellsOf (ZD P T)/\parts.toList.length=n/\n*P.cellsOf (ZD P T)<=16777216) (h2:(X5 P σ (ZD P T) (P.cellsOf (ZD P T)) parts.toList 0).1)
  (h3:Zd d (X5 P σ (ZD P T) (P.cellsOf (ZD P T)) parts.toList 0).2.flatten=false)
  (h:@EI P (σ.new d (.one (.sref d 0 0 (X5 P σ (ZD P T) (P.cellsOf (ZD P T)) parts.toList 0).2.length)) [.lit (P.cellsOf (ZD P T)) (X5 P σ (ZD P T) (P.cellsOf (ZD P T)) parts.toList 0).2]) A l k):@SI P σ A o l k:=LV wA hg hd h1 h2 h3 h
theorem Gt{T:TypeId}(wA:o.o.op= .buildSlice T n parts)(hg:o.o.guard=none)(hd:o.o.dst=some d)
  (h1:Zy P T=true/\YR P (ZD P T)=true/\0<P.cellsOf (ZD P T)/\parts.toList.length=n/\n*P.cellsOf (ZD P T)<=16777216) (h2:(KV P σ (ZD P T) (P.cellsOf (ZD P T)) parts.toList 0).1)
  (h:@EI P (σ.put d (.one (.d (.sl (P.cellsOf (ZD P T)) (KV P σ (ZD P T) (P.cellsOf (ZD P T)) parts.toList 0).2)))) A l k):@SI P σ A o l k:=Li wA hg hd h1 h2 h
theorem Gv{y:Operand}{t:TypeId}{wD news:List (List D)}(wA:o.o.op= .call ⟨.builtin .append,#[x,y],#[t,t]⟩)(hg:o.o.guard=none)(hd:o.o.dst=some d)(wu:A.bar o.o=true)
  (vK:size=P.cellsOf (ZD P t)) (h1:gOf (look P σ t x)=true/\gOf (look P σ t y)=true/\Zy P t=true/\YR P (ZD P t)=true/\0<P.cellsOf (ZD P t))
  (h2:(yy σ (unc (look P σ t x)) size).1/\(yy σ (unc (look P σ t x)) size).2=(wD,l1)) (h3:(KT σ (unc (look P σ t y)) size).1/\(KT σ (unc (look P σ t y)) size).2=(news,l2))
  (h4:(l1++l2).Nodup/\(σ.ZV (l1++l2)).fresh d=true) (h5:(wD.length+news.length)*P.bytesOf (ZD P t)<=140737488355328/\wD.length+news.length<=9223372036854775807)
  (h:@EI P ((σ.ZV (l1++l2)).new d (.one (.sref d 0 0 (wD.length+news.length))) [.arr true size (wD++news)]) A l k):@SI P σ A o l k:=LN wA hg hd wu vK h1 h2 h3 h4 h5 h
theorem H8{T:TypeId}{y:Operand}{t i c:Nat}(wA:o.o.op= .store T x y)(hg:o.o.guard=none)(hd:o.o.dst=none)(wu:A.bar o.o=true)
  (hx:unc (look P σ 0 x)= .one (.ptr t j i c)) (ho:σ.ob t j= .arr true size rows) (hi:i<rows.length) (h1:Kk P T=true/\gOf (look P σ 0 x)=true/\gOf (look P σ T y)=true/\(unc (look P σ T y)).flat=true)
  (h2:QD σ (unc (look P σ T y)).cells=some ds) (h3:XO σ (unc (look P σ T y)).cells) (h4:YF (unc (look P σ T y)).cells=L) (h5:L.Nodup/\(t,j)∉L/\(σ.ZV L).Je (At.isT t)=false) (h6:ds.length=P.cellsOf T/\c+P.cellsOf T<=size)
  (h:@EI P ((σ.ZV L).ZT t j (.arr true size (rows.set i (place (rowAt rows i) c ds)))) A l k):@SI P σ A o l k:=Ls wA hg hd wu hx ho hi h1 h2 h3 h4 h5 h6 h
attribute [simp] I2 HT M0 Im Lk IM Ir Iz Hp Hr H0 Nd M6 Hu OP NR Hh NK PS HU Ic
open Go.RowKit
def Cells(w:World):CS:=fun b _=>b<w.heap.size
def Reads(w:World)(v:Value)(row:List D):Prop:=∃cs,Qq v cs/\ZU (Rd (Cells w) w) cs row
theorem SM{own:Bool}(h:Y0 P f own rows [[.bool true]])(hv:ZU (Reads w) wm rows):
  Calls P f wm.toArray w fun e w'=>e= .returned (.bool true)/\Below w.heap.size w w':=by
 refine(h.2 (Cells w) w wm (fun _ _ hb=>hb) hv).mono ?_;rintro e w' ⟨vs,wc,Y,rfl,hb,_,hf,hr,_⟩;refine⟨?_,hb⟩;cases hr with
 |cons h1 hr=>
  cases hr;cases hf with
  |cons h2 hf=>
   cases hf;cases h1 with
   |cons h3 h1=>
    cases h1;have h4:∀v,J5 own (Tof (Cells w) Y) w' v (.bool true)->Rd (Tof (Cells w) Y) w' v (.bool true):=by
     intro v hv;unfold J5 at hv;split at hv
     ·exact hv
     ·exact hv
    have h4:=h4 _ h3;cases h4;rcases h2 with⟨v,uM,hJ,_⟩|⟨hl,_⟩
    ·cases uM;rw[hJ];rfl
    ·simp at hl
open Go.RowKit
variable{sp:Nat->Bool}{held:Bool}{ps:List MemPlace}{fs:Array Field}
def qN(P:Program):Nat->TypeId->Bool
 |0,_=>false
 |n+1,t=>
  match P.underlying t with
  |some .bool=>true
  |some (.int _)=>true
  |some .string=>true
  |some (.slice e)=>qN P n e
  |some (.struct fs)=>fs.toList.all (fun f=>qN P n f.type)&&P.cellsOf t !=1
  |_=>false
def TyR(P:Program):Nat->TypeId->List D->Prop
 |0,_,_=>False
 |n+1,t,row=>
  match P.underlying t with
  |some .bool=>∃b,row=[.bool b]
  |some (.int k)=>∃m,row=[.int k m]/\k.min<=m/\m<=k.max
  |some .string=>∃s,row=[.str s]/\s.size<=maxLen
  |some (.slice e)=>∃rows,row=[.sl (P.cellsOf e) rows]/\rows.length<=maxLen/\∀r∈rows,TyR P n e r/\r.length=P.cellsOf e
  |some (.struct fs)=>row.length=P.cellsOf t/\∀f∈fs.toList,TyR P n f.type (cut row f.offset (P.cellsOf f.type))
  |_=>False
def jR(P:Program):Nat->List Field->Nat->Bool
 |k,[],n=>k==n
 |k,f::fs,n=>f.offset==k&&jR P (k+P.cellsOf f.type) fs n
def Sn(P:Program):Nat->TypeId->Bool
 |0,_=>false
 |n+1,t=>
  match P.underlying t with
  |some .bool=>P.cellsOf t==1
  |some (.int _)=>P.cellsOf t==1
  |some .string=>P.cellsOf t==1
  |some (.slice e)=>P.cellsOf t==1&&Sn P n e
  |some (.struct fs)=>fs.toList.all (fun f=>Sn P n f.type)&&jR P 0 fs.toList (P.cellsOf t)
  |_=>false
theorem Wb{α β:Type}{f:α->Option β}:∀{l:List α}{m:List β},l.mapM f=some m->l.length=m.length/\∀(i:Nat) a,l[i]?=some a->∃b,m[i]?=some b/\f a=some b
 |[],m,h=>by simp at h;subst h;exact⟨rfl,fun i a ha=>by simp at ha⟩
 |x::l,m,h=>by
  simp only[List.mapM_cons,Option.bind_eq_bind,Option.bind_eq_some_iff]at h;obtain⟨b,hb,bs,mm,h⟩:=h;simp at h;subst h;obtain⟨h1,h2⟩:=Wb mm;refine⟨by simp[h1],fun i a ha=>?_⟩;cases i with
  |zero=>simp at ha;subst ha;exact⟨b,fM,hb⟩
  |succ i=>simpa using h2 i a (by simpa using ha)
theorem MP(h:w.cells? 0 a n=some cs):cs.length=n/\∀i v,cs[i]?=some v->w.cell? (a.add i)=some v:=by
 unfold World.cells? at h;simp at h;obtain⟨h1,h2⟩:=Wb h;simp at h1;refine⟨h1.symm,fun i v hv=>?_⟩;have hi:i<n:=by have:=(List.getElem?_eq_some_iff.1 hv).1;omega
 obtain⟨b,hb,hf⟩:=h2 i i (by simp[hi]);rw[hv]at hb;cases hb;exact hf
theorem qa{w:World}{P:Program}{q n:Nat}{cs:List Value}(hl:cs.length=n):∀{fs:List Field}{k:Nat},jR P k fs n=true->k<=n->
  (∀f∈fs,∃row,ZU (Rd (Cells w) w) (cut cs f.offset (P.cellsOf f.type)) row/\TyR P q f.type row)->
  ∃tail,ZU (Rd (Cells w) w) (cs.drop k) tail/\∀(pre:List D),pre.length=k->∀f∈fs,TyR P q f.type (cut (pre++tail) f.offset (P.cellsOf f.type))
 |[],k,hc,hk,_=>by simp only[jR,beq_iff_eq]at hc;subst hc;exact⟨[],by rw[List.drop_eq_nil_of_le fJ];exact .nil,fun _ _ f hf=>by cases hf⟩
 |f::fs,k,hc,hk,h=>by
  simp only[jR,Bool.and_eq_true,beq_iff_eq]at hc;obtain⟨row,wE,uA⟩:=h f fM;rw[hc.1]at wE;have hO:k+P.cellsOf f.type<=n:=by
   clear h wE uA;have:∀(fs:List Field)(k:Nat),jR P k fs n=true->k<=n:=by
    intro fs;induction fs with
    |nil=>intro k hh;simp[jR]at hh;omega
    |cons g gs ih=>intro k hh;simp only[jR,Bool.and_eq_true,beq_iff_eq]at hh;have:=ih _ hh.2;omega
   exact this _ _ hc.2
  have tG:row.length=P.cellsOf f.type:=by rw[<-wE.length];simp[cut];omega
  obtain⟨tail,mn,rA⟩:=qa hl hc.2 hO (fun g hg=>h g (by simp[hg]));refine⟨row++tail,?_,?_⟩
  ·have:cs.drop k=cut cs k (P.cellsOf f.type)++cs.drop (k+P.cellsOf f.type):=by unfold cut;rw[<-List.drop_drop];exact(List.take_append_drop _ _).symm
   rw[this];exact wE.append mn
  ·intro pre tA g hg;rcases List.mem_cons.1 hg with rfl|hg
   ·have:cut (pre++(row++tail)) g.offset (P.cellsOf g.type)=row:=by unfold cut;rw[hc.1,<-tA,List.drop_left,<-tG,List.take_left]
    rw[this];exact uA
   ·have:=rA (pre++row) (by rw[List.length_append,tA,tG]) g hg;rw[<-List.append_assoc];exact this
section
variable{H:Type}{enc:TypeId×Value->H}{t:TypeId}{d:DataW H}
theorem trod_bool(hu:P.underlying t=some .bool)(h:DataW.trod enc P w 0 sp held fuel t cs=some (d,ps)):∃b,cs=[.bool b]:=by
 cases fuel with
 |zero=>simp[DataW.trod]at h
 |succ fuel=>unfold DataW.trod at h;rw[hu]at h;split at h<;>simp_all
theorem trod_int{k:IntKind}(hu:P.underlying t=some (.int k))(h:DataW.trod enc P w 0 sp held fuel t cs=some (d,ps)):∃m,cs=[.int k m]/\k.min<=m/\m<=k.max:=by
 cases fuel with
 |zero=>simp[DataW.trod]at h
 |succ fuel=>unfold DataW.trod at h;rw[hu]at h;split at h<;>simp_all[Lit.wf]
theorem IB(hu:P.underlying t=some .string)(h:DataW.trod enc P w 0 sp held fuel t cs=some (d,ps)):∃s,cs=[.string s]/\s.size<=maxLen:=by
 cases fuel with
 |zero=>simp[DataW.trod]at h
 |succ fuel=>unfold DataW.trod at h;rw[hu]at h;split at h<;>simp_all
theorem trod_slice{e:TypeId}(hu:P.underlying t=some (.slice e))(h:DataW.trod enc P w 0 sp held fuel t cs=some (d,ps)):
  cs=[.slice none 0 0]\/∃a len cap,cs=[.slice (some a) len cap]/\len<=cap/\cap<=maxLen/\
   ∀i,i<len->∃xs f x,w.cells? 0 (a.add (i*P.cellsOf e)) (P.cellsOf e)=some xs/\DataW.trod enc P w 0 sp held f e xs=some x:=by
 cases fuel with
 |zero=>simp[DataW.trod]at h
 |succ fuel=>
  unfold DataW.trod at h;rw[hu]at h;split at h<;>first|(simp_all;done)|skip
  rename_i e' a len cap heq;cases heq;refine .inr ⟨a,len,cap,rfl,?_⟩;simp only at h;split at h
  ·rename_i hc;refine⟨hc.2.1,hc.2.2,fun i hi=>?_⟩;simp only[Option.bind_eq_some_iff]at h;obtain⟨elems,hD,_⟩:=h;obtain⟨hl,hg⟩:=Wb hD;obtain⟨x,_,hx⟩:=hg i i (by simp[hi]);obtain⟨xs,h1,h2⟩:=Option.bind_eq_some_iff.1 hx;exact⟨xs,fuel,x,h1,h2⟩
  ·cases h
theorem trod_struct(hu:P.underlying t=some (.struct fs))(h:DataW.trod enc P w 0 sp held fuel t cs=some (d,ps)):
  cs.length=P.cellsOf t/\∀f∈fs.toList,∃q x,DataW.trod enc P w 0 sp held q f.type (cut cs f.offset (P.cellsOf f.type))=some x:=by
 cases fuel with
 |zero=>simp[DataW.trod]at h
 |succ fuel=>
  unfold DataW.trod at h;rw[hu]at h;split at h<;>first|(simp_all;done)|skip
  rename_i gz heq;cases heq;split at h
  ·rename_i hc;refine⟨hc,fun f hf=>?_⟩;simp only[Option.map_eq_some_iff]at h;obtain⟨xs,hx,_⟩:=h;obtain⟨_,hg⟩:=Wb hx;obtain⟨i,hi⟩:=List.mem_iff_getElem?.1 hf;obtain⟨x,_,hx⟩:=hg i f hi;exact⟨fuel,x,hx⟩
  ·cases h
end
theorem It(h:w.cell? a=some v):a.block<w.heap.size:=by
 unfold World.cell? at h;cases hh:w.heap[a.block]? with
 |none=>simp[hh]at h
 |some o=>exact(Array.getElem?_eq_some_iff.1 hh).1
theorem Ml(a:Addr)(m k:Nat)(h:m<=k):a.add k=(a.add m).add (k-m):=by
 simp only[Addr.add];by_cases h0:m=0
 ·subst h0;simp
 ·by_cases h1:k-m=0
  ·have:k=m:=fJ;subst this;simp[h0]
  ·have:k≠0:=fJ;simp only[h0,h1,this,if_false];congr 1;omega
theorem Na{e:TypeId}{len cap:Nat}(hC:len<=cap)(pL:cap<=maxLen)
  (h:∀i,i<len->∃xs row,w.cells? 0 (a.add (i*size)) size=some xs/\ZU (Rd (Cells w) w) xs row/\TyR P n e row):
  ∃rows:List (List D),Rd (Cells w) w (.slice (some a) len cap) (.sl size rows)/\rows.length<=maxLen/\∀r∈rows,TyR P n e r/\r.length=size:=by
 have key:∀m,m<=len->∃rows:List (List D),rows.length=m/\(∀r∈rows,TyR P n e r/\r.length=size)/\
   ∀k d,rows.flatten[k]?=some d->∃v,w.cell? (a.add k)=some v/\Rd (Cells w) w v d:=by
  intro m;induction m with
  |zero=>intro _;exact⟨[],rfl,(by intro r hr;cases hr),(by intro k d hk;simp at hk)⟩
  |succ m ih=>
   intro hm;obtain⟨rows,hl,ht,hk⟩:=ih fJ;obtain⟨xs,row,hx,wE,uA⟩:=h m fJ;obtain⟨rC,hE⟩:=MP hx;have tG:row.length=size:=by rw[<-wE.length,rC]
   have vV:rows.flatten.length=m*size:=by rw[Zg rows size (fun r hr=>(ht r hr).2),hl]
   refine⟨rows++[row],by simp[hl],fun r hr=>?_,fun k d hd=>?_⟩
   ·rcases List.mem_append.1 hr with hr|hr
    ·exact ht r hr
    ·simp at hr;subst hr;exact⟨uA,tG⟩
   ·rw[List.flatten_append,List.flatten_singleton]at hd;rcases Nat.lt_or_ge k rows.flatten.length with wO|ur
    ·rw[List.getElem?_append_left wO]at hd;exact hk k d hd
    ·rw[List.getElem?_append_right ur]at hd;obtain⟨v,hv,hr⟩:=wE.get' _ d hd;refine⟨v,?_,hr⟩;have:=hE _ v hv
     rw[show a.add k=(a.add (m*size)).add (k-rows.flatten.length)by rw[vV];rw[vV]at ur;exact Ml a (m*size) k ur];exact this
 obtain⟨rows,hl,ht,hk⟩:=key len (Nat.le_refl _);refine⟨rows,?_,fJ,ht⟩;have pM:rows.flatten≠[]->a.spot=none:=by
  intro wC;obtain⟨d,tl,nL⟩:=List.exists_cons_of_ne_nil wC;obtain⟨v,hv,_⟩:=hk 0 d (by rw[nL];rfl);have:=World.cell?_spot hv
  simpa[Addr.add]using this
 refine .sl a len cap size rows (fun k=>(w.cell? (a.add k)).getD undef) hl hC pL (fun r hr=>(ht r hr).2) pM (fun k d hd=>?_) (fun k d hd=>?_)
 ·obtain⟨v,hv,_⟩:=hk k d hd;have sN:a.spot=none:=pM (by intro hh;rw[hh]at hd;simp at hd)
  have he:a.add k=⟨a.block,a.off+k,none⟩:=by
   obtain⟨b,o,sp⟩:=a;simp only at sN;subst sN;simp only[Addr.add];split
   ·rename_i h0;subst h0;rfl
   ·rfl
  rw[he]at hv⊢;rw[hv];exact⟨rfl,It (a:=⟨a.block,a.off+k,none⟩) hv⟩
 ·obtain⟨v,hv,hr⟩:=hk k d hd;simp only[hv,Option.getD_some];exact hr
theorem kU{H:Type}{enc:TypeId×Value->H}{P:Program}{w:World}{sp:Nat->Bool}{held:Bool}:∀(n:Nat){fuel:Nat}{t:TypeId}{cs:List Value}{d:DataW H}{ps:List MemPlace},qN P n t=true->Sn P n t=true->
  DataW.trod enc P w 0 sp held fuel t cs=some (d,ps)->∃row,ZU (Rd (Cells w) w) cs row/\TyR P n t row
 |0,_,_,_,_,_,h,_,_=>by simp[qN]at h
 |n+1,fuel,t,cs,d,ps,hp,hl,h=>by
  simp only[qN]at hp;simp only[Sn]at hl;simp only[TyR];cases hu:P.underlying t with
  |none=>simp[hu]at hp
  |some td=>
   cases td with
   |bool=>obtain⟨b,rfl⟩:=trod_bool hu h;exact⟨_,.cons (.bool b) .nil,b,rfl⟩
   |int k=>obtain⟨m,rfl,h1,h2⟩:=trod_int hu h;exact⟨_,.cons (.int k m) .nil,m,rfl,h1,h2⟩
   |string=>obtain⟨s,rfl,h1⟩:=IB hu h;exact⟨_,.cons (.str s) .nil,s,rfl,h1⟩
   |slice e=>
    simp only[hu]at hp hl;simp only[Bool.and_eq_true]at hl;rcases trod_slice hu h with rfl|⟨a,len,cap,rfl,h1,h2,h3⟩
    ·exact⟨_,.cons (.nil (P.cellsOf e)) .nil,[],rfl,fM,fM⟩
    ·obtain⟨rows,hr,tG,hG⟩:=Na (P:=P) (n:=n) (size:=P.cellsOf e) (e:=e) h1 h2 (fun i hi=>by
      obtain⟨xs,f,x,hx,ht⟩:=h3 i hi;obtain⟨row,wE,uA⟩:=kU n hp hl.2 (d:=x.1) (ps:=x.2) ht;exact⟨xs,row,hx,wE,uA⟩)
     exact⟨_,.cons hr .nil,rows,rfl,tG,hG⟩
   |struct fs=>
    simp only[hu]at hp hl;simp only[Bool.and_eq_true]at hp hl;obtain⟨h1,h2⟩:=trod_struct hu h;obtain⟨row,wE,rA⟩:=qa (w:=w) (P:=P) (q:=n) h1 hl.2 (Nat.zero_le _) (fun f hf=>by
     obtain⟨q,x,hx⟩:=h2 f hf;exact kU n (List.all_eq_true.1 hp.1 f hf) (List.all_eq_true.1 hl.1 f hf) (d:=x.1) (ps:=x.2) hx)
    refine⟨row,by simpa using wE,?_,fun f hf=>by simpa using rA [] rfl f hf⟩;have:=wE.length
    simp at this;omega
   |_=>simp[hu]at hp
open Go.RowKit Go.WideShapes Go.ChangeAt Go.ChangeShapes
theorem SV{H:Type}{enc:TypeId×Value->H}{t:TypeId}{d:DataW H}
  (hp:qN P n t=true) (hl:Sn P n t=true) (wT:Value.okWide P w r base t v) (h:DataW.Trod enc P w 0 sp held t v d ps):∃row,Reads w v row/\TyR P n t row:=by
 obtain⟨fuel,hf⟩:=h;obtain⟨row,wE,uA⟩:=kU n hp hl hf;refine⟨row,⟨v.cells.toList,?_,wE⟩,uA⟩;cases n with
 |zero=>simp[qN]at hp
 |succ n=>
  simp only[qN]at hp;cases hu:P.underlying t with
  |none=>simp[hu]at hp
  |some td=>
   cases td with
   |bool=>obtain⟨b,rfl⟩:=okWide_bool hu wT;exact .inl ⟨_,rfl,rfl,rfl⟩
   |int k=>obtain⟨b,rfl⟩:=okWide_int hu wT;exact .inl ⟨_,rfl,rfl,rfl⟩
   |string=>obtain⟨b,rfl⟩:=okWide_string hu wT;exact .inl ⟨_,rfl,rfl,rfl⟩
   |slice e=>obtain⟨a,l,c,rfl⟩:=okWide_slice hu wT;exact .inl ⟨_,rfl,rfl,rfl⟩
   |struct fs=>obtain⟨cs,rfl,vK⟩:=okWide_struct hu wT;simp[hu]at hp;exact .inr ⟨by simp[Value.cells,vK,hp.2],by simp[Value.cells]⟩
   |_=>simp[hu]at hp
def Sc(P:Program)(n:Nat):List TypeId->List (List D)->Prop
 |[],[]=>True
 |t::ts,r::rs=>TyR P n t r/\Sc P n ts rs
 |_,_=>False
def yn(P:Program)(n:Nat)(ts:List TypeId):Bool:=ts.all fun t=>qN P n t&&Sn P n t&&P.readableRec t&&decide (t<P.types.size)
theorem Sl{H:Type}{enc:TypeId×Value->H}{P:Program}{w:World}{sp:Nat->Bool}{held:Bool}{n base:Nat}{r:Reach}:∀{ts:List TypeId}{vs:List Value}{ds:List (DataW H)}{ps:List MemPlace},yn P n ts=true->
  (∀(j:Nat) t v,ts[j]?=some t->vs[j]?=some v->Value.okWide P w r base t v)->DataW.TrodAll enc P w 0 sp held ts vs ds ps->∃rows,ZU (Reads w) vs rows/\Sc P n ts rows
 |[],[],[],_,_,_,_=>⟨[],.nil,trivial⟩
 |t::ts,v::vs,d::ds,_,hp,wT,h=>by obtain⟨p,q,h1,h2,_⟩:=h;simp only[yn,List.all_cons,Bool.and_eq_true]at hp;obtain⟨row,hr,ht⟩:=SV hp.1.1.1.1 hp.1.1.1.2 (wT 0 t v rfl rfl) h1;obtain⟨rows,uO,hH⟩:=Sl (by simpa[yn]using hp.2) (fun j t v ht hv=>wT (j+1) t v ht hv) h2;exact⟨row::rows,.cons hr uO,ht,hH⟩
 |[],[],_::_,_,_,_,h=>h.elim
 |[],_::_,_,_,_,_,h=>eF
 |_::_,[],_,_,_,_,h=>eF
 |_::_,_::_,[],_,_,_,h=>h.elim
theorem kM{H:Type}{enc:TypeId×Value->H}{P:Program}{n:Nat}(ud:laidOutB P=true){W W':World}(hb:Below W.heap.size W W'):∀{ts:List TypeId}{vs:List Value}{ds:List (DataW H)}{ps:List MemPlace},yn P n ts=true->
  DataW.TrodAll enc P W 0 (fun _=>true) true ts vs ds ps->DataW.TrodAll enc P W' 0 (fun b=>decide (b<W.heap.size)) true ts vs ds ps
 |[],[],[],_,_,h=>h
 |t::ts,v::vs,d::ds,_,hp,h=>by
  obtain⟨p,q,h1,h2,rfl⟩:=h;simp only[yn,List.all_cons,Bool.and_eq_true,decide_eq_true_eq]at hp;have hP:∀x∈p,x.block<W.heap.size:=by obtain⟨m,hm⟩:=h1;exact DataW.trod_lt m _ _ _ hm
  exact⟨p,q,Below.trod ud hp.1.1.2 hp.1.2 h1 hb hP,kM ud hb (by simpa[yn]using hp.2) h2,rfl⟩
 |[],[],_::_,_,_,h=>h.elim
 |[],_::_,_,_,_,h=>eF
 |_::_,[],_,_,_,h=>eF
 |_::_,_::_,[],_,_,h=>h.elim
end Go.Vm
