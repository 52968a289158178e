/- An abstract machine M1 the model of Go, by value, and that it is sound: part Vc. No condition. -/
import Derived.Test.YthecodaabaaaoaaGreatVf
import Derived.ProofKit
import Derived.OpenShut
import Derived.Below
import Derived.ChangeOld
import Derived.DataReads
import Derived.Carry
set_option linter.unusedVariables false
set_option linter.unusedSimpArgs false
namespace Go.Vm
open Go.RowKit
variable{rows res news args ng:List (List D)}{w:World}{f:FuncId}{σ σ':St}{d id n size j base t len fuel off dj i q:Nat}{L F l1 l2:List (Nat×Nat)}{x y:Operand}{ds:List D}{held want g:Bool}{c:Call}{cs mY:List Value}{a:Addr}{fn:Func}{v:Value}{r:Reach}{S:Nat->Prop}{s:ByteArray}{e:Exit}{T:CS}
abbrev Ren:=List ((Nat×Nat)×Option (Nat×Nat))
variable{ρ all:Ren}
def y7:Ren->Nat->Nat->Option (Nat×Nat)
 |[],t,j=>some (t,j)
 |(n,o)::ρ,t,j=>if t=n.1/\j=n.2 then o else y7 ρ t j
def inF:List (Nat×Nat)->Nat->Nat->Bool
 |[],_,_=>false
 |n::F,t,j=>(t==n.1&&j==n.2)||inF F t j
def CM(σ:St)(ρ:Ren)(F:List (Nat×Nat)):At->At->Prop
 |_,.any=>True
 |.d x,.d y=>x=y
 |.nil _,.nil _=>True
 |.nil s,.d y=>y= .sl s []
 |.nil _,.sref t j lo len=>y7 ρ t j=none/\lo=0/\len=0
 |.sref t j lo len,.sref t' j' fp gU=>y7 ρ t' j'=some (t,j)/\lo=fp/\len=gU
 |.sref t j lo len,.d y=>inF F t j=true/\(match σ.ob t j with|.arr _ s rows=>y= .sl s (cut rows lo len)|_=>False)
 |.tref t j i c o,.tref t' j' i' c' o'=>y7 ρ t' j'=some (t,j)/\i=i'/\c=c'/\o=o'/\(match σ.ob t j with|.arr true _ _=>True|_=>False)
 |.ptr t j i c,.ptr t' j' i' c'=>y7 ρ t' j'=some (t,j)/\i=i'/\c=c'
 |.bptr t c,.bptr t' c'=>y7 ρ t' 0=some (t,0)/\c=c'
 |.fn f t,.fn f' t'=>y7 ρ t' 0=some (t,0)/\f=f'
 |.rptr r c,.rptr r' c'=>r=r'/\c=c'
 |_,_=>False
def LU(σ:St)(ρ:Ren)(F:List (Nat×Nat)):List At->List At->Prop
 |[],[]=>True
 |x::xs,y::ys=>CM σ ρ F x y/\LU σ ρ F xs ys
 |_,_=>False
def wkV(σ:St)(ρ:Ren)(F:List (Nat×Nat)):V->V->Prop
 |_,.any=>True
 |.one x,.one y=>CM σ ρ F x y
 |.agg xs,.agg ys=>LU σ ρ F xs ys
 |.fix u (.one x),.fix u' (.one y)=>u=u'/\CM σ ρ F x y
 |.fix u (.agg xs),.fix u' (.agg ys)=>u=u'/\LU σ ρ F xs ys
 |.fix _ (.one x),.one y=>CM σ ρ F x y
 |.fix _ (.agg xs),.agg ys=>LU σ ρ F xs ys
 |_,_=>False
def Dt(σ:St)(ρ:Ren)(F:List (Nat×Nat))(t' j':Nat):Ob->Prop
 |.none=>True
 |.arr q size rows=>(match y7 ρ t' j' with
  |none=>rows=[]
  |some (t,j)=>inF F t j=false/\(match σ.ob t j with|.arr p s r=>(p=q\/p=false/\∀x∈rows,∀y∈x,y.scalar=true)/\s=size/\r=rows|_=>False))
 |.lit _ _=>False
 |.box cells=>(match y7 ρ t' j' with
  |none=>False
  |some (t,j)=>inF F t j=false/\(match σ.ob t j with|.box cs=>LU σ ρ F cs cells|_=>False))
def wP(σ:St)(ρ:Ren)(F:List (Nat×Nat))(t:Nat):List Ob->Nat->Prop
 |[],_=>True
 |o::os,j=>Dt σ ρ F t j o/\wP σ ρ F t os (j+1)
def RV(σ:St)(ρ:Ren)(F:List (Nat×Nat)):List Ent->List Ent->Nat->Prop
 |[],[],_=>True
 |e::es,e'::dk,t=>(wkV σ ρ F e.1 e'.1/\wP σ ρ F t e'.2 0)/\RV σ ρ F es dk (t+1)
 |_,_,_=>False
def zI:Ren->Nat->Nat->Bool
 |[],_,_=>false
 |(n,_)::ρ,t,j=>(t==n.1&&j==n.2)||zI ρ t j
def Wg:Ren->Nat->Nat->Bool
 |[],_,_=>false
 |(_,some o)::ρ,t,j=>(t==o.1&&j==o.2)||Wg ρ t j
 |(_,none)::ρ,t,j=>Wg ρ t j
def Ag(σ':St)(t j:Nat):Bool:=match σ'.ob t j with|.none=>true|_=>false
def UJ(σ':St)(all:Ren):Ren->Bool
 |[]=>true
 |(_,some o)::ρ=>!Wg ρ o.1 o.2&&(zI all o.1 o.2||Ag σ' o.1 o.2)&&UJ σ' all ρ
 |(_,none)::ρ=>UJ σ' all ρ
theorem W4:∀{ρ:Ren}{t j:Nat},zI ρ t j=false->y7 ρ t j=some (t,j)
 |[],_,_,_=>rfl
 |(n,o)::ρ,t,j,h=>by simp only[zI,Bool.or_eq_false_iff,Bool.and_eq_false_iff,beq_eq_false_iff_ne]at h;simp only[y7];rw[if_neg (by rintro⟨h1,h2⟩;rcases h.1 with h3|h3<;>contradiction)];exact W4 h.2
theorem Tj:∀{ρ:Ren}{t j:Nat}{o:Nat×Nat},zI ρ t j=true->y7 ρ t j=some o->Wg ρ o.1 o.2=true
 |[],_,_,_,h,_=>by simp[zI]at h
 |(n,o')::ρ,t,j,o,h,ho=>by
  simp only[y7]at ho;split at ho
  ·subst ho;simp[Wg]
  ·rename_i nf;have h':zI ρ t j=true:=by
    simp only[zI,Bool.or_eq_true,Bool.and_eq_true,beq_iff_eq]at h;rcases h with h|h
    ·exact absurd h nf
    ·exact h
   have:=Tj h' ho;cases o' with
   |none=>simpa[Wg]using this
   |some o'=>simp[Wg,this]
theorem Er{σ':St}{all:Ren}:∀{ρ:Ren}{t j t' j':Nat}{o:Nat×Nat},UJ σ' all ρ=true->zI ρ t j=true->zI ρ t' j'=true->y7 ρ t j=some o->y7 ρ t' j'=some o->(t,j)=(t',j')
 |[],_,_,_,_,_,_,h,_,_,_=>by simp[zI]at h
 |(n,o')::ρ,t,j,t',j',o,mH,hn,mc,ho,mG=>by
  have hokr:UJ σ' all ρ=true:=by
   cases o' with
   |none=>simpa[UJ]using mH
   |some o'=>simp only[UJ,Bool.and_eq_true]at mH;exact mH.2
  simp only[y7]at ho mG;by_cases h1:t=n.1/\j=n.2
  ·rw[if_pos h1]at ho;by_cases h2:t'=n.1/\j'=n.2
   ·rw[h1.1,h1.2,h2.1,h2.2]
   ·rw[if_neg h2]at mG;have h':zI ρ t' j'=true:=by simp only[zI,Bool.or_eq_true,Bool.and_eq_true,beq_iff_eq]at mc;exact mc.resolve_left h2
    have hold:=Tj h' mG;subst ho;simp only[UJ,Bool.and_eq_true,Bool.not_eq_true']at mH;rw[hold]at mH;cases mH.1.1
  ·rw[if_neg h1]at ho;have h:zI ρ t j=true:=by simp only[zI,Bool.or_eq_true,Bool.and_eq_true,beq_iff_eq]at hn;exact hn.resolve_left h1
   by_cases h2:t'=n.1/\j'=n.2
   ·rw[if_pos h2]at mG;have hold:=Tj h ho
    subst mG;simp only[UJ,Bool.and_eq_true,Bool.not_eq_true']at mH;rw[hold]at mH;cases mH.1.1
   ·rw[if_neg h2]at mG;have h':zI ρ t' j'=true:=by simp only[zI,Bool.or_eq_true,Bool.and_eq_true,beq_iff_eq]at mc;exact mc.resolve_left h2
    exact Er hokr h h' ho mG
theorem Sh{σ':St}{all:Ren}:∀{ρ:Ren}{t j:Nat},UJ σ' all ρ=true->Wg ρ t j=true->zI all t j=true\/σ'.ob t j= .none
 |[],_,_,_,h=>by simp[Wg]at h
 |(n,o')::ρ,t,j,mH,h=>by
  cases o' with
  |none=>exact Sh (ρ:=ρ) (by simpa[UJ]using mH) (by simpa[Wg]using h)
  |some o=>
   simp only[UJ,Bool.and_eq_true,Bool.or_eq_true]at mH;simp only[Wg,Bool.or_eq_true,Bool.and_eq_true,beq_iff_eq]at h;rcases h with⟨rfl,rfl⟩|h
   ·refine mH.1.2.imp id fun hf=>?_;unfold Ag at hf;split at hf<;>first|assumption|cases hf
   ·exact Sh mH.2 h
theorem sa(mH:UJ σ' ρ ρ=true){t' j':Nat}{o:Nat×Nat}(h1:σ'.ob t j≠ .none)(h2:σ'.ob t' j'≠ .none)(ho:y7 ρ t j=some o)(mG:y7 ρ t' j'=some o):t=t'/\j=j':=by
 cases hn:zI ρ t j with
 |true=>
  cases mc:zI ρ t' j' with
  |true=>have:=Er mH hn mc ho mG;cases this;exact⟨rfl,rfl⟩
  |false=>
   have eE:=W4 mc;rw[eE]at mG;cases mG;have hold:=Tj hn ho;rcases Sh mH hold with h|h
   ·rw[mc]at h;cases h
   ·exact absurd h h2
 |false=>
  have eE:=W4 hn;rw[eE]at ho;cases ho;cases mc:zI ρ t' j' with
  |true=>
   have hold:=Tj mc mG;rcases Sh mH hold with h|h
   ·rw[hn]at h;cases h
   ·exact absurd h h1
  |false=>have hid':=W4 mc;rw[hid']at mG;cases mG;exact⟨rfl,rfl⟩
theorem Pq{σ:St}{ρ:Ren}{F:List (Nat×Nat)}:∀{es dk:List Ent}{t:Nat},RV σ ρ F es dk t->es.length=dk.length
 |[],[],_,_=>rfl
 |_::_,_::_,_,h=>by simp[Pq h.2]
 |[],_::_,_,h=>h.elim
 |_::_,[],_,h=>h.elim
theorem H6{σ:St}{ρ:Ren}{F:List (Nat×Nat)}:∀{es dk:List Ent}{t:Nat},RV σ ρ F es dk t->∀(i:Nat),wkV σ ρ F (St.get es i) (St.get dk i)/\∀j,Dt σ ρ F (t+i) j (St.ob dk i j)
 |[],[],t,_,i=>⟨by simp[St.get,wkV],fun j=>by simp[St.ob,Dt]⟩
 |e::es,e'::dk,t,h,0=>by
  refine⟨h.1.1,fun j=>?_⟩;have:∀(os:List Ob)(k:Nat),wP σ ρ F t os k->∀j,Dt σ ρ F t (k+j) (Yp os j):=by
   intro os;induction os with
   |nil=>intro k _ j;simp[Yp,Dt]
   |cons o os ih=>
    intro k hk j;cases j with
    |zero=>exact hk.1
    |succ j=>have:=ih (k+1) hk.2 j;rw[show k+(j+1)=k+1+j by omega];simpa[Yp]using this
  have:=this e'.2 0 h.1.2 j;simpa using this
 |e::es,e'::dk,t,h,i+1=>by have:=H6 h.2 i;rw[show t+(i+1)=t+1+i by omega];simpa[St.get,St.ob]using this
 |[],_::_,_,h,_=>h.elim
 |_::_,[],_,h,_=>h.elim
theorem vy{xs:List Value}(ni:YF (Rd T w) xs ds)(hf:∀d∈ds,d.scalar=true):KJ w xs ds S:=
 ⟨ni.length,fun _ _=>False,fun k x d hx hd=>by
  obtain⟨d',nu,hr⟩:=ni.get k x hx;rw[hd]at nu;cases nu;exact Rd.own (hf d (List.mem_of_getElem? hd)) hr,fun _ _ hb=>hb.elim,fun _ _ _ hb=>hb.elim⟩
theorem XN(ρ:Ren)(F:List (Nat×Nat))(mH:UJ σ' ρ ρ=true)(hs:RV σ ρ F σ σ' 0):Wk σ σ':=by
 rintro T0 B a w ⟨X,h,r⟩;let h':Nat->Nat->Hd:=fun t j=>match y7 ρ t j with|some o=>h o.1 o.2|none=>Hd.of (.slice none 0 0)
 let X':Nat->Prop:=fun b=>X b\/∃t j,inF F t j=true/\σ.ob t j≠ .none/\(h t j).u b
 have hlen:=Pq hs;have lB:=H6 hs;have n9:∀t j,Dt σ ρ F t j (σ'.ob t j):=fun t j=>by have:=(lB t).2 j;simpa using this
 have eg:∀b k v,Tof T0 X b k->w.cell? ⟨b,k,none⟩=some v->w.cell? ⟨b,k,none⟩=some v/\Tof T0 X' b k:=fun b k v hb hc=>⟨hc,hb.imp id .inl⟩;have fG:∀t' j' q size rows,σ'.ob t' j'= .arr q size rows->(y7 ρ t' j'=none/\rows=[])\/∃t j p,y7 ρ t' j'=some (t,j)/\inF F t j=false/\σ.ob t j= .arr p size rows/\(p=q\/p=false/\∀x∈rows,∀y∈x,y.scalar=true):=by
  intro t' j' q size rows ho;have:=n9 t' j'
  rw[ho]at this;simp only[Dt]at this;split at this
  ·rename_i hn;exact .inl ⟨hn,this⟩
  ·rename_i t j hn;obtain⟨hF,this⟩:=this;split at this
   ·rename_i p s r mr;obtain⟨hp,rfl,rfl⟩:=this;exact .inr ⟨t,j,p,hn,hF,mr,hp⟩
   ·exact this.elim
 have fx:∀t' j' size rows,σ'.ob t' j'≠ .lit size rows:=by
  intro t' j' size rows ho;have:=n9 t' j'
  rw[ho]at this;exact this
 have fy:∀t' j' cells,σ'.ob t' j'= .box cells->∃t j cs,y7 ρ t' j'=some (t,j)/\inF F t j=false/\σ.ob t j= .box cs/\LU σ ρ F cs cells:=by
  intro t' j' cells ho;have:=n9 t' j'
  rw[ho]at this;simp only[Dt]at this;split at this
  ·exact this.elim
  ·rename_i t j hn;obtain⟨hF,this⟩:=this;split at this
   ·rename_i cs mr;exact⟨t,j,cs,hn,hF,mr,this⟩
   ·exact this.elim
 have at_:∀{x y:At}{v:Value},CM σ ρ F x y->YL (Tof T0 X) h σ.ob w x v->YL (Tof T0 X') h' σ'.ob w y v:=by
  intro x y v hw hr;have h1:=YL.QM hr
  cases y with
  |any=>exact h1
  |d y=>
   cases x with
   |d x=>simp only[CM]at hw;subst hw;exact Rd.mono eg hr
   |nil s=>simp only[CM]at hw;subst hw;cases hr;exact .nil _
   |sref t j lo len=>
    simp only[CM]at hw;obtain⟨hF,hw⟩:=hw;split at hw
    ·rename_i q s rows ho;subst hw;exact r.wD ho hr _ (fun b k hb=>hb.imp id .inl) (fun b k hb=>.inr (.inr ⟨t,j,hF,by rw[ho];simp,hb⟩))
    ·exact hw.elim
   |_=>exact hw.elim
  |nil s=>
   cases x with
   |nil s'=>exact hr
   |_=>exact hw.elim
  |sref t' j' fp gU=>
   cases x with
   |nil s=>obtain⟨hn,rfl,rfl⟩:=hw;cases hr;refine⟨rfl,fun q size rows ho=>?_,fun size rows ho=>absurd ho (fx _ _ _ _)⟩;simp only[h',hn];exact⟨zAD,fun _ _=>rfl,fun _=>rfl,none,0,rfl,zAD,by simp[maxLen],fun _=>rfl,fun hh=>absurd hh zAD⟩
   |sref t j lo len=>
    obtain⟨hn,rfl,rfl⟩:=hw;refine⟨h1,fun q size rows ho=>?_,fun size rows ho=>absurd ho (fx _ _ _ _)⟩;rcases fG t' j' q size rows ho with⟨mc,_⟩|⟨t2,j2,p,mc,_,mr,_⟩
    ·rw[hn]at mc;cases mc
    ·rw[hn]at mc;cases mc;simp only[h',hn];exact hr.2.1 p size rows mr
   |_=>exact hw.elim
  |ptr t' j' i' c'=>
   cases x with
   |ptr t j i c=>
    obtain⟨hn,rfl,rfl⟩:=hw;refine⟨h1,fun q size rows ho=>?_⟩;rcases fG t' j' q size rows ho with⟨mc,_⟩|⟨t2,j2,p,mc,_,mr,_⟩
    ·rw[hn]at mc;cases mc
    ·rw[hn]at mc;cases mc;simp only[h',hn];exact hr.2 p size rows mr
   |_=>exact hw.elim
  |tref t' j' i' c' o'=>
   cases x with
   |tref t j i c o=>
    obtain⟨hn,rfl,rfl,rfl,hq⟩:=hw;refine⟨h1,fun size rows ho=>?_⟩;rcases fG t' j' true size rows ho with⟨mc,_⟩|⟨t2,j2,p,mc,_,mr,hp⟩
    ·rw[hn]at mc;cases mc
    ·rw[hn]at mc;cases mc;simp only[h',hn];rcases hp with rfl|⟨rfl,lM⟩
     ·exact hr.2 size rows mr
     ·rw[mr]at hq;exact hq.elim
   |_=>exact hw.elim
  |bptr t' c'=>
   cases x with
   |bptr t c=>obtain⟨hn,rfl⟩:=hw;refine⟨h1,fun cells ho=>?_⟩;obtain⟨t2,j2,cs,mc,_,mr,_⟩:=fy t' 0 cells ho;rw[hn]at mc;cases mc;simp only[h',hn];exact hr.2 cs mr
   |_=>exact hw.elim
  |fn f' t'=>
   cases x with
   |fn f t=>obtain⟨hn,rfl⟩:=hw;refine⟨h1,fun cells ho=>?_⟩;obtain⟨t2,j2,cs,mc,_,mr,_⟩:=fy t' 0 cells ho;rw[hn]at mc;cases mc;simp only[h',hn];exact hr.2 cs mr
   |_=>exact hw.elim
  |rptr r' c'=>
   cases x with
   |rptr r0 c=>obtain⟨rfl,rfl⟩:=hw;obtain⟨b,off,g,e,hk⟩:=hr;exact⟨b,off,g,e,fun k d hd=>⟨(hk k d hd).1,(hk k d hd).2.1.imp id .inl,Rd.mono eg (hk k d hd).2.2⟩⟩
   |_=>exact hw.elim
 have cJ:∀{xs ys:List At}{vs:List Value},LU σ ρ F xs ys->YF (YL (Tof T0 X) h σ.ob w) xs vs->YF (YL (Tof T0 X') h' σ'.ob w) ys vs:=by
  intro xs;induction xs with
  |nil=>intro ys vs hw hr;cases ys with
   |nil=>cases hr;exact .nil
   |cons y ys=>exact hw.elim
  |cons x xs ih=>intro ys vs hw hr;cases ys with
   |nil=>exact hw.elim
   |cons y ys=>cases hr with
    |cons h1 hr=>exact .cons (at_ hw.1 h1) (ih hw.2 hr)
 have v_:∀{x y:V}{v:Value},wkV σ ρ F x y->JB (Tof T0 X) h σ.ob w x v->JB (Tof T0 X') h' σ'.ob w y v:=by
  intro x y v hw hr;cases y with
  |any=>trivial
  |one y=>cases x with
   |one x=>exact at_ hw hr
   |fix u x=>cases x with
    |one x=>exact at_ hw hr.2
    |_=>exact hw.elim
   |_=>exact hw.elim
  |agg ys=>cases x with
   |agg xs=>obtain⟨cs,e,hr⟩:=hr;exact⟨cs,e,cJ hw hr⟩
   |fix u x=>cases x with
    |agg xs=>obtain⟨cs,e,hr⟩:=hr.2;exact⟨cs,e,cJ hw hr⟩
    |_=>exact hw.elim
   |_=>exact hw.elim
  |tup ys=>cases x with
   |fix u x=>cases x<;>exact hw.elim
   |_=>exact hw.elim
  |cnd g y=>cases x with
   |fix u x=>cases x<;>exact hw.elim
   |_=>exact hw.elim
  |fix u' y=>cases x with
   |fix u x=>cases x with
    |one x=>cases y with
     |one y=>obtain⟨rfl,hw⟩:=hw;exact⟨hr.1,at_ hw hr.2⟩
     |_=>exact hw.elim
    |agg xs=>cases y with
     |agg ys=>obtain⟨rfl,hw⟩:=hw;obtain⟨e1,cs,e,hr⟩:=hr;exact⟨e1,cs,e,cJ hw hr⟩
     |_=>exact hw.elim
    |_=>cases y<;>exact hw.elim
   |_=>cases y<;>exact hw.elim
 have nf:∀t j,σ'.ob t j≠ .none->(y7 ρ t j=none/\∀b,¬(h' t j).u b)\/∃o,y7 ρ t j=some o/\σ.ob o.1 o.2≠ .none/\inF F o.1 o.2=false/\h' t j=h o.1 o.2:=by
  intro t j hn;cases ho:σ'.ob t j with
  |none=>exact absurd ho hn
  |arr q size rows=>
   rcases fG t j q size rows ho with⟨mc,_⟩|⟨t2,j2,p,mc,hF,mr,_⟩
   ·exact .inl ⟨mc,fun b hb=>by simp only[h',mc,Hd.of,blk]at hb;cases hb⟩
   ·exact .inr ⟨(t2,j2),mc,by rw[mr];simp,hF,by simp only[h',mc]⟩
  |lit size rows=>exact absurd ho (fx _ _ _ _)
  |box cells=>obtain⟨t2,j2,cs,mc,hF,mr,_⟩:=fy t j cells ho;exact .inr ⟨(t2,j2),mc,by rw[mr];simp,hF,by simp only[h',mc]⟩
 refine⟨X',h',by rw[r.size,hlen],r.defers,r.hB,fun b hb=>?_,r.hT,fun t ht=>?_,fun t j=>?_,fun t j b hn hb=>?_,fun t j b hn hb=>?_,fun t j t' j' b hn mc hb n7=>?_⟩
 ·rcases hb with hb|⟨t,j,_,hn,hb⟩
  ·exact r.hX b hb
  ·have:=r.own t j b hn hb;exact⟨this.1,this.2.2⟩
 ·exact v_ (lB t).1 (r.slot t (by rw[hlen];exact ht))
 ·cases ho:σ'.ob t j with
  |none=>trivial
  |lit size rows=>exact absurd ho (fx _ _ _ _)
  |arr q size rows=>
   rcases fG t j q size rows ho with⟨hn,rfl⟩|⟨u,k,p,hn,_,mr,hp⟩
   ·have:h' t j=Hd.of (.slice none 0 0):=by simp only[h',hn]
    rw[this];cases q with
    |false=>exact⟨0,[],World.ownsRow_nil w 0 0 size,zBD,.nil⟩
    |true=>exact⟨0,[],World.ownsRow_nil w 0 0 size,zBD,KJ.nil _,fun k x d hx=>by simp at hx⟩
   ·have he:h' t j=h u k:=by simp only[h',hn]
    rw[he];have h0:=r.obj u k
    rw[mr]at h0;cases p with
    |false=>
     obtain⟨e,xs,nk,hz,ni⟩:=h0;cases q with
     |false=>exact⟨e,xs,nk,hz,ni.imp fun _ _=>Rd.mono eg⟩
     |true=>
      rcases hp with hp|⟨_,lM⟩
      ·cases hp
      ·have dR:∀d∈rows.flatten,d.scalar=true:=fun d hd=>by obtain⟨r0,gR,hdr⟩:=List.mem_flatten.1 hd;exact lM r0 gR d hdr
       exact⟨e,xs,nk,hz,vy ni dR,fun k x d _ hd hs=>by rw[dR d (List.mem_of_getElem? hd)]at hs;cases hs⟩
    |true=>
     rcases hp with rfl|⟨hp,_⟩
     ·exact h0
     ·cases hp
  |box cells=>
   obtain⟨u,k,cs,hn,_,mr,iH⟩:=fy t j cells ho;have h0:=r.obj u k
   rw[mr]at h0;obtain⟨b,vs,e,hv,hh,ni⟩:=h0;have he:h' t j=h u k:=by simp only[h',hn]
   rw[he];exact⟨b,vs,e,hv,hh,cJ iH ni⟩
 ·rcases nf t j hn with⟨hr,_⟩|⟨o,hr,g5,hF,he⟩
  ·simp only[h',hr,Hd.of,blk]at hb;cases hb
  ·rw[he]at hb⊢;exact r.ub o.1 o.2 b g5 hb
 ·rcases nf t j hn with⟨_,g5⟩|⟨o,hr,g5,hF,he⟩
  ·exact absurd hb (g5 b)
  ·rw[he]at hb;have h0:=r.own o.1 o.2 b g5 hb
   refine⟨h0.1,?_,h0.2.2⟩;rintro(hx|⟨t2,j2,hF2,hn2,mQ⟩)
   ·exact h0.2.1 hx
   ·obtain⟨h3,h4⟩:=r.inj o.1 o.2 t2 j2 b g5 hn2 hb mQ;rw[h3,h4]at hF;rw[hF]at hF2;cases hF2
 ·rcases nf t j hn with⟨_,g5⟩|⟨o,hr,g5,_,he⟩
  ·exact absurd hb (g5 b)
  ·rcases nf t' j' mc with⟨_,bz⟩|⟨o',lG,bz,_,he'⟩
   ·exact absurd n7 (bz b)
   ·rw[he]at hb;rw[he']at n7;obtain⟨h3,h4⟩:=r.inj o.1 o.2 o'.1 o'.2 b g5 bz hb n7;have:o=o':=Prod.ext h3 h4
    subst this;exact sa mH hn mc hr lG
theorem KG(hs:RV σ [] [] σ σ' 0):Wk σ σ':=XN [] [] rfl hs
attribute [simp] y7 inF CM LU wkV Dt wP RV zI Wg Ag UJ
open Go.RowKit
variable{P:Program}{ops:Array Oper}{rest:List Oper}{bar:Oper->Bool}{Q:St->Prop}
def Xb(P:Program)(σ:St):List Operand->List TypeId->Prop×Option (List (List D))
 |[],_=>(True,some [])
 |x::xs,t::ts=>(gOf (look P σ t x)=true/\(Xb P σ xs ts).1,match(unc (look P σ t x)).zB σ,(Xb P σ xs ts).2 with|some r,some rs=>some (r::rs)|_,_=>none)
 |_::_,[]=>(False,none)
theorem qU{P:Program}{σ:St}:∀{xs:List Operand}{ts:List TypeId}{rs:List (List D)},(Xb P σ xs ts).1->(Xb P σ xs ts).2=some rs->Qs P σ xs ts rs
 |[],_,rs,_,h=>by simp[Xb]at h;exact h
 |x::xs,t::ts,rs,h1,h=>by
  simp only[Xb]at h;split at h
  ·rename_i r aF hr iw;cases h;exact⟨h1.1,r,aF,hr,qU h1.2 iw,rfl⟩
  ·cases h
 |_::_,[],_,h1,_=>h1.elim
attribute [simp] Xb
theorem I0{o:Oper}{own:Bool}(na:o.op= .call c)(hc:c.callee= .value (.func f))(hg:o.guard=none)(hd:o.dst=some d)
  (hs:Q0 P f own rows res) (ny:(Xb P σ c.args.toList c.argTypes.toList).2=some rows) (np:(Xb P σ c.args.toList c.argTypes.toList).1) (mF:Yi P σ c.args.toList c.argTypes.toList=true\/KW own res) (h:Ev P ops bar rest (σ.put d (qe res)) Q):ja P ops bar o rest σ Q:=
 BH na hc hg hd (qU np ny) hs mF h
theorem ua{o:Oper}(na:o.op= .call c)(hc:c.callee= .value (.func f))(hg:o.guard=none)(hd:o.dst=some d)
  (hs:Q0 P f true rows res) (ny:(Xb P σ c.args.toList c.argTypes.toList).2=some rows) (np:(Xb P σ c.args.toList c.argTypes.toList).1) (mF:Yi P σ c.args.toList c.argTypes.toList=true\/KW true res) (hf:σ.fresh d=true) (h:Ev P ops bar rest (σ.new d (jf d res) (xR res.flatten)) Q):ja P ops bar o rest σ Q:=
 Dc na hc hg hd (qU np ny) hs mF hf h
theorem CT{o:Oper}(qs:List Bool)(na:o.op= .call c)(hc:c.callee= .value (.func f))(hg:o.guard=none)(hd:o.dst=some d)
  (hs:Yb P f rows res) (ny:(Xb P σ c.args.toList c.argTypes.toList).2=some rows) (np:(Xb P σ c.args.toList c.argTypes.toList).1) (hq:y6 qs res.flatten) (hf:σ.fresh d=true) (h:Ev P ops bar rest (σ.new d (jf d res) (YY qs res.flatten)) Q):ja P ops bar o rest σ Q:=
 AG qs na hc hg hd (qU np ny) hs hq hf h
theorem DP{o:Oper}{own:Bool}{res:List D}(na:o.op= .call c)(hc:c.callee= .value (.func f))(hg:o.guard=some (j,want))(hd:o.dst=some d)
  (lj:(ops[j]?).bind (·.dst)=some dj) (l4:qj want (σ.get dj)=some g) (hs:g=true->Q0 P f own rows [res])
  (ny:(Xb P σ c.args.toList c.argTypes.toList).2=some rows) (nn:dj<σ.length)
  (np:g=true->(Xb P σ c.args.toList c.argTypes.toList).1) (mF:Yi P σ c.args.toList c.argTypes.toList=true\/KW own [res]) (h:Ev P ops bar rest (σ.put d (.cnd g (qe [res]))) Q):ja P ops bar o rest σ Q:=
 Bw na hc hg hd lj nn l4 (fun hh=>qU (np hh) ny) hs mF h
def Yy:Nat->List (Nat×V×List Ob)->St
 |n,[]=>List.replicate n (V.any,[])
 |n,(t,v,os)::l=>(Yy n l).new t v os
attribute [simp] Yy
open Go.RowKit
variable{parts:Array (Nat×Operand)}
def s6(P:Program)(b:Bool)(x y:Code)(Q:Exit->St->Prop)(σ:St):Prop:=(b=true->AWP P x Q σ)/\(b=false->AWP P y Q σ)
def rM(P:Program)(c:Code)(Q:Exit->St->Prop)(σ:St):Prop:=AWP P (.loop c) Q σ
def s9(P:Program)(id:Nat)(ops:Array Oper)(Q:Exit->St->Prop)(σ:St):Prop:=AWP P (.region id ops true) Q σ
def Hp(P:Program)(c:Code)(Q:Exit->St->Prop)(σ:St):Prop:=AWP P c Q σ
def Wx(P:Program):Code->(Exit->St->Prop)->St->Prop
 |.seq x y,Q,σ=>Wx P x (GW (Wx P y Q) Q) σ
 |.region _ ⟨l⟩ false,Q,σ=>Ev P ⟨l⟩ (fun _=>true) l σ (Q .normal)
 |.region id ops true,Q,σ=>s9 P id ops Q σ
 |.cond c x y,Q,σ=>(match look P σ 0 c with|.one (.d (.bool b))=>s6 P b x y Q σ|_=>False)
 |.block id c,Q,σ=>Wx P c (Rs id Q) σ
 |.loop c,Q,σ=>rM P c Q σ
 |.skip,Q,σ=>Q .normal σ
 |.exit id,Q,σ=>Q (.exit id) σ
 |.ret,Q,σ=>Q .ret σ
 |.rangeFunc f ps x y,Q,σ=>Hp P (.rangeFunc f ps x y) Q σ
 |.scope c,Q,σ=>Hp P (.scope c) Q σ
 |.label l,Q,σ=>Hp P (.label l) Q σ
 |.goto l,Q,σ=>Hp P (.goto l) Q σ
 |.refuse s,Q,σ=>Hp P (.refuse s) Q σ
theorem Vv{P:Program}:∀{c:Code}{Q:Exit->St->Prop}{σ:St},Wx P c Q σ->AWP P c Q σ
 |.seq x y,Q,σ,h=>by rw[Wx]at h;refine sc (Bh (fun e σ' hq=>?_) (Vv h));cases e<;>simp only[GW]at hq⊢<;>first|exact Vv hq|exact hq
 |.region _ ⟨l⟩ false,Q,σ,h=>ra h
 |.region id ops true,Q,σ,h=>h
 |.cond c x y,Q,σ,h=>by
  rw[Wx]at h;split at h
  ·rename_i b hb;exact uv hb h.1 h.2
  ·exact h.elim
 |.block id c,Q,σ,h=>vT (Vv (by rw[Wx]at h;exact h))
 |.loop c,Q,σ,h=>h
 |.skip,Q,σ,h=>tD h
 |.exit id,Q,σ,h=>uu h
 |.ret,Q,σ,h=>tU h
 |.rangeFunc _ _ _ _,Q,σ,h=>h
 |.scope _,Q,σ,h=>h
 |.label _,Q,σ,h=>h
 |.goto _,Q,σ,h=>h
 |.refuse _,Q,σ,h=>h
class y5 where
 c:Code
class KX where
 ops:Array Oper
 bar:Oper->Bool
variable{A:KX}
class K6 where
 l:List Oper
variable{l:K6}
class OpI where
 o:Oper
variable{o:OpI}
class inductive Fr where
 |fin (Q:Exit->St->Prop)
 |sq (y:Code) (k:Fr)
 |blk (id:Nat) (k:Fr)
 |nxt (n:St->Prop) (k:Fr)
variable{k:Fr}
def Fr.run(P:Program):Fr->Exit->St->Prop
 |.fin Q,e,σ=>Q e σ
 |.sq y k,e,σ=>GW (Wx P y (Fr.run P k)) (Fr.run P k) e σ
 |.blk id k,e,σ=>Rs id (Fr.run P k) e σ
 |.nxt n k,e,σ=>GW n (Fr.run P k) e σ
def WI(P:Program)(σ:St)[c:y5][k:Fr]:Prop:=Wx P c.c (k.run P) σ
def LI(P:Program)(e:Exit)(σ:St)[k:Fr]:Prop:=k.run P e σ
def EI(P:Program)(σ:St)[A:KX][l:K6][k:Fr]:Prop:=Ev P A.ops A.bar l.l σ (k.run P .normal)
def SI(P:Program)(σ:St)[A:KX][o:OpI][l:K6][k:Fr]:Prop:=ja P A.ops A.bar o.o l.l σ (k.run P .normal)
def CI(P:Program)(b:Bool)(σ:St)[x:y5][y:y5][k:Fr]:Prop:=s6 P b x.c y.c (k.run P) σ
def Sy(P:Program)(σ:St)[c:y5][k:Fr]:Prop:=rM P c.c (k.run P) σ
def DI(P:Program)(id:Nat)(σ:St)[A:KX][k:Fr]:Prop:=s9 P id A.ops (k.run P) σ
theorem rT{x y:Code}:@WI P σ ⟨.seq x y⟩ k=@WI P σ ⟨x⟩ (.sq y k):=by simp only[WI];rw[Wx];congr 1
theorem wo{l:List Oper}:@WI P σ ⟨.region id ⟨l⟩ false⟩ k=@EI P σ ⟨⟨l⟩,fun _=>true⟩ ⟨l⟩ k:=by simp only[WI,EI,Wx]
theorem tk:@WI P σ ⟨.region id ops true⟩ k=@DI P id σ ⟨ops,fun _=>true⟩ k:=by simp only[WI,DI,Wx]
theorem sr{c:Operand}{x y:Code}:@WI P σ ⟨.cond c x y⟩ k=(match look P σ 0 c with|.one (.d (.bool b))=>@CI P b σ ⟨x⟩ ⟨y⟩ k|_=>False):=by simp only[WI,CI,Wx]
theorem uW{c:Code}:@WI P σ ⟨.block id c⟩ k=@WI P σ ⟨c⟩ (.blk id k):=by simp only[WI];rw[Wx];congr 1
theorem tx{c:Code}:@WI P σ ⟨.loop c⟩ k=@Sy P σ ⟨c⟩ k:=by simp only[WI,Sy,Wx]
theorem su:@WI P σ ⟨.skip⟩ k=@LI P .normal σ k:=by simp only[WI,LI,Wx]
theorem tu:@WI P σ ⟨.exit id⟩ k=@LI P (.exit id) σ k:=by simp only[WI,LI,Wx]
theorem ru:@WI P σ ⟨.ret⟩ k=@LI P .ret σ k:=by simp only[WI,LI,Wx]
theorem rn{Q:Exit->St->Prop}:@LI P e σ (.fin Q)=Q e σ:=rfl
theorem ph{y:Code}:@LI P .normal σ (.sq y k)=@WI P σ ⟨y⟩ k:=rfl
theorem Af{y:Code}:@LI P (.exit id) σ (.sq y k)=@LI P (.exit id) σ k:=rfl
theorem vi{y:Code}:@LI P .ret σ (.sq y k)=@LI P .ret σ k:=rfl
theorem rf{n:St->Prop}:@LI P .normal σ (.nxt n k)=n σ:=rfl
theorem Bc{n:St->Prop}:@LI P (.exit id) σ (.nxt n k)=@LI P (.exit id) σ k:=rfl
theorem B6{n:St->Prop}:@LI P .ret σ (.nxt n k)=@LI P .ret σ k:=rfl
theorem r6:@LI P .normal σ (.blk id k)=@LI P .normal σ k:=rfl
theorem AR:@LI P .ret σ (.blk id k)=@LI P .ret σ k:=rfl
theorem Cg{bF:Nat}:@LI P (.exit bF) σ (.blk id k)=if bF=id then@LI P .normal σ k else@LI P (.exit bF) σ k:=rfl
theorem rb:@EI P σ A ⟨[]⟩ k=@LI P .normal σ k:=by simp only[EI,LI,Ev]
theorem tz{o:Oper}:@EI P σ A ⟨o::rest⟩ k=
  (if stops P A.bar o then@SI P σ A ⟨o⟩ ⟨rest⟩ k else
  match o.guard with
  |none=>
   (match o.dst with
   |some d=>(evS P σ o d).1/\@EI P (evS P σ o d).2 A ⟨rest⟩ k
   |none=>(match o.op with|.store T x y=>if re P σ T x y then@SI P σ A ⟨o⟩ ⟨rest⟩ k else(BM P σ T x y).1/\@EI P (BM P σ T x y).2 A ⟨rest⟩ k|_=>False))
  |some (j,want)=>
   (match(A.ops[j]?).bind (·.dst),o.dst with
   |some dj,some d=>(match qj want (σ.get dj)with
    |some g=>(dj<σ.length/\(g=true->(evV P σ o.op o.type).1/\gOf (evV P σ o.op o.type).2=true/\(unc (evV P σ o.op o.type).2).flat=true))/\@EI P (σ.put d (.cnd g (unc (evV P σ o.op o.type).2))) A ⟨rest⟩ k
    |none=>False)
   |_,_=>False)):=by
 simp only[EI,SI];rw[Ev];rfl
theorem tA{c:Code}(hf:P.funcs[f]?=some fn)(hb:fn.body=some c)(mH:TX P f=true){own:Bool}
  (hw:@WI P (ji fn.ntmps args) ⟨c⟩ (.fin (Br P fn own res))):Q0 P f own args res:=Dp hf hb mH (Vv hw)
theorem wE{own:Bool}{res:List D}(na:o.o.op= .call c)(hc:c.callee= .value (.func f))(hg:o.o.guard=some (j,want))(hd:o.o.dst=some d)
  (lj:(A.ops[j]?).bind (·.dst)=some dj) (l4:qj want (σ.get dj)=some g) (hs:g=true->Q0 P f own rows [res])
  (ny:(Xb P σ c.args.toList c.argTypes.toList).2=some rows) (nn:dj<σ.length)
  (np:g=true->(Xb P σ c.args.toList c.argTypes.toList).1) (mF:Yi P σ c.args.toList c.argTypes.toList=true\/KW own [res]) (h:@EI P (σ.put d (.cnd g (qe [res]))) A l k):@SI P σ A o l k:=
 DP na hc hg hd lj l4 hs ny nn np mF h
theorem tW{rest:K6}{S T:TypeId}(na:o.o.op= .convert S T x)(hg:o.o.guard=none)(hd:o.o.dst=some d)
  (h1:gOf (look P σ S x)=true) (h2:T9 P S=true) (h3:Ns P T=true) (h4:unc (look P σ S x)= .one (.d (.str s))) (h5:s.size<=9223372036854775807) (h:@EI P (σ.put d (.one (.d (.sl 1 (zj s.data.toList))))) A rest k):@SI P σ A o rest k:=
 De na hg hd h1 h2 h3 h4 h5 h
theorem vM{c:Code}(hf:P.funcs[f]?=some fn)(hb:fn.body=some c)(mH:TX P f=true)
  (hw:@WI P (ji fn.ntmps args) ⟨c⟩ (.fin (vY P fn res))):Yb P f args res:=FW hf hb mH (Vv hw)
def Dq(o:Oper):Bool:=match o.op with|.call ⟨.value _,_,_⟩=>false|_=>true
theorem evI(hp:Dq o.o=true)(hg:o.o.guard=none)(hd:o.o.dst=some d)(h:(evS P σ o.o d).1/\@EI P (evS P σ o.o d).2 A l k):@SI P σ A o l k:=by refine ta (fun c na f hc=>?_) hg hd h.1 h.2;obtain⟨cc,ca,ct⟩:=c;simp only at hc;subst hc;simp[Dq,na]at hp
theorem oL{T:TypeId}(na:o.o.op= .buildSlice T n parts)(hg:o.o.guard=none)(hd:o.o.dst=some d)
  (h1:σ.fresh d=true/\Xl P T=true/\Qb P (ZT P T)=true/\0<P.cellsOf (ZT P T)/\parts.toList.length=n/\n*P.cellsOf (ZT P T)<=16777216) (h2:(zG P σ (ZT P T) (P.cellsOf (ZT P T)) parts.toList 0).1)
  (h3:Yf d (zG P σ (ZT P T) (P.cellsOf (ZT P T)) parts.toList 0).2.flatten=false)
  (h:@EI P (σ.new d (.one (.sref d 0 0 (zG P σ (ZT P T) (P.cellsOf (ZT P T)) parts.toList 0).2.length)) [.lit (P.cellsOf (ZT P T)) (zG P σ (ZT P T) (P.cellsOf (ZT P T)) parts.toList 0).2]) A l k):@SI P σ A o l k:=tF na hg hd h1 h2 h3 h
theorem pP{t:TypeId}(na:o.o.op= .call ⟨.builtin .append,#[x,y],#[t,t]⟩)(hg:o.o.guard=none)(hd:o.o.dst=some d)(mP:A.bar o.o=true)
  (m0:size=P.cellsOf (ZT P t)) (h1:gOf (look P σ t x)=true/\gOf (look P σ t y)=true/\Xl P t=true/\Qb P (ZT P t)=true/\0<P.cellsOf (ZT P t))
  (h2:(Vt σ (unc (look P σ t x)) size).1/\(Vt σ (unc (look P σ t x)) size).2=(ng,l1)) (h3:(Vk σ (unc (look P σ t y)) size).1/\(Vk σ (unc (look P σ t y)) size).2=(news,l2))
  (h4:(l1++l2).Nodup/\(σ.Z8 (l1++l2)).fresh d=true) (h5:(ng.length+news.length)*P.bytesOf (ZT P t)<=140737488355328/\ng.length+news.length<=9223372036854775807)
  (h:@EI P ((σ.Z8 (l1++l2)).new d (.one (.sref d 0 0 (ng.length+news.length))) [.arr true size (ng++news)]) A l k):@SI P σ A o l k:=uP na hg hd mP m0 h1 h2 h3 h4 h5 h
theorem oJ{t:TypeId}{u lo:Nat}(na:o.o.op= .call ⟨.builtin .append,#[x,y],#[t,t]⟩)(hg:o.o.guard=none)(hd:o.o.dst=some d)(mP:A.bar o.o=true)
  (m0:size=P.cellsOf (ZT P t)) (h1:gOf (look P σ t x)=true/\gOf (look P σ t y)=true/\Xl P t=true/\Qb P (ZT P t)=true/\0<P.cellsOf (ZT P t))
  (h2:unc (look P σ t x)= .one (.sref u j 0 len)) (h3:unc (look P σ t y)= .one (.sref u j lo n)) (ho:σ.ob u j= .arr true size rows) (hle:len<=lo) (gp:lo+n<=rows.length)
  (lZ:cut rows lo n=news) (h4:(σ.Z1 u j .none).fresh d=true) (h5:(len+n)*P.bytesOf (ZT P t)<=140737488355328/\len+n<=9223372036854775807)
  (h:@EI P ((σ.Z1 u j .none).new d (.one (.sref d 0 0 ((rows.take len).length+news.length))) [.arr true size (rows.take len++news)]) A l k):@SI P σ A o l k:=uc na hg hd mP m0 h1 h2 h3 ho hle gp lZ h4 h5 h
theorem tX{t:TypeId}{u lo:Nat}(na:o.o.op= .call ⟨.builtin .append,#[x,y],#[t,t]⟩)(hg:o.o.guard=none)(hd:o.o.dst=some d)(mP:A.bar o.o=true)
  (m0:size=P.cellsOf (ZT P t)) (h1:gOf (look P σ t x)=true/\gOf (look P σ t y)=true/\Xl P t=true/\Qb P (ZT P t)=true/\0<P.cellsOf (ZT P t))
  (h2:BQ σ (unc (look P σ t x)) size ng l1) (h3:unc (look P σ t y)= .one (.sref u j lo n)) (ho:σ.ob u j= .arr true size rows) (dr:(u,j)∉l1) (hle:lo+n<=rows.length) (lZ:cut rows lo n=news)
  (h4:((σ.Z1 u j (.arr true size (JY rows lo n))).Z8 l1).fresh d=true) (h5:(ng.length+n)*P.bytesOf (ZT P t)<=140737488355328/\ng.length+n<=9223372036854775807)
  (h:@EI P (((σ.Z1 u j (.arr true size (JY rows lo n))).Z8 l1).new d (.one (.sref d 0 0 (ng.length+news.length))) [.arr true size (ng++news)]) A l k):@SI P σ A o l k:=uG na hg hd mP m0 h1 h2 h3 ho dr hle lZ h4 h5 h
theorem sN{T:TypeId}{c:Nat}(na:o.o.op= .store T x y)(hg:o.o.guard=none)(hd:o.o.dst=none)(mP:A.bar o.o=true)
  (hx:unc (look P σ 0 x)= .one (.ptr t j i c)) (ho:σ.ob t j= .arr true size rows) (hi:i<rows.length) (h1:qP P T=true/\gOf (look P σ 0 x)=true/\gOf (look P σ T y)=true/\(unc (look P σ T y)).flat=true)
  (h2:Jz σ (unc (look P σ T y)).cells=some ds) (h3:Qc σ (unc (look P σ T y)).cells) (h4:XL (unc (look P σ T y)).cells=L) (h5:L.Nodup/\(t,j)∉L/\(σ.Z8 L).yV (At.isT t)=false) (h6:ds.length=P.cellsOf T/\c+P.cellsOf T<=size)
  (h:@EI P ((σ.Z8 L).Z1 t j (.arr true size (rows.set i (place (rowAt rows i) c ds)))) A l k):@SI P σ A o l k:=v5 na hg hd mP hx ho hi h1 h2 h3 h4 h5 h6 h
theorem oQ{T:TypeId}(na:o.o.op= .store T x y)(hg:o.o.guard=none)(hd:o.o.dst=none)(mP:A.bar o.o=true)
  (hx:unc (look P σ 0 x)= .one (.ptr t j i 0)) (ho:σ.ob t j= .arr true size rows) (hi:i<rows.length) (h1:qP P T=true/\gOf (look P σ 0 x)=true/\gOf (look P σ T y)=true/\(unc (look P σ T y)).flat=true)
  (h2:Jz σ (unc (look P σ T y)).cells=some ds) (h3:Qc σ (unc (look P σ T y)).cells) (h4:XL (unc (look P σ T y)).cells=L) (h5:L.Nodup/\(t,j)∉L/\(σ.Z8 L).yV (At.isT t)=false) (h6:ds.length=P.cellsOf T/\P.cellsOf T=size)
  (h:@EI P ((σ.Z8 L).Z1 t j (.arr true size (rows.set i ds))) A l k):@SI P σ A o l k:=v3 na hg hd mP hx ho hi h1 h2 h3 h4 h5 h6 h
theorem pS{T:TypeId}{c k':Nat}{s:List (List D)}(na:o.o.op= .store T x y)(hg:o.o.guard=none)(hd:o.o.dst=none)(mP:A.bar o.o=true)
  (hx:unc (look P σ 0 x)= .one (.tref t j i c (some off))) (dP:off=k'*n+q) (ho:σ.ob t j= .arr true size rows) (hi:i<rows.length) (hc:(rowAt rows i)[c]?=some (.sl n s)) (hk:k'<s.length) (h1:qP P T=true/\gOf (look P σ 0 x)=true/\gOf (look P σ T y)=true/\(unc (look P σ T y)).flat=true)
  (h2:Jz σ (unc (look P σ T y)).cells=some ds) (h3:Qc σ (unc (look P σ T y)).cells) (h4:XL (unc (look P σ T y)).cells=L) (h5:L.Nodup/\(t,j)∉L) (h6:ds.length=P.cellsOf T/\q+P.cellsOf T<=n)
  (h:@EI P ((σ.Z8 L).Z1 t j (.arr true size (rows.set i (place (rowAt rows i) c [.sl n (s.set k' (place (rowAt s k') q ds))])))) A l k):@SI P σ A o l k:=uh na hg hd mP ⟨dP▸hx,ho,hi,hc,hk,h1,h2,h3,h4,h5,h6⟩ h
attribute [simp] tk rT wo sr uW tx su tu ru rn ph Af vi rf Bc B6 r6 AR Cg rb tz
open Go.RowKit
def Cells(w:World):CS:=fun b _=>b<w.heap.size
def Reads(w:World)(v:Value)(row:List D):Prop:=∃cs,yT v cs/\YF (Rd (Cells w) w) cs row
theorem FV{own:Bool}(h:Q0 P f own rows [[.bool true]])(hv:YF (Reads w) mY rows):
  Calls P f mY.toArray w fun e w'=>e= .returned (.bool true)/\Below w.heap.size w w':=by
 refine(h.2 (Cells w) w mY (fun _ _ hb=>hb) hv).mono ?_;rintro e w' ⟨vs,mM,Y,rfl,hb,_,hf,hr,_⟩;refine⟨?_,hb⟩;cases hr with
 |cons h1 hr=>
  cases hr;cases hf with
  |cons h2 hf=>
   cases hf;cases h1 with
   |cons h3 h1=>
    cases h1;have h4:∀v,qY own (Tof (Cells w) Y) w' v (.bool true)->Rd (Tof (Cells w) Y) w' v (.bool true):=by
     intro v hv;unfold qY at hv;split at hv
     ·exact hv
     ·exact hv
    have h4:=h4 _ h3;cases h4;rcases h2 with⟨v,iH,hvv,_⟩|⟨hl,_⟩
    ·cases iH;rw[hvv];rfl
    ·simp at hl
open Go.RowKit
variable{sp:Nat->Bool}{ps:List MemPlace}{fs:Array Field}
def SV(P:Program):Nat->TypeId->Bool
 |0,_=>false
 |n+1,t=>
  match P.underlying t with
  |some .bool=>true
  |some (.int _)=>true
  |some .string=>true
  |some (.slice e)=>SV P n e
  |some (.struct fs)=>fs.toList.all (fun f=>SV P n f.type)&&P.cellsOf t !=1
  |_=>false
def TyR(P:Program):Nat->TypeId->List D->Prop
 |0,_,_=>False
 |n+1,t,row=>
  match P.underlying t with
  |some .bool=>∃b,row=[.bool b]
  |some (.int k)=>∃m,row=[.int k m]/\k.min<=m/\m<=k.max
  |some .string=>∃s,row=[.str s]/\s.size<=maxLen
  |some (.slice e)=>∃rows,row=[.sl (P.cellsOf e) rows]/\rows.length<=maxLen/\∀r∈rows,TyR P n e r/\r.length=P.cellsOf e
  |some (.struct fs)=>row.length=P.cellsOf t/\∀f∈fs.toList,TyR P n f.type (cut row f.offset (P.cellsOf f.type))
  |_=>False
def Rv(P:Program):Nat->List Field->Nat->Bool
 |k,[],n=>k==n
 |k,f::fs,n=>f.offset==k&&Rv P (k+P.cellsOf f.type) fs n
def Ef(P:Program):Nat->TypeId->Bool
 |0,_=>false
 |n+1,t=>
  match P.underlying t with
  |some .bool=>P.cellsOf t==1
  |some (.int _)=>P.cellsOf t==1
  |some .string=>P.cellsOf t==1
  |some (.slice e)=>P.cellsOf t==1&&Ef P n e
  |some (.struct fs)=>fs.toList.all (fun f=>Ef P n f.type)&&Rv P 0 fs.toList (P.cellsOf t)
  |_=>false
theorem O9{α β:Type}{f:α->Option β}:∀{l:List α}{m:List β},l.mapM f=some m->l.length=m.length/\∀(i:Nat) a,l[i]?=some a->∃b,m[i]?=some b/\f a=some b
 |[],m,h=>by simp at h;subst h;exact⟨rfl,fun i a ha=>by simp at ha⟩
 |x::l,m,h=>by
  simp only[List.mapM_cons,Option.bind_eq_bind,Option.bind_eq_some_iff]at h;obtain⟨b,hb,bs,hbs,h⟩:=h;simp at h;subst h;obtain⟨h1,h2⟩:=O9 hbs;refine⟨by simp[h1],fun i a ha=>?_⟩;cases i with
  |zero=>simp at ha;subst ha;exact⟨b,zAG,hb⟩
  |succ i=>simpa using h2 i a (by simpa using ha)
theorem vU(h:w.cells? 0 a n=some cs):cs.length=n/\∀i v,cs[i]?=some v->w.cell? (a.add i)=some v:=by
 unfold World.cells? at h;simp at h;obtain⟨h1,h2⟩:=O9 h;simp at h1;refine⟨h1.symm,fun i v hv=>?_⟩;have hi:i<n:=by have:=(List.getElem?_eq_some_iff.1 hv).1;omega
 obtain⟨b,hb,hf⟩:=h2 i i (by simp[hi]);rw[hv]at hb;cases hb;exact hf
theorem S6{w:World}{P:Program}{q n:Nat}{cs:List Value}(hl:cs.length=n):∀{fs:List Field}{k:Nat},Rv P k fs n=true->k<=n->
  (∀f∈fs,∃row,YF (Rd (Cells w) w) (cut cs f.offset (P.cellsOf f.type)) row/\TyR P q f.type row)->
  ∃tail,YF (Rd (Cells w) w) (cs.drop k) tail/\∀(pre:List D),pre.length=k->∀f∈fs,TyR P q f.type (cut (pre++tail) f.offset (P.cellsOf f.type))
 |[],k,hc,hk,_=>by simp only[Rv,beq_iff_eq]at hc;subst hc;exact⟨[],by rw[List.drop_eq_nil_of_le zAD];exact .nil,fun _ _ f hf=>by cases hf⟩
 |f::fs,k,hc,hk,h=>by
  simp only[Rv,Bool.and_eq_true,beq_iff_eq]at hc;obtain⟨row,ni,iV⟩:=h f zAG;rw[hc.1]at ni;have hkn:k+P.cellsOf f.type<=n:=by
   clear h ni iV;have:∀(fs:List Field)(k:Nat),Rv P k fs n=true->k<=n:=by
    intro fs;induction fs with
    |nil=>intro k hh;simp[Rv]at hh;omega
    |cons g gs ih=>intro k hh;simp only[Rv,Bool.and_eq_true,beq_iff_eq]at hh;have:=ih _ hh.2;omega
   exact this _ _ hc.2
  have gi:row.length=P.cellsOf f.type:=by rw[<-ni.length];simp[cut];omega
  obtain⟨tail,eh,dQ⟩:=S6 hl hc.2 hkn (fun g hg=>h g (by simp[hg]));refine⟨row++tail,?_,?_⟩
  ·have:cs.drop k=cut cs k (P.cellsOf f.type)++cs.drop (k+P.cellsOf f.type):=by unfold cut;rw[<-List.drop_drop];exact(List.take_append_drop _ _).symm
   rw[this];exact ni.append eh
  ·intro pre l5 g hg;rcases List.mem_cons.1 hg with rfl|hg
   ·have:cut (pre++(row++tail)) g.offset (P.cellsOf g.type)=row:=by unfold cut;rw[hc.1,<-l5,List.drop_left,<-gi,List.take_left]
    rw[this];exact iV
   ·have:=dQ (pre++row) (by rw[List.length_append,l5,gi]) g hg;rw[<-List.append_assoc];exact this
section
variable{H:Type}{enc:TypeId×Value->H}{t:TypeId}{d:DataW H}
theorem trod_bool(hu:P.underlying t=some .bool)(h:DataW.trod enc P w 0 sp held fuel t cs=some (d,ps)):∃b,cs=[.bool b]:=by
 cases fuel with
 |zero=>simp[DataW.trod]at h
 |succ fuel=>unfold DataW.trod at h;rw[hu]at h;split at h<;>simp_all
theorem trod_int{k:IntKind}(hu:P.underlying t=some (.int k))(h:DataW.trod enc P w 0 sp held fuel t cs=some (d,ps)):∃m,cs=[.int k m]/\k.min<=m/\m<=k.max:=by
 cases fuel with
 |zero=>simp[DataW.trod]at h
 |succ fuel=>unfold DataW.trod at h;rw[hu]at h;split at h<;>simp_all[Lit.wf]
theorem vp(hu:P.underlying t=some .string)(h:DataW.trod enc P w 0 sp held fuel t cs=some (d,ps)):∃s,cs=[.string s]/\s.size<=maxLen:=by
 cases fuel with
 |zero=>simp[DataW.trod]at h
 |succ fuel=>unfold DataW.trod at h;rw[hu]at h;split at h<;>simp_all
theorem trod_slice{e:TypeId}(hu:P.underlying t=some (.slice e))(h:DataW.trod enc P w 0 sp held fuel t cs=some (d,ps)):
  cs=[.slice none 0 0]\/∃a len cap,cs=[.slice (some a) len cap]/\len<=cap/\cap<=maxLen/\
   ∀i,i<len->∃xs f x,w.cells? 0 (a.add (i*P.cellsOf e)) (P.cellsOf e)=some xs/\DataW.trod enc P w 0 sp held f e xs=some x:=by
 cases fuel with
 |zero=>simp[DataW.trod]at h
 |succ fuel=>
  unfold DataW.trod at h;rw[hu]at h;split at h<;>first|(simp_all;done)|skip
  rename_i e' a len cap heq;cases heq;refine .inr ⟨a,len,cap,rfl,?_⟩;simp only at h;split at h
  ·rename_i hc;refine⟨hc.2.1,hc.2.2,fun i hi=>?_⟩;simp only[Option.bind_eq_some_iff]at h;obtain⟨elems,hel,_⟩:=h;obtain⟨hl,hg⟩:=O9 hel;obtain⟨x,_,hx⟩:=hg i i (by simp[hi]);obtain⟨xs,h1,h2⟩:=Option.bind_eq_some_iff.1 hx;exact⟨xs,fuel,x,h1,h2⟩
  ·cases h
theorem trod_struct(hu:P.underlying t=some (.struct fs))(h:DataW.trod enc P w 0 sp held fuel t cs=some (d,ps)):
  cs.length=P.cellsOf t/\∀f∈fs.toList,∃q x,DataW.trod enc P w 0 sp held q f.type (cut cs f.offset (P.cellsOf f.type))=some x:=by
 cases fuel with
 |zero=>simp[DataW.trod]at h
 |succ fuel=>
  unfold DataW.trod at h;rw[hu]at h;split at h<;>first|(simp_all;done)|skip
  rename_i fs' heq;cases heq;split at h
  ·rename_i hc;refine⟨hc,fun f hf=>?_⟩;simp only[Option.map_eq_some_iff]at h;obtain⟨xs,hx,_⟩:=h;obtain⟨_,hg⟩:=O9 hx;obtain⟨i,hi⟩:=List.mem_iff_getElem?.1 hf;obtain⟨x,_,hx⟩:=hg i f hi;exact⟨fuel,x,hx⟩
  ·cases h
end
theorem sI(h:w.cell? a=some v):a.block<w.heap.size:=by
 unfold World.cell? at h;cases hh:w.heap[a.block]? with
 |none=>simp[hh]at h
 |some o=>exact(Array.getElem?_eq_some_iff.1 hh).1
theorem vh(a:Addr)(m k:Nat)(h:m<=k):a.add k=(a.add m).add (k-m):=by
 simp only[Addr.add];by_cases h0:m=0
 ·subst h0;simp
 ·by_cases h1:k-m=0
  ·have:k=m:=zAD;subst this;simp[h0]
  ·have:k≠0:=zAD;simp only[h0,h1,this,if_false];congr 1;omega
theorem AX{e:TypeId}{cap:Nat}(hlc:len<=cap)(dc:cap<=maxLen)
  (h:∀i,i<len->∃xs row,w.cells? 0 (a.add (i*size)) size=some xs/\YF (Rd (Cells w) w) xs row/\TyR P n e row):
  ∃rows:List (List D),Rd (Cells w) w (.slice (some a) len cap) (.sl size rows)/\rows.length<=maxLen/\∀r∈rows,TyR P n e r/\r.length=size:=by
 have key:∀m,m<=len->∃rows:List (List D),rows.length=m/\(∀r∈rows,TyR P n e r/\r.length=size)/\
   ∀k d,rows.flatten[k]?=some d->∃v,w.cell? (a.add k)=some v/\Rd (Cells w) w v d:=by
  intro m;induction m with
  |zero=>intro _;exact⟨[],rfl,(by intro r hr;cases hr),(by intro k d hk;simp at hk)⟩
  |succ m ih=>
   intro hm;obtain⟨rows,hl,ht,hk⟩:=ih zAD;obtain⟨xs,row,hx,ni,iV⟩:=h m zAD;obtain⟨eN,hxc⟩:=vU hx;have gi:row.length=size:=by rw[<-ni.length,eN]
   have lM:rows.flatten.length=m*size:=by rw[YU rows size (fun r hr=>(ht r hr).2),hl]
   refine⟨rows++[row],by simp[hl],fun r hr=>?_,fun k d hd=>?_⟩
   ·rcases List.mem_append.1 hr with hr|hr
    ·exact ht r hr
    ·simp at hr;subst hr;exact⟨iV,gi⟩
   ·rw[List.flatten_append,List.flatten_singleton]at hd;rcases Nat.lt_or_ge k rows.flatten.length with nn|gM
    ·rw[List.getElem?_append_left nn]at hd;exact hk k d hd
    ·rw[List.getElem?_append_right gM]at hd;obtain⟨v,hv,hr⟩:=ni.get' _ d hd;refine⟨v,?_,hr⟩;have:=hxc _ v hv
     rw[show a.add k=(a.add (m*size)).add (k-rows.flatten.length)by rw[lM];rw[lM]at gM;exact vh a (m*size) k gM];exact this
 obtain⟨rows,hl,ht,hk⟩:=key len (Nat.le_refl _);refine⟨rows,?_,zAD,ht⟩;have cu:rows.flatten≠[]->a.spot=none:=by
  intro nf;obtain⟨d,tl,hcons⟩:=List.exists_cons_of_ne_nil nf;obtain⟨v,hv,_⟩:=hk 0 d (by rw[hcons];rfl);have:=World.cell?_spot hv
  simpa[Addr.add]using this
 refine .sl a len cap size rows (fun k=>(w.cell? (a.add k)).getD undef) hl hlc dc (fun r hr=>(ht r hr).2) cu (fun k d hd=>?_) (fun k d hd=>?_)
 ·obtain⟨v,hv,_⟩:=hk k d hd;have fK:a.spot=none:=cu (by intro hh;rw[hh]at hd;simp at hd)
  have he:a.add k=⟨a.block,a.off+k,none⟩:=by
   obtain⟨b,o,sp⟩:=a;simp only at fK;subst fK;simp only[Addr.add];split
   ·rename_i h0;subst h0;rfl
   ·rfl
  rw[he]at hv⊢;rw[hv];exact⟨rfl,sI (a:=⟨a.block,a.off+k,none⟩) hv⟩
 ·obtain⟨v,hv,hr⟩:=hk k d hd;simp only[hv,Option.getD_some];exact hr
theorem Om{H:Type}{enc:TypeId×Value->H}{P:Program}{w:World}{sp:Nat->Bool}{held:Bool}:∀(n:Nat){fuel:Nat}{t:TypeId}{cs:List Value}{d:DataW H}{ps:List MemPlace},SV P n t=true->Ef P n t=true->
  DataW.trod enc P w 0 sp held fuel t cs=some (d,ps)->∃row,YF (Rd (Cells w) w) cs row/\TyR P n t row
 |0,_,_,_,_,_,h,_,_=>by simp[SV]at h
 |n+1,fuel,t,cs,d,ps,hp,hl,h=>by
  simp only[SV]at hp;simp only[Ef]at hl;simp only[TyR];cases hu:P.underlying t with
  |none=>simp[hu]at hp
  |some td=>
   cases td with
   |bool=>obtain⟨b,rfl⟩:=trod_bool hu h;exact⟨_,.cons (.bool b) .nil,b,rfl⟩
   |int k=>obtain⟨m,rfl,h1,h2⟩:=trod_int hu h;exact⟨_,.cons (.int k m) .nil,m,rfl,h1,h2⟩
   |string=>obtain⟨s,rfl,h1⟩:=vp hu h;exact⟨_,.cons (.str s) .nil,s,rfl,h1⟩
   |slice e=>
    simp only[hu]at hp hl;simp only[Bool.and_eq_true]at hl;rcases trod_slice hu h with rfl|⟨a,len,cap,rfl,h1,h2,h3⟩
    ·exact⟨_,.cons (.nil (P.cellsOf e)) .nil,[],rfl,zAG,zAG⟩
    ·obtain⟨rows,hr,gi,hrt⟩:=AX (P:=P) (n:=n) (size:=P.cellsOf e) (e:=e) h1 h2 (fun i hi=>by
      obtain⟨xs,f,x,hx,ht⟩:=h3 i hi;obtain⟨row,ni,iV⟩:=Om n hp hl.2 (d:=x.1) (ps:=x.2) ht;exact⟨xs,row,hx,ni,iV⟩)
     exact⟨_,.cons hr .nil,rows,rfl,gi,hrt⟩
   |struct fs=>
    simp only[hu]at hp hl;simp only[Bool.and_eq_true]at hp hl;obtain⟨h1,h2⟩:=trod_struct hu h;obtain⟨row,ni,dQ⟩:=S6 (w:=w) (P:=P) (q:=n) h1 hl.2 (Nat.zero_le _) (fun f hf=>by
     obtain⟨q,x,hx⟩:=h2 f hf;exact Om n (List.all_eq_true.1 hp.1 f hf) (List.all_eq_true.1 hl.1 f hf) (d:=x.1) (ps:=x.2) hx)
    refine⟨row,by simpa using ni,?_,fun f hf=>by simpa using dQ [] rfl f hf⟩;have:=ni.length
    simp at this;omega
   |_=>simp[hu]at hp
open Go.RowKit Go.WideShapes Go.ChangeAt Go.ChangeShapes
theorem Fa{H:Type}{enc:TypeId×Value->H}{t:TypeId}{d:DataW H}
  (hp:SV P n t=true) (hl:Ef P n t=true) (mH:Value.okWide P w r base t v) (h:DataW.Trod enc P w 0 sp held t v d ps):∃row,Reads w v row/\TyR P n t row:=by
 obtain⟨fuel,hf⟩:=h;obtain⟨row,ni,iV⟩:=Om n hp hl hf;refine⟨row,⟨v.cells.toList,?_,ni⟩,iV⟩;cases n with
 |zero=>simp[SV]at hp
 |succ n=>
  simp only[SV]at hp;cases hu:P.underlying t with
  |none=>simp[hu]at hp
  |some td=>
   cases td with
   |bool=>obtain⟨b,rfl⟩:=okWide_bool hu mH;exact .inl ⟨_,rfl,rfl,rfl⟩
   |int k=>obtain⟨b,rfl⟩:=okWide_int hu mH;exact .inl ⟨_,rfl,rfl,rfl⟩
   |string=>obtain⟨b,rfl⟩:=okWide_string hu mH;exact .inl ⟨_,rfl,rfl,rfl⟩
   |slice e=>obtain⟨a,l,c,rfl⟩:=okWide_slice hu mH;exact .inl ⟨_,rfl,rfl,rfl⟩
   |struct fs=>obtain⟨cs,rfl,m0⟩:=okWide_struct hu mH;simp[hu]at hp;exact .inr ⟨by simp[Value.cells,m0,hp.2],by simp[Value.cells]⟩
   |_=>simp[hu]at hp
def EZ(P:Program)(n:Nat):List TypeId->List (List D)->Prop
 |[],[]=>True
 |t::ts,r::rs=>TyR P n t r/\EZ P n ts rs
 |_,_=>False
def Vn(P:Program)(n:Nat)(ts:List TypeId):Bool:=ts.all fun t=>SV P n t&&Ef P n t&&P.readableRec t&&decide (t<P.types.size)
theorem Eh{H:Type}{enc:TypeId×Value->H}{P:Program}{w:World}{sp:Nat->Bool}{held:Bool}{n base:Nat}{r:Reach}:∀{ts:List TypeId}{vs:List Value}{ds:List (DataW H)}{ps:List MemPlace},Vn P n ts=true->
  (∀(j:Nat) t v,ts[j]?=some t->vs[j]?=some v->Value.okWide P w r base t v)->DataW.TrodAll enc P w 0 sp held ts vs ds ps->∃rows,YF (Reads w) vs rows/\EZ P n ts rows
 |[],[],[],_,_,_,_=>⟨[],.nil,trivial⟩
 |t::ts,v::vs,d::ds,_,hp,mH,h=>by obtain⟨p,q,h1,h2,_⟩:=h;simp only[Vn,List.all_cons,Bool.and_eq_true]at hp;obtain⟨row,hr,ht⟩:=Fa hp.1.1.1.1 hp.1.1.1.2 (mH 0 t v rfl rfl) h1;obtain⟨rows,iw,hts⟩:=Eh (by simpa[Vn]using hp.2) (fun j t v ht hv=>mH (j+1) t v ht hv) h2;exact⟨row::rows,.cons hr iw,ht,hts⟩
 |[],[],_::_,_,_,_,h=>h.elim
 |[],_::_,_,_,_,_,h=>zBc
 |_::_,[],_,_,_,_,h=>zBc
 |_::_,_::_,[],_,_,_,h=>h.elim
theorem P3{H:Type}{enc:TypeId×Value->H}{P:Program}{n:Nat}(gN:laidOutB P=true){W W':World}(hb:Below W.heap.size W W'):∀{ts:List TypeId}{vs:List Value}{ds:List (DataW H)}{ps:List MemPlace},Vn P n ts=true->
  DataW.TrodAll enc P W 0 (fun _=>true) true ts vs ds ps->DataW.TrodAll enc P W' 0 (fun b=>decide (b<W.heap.size)) true ts vs ds ps
 |[],[],[],_,_,h=>h
 |t::ts,v::vs,d::ds,_,hp,h=>by
  obtain⟨p,q,h1,h2,rfl⟩:=h;simp only[Vn,List.all_cons,Bool.and_eq_true,decide_eq_true_eq]at hp;have lt0:∀x∈p,x.block<W.heap.size:=by obtain⟨m,hm⟩:=h1;exact DataW.trod_lt m _ _ _ hm
  exact⟨p,q,Below.trod gN hp.1.1.2 hp.1.2 h1 hb lt0,P3 gN hb (by simpa[Vn]using hp.2) h2,rfl⟩
 |[],[],_::_,_,_,h=>h.elim
 |[],_::_,_,_,_,h=>zBc
 |_::_,[],_,_,_,h=>zBc
 |_::_,_::_,[],_,_,h=>h.elim
end Go.Vm
