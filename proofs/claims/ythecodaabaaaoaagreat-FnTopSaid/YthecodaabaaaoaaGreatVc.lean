/- An abstract machine La the model of Go, by value, and that it is sound: part Vc. No condition. -/
import Derived.Test.YthecodaabaaaoaaGreatVf
import Derived.ProofKit
import Derived.OpenShut
import Derived.Below
import Derived.ChangeOld
import Derived.DataReads
import Derived.Carry
set_option linter.unusedVariables false
set_option linter.unusedSimpArgs false
namespace Go.Vm
open Go.RowKit
variable{rows res news args iJ:List (List D)}{w:World}{f:FuncId}{σ σ':St}{d id n size j base t len fuel off dj i q:Nat}{L F l1 l2:List (Nat×Nat)}{x y:Operand}{ds:List D}{held want g:Bool}{c:Call}{cs gC:List Value}{a:Addr}{fn:Func}{v:Value}{r:Reach}{S:Nat->Prop}{s:ByteArray}{e:Exit}{T:CS}
abbrev Ren:=List ((Nat×Nat)×Option (Nat×Nat))
variable{ρ all:Ren}
def xd:Ren->Nat->Nat->Option (Nat×Nat)
 |[],t,j=>some (t,j)
 |(n,o)::ρ,t,j=>if t=n.1/\j=n.2 then o else xd ρ t j
def inF:List (Nat×Nat)->Nat->Nat->Bool
 |[],_,_=>false
 |n::F,t,j=>(t==n.1&&j==n.2)||inF F t j
def Cj(σ:St)(ρ:Ren)(F:List (Nat×Nat)):At->At->Prop
 |_,.any=>True
 |.d x,.d y=>x=y
 |.nil _,.nil _=>True
 |.nil s,.d y=>y= .sl s []
 |.nil _,.sref t j lo len=>xd ρ t j=none/\lo=0/\len=0
 |.sref t j lo len,.sref t' j' cm ez=>xd ρ t' j'=some (t,j)/\lo=cm/\len=ez
 |.sref t j lo len,.d y=>inF F t j=true/\(match σ.ob t j with|.arr _ s rows=>y= .sl s (cut rows lo len)|_=>False)
 |.tref t j i c o,.tref t' j' i' c' o'=>xd ρ t' j'=some (t,j)/\i=i'/\c=c'/\o=o'/\(match σ.ob t j with|.arr true _ _=>True|_=>False)
 |.ptr t j i c,.ptr t' j' i' c'=>xd ρ t' j'=some (t,j)/\i=i'/\c=c'
 |.bptr t c,.bptr t' c'=>xd ρ t' 0=some (t,0)/\c=c'
 |.fn f t,.fn f' t'=>xd ρ t' 0=some (t,0)/\f=f'
 |.rptr r c,.rptr r' c'=>r=r'/\c=c'
 |_,_=>False
def L0(σ:St)(ρ:Ren)(F:List (Nat×Nat)):List At->List At->Prop
 |[],[]=>True
 |x::xs,y::ys=>Cj σ ρ F x y/\L0 σ ρ F xs ys
 |_,_=>False
def wkV(σ:St)(ρ:Ren)(F:List (Nat×Nat)):V->V->Prop
 |_,.any=>True
 |.one x,.one y=>Cj σ ρ F x y
 |.agg xs,.agg ys=>L0 σ ρ F xs ys
 |.fix u (.one x),.fix u' (.one y)=>u=u'/\Cj σ ρ F x y
 |.fix u (.agg xs),.fix u' (.agg ys)=>u=u'/\L0 σ ρ F xs ys
 |.fix _ (.one x),.one y=>Cj σ ρ F x y
 |.fix _ (.agg xs),.agg ys=>L0 σ ρ F xs ys
 |_,_=>False
def D9(σ:St)(ρ:Ren)(F:List (Nat×Nat))(t' j':Nat):Ob->Prop
 |.none=>True
 |.arr q size rows=>(match xd ρ t' j' with
  |none=>rows=[]
  |some (t,j)=>inF F t j=false/\(match σ.ob t j with|.arr p s r=>(p=q\/p=false/\∀x∈rows,∀y∈x,y.scalar=true)/\s=size/\r=rows|_=>False))
 |.lit _ _=>False
 |.box cells=>(match xd ρ t' j' with
  |none=>False
  |some (t,j)=>inF F t j=false/\(match σ.ob t j with|.box cs=>L0 σ ρ F cs cells|_=>False))
def vB(σ:St)(ρ:Ren)(F:List (Nat×Nat))(t:Nat):List Ob->Nat->Prop
 |[],_=>True
 |o::os,j=>D9 σ ρ F t j o/\vB σ ρ F t os (j+1)
def Rv(σ:St)(ρ:Ren)(F:List (Nat×Nat)):List Ent->List Ent->Nat->Prop
 |[],[],_=>True
 |e::es,e'::ao,t=>(wkV σ ρ F e.1 e'.1/\vB σ ρ F t e'.2 0)/\Rv σ ρ F es ao (t+1)
 |_,_,_=>False
def zf:Ren->Nat->Nat->Bool
 |[],_,_=>false
 |(n,_)::ρ,t,j=>(t==n.1&&j==n.2)||zf ρ t j
def VA:Ren->Nat->Nat->Bool
 |[],_,_=>false
 |(_,some o)::ρ,t,j=>(t==o.1&&j==o.2)||VA ρ t j
 |(_,none)::ρ,t,j=>VA ρ t j
def wk(σ':St)(t j:Nat):Bool:=match σ'.ob t j with|.none=>true|_=>false
def Uk(σ':St)(all:Ren):Ren->Bool
 |[]=>true
 |(_,some o)::ρ=>!VA ρ o.1 o.2&&(zf all o.1 o.2||wk σ' o.1 o.2)&&Uk σ' all ρ
 |(_,none)::ρ=>Uk σ' all ρ
theorem Vn:∀{ρ:Ren}{t j:Nat},zf ρ t j=false->xd ρ t j=some (t,j)
 |[],_,_,_=>rfl
 |(n,o)::ρ,t,j,h=>by
  simp only[zf,Bool.or_eq_false_iff,Bool.and_eq_false_iff,beq_eq_false_iff_ne]at h
  simp only[xd]
  rw[if_neg (by rintro⟨h1,h2⟩;rcases h.1 with h3|h3<;>contradiction)]
  exact Vn h.2
theorem SK:∀{ρ:Ren}{t j:Nat}{o:Nat×Nat},zf ρ t j=true->xd ρ t j=some o->VA ρ o.1 o.2=true
 |[],_,_,_,h,_=>by simp[zf]at h
 |(n,o')::ρ,t,j,o,h,ho=>by
  simp only[xd]at ho
  split at ho
  ·subst ho;simp[VA]
  ·rename_i iH
   have h':zf ρ t j=true:=by
    simp only[zf,Bool.or_eq_true,Bool.and_eq_true,beq_iff_eq]at h
    rcases h with h|h
    ·exact absurd h iH
    ·exact h
   have:=SK h' ho
   cases o' with
   |none=>simpa[VA]using this
   |some o'=>simp[VA,this]
theorem Ez{σ':St}{all:Ren}:∀{ρ:Ren}{t j t' j':Nat}{o:Nat×Nat},Uk σ' all ρ=true->zf ρ t j=true->zf ρ t' j'=true->xd ρ t j=some o->xd ρ t' j'=some o->(t,j)=(t',j')
 |[],_,_,_,_,_,_,h,_,_,_=>by simp[zf]at h
 |(n,o')::ρ,t,j,t',j',o,iz,hn,gF,ho,hD=>by
  have hokr:Uk σ' all ρ=true:=by
   cases o' with
   |none=>simpa[Uk]using iz
   |some o'=>simp only[Uk,Bool.and_eq_true]at iz;exact iz.2
  simp only[xd]at ho hD
  by_cases h1:t=n.1/\j=n.2
  ·rw[if_pos h1]at ho
   by_cases h2:t'=n.1/\j'=n.2
   ·rw[h1.1,h1.2,h2.1,h2.2]
   ·rw[if_neg h2]at hD
    have h':zf ρ t' j'=true:=by
     simp only[zf,Bool.or_eq_true,Bool.and_eq_true,beq_iff_eq]at gF
     exact gF.resolve_left h2
    have hold:=SK h' hD
    subst ho
    simp only[Uk,Bool.and_eq_true,Bool.not_eq_true']at iz
    rw[hold]at iz;cases iz.1.1
  ·rw[if_neg h1]at ho
   have h:zf ρ t j=true:=by
    simp only[zf,Bool.or_eq_true,Bool.and_eq_true,beq_iff_eq]at hn
    exact hn.resolve_left h1
   by_cases h2:t'=n.1/\j'=n.2
   ·rw[if_pos h2]at hD
    have hold:=SK h ho
    subst hD
    simp only[Uk,Bool.and_eq_true,Bool.not_eq_true']at iz
    rw[hold]at iz;cases iz.1.1
   ·rw[if_neg h2]at hD
    have h':zf ρ t' j'=true:=by
     simp only[zf,Bool.or_eq_true,Bool.and_eq_true,beq_iff_eq]at gF
     exact gF.resolve_left h2
    exact Ez hokr h h' ho hD
theorem Sb{σ':St}{all:Ren}:∀{ρ:Ren}{t j:Nat},Uk σ' all ρ=true->VA ρ t j=true->zf all t j=true\/σ'.ob t j= .none
 |[],_,_,_,h=>by simp[VA]at h
 |(n,o')::ρ,t,j,iz,h=>by
  cases o' with
  |none=>exact Sb (ρ:=ρ) (by simpa[Uk]using iz) (by simpa[VA]using h)
  |some o=>
   simp only[Uk,Bool.and_eq_true,Bool.or_eq_true]at iz
   simp only[VA,Bool.or_eq_true,Bool.and_eq_true,beq_iff_eq]at h
   rcases h with⟨rfl,rfl⟩|h
   ·refine iz.1.2.imp id fun hf=>?_
    unfold wk at hf;split at hf<;>first|assumption|cases hf
   ·exact Sb iz.2 h
theorem rz(iz:Uk σ' ρ ρ=true){t' j':Nat}{o:Nat×Nat}(h1:σ'.ob t j≠ .none)(h2:σ'.ob t' j'≠ .none)(ho:xd ρ t j=some o)(hD:xd ρ t' j'=some o):t=t'/\j=j':=by
 cases hn:zf ρ t j with
 |true=>
  cases gF:zf ρ t' j' with
  |true=>have:=Ez iz hn gF ho hD;cases this;exact⟨rfl,rfl⟩
  |false=>
   have cI:=Vn gF;rw[cI]at hD;cases hD;have hold:=SK hn ho;rcases Sb iz hold with h|h
   ·rw[gF]at h;cases h
   ·exact absurd h h2
 |false=>
  have cI:=Vn hn;rw[cI]at ho;cases ho;cases gF:zf ρ t' j' with
  |true=>
   have hold:=SK gF hD;rcases Sb iz hold with h|h
   ·rw[hn]at h;cases h
   ·exact absurd h h1
  |false=>
   have hid':=Vn gF;rw[hid']at hD;cases hD;exact⟨rfl,rfl⟩
theorem OR{σ:St}{ρ:Ren}{F:List (Nat×Nat)}:∀{es ao:List Ent}{t:Nat},Rv σ ρ F es ao t->es.length=ao.length
 |[],[],_,_=>rfl
 |_::_,_::_,_,h=>by simp[OR h.2]
 |[],_::_,_,h=>h.elim
 |_::_,[],_,h=>h.elim
theorem Hg{σ:St}{ρ:Ren}{F:List (Nat×Nat)}:∀{es ao:List Ent}{t:Nat},Rv σ ρ F es ao t->∀(i:Nat),wkV σ ρ F (St.get es i) (St.get ao i)/\∀j,D9 σ ρ F (t+i) j (St.ob ao i j)
 |[],[],t,_,i=>⟨by simp[St.get,wkV],fun j=>by simp[St.ob,D9]⟩
 |e::es,e'::ao,t,h,0=>by
  refine⟨h.1.1,fun j=>?_⟩
  have:∀(os:List Ob)(k:Nat),vB σ ρ F t os k->∀j,D9 σ ρ F t (k+j) (Yt os j):=by
   intro os
   induction os with
   |nil=>intro k _ j;simp[Yt,D9]
   |cons o os ih=>
    intro k hk j
    cases j with
    |zero=>exact hk.1
    |succ j=>have:=ih (k+1) hk.2 j;rw[show k+(j+1)=k+1+j by omega];simpa[Yt]using this
  have:=this e'.2 0 h.1.2 j
  simpa using this
 |e::es,e'::ao,t,h,i+1=>by
  have:=Hg h.2 i
  rw[show t+(i+1)=t+1+i by omega]
  simpa[St.get,St.ob]using this
 |[],_::_,_,h,_=>h.elim
 |_::_,[],_,h,_=>h.elim
theorem sE{xs:List Value}(iN:YC (Rd T w) xs ds)(hf:∀d∈ds,d.scalar=true):Ke w xs ds S:=
 ⟨iN.length,fun _ _=>False,fun k x d hx hd=>by
  obtain⟨d',ic,hr⟩:=iN.get k x hx
  rw[hd]at ic;cases ic
  exact Rd.own (hf d (List.mem_of_getElem? hd)) hr,fun _ _ hb=>hb.elim,fun _ _ _ hb=>hb.elim⟩
theorem XO(ρ:Ren)(F:List (Nat×Nat))(iz:Uk σ' ρ ρ=true)(hs:Rv σ ρ F σ σ' 0):Wk σ σ':=by
 rintro T0 B a w ⟨X,h,r⟩;let h':Nat->Nat->Hd:=fun t j=>match xd ρ t j with|some o=>h o.1 o.2|none=>Hd.of (.slice none 0 0)
 let X':Nat->Prop:=fun b=>X b\/∃t j,inF F t j=true/\σ.ob t j≠ .none/\(h t j).u b
 have hlen:=OR hs;have gW:=Hg hs;have iu:∀t j,D9 σ ρ F t j (σ'.ob t j):=fun t j=>by have:=(gW t).2 j;simpa using this
 have bY:∀b k v,Tof T0 X b k->w.cell? ⟨b,k,none⟩=some v->w.cell? ⟨b,k,none⟩=some v/\Tof T0 X' b k:=fun b k v hb hc=>⟨hc,hb.imp id .inl⟩;have dv:∀t' j' q size rows,σ'.ob t' j'= .arr q size rows->(xd ρ t' j'=none/\rows=[])\/∃t j p,xd ρ t' j'=some (t,j)/\inF F t j=false/\σ.ob t j= .arr p size rows/\(p=q\/p=false/\∀x∈rows,∀y∈x,y.scalar=true):=by
  intro t' j' q size rows ho;have:=iu t' j'
  rw[ho]at this;simp only[D9]at this;split at this
  ·rename_i hn;exact .inl ⟨hn,this⟩
  ·rename_i t j hn;obtain⟨hF,this⟩:=this;split at this
   ·rename_i p s r gO;obtain⟨hp,rfl,rfl⟩:=this;exact .inr ⟨t,j,p,hn,hF,gO,hp⟩
   ·exact this.elim
 have cw:∀t' j' size rows,σ'.ob t' j'≠ .lit size rows:=by
  intro t' j' size rows ho;have:=iu t' j'
  rw[ho]at this;exact this
 have cx:∀t' j' cells,σ'.ob t' j'= .box cells->∃t j cs,xd ρ t' j'=some (t,j)/\inF F t j=false/\σ.ob t j= .box cs/\L0 σ ρ F cs cells:=by
  intro t' j' cells ho;have:=iu t' j'
  rw[ho]at this;simp only[D9]at this;split at this
  ·exact this.elim
  ·rename_i t j hn;obtain⟨hF,this⟩:=this;split at this
   ·rename_i cs gO;exact⟨t,j,cs,hn,hF,gO,this⟩
   ·exact this.elim
 have at_:∀{x y:At}{v:Value},Cj σ ρ F x y->YK (Tof T0 X) h σ.ob w x v->YK (Tof T0 X') h' σ'.ob w y v:=by
  intro x y v hw hr;have h1:=YK.QQ hr
  cases y with
  |any=>exact h1
  |d y=>
   cases x with
   |d x=>simp only[Cj]at hw;subst hw;exact Rd.mono bY hr
   |nil s=>simp only[Cj]at hw;subst hw;cases hr;exact .nil _
   |sref t j lo len=>
    simp only[Cj]at hw;obtain⟨hF,hw⟩:=hw;split at hw
    ·rename_i q s rows ho;subst hw;exact r.vA ho hr _ (fun b k hb=>hb.imp id .inl) (fun b k hb=>.inr (.inr ⟨t,j,hF,by rw[ho];simp,hb⟩))
    ·exact hw.elim
   |_=>exact hw.elim
  |nil s=>
   cases x with
   |nil s'=>exact hr
   |_=>exact hw.elim
  |sref t' j' cm ez=>
   cases x with
   |nil s=>
    obtain⟨hn,rfl,rfl⟩:=hw;cases hr;refine⟨rfl,fun q size rows ho=>?_,fun size rows ho=>absurd ho (cw _ _ _ _)⟩;simp only[h',hn];exact⟨zAA,fun _ _=>rfl,fun _=>rfl,none,0,rfl,zAA,by simp[maxLen],fun _=>rfl,fun hh=>absurd hh zAA⟩
   |sref t j lo len=>
    obtain⟨hn,rfl,rfl⟩:=hw;refine⟨h1,fun q size rows ho=>?_,fun size rows ho=>absurd ho (cw _ _ _ _)⟩;rcases dv t' j' q size rows ho with⟨gF,_⟩|⟨t2,j2,p,gF,_,gO,_⟩
    ·rw[hn]at gF;cases gF
    ·rw[hn]at gF;cases gF;simp only[h',hn];exact hr.2.1 p size rows gO
   |_=>exact hw.elim
  |ptr t' j' i' c'=>
   cases x with
   |ptr t j i c=>
    obtain⟨hn,rfl,rfl⟩:=hw;refine⟨h1,fun q size rows ho=>?_⟩;rcases dv t' j' q size rows ho with⟨gF,_⟩|⟨t2,j2,p,gF,_,gO,_⟩
    ·rw[hn]at gF;cases gF
    ·rw[hn]at gF;cases gF;simp only[h',hn];exact hr.2 p size rows gO
   |_=>exact hw.elim
  |tref t' j' i' c' o'=>
   cases x with
   |tref t j i c o=>
    obtain⟨hn,rfl,rfl,rfl,hq⟩:=hw;refine⟨h1,fun size rows ho=>?_⟩;rcases dv t' j' true size rows ho with⟨gF,_⟩|⟨t2,j2,p,gF,_,gO,hp⟩
    ·rw[hn]at gF;cases gF
    ·rw[hn]at gF;cases gF;simp only[h',hn];rcases hp with rfl|⟨rfl,gk⟩
     ·exact hr.2 size rows gO
     ·rw[gO]at hq;exact hq.elim
   |_=>exact hw.elim
  |bptr t' c'=>
   cases x with
   |bptr t c=>
    obtain⟨hn,rfl⟩:=hw;refine⟨h1,fun cells ho=>?_⟩;obtain⟨t2,j2,cs,gF,_,gO,_⟩:=cx t' 0 cells ho;rw[hn]at gF;cases gF;simp only[h',hn];exact hr.2 cs gO
   |_=>exact hw.elim
  |fn f' t'=>
   cases x with
   |fn f t=>
    obtain⟨hn,rfl⟩:=hw;refine⟨h1,fun cells ho=>?_⟩;obtain⟨t2,j2,cs,gF,_,gO,_⟩:=cx t' 0 cells ho;rw[hn]at gF;cases gF;simp only[h',hn];exact hr.2 cs gO
   |_=>exact hw.elim
  |rptr r' c'=>
   cases x with
   |rptr r0 c=>
    obtain⟨rfl,rfl⟩:=hw;obtain⟨b,off,g,e,hk⟩:=hr;exact⟨b,off,g,e,fun k d hd=>⟨(hk k d hd).1,(hk k d hd).2.1.imp id .inl,Rd.mono bY (hk k d hd).2.2⟩⟩
   |_=>exact hw.elim
 have ats_:∀{xs ys:List At}{vs:List Value},L0 σ ρ F xs ys->YC (YK (Tof T0 X) h σ.ob w) xs vs->YC (YK (Tof T0 X') h' σ'.ob w) ys vs:=by
  intro xs;induction xs with
  |nil=>intro ys vs hw hr;cases ys with
   |nil=>cases hr;exact .nil
   |cons y ys=>exact hw.elim
  |cons x xs ih=>intro ys vs hw hr;cases ys with
   |nil=>exact hw.elim
   |cons y ys=>cases hr with
    |cons h1 hr=>exact .cons (at_ hw.1 h1) (ih hw.2 hr)
 have v_:∀{x y:V}{v:Value},wkV σ ρ F x y->JU (Tof T0 X) h σ.ob w x v->JU (Tof T0 X') h' σ'.ob w y v:=by
  intro x y v hw hr;cases y with
  |any=>trivial
  |one y=>cases x with
   |one x=>exact at_ hw hr
   |fix u x=>cases x with
    |one x=>exact at_ hw hr.2
    |_=>exact hw.elim
   |_=>exact hw.elim
  |agg ys=>cases x with
   |agg xs=>obtain⟨cs,e,hr⟩:=hr;exact⟨cs,e,ats_ hw hr⟩
   |fix u x=>cases x with
    |agg xs=>obtain⟨cs,e,hr⟩:=hr.2;exact⟨cs,e,ats_ hw hr⟩
    |_=>exact hw.elim
   |_=>exact hw.elim
  |tup ys=>cases x with
   |fix u x=>cases x<;>exact hw.elim
   |_=>exact hw.elim
  |cnd g y=>cases x with
   |fix u x=>cases x<;>exact hw.elim
   |_=>exact hw.elim
  |fix u' y=>cases x with
   |fix u x=>cases x with
    |one x=>cases y with
     |one y=>obtain⟨rfl,hw⟩:=hw;exact⟨hr.1,at_ hw hr.2⟩
     |_=>exact hw.elim
    |agg xs=>cases y with
     |agg ys=>obtain⟨rfl,hw⟩:=hw;obtain⟨e1,cs,e,hr⟩:=hr;exact⟨e1,cs,e,ats_ hw hr⟩
     |_=>exact hw.elim
    |_=>cases y<;>exact hw.elim
   |_=>cases y<;>exact hw.elim
 have iH:∀t j,σ'.ob t j≠ .none->(xd ρ t j=none/\∀b,¬(h' t j).u b)\/∃o,xd ρ t j=some o/\σ.ob o.1 o.2≠ .none/\inF F o.1 o.2=false/\h' t j=h o.1 o.2:=by
  intro t j hn;cases ho:σ'.ob t j with
  |none=>exact absurd ho hn
  |arr q size rows=>
   rcases dv t j q size rows ho with⟨gF,_⟩|⟨t2,j2,p,gF,hF,gO,_⟩
   ·exact .inl ⟨gF,fun b hb=>by simp only[h',gF,Hd.of,blk]at hb;cases hb⟩
   ·exact .inr ⟨(t2,j2),gF,by rw[gO];simp,hF,by simp only[h',gF]⟩
  |lit size rows=>exact absurd ho (cw _ _ _ _)
  |box cells=>
   obtain⟨t2,j2,cs,gF,hF,gO,_⟩:=cx t j cells ho;exact .inr ⟨(t2,j2),gF,by rw[gO];simp,hF,by simp only[h',gF]⟩
 refine⟨X',h',by rw[r.size,hlen],r.defers,r.hB,fun b hb=>?_,r.hT,fun t ht=>?_,fun t j=>?_,fun t j b hn hb=>?_,fun t j b hn hb=>?_,fun t j t' j' b hn gF hb iq=>?_⟩
 ·rcases hb with hb|⟨t,j,_,hn,hb⟩
  ·exact r.hX b hb
  ·have:=r.own t j b hn hb;exact⟨this.1,this.2.2⟩
 ·exact v_ (gW t).1 (r.slot t (by rw[hlen];exact ht))
 ·cases ho:σ'.ob t j with
  |none=>trivial
  |lit size rows=>exact absurd ho (cw _ _ _ _)
  |arr q size rows=>
   rcases dv t j q size rows ho with⟨hn,rfl⟩|⟨u,k,p,hn,_,gO,hp⟩
   ·have:h' t j=Hd.of (.slice none 0 0):=by simp only[h',hn]
    rw[this];cases q with
    |false=>exact⟨0,[],World.ownsRow_nil w 0 0 size,zBA,.nil⟩
    |true=>exact⟨0,[],World.ownsRow_nil w 0 0 size,zBA,Ke.nil _,fun k x d hx=>by simp at hx⟩
   ·have he:h' t j=h u k:=by simp only[h',hn]
    rw[he];have h0:=r.obj u k
    rw[gO]at h0;cases p with
    |false=>
     obtain⟨e,xs,iS,hz,iN⟩:=h0;cases q with
     |false=>exact⟨e,xs,iS,hz,iN.imp fun _ _=>Rd.mono bY⟩
     |true=>
      rcases hp with hp|⟨_,gk⟩
      ·cases hp
      ·have aP:∀d∈rows.flatten,d.scalar=true:=fun d hd=>by
        obtain⟨r0,ep,hdr⟩:=List.mem_flatten.1 hd;exact gk r0 ep d hdr
       exact⟨e,xs,iS,hz,sE iN aP,fun k x d _ hd hs=>by rw[aP d (List.mem_of_getElem? hd)]at hs;cases hs⟩
    |true=>
     rcases hp with rfl|⟨hp,_⟩
     ·exact h0
     ·cases hp
  |box cells=>
   obtain⟨u,k,cs,hn,_,gO,fX⟩:=cx t j cells ho;have h0:=r.obj u k
   rw[gO]at h0;obtain⟨b,vs,e,hv,hh,iN⟩:=h0;have he:h' t j=h u k:=by simp only[h',hn]
   rw[he];exact⟨b,vs,e,hv,hh,ats_ fX iN⟩
 ·rcases iH t j hn with⟨hr,_⟩|⟨o,hr,dm,hF,he⟩
  ·simp only[h',hr,Hd.of,blk]at hb;cases hb
  ·rw[he]at hb⊢;exact r.ub o.1 o.2 b dm hb
 ·rcases iH t j hn with⟨_,dm⟩|⟨o,hr,dm,hF,he⟩
  ·exact absurd hb (dm b)
  ·rw[he]at hb;have h0:=r.own o.1 o.2 b dm hb
   refine⟨h0.1,?_,h0.2.2⟩;rintro(hx|⟨t2,j2,hF2,hn2,hZ⟩)
   ·exact h0.2.1 hx
   ·obtain⟨h3,h4⟩:=r.inj o.1 o.2 t2 j2 b dm hn2 hb hZ;rw[h3,h4]at hF;rw[hF]at hF2;cases hF2
 ·rcases iH t j hn with⟨_,dm⟩|⟨o,hr,dm,_,he⟩
  ·exact absurd hb (dm b)
  ·rcases iH t' j' gF with⟨_,hno'⟩|⟨o',gb,hno',_,he'⟩
   ·exact absurd iq (hno' b)
   ·rw[he]at hb;rw[he']at iq;obtain⟨h3,h4⟩:=r.inj o.1 o.2 o'.1 o'.2 b dm hno' hb iq;have:o=o':=Prod.ext h3 h4
    subst this;exact rz iz hn gF hr gb
theorem Kl(hs:Rv σ [] [] σ σ' 0):Wk σ σ':=XO [] [] rfl hs
attribute [simp] xd inF Cj L0 wkV D9 vB Rv zf VA wk Uk
open Go.RowKit
variable{P:Program}{ops:Array Oper}{rest:List Oper}{bar:Oper->Bool}{Q:St->Prop}
def Xe(P:Program)(σ:St):List Operand->List TypeId->Prop×Option (List (List D))
 |[],_=>(True,some [])
 |x::xs,t::ts=>(gOf (look P σ t x)=true/\(Xe P σ xs ts).1,match(unc (look P σ t x)).zb σ,(Xe P σ xs ts).2 with|some r,some rs=>some (r::rs)|_,_=>none)
 |_::_,[]=>(False,none)
theorem qh{P:Program}{σ:St}:∀{xs:List Operand}{ts:List TypeId}{rs:List (List D)},(Xe P σ xs ts).1->(Xe P σ xs ts).2=some rs->JE P σ xs ts rs
 |[],_,rs,_,h=>by simp[Xe]at h;exact h
 |x::xs,t::ts,rs,h1,h=>by
  simp only[Xe]at h
  split at h
  ·rename_i r rs' hr eJ
   cases h
   exact⟨h1.1,r,rs',hr,qh h1.2 eJ,rfl⟩
  ·cases h
 |_::_,[],_,h1,_=>h1.elim
attribute [simp] Xe
theorem HY{o:Oper}{own:Bool}(iE:o.op= .call c)(hc:c.callee= .value (.func f))(hg:o.guard=none)(hd:o.dst=some d)
  (hs:JK P f own rows res) (ij:(Xe P σ c.args.toList c.argTypes.toList).2=some rows) (iT:(Xe P σ c.args.toList c.argTypes.toList).1) (hC:Ym P σ c.args.toList c.argTypes.toList=true\/Kn own res) (h:Ev P ops bar rest (σ.put d (jF res)) Q):jx P ops bar o rest σ Q:=
 Bg iE hc hg hd (qh iT ij) hs hC h
theorem su{o:Oper}(iE:o.op= .call c)(hc:c.callee= .value (.func f))(hg:o.guard=none)(hd:o.dst=some d)
  (hs:JK P f true rows res) (ij:(Xe P σ c.args.toList c.argTypes.toList).2=some rows) (iT:(Xe P σ c.args.toList c.argTypes.toList).1) (hC:Ym P σ c.args.toList c.argTypes.toList=true\/Kn true res) (hf:σ.fresh d=true) (h:Ev P ops bar rest (σ.new d (kJ d res) (xy res.flatten)) Q):jx P ops bar o rest σ Q:=
 CH iE hc hg hd (qh iT ij) hs hC hf h
theorem CR{o:Oper}(qs:List Bool)(iE:o.op= .call c)(hc:c.callee= .value (.func f))(hg:o.guard=none)(hd:o.dst=some d)
  (hs:Yg P f rows res) (ij:(Xe P σ c.args.toList c.argTypes.toList).2=some rows) (iT:(Xe P σ c.args.toList c.argTypes.toList).1) (hq:xe qs res.flatten) (hf:σ.fresh d=true) (h:Ev P ops bar rest (σ.new d (kJ d res) (Ya qs res.flatten)) Q):jx P ops bar o rest σ Q:=
 Au qs iE hc hg hd (qh iT ij) hs hq hf h
theorem Co{o:Oper}{own:Bool}{res:List D}(iE:o.op= .call c)(hc:c.callee= .value (.func f))(hg:o.guard=some (j,want))(hd:o.dst=some d)
  (fA:(ops[j]?).bind (·.dst)=some dj) (fK:jR want (σ.get dj)=some g) (hs:g=true->JK P f own rows [res])
  (ij:(Xe P σ c.args.toList c.argTypes.toList).2=some rows) (iQ:dj<σ.length)
  (iT:g=true->(Xe P σ c.args.toList c.argTypes.toList).1) (hC:Ym P σ c.args.toList c.argTypes.toList=true\/Kn own [res]) (h:Ev P ops bar rest (σ.put d (.cnd g (jF [res]))) Q):jx P ops bar o rest σ Q:=
 w9 iE hc hg hd fA iQ fK (fun hh=>qh (iT hh) ij) hs hC h
def Yx:Nat->List (Nat×V×List Ob)->St
 |n,[]=>List.replicate n (V.any,[])
 |n,(t,v,os)::l=>(Yx n l).new t v os
attribute [simp] Yx
open Go.RowKit
variable{parts:Array (Nat×Operand)}
def og(P:Program)(b:Bool)(x y:Code)(Q:Exit->St->Prop)(σ:St):Prop:=(b=true->AWP P x Q σ)/\(b=false->AWP P y Q σ)
def oR(P:Program)(c:Code)(Q:Exit->St->Prop)(σ:St):Prop:=AWP P (.loop c) Q σ
def oZ(P:Program)(id:Nat)(ops:Array Oper)(Q:Exit->St->Prop)(σ:St):Prop:=AWP P (.region id ops true) Q σ
def FJ(P:Program)(c:Code)(Q:Exit->St->Prop)(σ:St):Prop:=AWP P c Q σ
def Wx(P:Program):Code->(Exit->St->Prop)->St->Prop
 |.seq x y,Q,σ=>Wx P x (GH (Wx P y Q) Q) σ
 |.region _ ⟨l⟩ false,Q,σ=>Ev P ⟨l⟩ (fun _=>true) l σ (Q .normal)
 |.region id ops true,Q,σ=>oZ P id ops Q σ
 |.cond c x y,Q,σ=>(match look P σ 0 c with|.one (.d (.bool b))=>og P b x y Q σ|_=>False)
 |.block id c,Q,σ=>Wx P c (PH id Q) σ
 |.loop c,Q,σ=>oR P c Q σ
 |.skip,Q,σ=>Q .normal σ
 |.exit id,Q,σ=>Q (.exit id) σ
 |.ret,Q,σ=>Q .ret σ
 |.rangeFunc f ps x y,Q,σ=>FJ P (.rangeFunc f ps x y) Q σ
 |.scope c,Q,σ=>FJ P (.scope c) Q σ
 |.label l,Q,σ=>FJ P (.label l) Q σ
 |.goto l,Q,σ=>FJ P (.goto l) Q σ
 |.refuse s,Q,σ=>FJ P (.refuse s) Q σ
theorem UQ{P:Program}:∀{c:Code}{Q:Exit->St->Prop}{σ:St},Wx P c Q σ->AWP P c Q σ
 |.seq x y,Q,σ,h=>by
  rw[Wx]at h
  refine pJ (C6 (fun e σ' hq=>?_) (UQ h))
  cases e<;>simp only[GH]at hq⊢<;>first|exact UQ hq|exact hq
 |.region _ ⟨l⟩ false,Q,σ,h=>nG h
 |.region id ops true,Q,σ,h=>h
 |.cond c x y,Q,σ,h=>by
  rw[Wx]at h
  split at h
  ·rename_i b hb;exact tq hb h.1 h.2
  ·exact h.elim
 |.block id c,Q,σ,h=>uL (UQ (by rw[Wx]at h;exact h))
 |.loop c,Q,σ,h=>h
 |.skip,Q,σ,h=>sw h
 |.exit id,Q,σ,h=>tY h
 |.ret,Q,σ,h=>pE h
 |.rangeFunc _ _ _ _,Q,σ,h=>h
 |.scope _,Q,σ,h=>h
 |.label _,Q,σ,h=>h
 |.goto _,Q,σ,h=>h
 |.refuse _,Q,σ,h=>h
class xg where
 c:Code
class Kp where
 ops:Array Oper
 bar:Oper->Bool
variable{A:Kp}
class zY where
 l:List Oper
variable{l:zY}
class OpI where
 o:Oper
variable{o:OpI}
class inductive Fr where
 |fin (Q:Exit->St->Prop)
 |sq (y:Code) (k:Fr)
 |blk (id:Nat) (k:Fr)
 |nxt (n:St->Prop) (k:Fr)
variable{k:Fr}
def Fr.run(P:Program):Fr->Exit->St->Prop
 |.fin Q,e,σ=>Q e σ
 |.sq y k,e,σ=>GH (Wx P y (Fr.run P k)) (Fr.run P k) e σ
 |.blk id k,e,σ=>PH id (Fr.run P k) e σ
 |.nxt n k,e,σ=>GH n (Fr.run P k) e σ
def WI(P:Program)(σ:St)[c:xg][k:Fr]:Prop:=Wx P c.c (k.run P) σ
def LI(P:Program)(e:Exit)(σ:St)[k:Fr]:Prop:=k.run P e σ
def EI(P:Program)(σ:St)[A:Kp][l:zY][k:Fr]:Prop:=Ev P A.ops A.bar l.l σ (k.run P .normal)
def SI(P:Program)(σ:St)[A:Kp][o:OpI][l:zY][k:Fr]:Prop:=jx P A.ops A.bar o.o l.l σ (k.run P .normal)
def CI(P:Program)(b:Bool)(σ:St)[x:xg][y:xg][k:Fr]:Prop:=og P b x.c y.c (k.run P) σ
def RF(P:Program)(σ:St)[c:xg][k:Fr]:Prop:=oR P c.c (k.run P) σ
def DI(P:Program)(id:Nat)(σ:St)[A:Kp][k:Fr]:Prop:=oZ P id A.ops (k.run P) σ
theorem nT{x y:Code}:@WI P σ ⟨.seq x y⟩ k=@WI P σ ⟨x⟩ (.sq y k):=by
 simp only[WI];rw[Wx];congr 1
theorem uN{l:List Oper}:@WI P σ ⟨.region id ⟨l⟩ false⟩ k=@EI P σ ⟨⟨l⟩,fun _=>true⟩ ⟨l⟩ k:=by simp only[WI,EI,Wx]
theorem pZ:@WI P σ ⟨.region id ops true⟩ k=@DI P id σ ⟨ops,fun _=>true⟩ k:=by simp only[WI,DI,Wx]
theorem pY{c:Operand}{x y:Code}:@WI P σ ⟨.cond c x y⟩ k=(match look P σ 0 c with|.one (.d (.bool b))=>@CI P b σ ⟨x⟩ ⟨y⟩ k|_=>False):=by simp only[WI,CI,Wx]
theorem sN{c:Code}:@WI P σ ⟨.block id c⟩ k=@WI P σ ⟨c⟩ (.blk id k):=by
 simp only[WI];rw[Wx];congr 1
theorem pI{c:Code}:@WI P σ ⟨.loop c⟩ k=@RF P σ ⟨c⟩ k:=by simp only[WI,RF,Wx]
theorem pa:@WI P σ ⟨.skip⟩ k=@LI P .normal σ k:=by simp only[WI,LI,Wx]
theorem rq:@WI P σ ⟨.exit id⟩ k=@LI P (.exit id) σ k:=by simp only[WI,LI,Wx]
theorem oy:@WI P σ ⟨.ret⟩ k=@LI P .ret σ k:=by simp only[WI,LI,Wx]
theorem nR{Q:Exit->St->Prop}:@LI P e σ (.fin Q)=Q e σ:=rfl
theorem mF{y:Code}:@LI P .normal σ (.sq y k)=@WI P σ ⟨y⟩ k:=rfl
theorem Ay{y:Code}:@LI P (.exit id) σ (.sq y k)=@LI P (.exit id) σ k:=rfl
theorem uW{y:Code}:@LI P .ret σ (.sq y k)=@LI P .ret σ k:=rfl
theorem nV{n:St->Prop}:@LI P .normal σ (.nxt n k)=n σ:=rfl
theorem AL{n:St->Prop}:@LI P (.exit id) σ (.nxt n k)=@LI P (.exit id) σ k:=rfl
theorem Ai{n:St->Prop}:@LI P .ret σ (.nxt n k)=@LI P .ret σ k:=rfl
theorem nL:@LI P .normal σ (.blk id k)=@LI P .normal σ k:=rfl
theorem w6:@LI P .ret σ (.blk id k)=@LI P .ret σ k:=rfl
theorem BF{id':Nat}:@LI P (.exit id') σ (.blk id k)=if id'=id then@LI P .normal σ k else@LI P (.exit id') σ k:=rfl
theorem nK:@EI P σ A ⟨[]⟩ k=@LI P .normal σ k:=by simp only[EI,LI,Ev]
theorem ry{o:Oper}:@EI P σ A ⟨o::rest⟩ k=
  (if stops P A.bar o then@SI P σ A ⟨o⟩ ⟨rest⟩ k else
  match o.guard with
  |none=>
   (match o.dst with
   |some d=>(evS P σ o d).1/\@EI P (evS P σ o d).2 A ⟨rest⟩ k
   |none=>(match o.op with|.store T x y=>if oz P σ T x y then@SI P σ A ⟨o⟩ ⟨rest⟩ k else(Bn P σ T x y).1/\@EI P (Bn P σ T x y).2 A ⟨rest⟩ k|_=>False))
  |some (j,want)=>
   (match(A.ops[j]?).bind (·.dst),o.dst with
   |some dj,some d=>(match jR want (σ.get dj)with
    |some g=>(dj<σ.length/\(g=true->(evV P σ o.op o.type).1/\gOf (evV P σ o.op o.type).2=true/\(unc (evV P σ o.op o.type).2).flat=true))/\@EI P (σ.put d (.cnd g (unc (evV P σ o.op o.type).2))) A ⟨rest⟩ k
    |none=>False)
   |_,_=>False)):=by
 simp only[EI,SI]
 rw[Ev]
 rfl
theorem rC{c:Code}(hf:P.funcs[f]?=some fn)(hb:fn.body=some c)(iz:Tf P f=true){own:Bool}
  (hw:@WI P (ki fn.ntmps args) ⟨c⟩ (.fin (AE P fn own res))):JK P f own args res:=Dl hf hb iz (UQ hw)
theorem vk{own:Bool}{res:List D}(iE:o.o.op= .call c)(hc:c.callee= .value (.func f))(hg:o.o.guard=some (j,want))(hd:o.o.dst=some d)
  (fA:(A.ops[j]?).bind (·.dst)=some dj) (fK:jR want (σ.get dj)=some g) (hs:g=true->JK P f own rows [res])
  (ij:(Xe P σ c.args.toList c.argTypes.toList).2=some rows) (iQ:dj<σ.length)
  (iT:g=true->(Xe P σ c.args.toList c.argTypes.toList).1) (hC:Ym P σ c.args.toList c.argTypes.toList=true\/Kn own [res]) (h:@EI P (σ.put d (.cnd g (jF [res]))) A l k):@SI P σ A o l k:=
 Co iE hc hg hd fA fK hs ij iQ iT hC h
theorem pR{rest:zY}{S T:TypeId}(iE:o.o.op= .convert S T x)(hg:o.o.guard=none)(hd:o.o.dst=some d)
  (h1:gOf (look P σ S x)=true) (h2:Su P S=true) (h3:ML P T=true) (h4:unc (look P σ S x)= .one (.d (.str s))) (h5:s.size<=9223372036854775807) (h:@EI P (σ.put d (.one (.d (.sl 1 (yJ s.data.toList))))) A rest k):@SI P σ A o rest k:=
 Cb iE hg hd h1 h2 h3 h4 h5 h
theorem uY{c:Code}(hf:P.funcs[f]?=some fn)(hb:fn.body=some c)(iz:Tf P f=true)
  (hw:@WI P (ki fn.ntmps args) ⟨c⟩ (.fin (uO P fn res))):Yg P f args res:=ET hf hb iz (UQ hw)
def Cx(o:Oper):Bool:=match o.op with|.call ⟨.value _,_,_⟩=>false|_=>true
theorem evI(hp:Cx o.o=true)(hg:o.o.guard=none)(hd:o.o.dst=some d)(h:(evS P σ o.o d).1/\@EI P (evS P σ o.o d).2 A l k):@SI P σ A o l k:=by
 refine oE (fun c iE f hc=>?_) hg hd h.1 h.2;obtain⟨cc,ca,ct⟩:=c;simp only at hc;subst hc;simp[Cx,iE]at hp
theorem mX{T:TypeId}(iE:o.o.op= .buildSlice T n parts)(hg:o.o.guard=none)(hd:o.o.dst=some d)
  (h1:σ.fresh d=true/\Xj P T=true/\Qg P (ZV P T)=true/\0<P.cellsOf (ZV P T)/\parts.toList.length=n/\n*P.cellsOf (ZV P T)<=16777216) (h2:(zc P σ (ZV P T) (P.cellsOf (ZV P T)) parts.toList 0).1)
  (h3:Yi d (zc P σ (ZV P T) (P.cellsOf (ZV P T)) parts.toList 0).2.flatten=false)
  (h:@EI P (σ.new d (.one (.sref d 0 0 (zc P σ (ZV P T) (P.cellsOf (ZV P T)) parts.toList 0).2.length)) [.lit (P.cellsOf (ZV P T)) (zc P σ (ZV P T) (P.cellsOf (ZV P T)) parts.toList 0).2]) A l k):@SI P σ A o l k:=sc iE hg hd h1 h2 h3 h
theorem mE{t:TypeId}(iE:o.o.op= .call ⟨.builtin .append,#[x,y],#[t,t]⟩)(hg:o.o.guard=none)(hd:o.o.dst=some d)(hU:A.bar o.o=true)
  (gT:size=P.cellsOf (ZV P t)) (h1:gOf (look P σ t x)=true/\gOf (look P σ t y)=true/\Xj P t=true/\Qg P (ZV P t)=true/\0<P.cellsOf (ZV P t))
  (h2:(V1 σ (unc (look P σ t x)) size).1/\(V1 σ (unc (look P σ t x)) size).2=(iJ,l1)) (h3:(UA σ (unc (look P σ t y)) size).1/\(UA σ (unc (look P σ t y)) size).2=(news,l2))
  (h4:(l1++l2).Nodup/\(σ.Z7 (l1++l2)).fresh d=true) (h5:(iJ.length+news.length)*P.bytesOf (ZV P t)<=140737488355328/\iJ.length+news.length<=9223372036854775807)
  (h:@EI P ((σ.Z7 (l1++l2)).new d (.one (.sref d 0 0 (iJ.length+news.length))) [.arr true size (iJ++news)]) A l k):@SI P σ A o l k:=tg iE hg hd hU gT h1 h2 h3 h4 h5 h
theorem mq{t:TypeId}{u lo:Nat}(iE:o.o.op= .call ⟨.builtin .append,#[x,y],#[t,t]⟩)(hg:o.o.guard=none)(hd:o.o.dst=some d)(hU:A.bar o.o=true)
  (gT:size=P.cellsOf (ZV P t)) (h1:gOf (look P σ t x)=true/\gOf (look P σ t y)=true/\Xj P t=true/\Qg P (ZV P t)=true/\0<P.cellsOf (ZV P t))
  (h2:unc (look P σ t x)= .one (.sref u j 0 len)) (h3:unc (look P σ t y)= .one (.sref u j lo n)) (ho:σ.ob u j= .arr true size rows) (hle:len<=lo) (dP:lo+n<=rows.length)
  (gz:cut rows lo n=news) (h4:(σ.Zy u j .none).fresh d=true) (h5:(len+n)*P.bytesOf (ZV P t)<=140737488355328/\len+n<=9223372036854775807)
  (h:@EI P ((σ.Zy u j .none).new d (.one (.sref d 0 0 ((rows.take len).length+news.length))) [.arr true size (rows.take len++news)]) A l k):@SI P σ A o l k:=tr iE hg hd hU gT h1 h2 h3 ho hle dP gz h4 h5 h
theorem rn{t:TypeId}{u lo:Nat}(iE:o.o.op= .call ⟨.builtin .append,#[x,y],#[t,t]⟩)(hg:o.o.guard=none)(hd:o.o.dst=some d)(hU:A.bar o.o=true)
  (gT:size=P.cellsOf (ZV P t)) (h1:gOf (look P σ t x)=true/\gOf (look P σ t y)=true/\Xj P t=true/\Qg P (ZV P t)=true/\0<P.cellsOf (ZV P t))
  (h2:Be σ (unc (look P σ t x)) size iJ l1) (h3:unc (look P σ t y)= .one (.sref u j lo n)) (ho:σ.ob u j= .arr true size rows) (av:(u,j)∉l1) (hle:lo+n<=rows.length) (gz:cut rows lo n=news)
  (h4:((σ.Zy u j (.arr true size (Jw rows lo n))).Z7 l1).fresh d=true) (h5:(iJ.length+n)*P.bytesOf (ZV P t)<=140737488355328/\iJ.length+n<=9223372036854775807)
  (h:@EI P (((σ.Zy u j (.arr true size (Jw rows lo n))).Z7 l1).new d (.one (.sref d 0 0 (iJ.length+news.length))) [.arr true size (iJ++news)]) A l k):@SI P σ A o l k:=s4 iE hg hd hU gT h1 h2 h3 ho av hle gz h4 h5 h
theorem pb{T:TypeId}{c:Nat}(iE:o.o.op= .store T x y)(hg:o.o.guard=none)(hd:o.o.dst=none)(hU:A.bar o.o=true)
  (hx:unc (look P σ 0 x)= .one (.ptr t j i c)) (ho:σ.ob t j= .arr true size rows) (hi:i<rows.length) (h1:qm P T=true/\gOf (look P σ 0 x)=true/\gOf (look P σ T y)=true/\(unc (look P σ T y)).flat=true)
  (h2:KD σ (unc (look P σ T y)).cells=some ds) (h3:Qk σ (unc (look P σ T y)).cells) (h4:XP (unc (look P σ T y)).cells=L) (h5:L.Nodup/\(t,j)∉L/\(σ.Z7 L).yn (At.isT t)=false) (h6:ds.length=P.cellsOf T/\c+P.cellsOf T<=size)
  (h:@EI P ((σ.Z7 L).Zy t j (.arr true size (rows.set i (place (rowAt rows i) c ds)))) A l k):@SI P σ A o l k:=sO iE hg hd hU hx ho hi h1 h2 h3 h4 h5 h6 h
theorem mj{T:TypeId}(iE:o.o.op= .store T x y)(hg:o.o.guard=none)(hd:o.o.dst=none)(hU:A.bar o.o=true)
  (hx:unc (look P σ 0 x)= .one (.ptr t j i 0)) (ho:σ.ob t j= .arr true size rows) (hi:i<rows.length) (h1:qm P T=true/\gOf (look P σ 0 x)=true/\gOf (look P σ T y)=true/\(unc (look P σ T y)).flat=true)
  (h2:KD σ (unc (look P σ T y)).cells=some ds) (h3:Qk σ (unc (look P σ T y)).cells) (h4:XP (unc (look P σ T y)).cells=L) (h5:L.Nodup/\(t,j)∉L/\(σ.Z7 L).yn (At.isT t)=false) (h6:ds.length=P.cellsOf T/\P.cellsOf T=size)
  (h:@EI P ((σ.Z7 L).Zy t j (.arr true size (rows.set i ds))) A l k):@SI P σ A o l k:=rR iE hg hd hU hx ho hi h1 h2 h3 h4 h5 h6 h
theorem mI{T:TypeId}{c k':Nat}{s:List (List D)}(iE:o.o.op= .store T x y)(hg:o.o.guard=none)(hd:o.o.dst=none)(hU:A.bar o.o=true)
  (hx:unc (look P σ 0 x)= .one (.tref t j i c (some off))) (aN:off=k'*n+q) (ho:σ.ob t j= .arr true size rows) (hi:i<rows.length) (hc:(rowAt rows i)[c]?=some (.sl n s)) (hk:k'<s.length) (h1:qm P T=true/\gOf (look P σ 0 x)=true/\gOf (look P σ T y)=true/\(unc (look P σ T y)).flat=true)
  (h2:KD σ (unc (look P σ T y)).cells=some ds) (h3:Qk σ (unc (look P σ T y)).cells) (h4:XP (unc (look P σ T y)).cells=L) (h5:L.Nodup/\(t,j)∉L) (h6:ds.length=P.cellsOf T/\q+P.cellsOf T<=n)
  (h:@EI P ((σ.Z7 L).Zy t j (.arr true size (rows.set i (place (rowAt rows i) c [.sl n (s.set k' (place (rowAt s k') q ds))])))) A l k):@SI P σ A o l k:=rH iE hg hd hU ⟨aN▸hx,ho,hi,hc,hk,h1,h2,h3,h4,h5,h6⟩ h
attribute [simp] pZ nT uN pY sN pI pa rq oy nR mF Ay uW nV AL Ai nL w6 BF nK ry
open Go.RowKit
def Cells(w:World):CS:=fun b _=>b<w.heap.size
def Reads(w:World)(v:Value)(row:List D):Prop:=∃cs,yw v cs/\YC (Rd (Cells w) w) cs row
theorem F1{own:Bool}(h:JK P f own rows [[.bool true]])(hv:YC (Reads w) gC rows):
  Calls P f gC.toArray w fun e w'=>e= .returned (.bool true)/\Below w.heap.size w w':=by
 refine(h.2 (Cells w) w gC (fun _ _ hb=>hb) hv).mono ?_
 rintro e w' ⟨vs,hQ,Y,rfl,hb,_,hf,hr,_⟩
 refine⟨?_,hb⟩
 cases hr with
 |cons h1 hr=>
  cases hr
  cases hf with
  |cons h2 hf=>
   cases hf
   cases h1 with
   |cons h3 h1=>
    cases h1
    have h4:∀v,jD own (Tof (Cells w) Y) w' v (.bool true)->Rd (Tof (Cells w) Y) w' v (.bool true):=by
     intro v hv
     unfold jD at hv
     split at hv
     ·exact hv
     ·exact hv
    have h4:=h4 _ h3
    cases h4
    rcases h2 with⟨v,fX,hvv,_⟩|⟨hl,_⟩
    ·cases fX;rw[hvv];rfl
    ·simp at hl
open Go.RowKit
variable{sp:Nat->Bool}{ps:List MemPlace}{fs:Array Field}
def SV(P:Program):Nat->TypeId->Bool
 |0,_=>false
 |n+1,t=>
  match P.underlying t with
  |some .bool=>true
  |some (.int _)=>true
  |some .string=>true
  |some (.slice e)=>SV P n e
  |some (.struct fs)=>fs.toList.all (fun f=>SV P n f.type)&&P.cellsOf t !=1
  |_=>false
def TyR(P:Program):Nat->TypeId->List D->Prop
 |0,_,_=>False
 |n+1,t,row=>
  match P.underlying t with
  |some .bool=>∃b,row=[.bool b]
  |some (.int k)=>∃m,row=[.int k m]/\k.min<=m/\m<=k.max
  |some .string=>∃s,row=[.str s]/\s.size<=maxLen
  |some (.slice e)=>∃rows,row=[.sl (P.cellsOf e) rows]/\rows.length<=maxLen/\∀r∈rows,TyR P n e r/\r.length=P.cellsOf e
  |some (.struct fs)=>row.length=P.cellsOf t/\∀f∈fs.toList,TyR P n f.type (cut row f.offset (P.cellsOf f.type))
  |_=>False
def Ra(P:Program):Nat->List Field->Nat->Bool
 |k,[],n=>k==n
 |k,f::fs,n=>f.offset==k&&Ra P (k+P.cellsOf f.type) fs n
def DM(P:Program):Nat->TypeId->Bool
 |0,_=>false
 |n+1,t=>
  match P.underlying t with
  |some .bool=>P.cellsOf t==1
  |some (.int _)=>P.cellsOf t==1
  |some .string=>P.cellsOf t==1
  |some (.slice e)=>P.cellsOf t==1&&DM P n e
  |some (.struct fs)=>fs.toList.all (fun f=>DM P n f.type)&&Ra P 0 fs.toList (P.cellsOf t)
  |_=>false
theorem NM{α β:Type}{f:α->Option β}:∀{l:List α}{m:List β},l.mapM f=some m->l.length=m.length/\∀(i:Nat) a,l[i]?=some a->∃b,m[i]?=some b/\f a=some b
 |[],m,h=>by simp at h;subst h;exact⟨rfl,fun i a ha=>by simp at ha⟩
 |x::l,m,h=>by
  simp only[List.mapM_cons,Option.bind_eq_bind,Option.bind_eq_some_iff]at h
  obtain⟨b,hb,bs,hbs,h⟩:=h
  simp at h;subst h
  obtain⟨h1,h2⟩:=NM hbs
  refine⟨by simp[h1],fun i a ha=>?_⟩
  cases i with
  |zero=>simp at ha;subst ha;exact⟨b,zAE,hb⟩
  |succ i=>simpa using h2 i a (by simpa using ha)
theorem u7(h:w.cells? 0 a n=some cs):cs.length=n/\∀i v,cs[i]?=some v->w.cell? (a.add i)=some v:=by
 unfold World.cells? at h;simp at h;obtain⟨h1,h2⟩:=NM h;simp at h1;refine⟨h1.symm,fun i v hv=>?_⟩;have hi:i<n:=by have:=(List.getElem?_eq_some_iff.1 hv).1;omega
 obtain⟨b,hb,hf⟩:=h2 i i (by simp[hi]);rw[hv]at hb;cases hb;exact hf
theorem RB{w:World}{P:Program}{q n:Nat}{cs:List Value}(hl:cs.length=n):∀{fs:List Field}{k:Nat},Ra P k fs n=true->k<=n->
  (∀f∈fs,∃row,YC (Rd (Cells w) w) (cut cs f.offset (P.cellsOf f.type)) row/\TyR P q f.type row)->
  ∃tail,YC (Rd (Cells w) w) (cs.drop k) tail/\∀(pre:List D),pre.length=k->∀f∈fs,TyR P q f.type (cut (pre++tail) f.offset (P.cellsOf f.type))
 |[],k,hc,hk,_=>by
  simp only[Ra,beq_iff_eq]at hc
  subst hc
  exact⟨[],by rw[List.drop_eq_nil_of_le zAA];exact .nil,fun _ _ f hf=>by cases hf⟩
 |f::fs,k,hc,hk,h=>by
  simp only[Ra,Bool.and_eq_true,beq_iff_eq]at hc
  obtain⟨row,iN,fu⟩:=h f zAE
  rw[hc.1]at iN
  have hkn:k+P.cellsOf f.type<=n:=by
   clear h iN fu
   have:∀(fs:List Field)(k:Nat),Ra P k fs n=true->k<=n:=by
    intro fs
    induction fs with
    |nil=>intro k hh;simp[Ra]at hh;omega
    |cons g gs ih=>intro k hh;simp only[Ra,Bool.and_eq_true,beq_iff_eq]at hh;have:=ih _ hh.2;omega
   exact this _ _ hc.2
  have dK:row.length=P.cellsOf f.type:=by rw[<-iN.length];simp[cut];omega
  obtain⟨tail,bZ,aO⟩:=RB hl hc.2 hkn (fun g hg=>h g (by simp[hg]))
  refine⟨row++tail,?_,?_⟩
  ·have:cs.drop k=cut cs k (P.cellsOf f.type)++cs.drop (k+P.cellsOf f.type):=by
    unfold cut
    rw[<-List.drop_drop]
    exact(List.take_append_drop _ _).symm
   rw[this]
   exact iN.append bZ
  ·intro pre fL g hg
   rcases List.mem_cons.1 hg with rfl|hg
   ·have:cut (pre++(row++tail)) g.offset (P.cellsOf g.type)=row:=by
     unfold cut
     rw[hc.1,<-fL,List.drop_left,<-dK,List.take_left]
    rw[this];exact fu
   ·have:=aO (pre++row) (by rw[List.length_append,fL,dK]) g hg
    rw[<-List.append_assoc];exact this
section
variable{H:Type}{enc:TypeId×Value->H}{t:TypeId}{d:DataW H}
theorem trod_bool(hu:P.underlying t=some .bool)(h:DataW.trod enc P w 0 sp held fuel t cs=some (d,ps)):∃b,cs=[.bool b]:=by
 cases fuel with
 |zero=>simp[DataW.trod]at h
 |succ fuel=>
  unfold DataW.trod at h;rw[hu]at h;split at h<;>simp_all
theorem trod_int{k:IntKind}(hu:P.underlying t=some (.int k))(h:DataW.trod enc P w 0 sp held fuel t cs=some (d,ps)):∃m,cs=[.int k m]/\k.min<=m/\m<=k.max:=by
 cases fuel with
 |zero=>simp[DataW.trod]at h
 |succ fuel=>
  unfold DataW.trod at h;rw[hu]at h;split at h<;>simp_all[Lit.wf]
theorem sK(hu:P.underlying t=some .string)(h:DataW.trod enc P w 0 sp held fuel t cs=some (d,ps)):∃s,cs=[.string s]/\s.size<=maxLen:=by
 cases fuel with
 |zero=>simp[DataW.trod]at h
 |succ fuel=>
  unfold DataW.trod at h;rw[hu]at h;split at h<;>simp_all
theorem trod_slice{e:TypeId}(hu:P.underlying t=some (.slice e))(h:DataW.trod enc P w 0 sp held fuel t cs=some (d,ps)):
  cs=[.slice none 0 0]\/∃a len cap,cs=[.slice (some a) len cap]/\len<=cap/\cap<=maxLen/\
   ∀i,i<len->∃xs f x,w.cells? 0 (a.add (i*P.cellsOf e)) (P.cellsOf e)=some xs/\DataW.trod enc P w 0 sp held f e xs=some x:=by
 cases fuel with
 |zero=>simp[DataW.trod]at h
 |succ fuel=>
  unfold DataW.trod at h
  rw[hu]at h
  split at h<;>first|(simp_all;done)|skip
  rename_i e' a len cap heq
  cases heq
  refine .inr ⟨a,len,cap,rfl,?_⟩
  simp only at h
  split at h
  ·rename_i hc
   refine⟨hc.2.1,hc.2.2,fun i hi=>?_⟩
   simp only[Option.bind_eq_some_iff]at h
   obtain⟨elems,hel,_⟩:=h
   obtain⟨hl,hg⟩:=NM hel
   obtain⟨x,_,hx⟩:=hg i i (by simp[hi])
   obtain⟨xs,h1,h2⟩:=Option.bind_eq_some_iff.1 hx
   exact⟨xs,fuel,x,h1,h2⟩
  ·cases h
theorem trod_struct(hu:P.underlying t=some (.struct fs))(h:DataW.trod enc P w 0 sp held fuel t cs=some (d,ps)):
  cs.length=P.cellsOf t/\∀f∈fs.toList,∃q x,DataW.trod enc P w 0 sp held q f.type (cut cs f.offset (P.cellsOf f.type))=some x:=by
 cases fuel with
 |zero=>simp[DataW.trod]at h
 |succ fuel=>
  unfold DataW.trod at h
  rw[hu]at h
  split at h<;>first|(simp_all;done)|skip
  rename_i fs' heq
  cases heq
  split at h
  ·rename_i hc
   refine⟨hc,fun f hf=>?_⟩
   simp only[Option.map_eq_some_iff]at h
   obtain⟨xs,hx,_⟩:=h
   obtain⟨_,hg⟩:=NM hx
   obtain⟨i,hi⟩:=List.mem_iff_getElem?.1 hf
   obtain⟨x,_,hx⟩:=hg i f hi
   exact⟨fuel,x,hx⟩
  ·cases h
end
theorem pF(h:w.cell? a=some v):a.block<w.heap.size:=by
 unfold World.cell? at h;cases hh:w.heap[a.block]? with
 |none=>simp[hh]at h
 |some o=>exact(Array.getElem?_eq_some_iff.1 hh).1
theorem uj(a:Addr)(m k:Nat)(h:m<=k):a.add k=(a.add m).add (k-m):=by
 simp only[Addr.add];by_cases h0:m=0
 ·subst h0;simp
 ·by_cases h1:k-m=0
  ·have:k=m:=zAA;subst this;simp[h0]
  ·have:k≠0:=zAA;simp only[h0,h1,this,if_false];congr 1;omega
theorem Ax{e:TypeId}{cap:Nat}(hlc:len<=cap)(ae:cap<=maxLen)
  (h:∀i,i<len->∃xs row,w.cells? 0 (a.add (i*size)) size=some xs/\YC (Rd (Cells w) w) xs row/\TyR P n e row):
  ∃rows:List (List D),Rd (Cells w) w (.slice (some a) len cap) (.sl size rows)/\rows.length<=maxLen/\∀r∈rows,TyR P n e r/\r.length=size:=by
 have key:∀m,m<=len->∃rows:List (List D),rows.length=m/\(∀r∈rows,TyR P n e r/\r.length=size)/\
   ∀k d,rows.flatten[k]?=some d->∃v,w.cell? (a.add k)=some v/\Rd (Cells w) w v d:=by
  intro m
  induction m with
  |zero=>intro _;exact⟨[],rfl,(by intro r hr;cases hr),(by intro k d hk;simp at hk)⟩
  |succ m ih=>
   intro hm
   obtain⟨rows,hl,ht,hk⟩:=ih zAA
   obtain⟨xs,row,hx,iN,fu⟩:=h m zAA
   obtain⟨bF,hxc⟩:=u7 hx
   have dK:row.length=size:=by rw[<-iN.length,bF]
   have gk:rows.flatten.length=m*size:=by rw[YV rows size (fun r hr=>(ht r hr).2),hl]
   refine⟨rows++[row],by simp[hl],fun r hr=>?_,fun k d hd=>?_⟩
   ·rcases List.mem_append.1 hr with hr|hr
    ·exact ht r hr
    ·simp at hr;subst hr;exact⟨fu,dK⟩
   ·rw[List.flatten_append,List.flatten_singleton]at hd
    rcases Nat.lt_or_ge k rows.flatten.length with iQ|ej
    ·rw[List.getElem?_append_left iQ]at hd
     exact hk k d hd
    ·rw[List.getElem?_append_right ej]at hd
     obtain⟨v,hv,hr⟩:=iN.get' _ d hd
     refine⟨v,?_,hr⟩
     have:=hxc _ v hv
     rw[show a.add k=(a.add (m*size)).add (k-rows.flatten.length)by rw[gk];rw[gk]at ej;exact uj a (m*size) k ej]
     exact this
 obtain⟨rows,hl,ht,hk⟩:=key len (Nat.le_refl _)
 refine⟨rows,?_,zAA,ht⟩
 have spot0:rows.flatten≠[]->a.spot=none:=by
  intro iH
  obtain⟨d,tl,hcons⟩:=List.exists_cons_of_ne_nil iH
  obtain⟨v,hv,_⟩:=hk 0 d (by rw[hcons];rfl)
  have:=World.cell?_spot hv
  simpa[Addr.add]using this
 refine .sl a len cap size rows (fun k=>(w.cell? (a.add k)).getD undef) hl hlc ae (fun r hr=>(ht r hr).2) spot0 (fun k d hd=>?_) (fun k d hd=>?_)
 ·obtain⟨v,hv,_⟩:=hk k d hd
  have cH:a.spot=none:=spot0 (by intro hh;rw[hh]at hd;simp at hd)
  have he:a.add k=⟨a.block,a.off+k,none⟩:=by
   obtain⟨b,o,sp⟩:=a
   simp only at cH
   subst cH
   simp only[Addr.add]
   split
   ·rename_i h0;subst h0;rfl
   ·rfl
  rw[he]at hv⊢
  rw[hv]
  exact⟨rfl,pF (a:=⟨a.block,a.off+k,none⟩) hv⟩
 ·obtain⟨v,hv,hr⟩:=hk k d hd
  simp only[hv,Option.getD_some];exact hr
theorem Oj{H:Type}{enc:TypeId×Value->H}{P:Program}{w:World}{sp:Nat->Bool}{held:Bool}:∀(n:Nat){fuel:Nat}{t:TypeId}{cs:List Value}{d:DataW H}{ps:List MemPlace},SV P n t=true->DM P n t=true->
  DataW.trod enc P w 0 sp held fuel t cs=some (d,ps)->∃row,YC (Rd (Cells w) w) cs row/\TyR P n t row
 |0,_,_,_,_,_,h,_,_=>by simp[SV]at h
 |n+1,fuel,t,cs,d,ps,hp,hl,h=>by
  simp only[SV]at hp
  simp only[DM]at hl
  simp only[TyR]
  cases hu:P.underlying t with
  |none=>simp[hu]at hp
  |some td=>
   cases td with
   |bool=>obtain⟨b,rfl⟩:=trod_bool hu h;exact⟨_,.cons (.bool b) .nil,b,rfl⟩
   |int k=>obtain⟨m,rfl,h1,h2⟩:=trod_int hu h;exact⟨_,.cons (.int k m) .nil,m,rfl,h1,h2⟩
   |string=>obtain⟨s,rfl,h1⟩:=sK hu h;exact⟨_,.cons (.str s) .nil,s,rfl,h1⟩
   |slice e=>
    simp only[hu]at hp hl
    simp only[Bool.and_eq_true]at hl
    rcases trod_slice hu h with rfl|⟨a,len,cap,rfl,h1,h2,h3⟩
    ·exact⟨_,.cons (.nil (P.cellsOf e)) .nil,[],rfl,zAE,zAE⟩
    ·obtain⟨rows,hr,dK,hrt⟩:=Ax (P:=P) (n:=n) (size:=P.cellsOf e) (e:=e) h1 h2 (fun i hi=>by
      obtain⟨xs,f,x,hx,ht⟩:=h3 i hi
      obtain⟨row,iN,fu⟩:=Oj n hp hl.2 (d:=x.1) (ps:=x.2) ht
      exact⟨xs,row,hx,iN,fu⟩)
     exact⟨_,.cons hr .nil,rows,rfl,dK,hrt⟩
   |struct fs=>
    simp only[hu]at hp hl
    simp only[Bool.and_eq_true]at hp hl
    obtain⟨h1,h2⟩:=trod_struct hu h
    obtain⟨row,iN,aO⟩:=RB (w:=w) (P:=P) (q:=n) h1 hl.2 (Nat.zero_le _) (fun f hf=>by
     obtain⟨q,x,hx⟩:=h2 f hf
     exact Oj n (List.all_eq_true.1 hp.1 f hf) (List.all_eq_true.1 hl.1 f hf) (d:=x.1) (ps:=x.2) hx)
    refine⟨row,by simpa using iN,?_,fun f hf=>by simpa using aO [] rfl f hf⟩
    have:=iN.length
    simp at this
    omega
   |_=>simp[hu]at hp
open Go.RowKit Go.WideShapes Go.ChangeAt Go.ChangeShapes
theorem Ea{H:Type}{enc:TypeId×Value->H}{t:TypeId}{d:DataW H}
  (hp:SV P n t=true) (hl:DM P n t=true) (iz:Value.okWide P w r base t v) (h:DataW.Trod enc P w 0 sp held t v d ps):∃row,Reads w v row/\TyR P n t row:=by
 obtain⟨fuel,hf⟩:=h
 obtain⟨row,iN,fu⟩:=Oj n hp hl hf
 refine⟨row,⟨v.cells.toList,?_,iN⟩,fu⟩
 cases n with
 |zero=>simp[SV]at hp
 |succ n=>
  simp only[SV]at hp
  cases hu:P.underlying t with
  |none=>simp[hu]at hp
  |some td=>
   cases td with
   |bool=>obtain⟨b,rfl⟩:=okWide_bool hu iz;exact .inl ⟨_,rfl,rfl,rfl⟩
   |int k=>obtain⟨b,rfl⟩:=okWide_int hu iz;exact .inl ⟨_,rfl,rfl,rfl⟩
   |string=>obtain⟨b,rfl⟩:=okWide_string hu iz;exact .inl ⟨_,rfl,rfl,rfl⟩
   |slice e=>obtain⟨a,l,c,rfl⟩:=okWide_slice hu iz;exact .inl ⟨_,rfl,rfl,rfl⟩
   |struct fs=>
    obtain⟨cs,rfl,gT⟩:=okWide_struct hu iz
    simp[hu]at hp
    exact .inr ⟨by simp[Value.cells,gT,hp.2],by simp[Value.cells]⟩
   |_=>simp[hu]at hp
def E0(P:Program)(n:Nat):List TypeId->List (List D)->Prop
 |[],[]=>True
 |t::ts,r::rs=>TyR P n t r/\E0 P n ts rs
 |_,_=>False
def UI(P:Program)(n:Nat)(ts:List TypeId):Bool:=ts.all fun t=>SV P n t&&DM P n t&&P.readableRec t&&decide (t<P.types.size)
theorem DS{H:Type}{enc:TypeId×Value->H}{P:Program}{w:World}{sp:Nat->Bool}{held:Bool}{n base:Nat}{r:Reach}:∀{ts:List TypeId}{vs:List Value}{ds:List (DataW H)}{ps:List MemPlace},UI P n ts=true->
  (∀(j:Nat) t v,ts[j]?=some t->vs[j]?=some v->Value.okWide P w r base t v)->DataW.TrodAll enc P w 0 sp held ts vs ds ps->∃rows,YC (Reads w) vs rows/\E0 P n ts rows
 |[],[],[],_,_,_,_=>⟨[],.nil,trivial⟩
 |t::ts,v::vs,d::ds,_,hp,iz,h=>by
  obtain⟨p,q,h1,h2,_⟩:=h
  simp only[UI,List.all_cons,Bool.and_eq_true]at hp
  obtain⟨row,hr,ht⟩:=Ea hp.1.1.1.1 hp.1.1.1.2 (iz 0 t v rfl rfl) h1
  obtain⟨rows,eJ,hts⟩:=DS (by simpa[UI]using hp.2) (fun j t v ht hv=>iz (j+1) t v ht hv) h2
  exact⟨row::rows,.cons hr eJ,ht,hts⟩
 |[],[],_::_,_,_,_,h=>h.elim
 |[],_::_,_,_,_,_,h=>zBX
 |_::_,[],_,_,_,_,h=>zBX
 |_::_,_::_,[],_,_,_,h=>h.elim
theorem OG{H:Type}{enc:TypeId×Value->H}{P:Program}{n:Nat}(ek:laidOutB P=true){W W':World}(hb:Below W.heap.size W W'):∀{ts:List TypeId}{vs:List Value}{ds:List (DataW H)}{ps:List MemPlace},UI P n ts=true->
  DataW.TrodAll enc P W 0 (fun _=>true) true ts vs ds ps->DataW.TrodAll enc P W' 0 (fun b=>decide (b<W.heap.size)) true ts vs ds ps
 |[],[],[],_,_,h=>h
 |t::ts,v::vs,d::ds,_,hp,h=>by
  obtain⟨p,q,h1,h2,rfl⟩:=h
  simp only[UI,List.all_cons,Bool.and_eq_true,decide_eq_true_eq]at hp
  have lt0:∀x∈p,x.block<W.heap.size:=by obtain⟨m,hm⟩:=h1;exact DataW.trod_lt m _ _ _ hm
  exact⟨p,q,Below.trod ek hp.1.1.2 hp.1.2 h1 hb lt0,OG ek hb (by simpa[UI]using hp.2) h2,rfl⟩
 |[],[],_::_,_,_,h=>h.elim
 |[],_::_,_,_,_,h=>zBX
 |_::_,[],_,_,_,h=>zBX
 |_::_,_::_,[],_,_,h=>h.elim
end Go.Vm
