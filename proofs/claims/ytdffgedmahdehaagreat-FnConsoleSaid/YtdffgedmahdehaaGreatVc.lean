/- An abstract machine Gi the model of Go, by value, and that it is sound: part Vc. No condition. -/
import Derived.Test.YtdffgedmahdehaaGreatVf
import Derived.ProofKit
import Derived.OpenShut
import Derived.Below
import Derived.ChangeOld
import Derived.DataReads
import Derived.Carry
set_option linter.unusedVariables false
set_option linter.unusedSimpArgs false
namespace Go.Vm
open Go.RowKit
variable{rows res news args im:List (List D)}{w:World}{d id n size j base t len fuel off dj i b q:Nat}{f:FuncId}{σ σ':St}{x y:Operand}{L F l1 l2:List (Nat×Nat)}{ds:List D}{held want g:Bool}{c:Call}{cs gb:List Value}{a:Addr}{fn:Func}{v:Value}{r:Reach}{S:Nat->Prop}{s:ByteArray}{e:Exit}{T:CS}
abbrev Ren:=List ((Nat×Nat)×Option (Nat×Nat))
variable{ρ all:Ren}
def xR:Ren->Nat->Nat->Option (Nat×Nat)
 |[],t,j=>some (t,j)
 |(n,o)::ρ,t,j=>if t=n.1/\j=n.2 then o else xR ρ t j
def inF:List (Nat×Nat)->Nat->Nat->Bool
 |[],_,_=>false
 |n::F,t,j=>(t==n.1&&j==n.2)||inF F t j
def Bc(σ:St)(ρ:Ren)(F:List (Nat×Nat)):At->At->Prop
 |_,.any=>True
 |.d x,.d y=>x=y
 |.nil _,.nil _=>True
 |.nil s,.d y=>y= .sl s []
 |.nil _,.sref t j lo len=>xR ρ t j=none/\lo=0/\len=0
 |.sref t j lo len,.sref t' j' bY dZ=>xR ρ t' j'=some (t,j)/\lo=bY/\len=dZ
 |.sref t j lo len,.d y=>inF F t j=true/\(match σ.ob t j with|.arr _ s rows=>y= .sl s (cut rows lo len)|_=>False)
 |.tref t j i c o,.tref t' j' i' c' o'=>xR ρ t' j'=some (t,j)/\i=i'/\c=c'/\o=o'/\(match σ.ob t j with|.arr true _ _=>True|_=>False)
 |.ptr t j i c,.ptr t' j' i' c'=>xR ρ t' j'=some (t,j)/\i=i'/\c=c'
 |.bptr t c,.bptr t' c'=>xR ρ t' 0=some (t,0)/\c=c'
 |.fn f t,.fn f' t'=>xR ρ t' 0=some (t,0)/\f=f'
 |.rptr r c,.rptr r' c'=>r=r'/\c=c'
 |_,_=>False
def NU(σ:St)(ρ:Ren)(F:List (Nat×Nat)):List At->List At->Prop
 |[],[]=>True
 |x::xs,y::ys=>Bc σ ρ F x y/\NU σ ρ F xs ys
 |_,_=>False
def wkV(σ:St)(ρ:Ren)(F:List (Nat×Nat)):V->V->Prop
 |_,.any=>True
 |.one x,.one y=>Bc σ ρ F x y
 |.agg xs,.agg ys=>NU σ ρ F xs ys
 |.fix u (.one x),.fix u' (.one y)=>u=u'/\Bc σ ρ F x y
 |.fix u (.agg xs),.fix u' (.agg ys)=>u=u'/\NU σ ρ F xs ys
 |.fix _ (.one x),.one y=>Bc σ ρ F x y
 |.fix _ (.agg xs),.agg ys=>NU σ ρ F xs ys
 |_,_=>False
def Ai(σ:St)(ρ:Ren)(F:List (Nat×Nat))(t' j':Nat):Ob->Prop
 |.none=>True
 |.arr q size rows=>(match xR ρ t' j' with
  |none=>rows=[]
  |some (t,j)=>inF F t j=false/\(match σ.ob t j with|.arr p s r=>(p=q\/p=false/\∀x∈rows,∀y∈x,y.scalar=true)/\s=size/\r=rows|_=>False))
 |.lit _ _=>False
 |.box cells=>(match xR ρ t' j' with
  |none=>False
  |some (t,j)=>inF F t j=false/\(match σ.ob t j with|.box cs=>NU σ ρ F cs cells|_=>False))
def sU(σ:St)(ρ:Ren)(F:List (Nat×Nat))(t:Nat):List Ob->Nat->Prop
 |[],_=>True
 |o::os,j=>Ai σ ρ F t j o/\sU σ ρ F t os (j+1)
def NO(σ:St)(ρ:Ren)(F:List (Nat×Nat)):List Ent->List Ent->Nat->Prop
 |[],[],_=>True
 |e::es,e'::es',t=>(wkV σ ρ F e.1 e'.1/\sU σ ρ F t e'.2 0)/\NO σ ρ F es es' (t+1)
 |_,_,_=>False
def zM:Ren->Nat->Nat->Bool
 |[],_,_=>false
 |(n,_)::ρ,t,j=>(t==n.1&&j==n.2)||zM ρ t j
def Uq:Ren->Nat->Nat->Bool
 |[],_,_=>false
 |(_,some o)::ρ,t,j=>(t==o.1&&j==o.2)||Uq ρ t j
 |(_,none)::ρ,t,j=>Uq ρ t j
def uk(σ':St)(t j:Nat):Bool:=match σ'.ob t j with|.none=>true|_=>false
def SV(σ':St)(all:Ren):Ren->Bool
 |[]=>true
 |(_,some o)::ρ=>!Uq ρ o.1 o.2&&(zM all o.1 o.2||uk σ' o.1 o.2)&&SV σ' all ρ
 |(_,none)::ρ=>SV σ' all ρ
theorem TK:∀{ρ:Ren}{t j:Nat},zM ρ t j=false->xR ρ t j=some (t,j)
 |[],_,_,_=>rfl
 |(n,o)::ρ,t,j,h=>by simp only[zM,Bool.or_eq_false_iff,Bool.and_eq_false_iff,beq_eq_false_iff_ne]at h;simp only[xR];rw[if_neg (by rintro⟨h1,h2⟩;rcases h.1 with h3|h3<;>contradiction)];exact TK h.2
theorem Pl:∀{ρ:Ren}{t j:Nat}{o:Nat×Nat},zM ρ t j=true->xR ρ t j=some o->Uq ρ o.1 o.2=true
 |[],_,_,_,h,_=>by simp[zM]at h
 |(n,o')::ρ,t,j,o,h,ho=>by
  simp only[xR]at ho;split at ho
  ·subst ho;simp[Uq]
  ·rename_i ij;have h':zM ρ t j=true:=by
    simp only[zM,Bool.or_eq_true,Bool.and_eq_true,beq_iff_eq]at h;rcases h with h|h
    ·exact absurd h ij
    ·exact h
   have:=Pl h' ho;cases o' with
   |none=>simpa[Uq]using this
   |some o'=>simp[Uq,this]
theorem Ac{σ':St}{all:Ren}:∀{ρ:Ren}{t j t' j':Nat}{o:Nat×Nat},SV σ' all ρ=true->zM ρ t j=true->zM ρ t' j'=true->xR ρ t j=some o->xR ρ t' j'=some o->(t,j)=(t',j')
 |[],_,_,_,_,_,_,h,_,_,_=>by simp[zM]at h
 |(n,o')::ρ,t,j,t',j',o,gF,hn,gh,ho,gG=>by
  have hokr:SV σ' all ρ=true:=by
   cases o' with
   |none=>simpa[SV]using gF
   |some o'=>simp only[SV,Bool.and_eq_true]at gF;exact gF.2
  simp only[xR]at ho gG;by_cases h1:t=n.1/\j=n.2
  ·rw[if_pos h1]at ho;by_cases h2:t'=n.1/\j'=n.2
   ·rw[h1.1,h1.2,h2.1,h2.2]
   ·rw[if_neg h2]at gG;have h':zM ρ t' j'=true:=by simp only[zM,Bool.or_eq_true,Bool.and_eq_true,beq_iff_eq]at gh;exact gh.resolve_left h2
    have hold:=Pl h' gG;subst ho;simp only[SV,Bool.and_eq_true,Bool.not_eq_true']at gF;rw[hold]at gF;cases gF.1.1
  ·rw[if_neg h1]at ho;have h:zM ρ t j=true:=by simp only[zM,Bool.or_eq_true,Bool.and_eq_true,beq_iff_eq]at hn;exact hn.resolve_left h1
   by_cases h2:t'=n.1/\j'=n.2
   ·rw[if_pos h2]at gG;have hold:=Pl h ho
    subst gG;simp only[SV,Bool.and_eq_true,Bool.not_eq_true']at gF;rw[hold]at gF;cases gF.1.1
   ·rw[if_neg h2]at gG;have h':zM ρ t' j'=true:=by simp only[zM,Bool.or_eq_true,Bool.and_eq_true,beq_iff_eq]at gh;exact gh.resolve_left h2
    exact Ac hokr h h' ho gG
theorem Oe{σ':St}{all:Ren}:∀{ρ:Ren}{t j:Nat},SV σ' all ρ=true->Uq ρ t j=true->zM all t j=true\/σ'.ob t j= .none
 |[],_,_,_,h=>by simp[Uq]at h
 |(n,o')::ρ,t,j,gF,h=>by
  cases o' with
  |none=>exact Oe (ρ:=ρ) (by simpa[SV]using gF) (by simpa[Uq]using h)
  |some o=>
   simp only[SV,Bool.and_eq_true,Bool.or_eq_true]at gF;simp only[Uq,Bool.or_eq_true,Bool.and_eq_true,beq_iff_eq]at h;rcases h with⟨rfl,rfl⟩|h
   ·refine gF.1.2.imp id fun hf=>?_;unfold uk at hf;split at hf<;>first|assumption|cases hf
   ·exact Oe gF.2 h
theorem oM(gF:SV σ' ρ ρ=true){t' j':Nat}{o:Nat×Nat}(h1:σ'.ob t j≠ .none)(h2:σ'.ob t' j'≠ .none)(ho:xR ρ t j=some o)(gG:xR ρ t' j'=some o):t=t'/\j=j':=by
 cases hn:zM ρ t j with
 |true=>
  cases gh:zM ρ t' j' with
  |true=>have:=Ac gF hn gh ho gG;cases this;exact⟨rfl,rfl⟩
  |false=>
   have hid:=TK gh;rw[hid]at gG;cases gG;have hold:=Pl hn ho;rcases Oe gF hold with h|h
   ·rw[gh]at h;cases h
   ·exact absurd h h2
 |false=>
  have hid:=TK hn;rw[hid]at ho;cases ho;cases gh:zM ρ t' j' with
  |true=>
   have hold:=Pl gh gG;rcases Oe gF hold with h|h
   ·rw[hn]at h;cases h
   ·exact absurd h h1
  |false=>have hid':=TK gh;rw[hid']at gG;cases gG;exact⟨rfl,rfl⟩
theorem LZ{σ:St}{ρ:Ren}{F:List (Nat×Nat)}:∀{es es':List Ent}{t:Nat},NO σ ρ F es es' t->es.length=es'.length
 |[],[],_,_=>rfl
 |_::_,_::_,_,h=>by simp[LZ h.2]
 |[],_::_,_,h=>h.elim
 |_::_,[],_,h=>h.elim
theorem Df{σ:St}{ρ:Ren}{F:List (Nat×Nat)}:∀{es es':List Ent}{t:Nat},NO σ ρ F es es' t->∀(i:Nat),wkV σ ρ F (St.get es i) (St.get es' i)/\∀j,Ai σ ρ F (t+i) j (St.ob es' i j)
 |[],[],t,_,i=>⟨by simp[St.get,wkV],fun j=>by simp[St.ob,Ai]⟩
 |e::es,e'::es',t,h,0=>by
  refine⟨h.1.1,fun j=>?_⟩;have:∀(os:List Ob)(k:Nat),sU σ ρ F t os k->∀j,Ai σ ρ F t (k+j) (Yr os j):=by
   intro os;induction os with
   |nil=>intro k _ j;simp[Yr,Ai]
   |cons o os ih=>
    intro k hk j;cases j with
    |zero=>exact hk.1
    |succ j=>have:=ih (k+1) hk.2 j;rw[show k+(j+1)=k+1+j by omega];simpa[Yr]using this
  have:=this e'.2 0 h.1.2 j;simpa using this
 |e::es,e'::es',t,h,i+1=>by have:=Df h.2 i;rw[show t+(i+1)=t+1+i by omega];simpa[St.get,St.ob]using this
 |[],_::_,_,h,_=>h.elim
 |_::_,[],_,h,_=>h.elim
theorem pO{xs:List Value}(ir:YJ (Rd T w) xs ds)(hf:∀d∈ds,d.scalar=true):KC w xs ds S:=
 ⟨ir.length,fun _ _=>False,fun k x d hx hd=>by
  obtain⟨d',hJ,hr⟩:=ir.get k x hx;rw[hd]at hJ;cases hJ;exact Rd.own (hf d (List.mem_of_getElem? hd)) hr,fun _ _ hb=>hb.elim,fun _ _ _ hb=>hb.elim⟩
theorem Yk(ρ:Ren)(F:List (Nat×Nat))(gF:SV σ' ρ ρ=true)(hs:NO σ ρ F σ σ' 0):Wk σ σ':=by
 rintro T0 B a w ⟨X,h,r⟩;let h':Nat->Nat->Hd:=fun t j=>match xR ρ t j with|some o=>h o.1 o.2|none=>Hd.of (.slice none 0 0)
 let X':Nat->Prop:=fun b=>X b\/∃t j,inF F t j=true/\σ.ob t j≠ .none/\(h t j).u b
 have hlen:=LZ hs;have fA:=Df hs;have hZ:∀t j,Ai σ ρ F t j (σ'.ob t j):=fun t j=>by have:=(fA t).2 j;simpa using this
 have aI:∀b k v,Tof T0 X b k->w.cell? ⟨b,k,none⟩=some v->w.cell? ⟨b,k,none⟩=some v/\Tof T0 X' b k:=fun b k v hb hc=>⟨hc,hb.imp id .inl⟩;have cW:∀t' j' q size rows,σ'.ob t' j'= .arr q size rows->(xR ρ t' j'=none/\rows=[])\/∃t j p,xR ρ t' j'=some (t,j)/\inF F t j=false/\σ.ob t j= .arr p size rows/\(p=q\/p=false/\∀x∈rows,∀y∈x,y.scalar=true):=by
  intro t' j' q size rows ho;have:=hZ t' j'
  rw[ho]at this;simp only[Ai]at this;split at this
  ·rename_i hn;exact .inl ⟨hn,this⟩
  ·rename_i t j hn;obtain⟨hF,this⟩:=this;split at this
   ·rename_i p s r gz;obtain⟨hp,rfl,rfl⟩:=this;exact .inr ⟨t,j,p,hn,hF,gz,hp⟩
   ·exact this.elim
 have bV:∀t' j' size rows,σ'.ob t' j'≠ .lit size rows:=by
  intro t' j' size rows ho;have:=hZ t' j'
  rw[ho]at this;exact this
 have bW:∀t' j' cells,σ'.ob t' j'= .box cells->∃t j cs,xR ρ t' j'=some (t,j)/\inF F t j=false/\σ.ob t j= .box cs/\NU σ ρ F cs cells:=by
  intro t' j' cells ho;have:=hZ t' j'
  rw[ho]at this;simp only[Ai]at this;split at this
  ·exact this.elim
  ·rename_i t j hn;obtain⟨hF,this⟩:=this;split at this
   ·rename_i cs gz;exact⟨t,j,cs,hn,hF,gz,this⟩
   ·exact this.elim
 have at_:∀{x y:At}{v:Value},Bc σ ρ F x y->YR (Tof T0 X) h σ.ob w x v->YR (Tof T0 X') h' σ'.ob w y v:=by
  intro x y v hw hr;have h1:=YR.X1 hr
  cases y with
  |any=>exact h1
  |d y=>
   cases x with
   |d x=>simp only[Bc]at hw;subst hw;exact Rd.mono aI hr
   |nil s=>simp only[Bc]at hw;subst hw;cases hr;exact .nil _
   |sref t j lo len=>
    simp only[Bc]at hw;obtain⟨hF,hw⟩:=hw;split at hw
    ·rename_i q s rows ho;subst hw;exact r.th ho hr _ (fun b k hb=>hb.imp id .inl) (fun b k hb=>.inr (.inr ⟨t,j,hF,by rw[ho];simp,hb⟩))
    ·exact hw.elim
   |_=>exact hw.elim
  |nil s=>
   cases x with
   |nil s'=>exact hr
   |_=>exact hw.elim
  |sref t' j' bY dZ=>
   cases x with
   |nil s=>obtain⟨hn,rfl,rfl⟩:=hw;cases hr;refine⟨rfl,fun q size rows ho=>?_,fun size rows ho=>absurd ho (bV _ _ _ _)⟩;simp only[h',hn];exact⟨zAC,fun _ _=>rfl,fun _=>rfl,none,0,rfl,zAC,by simp[maxLen],fun _=>rfl,fun hh=>absurd hh zAC⟩
   |sref t j lo len=>
    obtain⟨hn,rfl,rfl⟩:=hw;refine⟨h1,fun q size rows ho=>?_,fun size rows ho=>absurd ho (bV _ _ _ _)⟩;rcases cW t' j' q size rows ho with⟨gh,_⟩|⟨t2,j2,p,gh,_,gz,_⟩
    ·rw[hn]at gh;cases gh
    ·rw[hn]at gh;cases gh;simp only[h',hn];exact hr.2.1 p size rows gz
   |_=>exact hw.elim
  |ptr t' j' i' c'=>
   cases x with
   |ptr t j i c=>
    obtain⟨hn,rfl,rfl⟩:=hw;refine⟨h1,fun q size rows ho=>?_⟩;rcases cW t' j' q size rows ho with⟨gh,_⟩|⟨t2,j2,p,gh,_,gz,_⟩
    ·rw[hn]at gh;cases gh
    ·rw[hn]at gh;cases gh;simp only[h',hn];exact hr.2 p size rows gz
   |_=>exact hw.elim
  |tref t' j' i' c' o'=>
   cases x with
   |tref t j i c o=>
    obtain⟨hn,rfl,rfl,rfl,hq⟩:=hw;refine⟨h1,fun size rows ho=>?_⟩;rcases cW t' j' true size rows ho with⟨gh,_⟩|⟨t2,j2,p,gh,_,gz,hp⟩
    ·rw[hn]at gh;cases gh
    ·rw[hn]at gh;cases gh;simp only[h',hn];rcases hp with rfl|⟨rfl,fL⟩
     ·exact hr.2 size rows gz
     ·rw[gz]at hq;exact hq.elim
   |_=>exact hw.elim
  |bptr t' c'=>
   cases x with
   |bptr t c=>obtain⟨hn,rfl⟩:=hw;refine⟨h1,fun cells ho=>?_⟩;obtain⟨t2,j2,cs,gh,_,gz,_⟩:=bW t' 0 cells ho;rw[hn]at gh;cases gh;simp only[h',hn];exact hr.2 cs gz
   |_=>exact hw.elim
  |fn f' t'=>
   cases x with
   |fn f t=>obtain⟨hn,rfl⟩:=hw;refine⟨h1,fun cells ho=>?_⟩;obtain⟨t2,j2,cs,gh,_,gz,_⟩:=bW t' 0 cells ho;rw[hn]at gh;cases gh;simp only[h',hn];exact hr.2 cs gz
   |_=>exact hw.elim
  |rptr r' c'=>
   cases x with
   |rptr r0 c=>obtain⟨rfl,rfl⟩:=hw;obtain⟨b,off,g,e,hk⟩:=hr;exact⟨b,off,g,e,fun k d hd=>⟨(hk k d hd).1,(hk k d hd).2.1.imp id .inl,Rd.mono aI (hk k d hd).2.2⟩⟩
   |_=>exact hw.elim
 have ats_:∀{xs ys:List At}{vs:List Value},NU σ ρ F xs ys->YJ (YR (Tof T0 X) h σ.ob w) xs vs->YJ (YR (Tof T0 X') h' σ'.ob w) ys vs:=by
  intro xs;induction xs with
  |nil=>intro ys vs hw hr;cases ys with
   |nil=>cases hr;exact .nil
   |cons y ys=>exact hw.elim
  |cons x xs ih=>intro ys vs hw hr;cases ys with
   |nil=>exact hw.elim
   |cons y ys=>cases hr with
    |cons h1 hr=>exact .cons (at_ hw.1 h1) (ih hw.2 hr)
 have v_:∀{x y:V}{v:Value},wkV σ ρ F x y->Qk (Tof T0 X) h σ.ob w x v->Qk (Tof T0 X') h' σ'.ob w y v:=by
  intro x y v hw hr;cases y with
  |any=>trivial
  |one y=>cases x with
   |one x=>exact at_ hw hr
   |fix u x=>cases x with
    |one x=>exact at_ hw hr.2
    |_=>exact hw.elim
   |_=>exact hw.elim
  |agg ys=>cases x with
   |agg xs=>obtain⟨cs,e,hr⟩:=hr;exact⟨cs,e,ats_ hw hr⟩
   |fix u x=>cases x with
    |agg xs=>obtain⟨cs,e,hr⟩:=hr.2;exact⟨cs,e,ats_ hw hr⟩
    |_=>exact hw.elim
   |_=>exact hw.elim
  |tup ys=>cases x with
   |fix u x=>cases x<;>exact hw.elim
   |_=>exact hw.elim
  |cnd g y=>cases x with
   |fix u x=>cases x<;>exact hw.elim
   |_=>exact hw.elim
  |fix u' y=>cases x with
   |fix u x=>cases x with
    |one x=>cases y with
     |one y=>obtain⟨rfl,hw⟩:=hw;exact⟨hr.1,at_ hw hr.2⟩
     |_=>exact hw.elim
    |agg xs=>cases y with
     |agg ys=>obtain⟨rfl,hw⟩:=hw;obtain⟨e1,cs,e,hr⟩:=hr;exact⟨e1,cs,e,ats_ hw hr⟩
     |_=>exact hw.elim
    |_=>cases y<;>exact hw.elim
   |_=>cases y<;>exact hw.elim
 have ij:∀t j,σ'.ob t j≠ .none->(xR ρ t j=none/\∀b,¬(h' t j).u b)\/∃o,xR ρ t j=some o/\σ.ob o.1 o.2≠ .none/\inF F o.1 o.2=false/\h' t j=h o.1 o.2:=by
  intro t j hn;cases ho:σ'.ob t j with
  |none=>exact absurd ho hn
  |arr q size rows=>
   rcases cW t j q size rows ho with⟨gh,_⟩|⟨t2,j2,p,gh,hF,gz,_⟩
   ·exact .inl ⟨gh,fun b hb=>by simp only[h',gh,Hd.of,blk]at hb;cases hb⟩
   ·exact .inr ⟨(t2,j2),gh,by rw[gz];simp,hF,by simp only[h',gh]⟩
  |lit size rows=>exact absurd ho (bV _ _ _ _)
  |box cells=>obtain⟨t2,j2,cs,gh,hF,gz,_⟩:=bW t j cells ho;exact .inr ⟨(t2,j2),gh,by rw[gz];simp,hF,by simp only[h',gh]⟩
 refine⟨X',h',by rw[r.size,hlen],r.defers,r.hB,fun b hb=>?_,r.hT,fun t ht=>?_,fun t j=>?_,fun t j b hn hb=>?_,fun t j b hn hb=>?_,fun t j t' j' b hn gh hb hR=>?_⟩
 ·rcases hb with hb|⟨t,j,_,hn,hb⟩
  ·exact r.hX b hb
  ·have:=r.own t j b hn hb;exact⟨this.1,this.2.2⟩
 ·exact v_ (fA t).1 (r.slot t (by rw[hlen];exact ht))
 ·cases ho:σ'.ob t j with
  |none=>trivial
  |lit size rows=>exact absurd ho (bV _ _ _ _)
  |arr q size rows=>
   rcases cW t j q size rows ho with⟨hn,rfl⟩|⟨u,k,p,hn,_,gz,hp⟩
   ·have:h' t j=Hd.of (.slice none 0 0):=by simp only[h',hn]
    rw[this];cases q with
    |false=>exact⟨0,[],World.ownsRow_nil w 0 0 size,zBT,.nil⟩
    |true=>exact⟨0,[],World.ownsRow_nil w 0 0 size,zBT,KC.nil _,fun k x d hx=>by simp at hx⟩
   ·have he:h' t j=h u k:=by simp only[h',hn]
    rw[he];have h0:=r.obj u k
    rw[gz]at h0;cases p with
    |false=>
     obtain⟨e,xs,iv,hz,ir⟩:=h0;cases q with
     |false=>exact⟨e,xs,iv,hz,ir.imp fun _ _=>Rd.mono aI⟩
     |true=>
      rcases hp with hp|⟨_,fL⟩
      ·cases hp
      ·have aj:∀d∈rows.flatten,d.scalar=true:=fun d hd=>by obtain⟨r0,dY,hdr⟩:=List.mem_flatten.1 hd;exact fL r0 dY d hdr
       exact⟨e,xs,iv,hz,pO ir aj,fun k x d _ hd hs=>by rw[aj d (List.mem_of_getElem? hd)]at hs;cases hs⟩
    |true=>
     rcases hp with rfl|⟨hp,_⟩
     ·exact h0
     ·cases hp
  |box cells=>
   obtain⟨u,k,cs,hn,_,gz,eT⟩:=bW t j cells ho;have h0:=r.obj u k
   rw[gz]at h0;obtain⟨b,vs,e,hv,hh,ir⟩:=h0;have he:h' t j=h u k:=by simp only[h',hn]
   rw[he];exact⟨b,vs,e,hv,hh,ats_ eT ir⟩
 ·rcases ij t j hn with⟨hr,_⟩|⟨o,hr,bC,hF,he⟩
  ·simp only[h',hr,Hd.of,blk]at hb;cases hb
  ·rw[he]at hb⊢;exact r.ub o.1 o.2 b bC hb
 ·rcases ij t j hn with⟨_,bC⟩|⟨o,hr,bC,hF,he⟩
  ·exact absurd hb (bC b)
  ·rw[he]at hb;have h0:=r.own o.1 o.2 b bC hb
   refine⟨h0.1,?_,h0.2.2⟩;rintro(hx|⟨t2,j2,hF2,hn2,gQ⟩)
   ·exact h0.2.1 hx
   ·obtain⟨h3,h4⟩:=r.inj o.1 o.2 t2 j2 b bC hn2 hb gQ;rw[h3,h4]at hF;rw[hF]at hF2;cases hF2
 ·rcases ij t j hn with⟨_,bC⟩|⟨o,hr,bC,_,he⟩
  ·exact absurd hb (bC b)
  ·rcases ij t' j' gh with⟨_,hno'⟩|⟨o',fG,hno',_,he'⟩
   ·exact absurd hR (hno' b)
   ·rw[he]at hb;rw[he']at hR;obtain⟨h3,h4⟩:=r.inj o.1 o.2 o'.1 o'.2 b bC hno' hb hR;have:o=o':=Prod.ext h3 h4
    subst this;exact oM gF hn gh hr fG
theorem Qs(hs:NO σ [] [] σ σ' 0):Wk σ σ':=Yk [] [] rfl hs
attribute [simp] xR inF Bc NU wkV Ai sU NO zM Uq uk SV
open Go.RowKit
variable{P:Program}{ops:Array Oper}{rest:List Oper}{bar:Oper->Bool}{Q:St->Prop}
def XK(P:Program)(σ:St):List Operand->List TypeId->Prop×Option (List (List D))
 |[],_=>(True,some [])
 |x::xs,t::ts=>(gOf (look P σ t x)=true/\(XK P σ xs ts).1,match(unc (look P σ t x)).zG σ,(XK P σ xs ts).2 with|some r,some rs=>some (r::rs)|_,_=>none)
 |_::_,[]=>(False,none)
theorem qy{P:Program}{σ:St}:∀{xs:List Operand}{ts:List TypeId}{rs:List (List D)},(XK P σ xs ts).1->(XK P σ xs ts).2=some rs->Qb P σ xs ts rs
 |[],_,rs,_,h=>by simp[XK]at h;exact h
 |x::xs,t::ts,rs,h1,h=>by
  simp only[XK]at h;split at h
  ·rename_i r rs' hr e8;cases h;exact⟨h1.1,r,rs',hr,qy h1.2 e8,rfl⟩
  ·cases h
 |_::_,[],_,h1,_=>h1.elim
attribute [simp] XK
theorem Ej{o:Oper}{own:Bool}(ig:o.op= .call c)(hc:c.callee= .value (.func f))(hg:o.guard=none)(hd:o.dst=some d)
  (hs:QX P f own rows res) (hG:(XK P σ c.args.toList c.argTypes.toList).2=some rows) (iw:(XK P σ c.args.toList c.argTypes.toList).1) (gH:Yh P σ c.args.toList c.argTypes.toList=true\/Jv own res) (h:Ev P ops bar rest (σ.put d (qG res)) Q):jm P ops bar o rest σ Q:=
 vh ig hc hg hd (qy iw hG) hs gH h
theorem rj{o:Oper}(ig:o.op= .call c)(hc:c.callee= .value (.func f))(hg:o.guard=none)(hd:o.dst=some d)
  (hs:QX P f true rows res) (hG:(XK P σ c.args.toList c.argTypes.toList).2=some rows) (iw:(XK P σ c.args.toList c.argTypes.toList).1) (gH:Yh P σ c.args.toList c.argTypes.toList=true\/Jv true res) (hf:σ.fresh d=true) (h:Ev P ops bar rest (σ.new d (WM d res) (xj res.flatten)) Q):jm P ops bar o rest σ Q:=
 wF ig hc hg hd (qy iw hG) hs gH hf h
theorem wk{o:Oper}(qs:List Bool)(ig:o.op= .call c)(hc:c.callee= .value (.func f))(hg:o.guard=none)(hd:o.dst=some d)
  (hs:YN P f rows res) (hG:(XK P σ c.args.toList c.argTypes.toList).2=some rows) (iw:(XK P σ c.args.toList c.argTypes.toList).1) (hq:xJ qs res.flatten) (hf:σ.fresh d=true) (h:Ev P ops bar rest (σ.new d (WM d res) (YZ qs res.flatten)) Q):jm P ops bar o rest σ Q:=
 tU qs ig hc hg hd (qy iw hG) hs hq hf h
theorem E3{o:Oper}{own:Bool}{res:List D}(ig:o.op= .call c)(hc:c.callee= .value (.func f))(hg:o.guard=some (j,want))(hd:o.dst=some d)
  (fh:(ops[j]?).bind (·.dst)=some dj) (fr:jf want (σ.get dj)=some g) (hs:g=true->QX P f own rows [res])
  (hG:(XK P σ c.args.toList c.argTypes.toList).2=some rows) (hD:dj<σ.length)
  (iw:g=true->(XK P σ c.args.toList c.argTypes.toList).1) (gH:Yh P σ c.args.toList c.argTypes.toList=true\/Jv own [res]) (h:Ev P ops bar rest (σ.put d (.cnd g (qG [res]))) Q):jm P ops bar o rest σ Q:=
 ui ig hc hg hd fh hD fr (fun hh=>qy (iw hh) hG) hs gH h
def YM:Nat->List (Nat×V×List Ob)->St
 |n,[]=>List.replicate n (V.any,[])
 |n,(t,v,os)::l=>(YM n l).new t v os
attribute [simp] YM
open Go.RowKit
variable{parts:Array (Nat×Operand)}
def nP(P:Program)(b:Bool)(x y:Code)(Q:Exit->St->Prop)(σ:St):Prop:=(b=true->AWP P x Q σ)/\(b=false->AWP P y Q σ)
def o9(P:Program)(c:Code)(Q:Exit->St->Prop)(σ:St):Prop:=AWP P (.loop c) Q σ
def nG(P:Program)(id:Nat)(ops:Array Oper)(Q:Exit->St->Prop)(σ:St):Prop:=AWP P (.region id ops true) Q σ
def DY(P:Program)(c:Code)(Q:Exit->St->Prop)(σ:St):Prop:=AWP P c Q σ
def Wx(P:Program):Code->(Exit->St->Prop)->St->Prop
 |.seq x y,Q,σ=>Wx P x (Dp (Wx P y Q) Q) σ
 |.region _ ⟨l⟩ false,Q,σ=>Ev P ⟨l⟩ (fun _=>true) l σ (Q .normal)
 |.region id ops true,Q,σ=>nG P id ops Q σ
 |.cond c x y,Q,σ=>(match look P σ 0 c with|.one (.d (.bool b))=>nP P b x y Q σ|_=>False)
 |.block id c,Q,σ=>Wx P c (Ny id Q) σ
 |.loop c,Q,σ=>o9 P c Q σ
 |.skip,Q,σ=>Q .normal σ
 |.exit id,Q,σ=>Q (.exit id) σ
 |.ret,Q,σ=>Q .ret σ
 |.rangeFunc f ps x y,Q,σ=>DY P (.rangeFunc f ps x y) Q σ
 |.scope c,Q,σ=>DY P (.scope c) Q σ
 |.label l,Q,σ=>DY P (.label l) Q σ
 |.goto l,Q,σ=>DY P (.goto l) Q σ
 |.refuse s,Q,σ=>DY P (.refuse s) Q σ
theorem Ul{P:Program}:∀{c:Code}{Q:Exit->St->Prop}{σ:St},Wx P c Q σ->AWP P c Q σ
 |.seq x y,Q,σ,h=>by rw[Wx]at h;refine oI (uS (fun e σ' hq=>?_) (Ul h));cases e<;>simp only[Dp]at hq⊢<;>first|exact Ul hq|exact hq
 |.region _ ⟨l⟩ false,Q,σ,h=>nZ h
 |.region id ops true,Q,σ,h=>h
 |.cond c x y,Q,σ,h=>by
  rw[Wx]at h;split at h
  ·rename_i b hb;exact pJ hb h.1 h.2
  ·exact h.elim
 |.block id c,Q,σ,h=>ss (Ul (by rw[Wx]at h;exact h))
 |.loop c,Q,σ,h=>h
 |.skip,Q,σ,h=>pW h
 |.exit id,Q,σ,h=>ra h
 |.ret,Q,σ,h=>oC h
 |.rangeFunc _ _ _ _,Q,σ,h=>h
 |.scope _,Q,σ,h=>h
 |.label _,Q,σ,h=>h
 |.goto _,Q,σ,h=>h
 |.refuse _,Q,σ,h=>h
class yI where
 c:Code
class J5 where
 ops:Array Oper
 bar:Oper->Bool
variable{A:J5}
class Kc where
 l:List Oper
variable{l:Kc}
class OpI where
 o:Oper
variable{o:OpI}
class inductive Fr where
 |fin (Q:Exit->St->Prop)
 |sq (y:Code) (k:Fr)
 |blk (id:Nat) (k:Fr)
 |nxt (n:St->Prop) (k:Fr)
variable{k:Fr}
def Fr.run(P:Program):Fr->Exit->St->Prop
 |.fin Q,e,σ=>Q e σ
 |.sq y k,e,σ=>Dp (Wx P y (Fr.run P k)) (Fr.run P k) e σ
 |.blk id k,e,σ=>Ny id (Fr.run P k) e σ
 |.nxt n k,e,σ=>Dp n (Fr.run P k) e σ
def WI(P:Program)(σ:St)[c:yI][k:Fr]:Prop:=Wx P c.c (k.run P) σ
def LI(P:Program)(e:Exit)(σ:St)[k:Fr]:Prop:=k.run P e σ
def EI(P:Program)(σ:St)[A:J5][l:Kc][k:Fr]:Prop:=Ev P A.ops A.bar l.l σ (k.run P .normal)
def SI(P:Program)(σ:St)[A:J5][o:OpI][l:Kc][k:Fr]:Prop:=jm P A.ops A.bar o.o l.l σ (k.run P .normal)
def CI(P:Program)(b:Bool)(σ:St)[x:yI][y:yI][k:Fr]:Prop:=nP P b x.c y.c (k.run P) σ
def Ph(P:Program)(σ:St)[c:yI][k:Fr]:Prop:=o9 P c.c (k.run P) σ
def DI(P:Program)(id:Nat)(σ:St)[A:J5][k:Fr]:Prop:=nG P id A.ops (k.run P) σ
theorem ny{x y:Code}:@WI P σ ⟨.seq x y⟩ k=@WI P σ ⟨x⟩ (.sq y k):=by simp only[WI];rw[Wx];congr 1
theorem sa{l:List Oper}:@WI P σ ⟨.region id ⟨l⟩ false⟩ k=@EI P σ ⟨⟨l⟩,fun _=>true⟩ ⟨l⟩ k:=by simp only[WI,EI,Wx]
theorem oF:@WI P σ ⟨.region id ops true⟩ k=@DI P id σ ⟨ops,fun _=>true⟩ k:=by simp only[WI,DI,Wx]
theorem oR{c:Operand}{x y:Code}:@WI P σ ⟨.cond c x y⟩ k=(match look P σ 0 c with|.one (.d (.bool b))=>@CI P b σ ⟨x⟩ ⟨y⟩ k|_=>False):=by simp only[WI,CI,Wx]
theorem rR{c:Code}:@WI P σ ⟨.block id c⟩ k=@WI P σ ⟨c⟩ (.blk id k):=by simp only[WI];rw[Wx];congr 1
theorem ox{c:Code}:@WI P σ ⟨.loop c⟩ k=@Ph P σ ⟨c⟩ k:=by simp only[WI,Ph,Wx]
theorem oB:@WI P σ ⟨.skip⟩ k=@LI P .normal σ k:=by simp only[WI,LI,Wx]
theorem oL:@WI P σ ⟨.exit id⟩ k=@LI P (.exit id) σ k:=by simp only[WI,LI,Wx]
theorem mD:@WI P σ ⟨.ret⟩ k=@LI P .ret σ k:=by simp only[WI,LI,Wx]
theorem nR{Q:Exit->St->Prop}:@LI P e σ (.fin Q)=Q e σ:=rfl
theorem mS{y:Code}:@LI P .normal σ (.sq y k)=@WI P σ ⟨y⟩ k:=rfl
theorem ta{y:Code}:@LI P (.exit id) σ (.sq y k)=@LI P (.exit id) σ k:=rfl
theorem s9{y:Code}:@LI P .ret σ (.sq y k)=@LI P .ret σ k:=rfl
theorem nu{n:St->Prop}:@LI P .normal σ (.nxt n k)=n σ:=rfl
theorem vS{n:St->Prop}:@LI P (.exit id) σ (.nxt n k)=@LI P (.exit id) σ k:=rfl
theorem ux{n:St->Prop}:@LI P .ret σ (.nxt n k)=@LI P .ret σ k:=rfl
theorem ng:@LI P .normal σ (.blk id k)=@LI P .normal σ k:=rfl
theorem um:@LI P .ret σ (.blk id k)=@LI P .ret σ k:=rfl
theorem vD{id':Nat}:@LI P (.exit id') σ (.blk id k)=if id'=id then@LI P .normal σ k else@LI P (.exit id') σ k:=rfl
theorem nn:@EI P σ A ⟨[]⟩ k=@LI P .normal σ k:=by simp only[EI,LI,Ev]
theorem oZ{o:Oper}:@EI P σ A ⟨o::rest⟩ k=
  (if stops P A.bar o then@SI P σ A ⟨o⟩ ⟨rest⟩ k else
  match o.guard with
  |none=>
   (match o.dst with
   |some d=>(evS P σ o d).1/\@EI P (evS P σ o d).2 A ⟨rest⟩ k
   |none=>(match o.op with|.store T x y=>if nj P σ T x y then@SI P σ A ⟨o⟩ ⟨rest⟩ k else(vX P σ T x y).1/\@EI P (vX P σ T x y).2 A ⟨rest⟩ k|_=>False))
  |some (j,want)=>
   (match(A.ops[j]?).bind (·.dst),o.dst with
   |some dj,some d=>(match jf want (σ.get dj)with
    |some g=>(dj<σ.length/\(g=true->(evV P σ o.op o.type).1/\gOf (evV P σ o.op o.type).2=true/\(unc (evV P σ o.op o.type).2).flat=true))/\@EI P (σ.put d (.cnd g (unc (evV P σ o.op o.type).2))) A ⟨rest⟩ k
    |none=>False)
   |_,_=>False)):=by
 simp only[EI,SI];rw[Ev];rfl
def Nxt{ι:Type}(S:ι->St)(μ:ι->Nat)(b:Nat)(σ:St):Prop:=∃i',μ i'<b/\Wk σ (S i')
theorem n8{ι:Type}{S:ι->St}{μ:ι->Nat}(i:ι)(hm:μ i<b)(hw:Wk σ (S i)):Nxt S μ b σ:=⟨i,hm,hw⟩
theorem nK{c:yI}{ι:Type}(S:ι->St)(μ:ι->Nat)(i0:ι)(h0:Wk σ (S i0))
  (round:∀i,@WI P (S i) c (.nxt (Nxt S μ (μ i)) k)):@Ph P σ c k:=
 Wi S μ i0 h0 fun i=>Ul (round i)
theorem vF{c:Code}(hf:P.funcs[f]?=some fn)(hb:fn.body=some c)(gF:Rz P f=true){own:Bool}
  (hw:@WI P (WZ fn.ntmps args) ⟨c⟩ (.fin (vy P fn own res))):QX P f own args res:=Ap hf hb gF (Ul hw)
theorem tw{own:Bool}{res:List D}(ig:o.o.op= .call c)(hc:c.callee= .value (.func f))(hg:o.o.guard=some (j,want))(hd:o.o.dst=some d)
  (fh:(A.ops[j]?).bind (·.dst)=some dj) (fr:jf want (σ.get dj)=some g) (hs:g=true->QX P f own rows [res])
  (hG:(XK P σ c.args.toList c.argTypes.toList).2=some rows) (hD:dj<σ.length)
  (iw:g=true->(XK P σ c.args.toList c.argTypes.toList).1) (gH:Yh P σ c.args.toList c.argTypes.toList=true\/Jv own [res]) (h:@EI P (σ.put d (.cnd g (qG [res]))) A l k):@SI P σ A o l k:=
 E3 ig hc hg hd fh fr hs hG hD iw gH h
theorem toStr{rest:Kc}{S T:TypeId}{l:List UInt8}(ig:o.o.op= .convert S T x)(hg:o.o.guard=none)(hd:o.o.dst=some d)
  (h1:gOf (look P σ S x)=true) (h2:NS P S=true) (h3:R8 P T=true) (h4:yF σ (unc (look P σ S x)) 1 (KY l)) (h:@EI P (σ.put d (.one (.d (.str ⟨l.toArray⟩)))) A rest k):@SI P σ A o rest k:=
 tT ig hg hd h1 h2 h3 h4 h
theorem ov{rest:Kc}{S T:TypeId}(ig:o.o.op= .convert S T x)(hg:o.o.guard=none)(hd:o.o.dst=some d)
  (h1:gOf (look P σ S x)=true) (h2:R8 P S=true) (h3:NS P T=true) (h4:unc (look P σ S x)= .one (.d (.str s))) (h5:s.size<=9223372036854775807) (h:@EI P (σ.put d (.one (.d (.sl 1 (KY s.data.toList))))) A rest k):@SI P σ A o rest k:=
 Az ig hg hd h1 h2 h3 h4 h5 h
theorem rC{c:Code}(hf:P.funcs[f]?=some fn)(hb:fn.body=some c)(gF:Rz P f=true)
  (hw:@WI P (WZ fn.ntmps args) ⟨c⟩ (.fin (rK P fn res))):YN P f args res:=Cq hf hb gF (Ul hw)
def wu(o:Oper):Bool:=match o.op with|.call ⟨.value _,_,_⟩=>false|_=>true
theorem evI(hp:wu o.o=true)(hg:o.o.guard=none)(hd:o.o.dst=some d)(h:(evS P σ o.o d).1/\@EI P (evS P σ o.o d).2 A l k):@SI P σ A o l k:=by refine oc (fun c ig f hc=>?_) hg hd h.1 h.2;obtain⟨cc,ca,ct⟩:=c;simp only at hc;subst hc;simp[wu,ig]at hp
theorem lI{T:TypeId}(ig:o.o.op= .buildSlice T n parts)(hg:o.o.guard=none)(hd:o.o.dst=some d)
  (h1:σ.fresh d=true/\XS P T=true/\QE P (ZS P T)=true/\0<P.cellsOf (ZS P T)/\parts.toList.length=n/\n*P.cellsOf (ZS P T)<=16777216) (h2:(zJ P σ (ZS P T) (P.cellsOf (ZS P T)) parts.toList 0).1)
  (h3:Yb d (zJ P σ (ZS P T) (P.cellsOf (ZS P T)) parts.toList 0).2.flatten=false)
  (h:@EI P (σ.new d (.one (.sref d 0 0 (zJ P σ (ZS P T) (P.cellsOf (ZS P T)) parts.toList 0).2.length)) [.lit (P.cellsOf (ZS P T)) (zJ P σ (ZS P T) (P.cellsOf (ZS P T)) parts.toList 0).2]) A l k):@SI P σ A o l k:=pK ig hg hd h1 h2 h3 h
theorem na{t:TypeId}(ig:o.o.op= .call ⟨.builtin .append,#[x,y],#[t,t]⟩)(hg:o.o.guard=none)(hd:o.o.dst=some d)(gP:A.bar o.o=true)
  (g7:size=P.cellsOf (ZS P t)) (h1:gOf (look P σ t x)=true/\gOf (look P σ t y)=true/\XS P t=true/\QE P (ZS P t)=true/\0<P.cellsOf (ZS P t))
  (h2:(SD σ (unc (look P σ t x)) size).1/\(SD σ (unc (look P σ t x)) size).2=(im,l1)) (h3:(SG σ (unc (look P σ t y)) size).1/\(SG σ (unc (look P σ t y)) size).2=(news,l2))
  (h4:(l1++l2).Nodup/\(σ.Z7 (l1++l2)).fresh d=true) (h5:(im.length+news.length)*P.bytesOf (ZS P t)<=140737488355328/\im.length+news.length<=9223372036854775807)
  (h:@EI P ((σ.Z7 (l1++l2)).new d (.one (.sref d 0 0 (im.length+news.length))) [.arr true size (im++news)]) A l k):@SI P σ A o l k:=rZ ig hg hd gP g7 h1 h2 h3 h4 h5 h
theorem lJ{t:TypeId}{u lo:Nat}(ig:o.o.op= .call ⟨.builtin .append,#[x,y],#[t,t]⟩)(hg:o.o.guard=none)(hd:o.o.dst=some d)(gP:A.bar o.o=true)
  (g7:size=P.cellsOf (ZS P t)) (h1:gOf (look P σ t x)=true/\gOf (look P σ t y)=true/\XS P t=true/\QE P (ZS P t)=true/\0<P.cellsOf (ZS P t))
  (h2:unc (look P σ t x)= .one (.sref u j 0 len)) (h3:unc (look P σ t y)= .one (.sref u j lo n)) (ho:σ.ob u j= .arr true size rows) (hle:len<=lo) (cB:lo+n<=rows.length)
  (fb:cut rows lo n=news) (h4:(σ.Z0 u j .none).fresh d=true) (h5:(len+n)*P.bytesOf (ZS P t)<=140737488355328/\len+n<=9223372036854775807)
  (h:@EI P ((σ.Z0 u j .none).new d (.one (.sref d 0 0 ((rows.take len).length+news.length))) [.arr true size (rows.take len++news)]) A l k):@SI P σ A o l k:=pb ig hg hd gP g7 h1 h2 h3 ho hle cB fb h4 h5 h
theorem og{t:TypeId}{u lo:Nat}(ig:o.o.op= .call ⟨.builtin .append,#[x,y],#[t,t]⟩)(hg:o.o.guard=none)(hd:o.o.dst=some d)(gP:A.bar o.o=true)
  (g7:size=P.cellsOf (ZS P t)) (h1:gOf (look P σ t x)=true/\gOf (look P σ t y)=true/\XS P t=true/\QE P (ZS P t)=true/\0<P.cellsOf (ZS P t))
  (h2:vc σ (unc (look P σ t x)) size im l1) (h3:unc (look P σ t y)= .one (.sref u j lo n)) (ho:σ.ob u j= .arr true size rows) (hnm:(u,j)∉l1) (hle:lo+n<=rows.length) (fb:cut rows lo n=news)
  (h4:((σ.Z0 u j (.arr true size (JL rows lo n))).Z7 l1).fresh d=true) (h5:(im.length+n)*P.bytesOf (ZS P t)<=140737488355328/\im.length+n<=9223372036854775807)
  (h:@EI P (((σ.Z0 u j (.arr true size (JL rows lo n))).Z7 l1).new d (.one (.sref d 0 0 (im.length+news.length))) [.arr true size (im++news)]) A l k):@SI P σ A o l k:=pG ig hg hd gP g7 h1 h2 h3 ho hnm hle fb h4 h5 h
theorem oT{T:TypeId}{c:Nat}(ig:o.o.op= .store T x y)(hg:o.o.guard=none)(hd:o.o.dst=none)(gP:A.bar o.o=true)
  (hx:unc (look P σ 0 x)= .one (.ptr t j i c)) (ho:σ.ob t j= .arr true size rows) (hi:i<rows.length) (h1:jc P T=true/\gOf (look P σ 0 x)=true/\gOf (look P σ T y)=true/\(unc (look P σ T y)).flat=true)
  (h2:Jd σ (unc (look P σ T y)).cells=some ds) (h3:QI σ (unc (look P σ T y)).cells) (h4:XC (unc (look P σ T y)).cells=L) (h5:L.Nodup/\(t,j)∉L/\(σ.Z7 L).yB (At.isT t)=false) (h6:ds.length=P.cellsOf T/\c+P.cellsOf T<=size)
  (h:@EI P ((σ.Z7 L).Z0 t j (.arr true size (rows.set i (place (rowAt rows i) c ds)))) A l k):@SI P σ A o l k:=p8 ig hg hd gP hx ho hi h1 h2 h3 h4 h5 h6 h
theorem lG{T:TypeId}(ig:o.o.op= .store T x y)(hg:o.o.guard=none)(hd:o.o.dst=none)(gP:A.bar o.o=true)
  (hx:unc (look P σ 0 x)= .one (.ptr t j i 0)) (ho:σ.ob t j= .arr true size rows) (hi:i<rows.length) (h1:jc P T=true/\gOf (look P σ 0 x)=true/\gOf (look P σ T y)=true/\(unc (look P σ T y)).flat=true)
  (h2:Jd σ (unc (look P σ T y)).cells=some ds) (h3:QI σ (unc (look P σ T y)).cells) (h4:XC (unc (look P σ T y)).cells=L) (h5:L.Nodup/\(t,j)∉L/\(σ.Z7 L).yB (At.isT t)=false) (h6:ds.length=P.cellsOf T/\P.cellsOf T=size)
  (h:@EI P ((σ.Z7 L).Z0 t j (.arr true size (rows.set i ds))) A l k):@SI P σ A o l k:=pL ig hg hd gP hx ho hi h1 h2 h3 h4 h5 h6 h
theorem mO{T:TypeId}{c k':Nat}{s:List (List D)}(ig:o.o.op= .store T x y)(hg:o.o.guard=none)(hd:o.o.dst=none)(gP:A.bar o.o=true)
  (hx:unc (look P σ 0 x)= .one (.tref t j i c (some off))) (ah:off=k'*n+q) (ho:σ.ob t j= .arr true size rows) (hi:i<rows.length) (hc:(rowAt rows i)[c]?=some (.sl n s)) (hk:k'<s.length) (h1:jc P T=true/\gOf (look P σ 0 x)=true/\gOf (look P σ T y)=true/\(unc (look P σ T y)).flat=true)
  (h2:Jd σ (unc (look P σ T y)).cells=some ds) (h3:QI σ (unc (look P σ T y)).cells) (h4:XC (unc (look P σ T y)).cells=L) (h5:L.Nodup/\(t,j)∉L) (h6:ds.length=P.cellsOf T/\q+P.cellsOf T<=n)
  (h:@EI P ((σ.Z7 L).Z0 t j (.arr true size (rows.set i (place (rowAt rows i) c [.sl n (s.set k' (place (rowAt s k') q ds))])))) A l k):@SI P σ A o l k:=pS ig hg hd gP ⟨ah▸hx,ho,hi,hc,hk,h1,h2,h3,h4,h5,h6⟩ h
attribute [simp] oF ny sa oR rR ox oB oL mD nR mS ta s9 nu vS ux ng um vD nn oZ
open Go.RowKit
def Cells(w:World):CS:=fun b _=>b<w.heap.size
def Reads(w:World)(v:Value)(row:List D):Prop:=∃cs,ye v cs/\YJ (Rd (Cells w) w) cs row
theorem BB{own:Bool}(h:QX P f own rows [[.bool true]])(hv:YJ (Reads w) gb rows):
  Calls P f gb.toArray w fun e w'=>e= .returned (.bool true)/\Below w.heap.size w w':=by
 refine(h.2 (Cells w) w gb (fun _ _ hb=>hb) hv).mono ?_;rintro e w' ⟨vs,gO,Y,rfl,hb,_,hf,hr,_⟩;refine⟨?_,hb⟩;cases hr with
 |cons h1 hr=>
  cases hr;cases hf with
  |cons h2 hf=>
   cases hf;cases h1 with
   |cons h3 h1=>
    cases h1;have h4:∀v,jB own (Tof (Cells w) Y) w' v (.bool true)->Rd (Tof (Cells w) Y) w' v (.bool true):=by
     intro v hv;unfold jB at hv;split at hv
     ·exact hv
     ·exact hv
    have h4:=h4 _ h3;cases h4;rcases h2 with⟨v,eT,hvv,_⟩|⟨hl,_⟩
    ·cases eT;rw[hvv];rfl
    ·simp at hl
open Go.RowKit
variable{sp:Nat->Bool}{ps:List MemPlace}{fs:Array Field}
def Oh(P:Program):Nat->TypeId->Bool
 |0,_=>false
 |n+1,t=>
  match P.underlying t with
  |some .bool=>true
  |some (.int _)=>true
  |some .string=>true
  |some (.slice e)=>Oh P n e
  |some (.struct fs)=>fs.toList.all (fun f=>Oh P n f.type)&&P.cellsOf t !=1
  |_=>false
def TyR(P:Program):Nat->TypeId->List D->Prop
 |0,_,_=>False
 |n+1,t,row=>
  match P.underlying t with
  |some .bool=>∃b,row=[.bool b]
  |some (.int k)=>∃m,row=[.int k m]/\k.min<=m/\m<=k.max
  |some .string=>∃s,row=[.str s]/\s.size<=maxLen
  |some (.slice e)=>∃rows,row=[.sl (P.cellsOf e) rows]/\rows.length<=maxLen/\∀r∈rows,TyR P n e r/\r.length=P.cellsOf e
  |some (.struct fs)=>row.length=P.cellsOf t/\∀f∈fs.toList,TyR P n f.type (cut row f.offset (P.cellsOf f.type))
  |_=>False
def N6(P:Program):Nat->List Field->Nat->Bool
 |k,[],n=>k==n
 |k,f::fs,n=>f.offset==k&&N6 P (k+P.cellsOf f.type) fs n
def AJ(P:Program):Nat->TypeId->Bool
 |0,_=>false
 |n+1,t=>
  match P.underlying t with
  |some .bool=>P.cellsOf t==1
  |some (.int _)=>P.cellsOf t==1
  |some .string=>P.cellsOf t==1
  |some (.slice e)=>P.cellsOf t==1&&AJ P n e
  |some (.struct fs)=>fs.toList.all (fun f=>AJ P n f.type)&&N6 P 0 fs.toList (P.cellsOf t)
  |_=>false
theorem HU{α β:Type}{f:α->Option β}:∀{l:List α}{m:List β},l.mapM f=some m->l.length=m.length/\∀(i:Nat) a,l[i]?=some a->∃b,m[i]?=some b/\f a=some b
 |[],m,h=>by simp at h;subst h;exact⟨rfl,fun i a ha=>by simp at ha⟩
 |x::l,m,h=>by
  simp only[List.mapM_cons,Option.bind_eq_bind,Option.bind_eq_some_iff]at h;obtain⟨b,hb,bs,hbs,h⟩:=h;simp at h;subst h;obtain⟨h1,h2⟩:=HU hbs;refine⟨by simp[h1],fun i a ha=>?_⟩;cases i with
  |zero=>simp at ha;subst ha;exact⟨b,zAE,hb⟩
  |succ i=>simpa using h2 i a (by simpa using ha)
theorem s4(h:w.cells? 0 a n=some cs):cs.length=n/\∀i v,cs[i]?=some v->w.cell? (a.add i)=some v:=by
 unfold World.cells? at h;simp at h;obtain⟨h1,h2⟩:=HU h;simp at h1;refine⟨h1.symm,fun i v hv=>?_⟩;have hi:i<n:=by have:=(List.getElem?_eq_some_iff.1 hv).1;omega
 obtain⟨b,hb,hf⟩:=h2 i i (by simp[hi]);rw[hv]at hb;cases hb;exact hf
theorem O5{w:World}{P:Program}{q n:Nat}{cs:List Value}(hl:cs.length=n):∀{fs:List Field}{k:Nat},N6 P k fs n=true->k<=n->
  (∀f∈fs,∃row,YJ (Rd (Cells w) w) (cut cs f.offset (P.cellsOf f.type)) row/\TyR P q f.type row)->
  ∃tail,YJ (Rd (Cells w) w) (cs.drop k) tail/\∀(pre:List D),pre.length=k->∀f∈fs,TyR P q f.type (cut (pre++tail) f.offset (P.cellsOf f.type))
 |[],k,hc,hk,_=>by simp only[N6,beq_iff_eq]at hc;subst hc;exact⟨[],by rw[List.drop_eq_nil_of_le zAC];exact .nil,fun _ _ f hf=>by cases hf⟩
 |f::fs,k,hc,hk,h=>by
  simp only[N6,Bool.and_eq_true,beq_iff_eq]at hc;obtain⟨row,ir,ej⟩:=h f zAE;rw[hc.1]at ir;have hkn:k+P.cellsOf f.type<=n:=by
   clear h ir ej;have:∀(fs:List Field)(k:Nat),N6 P k fs n=true->k<=n:=by
    intro fs;induction fs with
    |nil=>intro k hh;simp[N6]at hh;omega
    |cons g gs ih=>intro k hh;simp only[N6,Bool.and_eq_true,beq_iff_eq]at hh;have:=ih _ hh.2;omega
   exact this _ _ hc.2
  have dv:row.length=P.cellsOf f.type:=by rw[<-ir.length];simp[cut];omega
  obtain⟨tail,aJ,ai⟩:=O5 hl hc.2 hkn (fun g hg=>h g (by simp[hg]));refine⟨row++tail,?_,?_⟩
  ·have:cs.drop k=cut cs k (P.cellsOf f.type)++cs.drop (k+P.cellsOf f.type):=by unfold cut;rw[<-List.drop_drop];exact(List.take_append_drop _ _).symm
   rw[this];exact ir.append aJ
  ·intro pre eF g hg;rcases List.mem_cons.1 hg with rfl|hg
   ·have:cut (pre++(row++tail)) g.offset (P.cellsOf g.type)=row:=by unfold cut;rw[hc.1,<-eF,List.drop_left,<-dv,List.take_left]
    rw[this];exact ej
   ·have:=ai (pre++row) (by rw[List.length_append,eF,dv]) g hg;rw[<-List.append_assoc];exact this
section
variable{H:Type}{enc:TypeId×Value->H}{t:TypeId}{d:DataW H}
theorem trod_bool(hu:P.underlying t=some .bool)(h:DataW.trod enc P w 0 sp held fuel t cs=some (d,ps)):∃b,cs=[.bool b]:=by
 cases fuel with
 |zero=>simp[DataW.trod]at h
 |succ fuel=>unfold DataW.trod at h;rw[hu]at h;split at h<;>simp_all
theorem trod_int{k:IntKind}(hu:P.underlying t=some (.int k))(h:DataW.trod enc P w 0 sp held fuel t cs=some (d,ps)):∃m,cs=[.int k m]/\k.min<=m/\m<=k.max:=by
 cases fuel with
 |zero=>simp[DataW.trod]at h
 |succ fuel=>unfold DataW.trod at h;rw[hu]at h;split at h<;>simp_all[Lit.wf]
theorem pA(hu:P.underlying t=some .string)(h:DataW.trod enc P w 0 sp held fuel t cs=some (d,ps)):∃s,cs=[.string s]/\s.size<=maxLen:=by
 cases fuel with
 |zero=>simp[DataW.trod]at h
 |succ fuel=>unfold DataW.trod at h;rw[hu]at h;split at h<;>simp_all
theorem trod_slice{e:TypeId}(hu:P.underlying t=some (.slice e))(h:DataW.trod enc P w 0 sp held fuel t cs=some (d,ps)):
  cs=[.slice none 0 0]\/∃a len cap,cs=[.slice (some a) len cap]/\len<=cap/\cap<=maxLen/\
   ∀i,i<len->∃xs f x,w.cells? 0 (a.add (i*P.cellsOf e)) (P.cellsOf e)=some xs/\DataW.trod enc P w 0 sp held f e xs=some x:=by
 cases fuel with
 |zero=>simp[DataW.trod]at h
 |succ fuel=>
  unfold DataW.trod at h;rw[hu]at h;split at h<;>first|(simp_all;done)|skip
  rename_i e' a len cap heq;cases heq;refine .inr ⟨a,len,cap,rfl,?_⟩;simp only at h;split at h
  ·rename_i hc;refine⟨hc.2.1,hc.2.2,fun i hi=>?_⟩;simp only[Option.bind_eq_some_iff]at h;obtain⟨elems,hel,_⟩:=h;obtain⟨hl,hg⟩:=HU hel;obtain⟨x,_,hx⟩:=hg i i (by simp[hi]);obtain⟨xs,h1,h2⟩:=Option.bind_eq_some_iff.1 hx;exact⟨xs,fuel,x,h1,h2⟩
  ·cases h
theorem trod_struct(hu:P.underlying t=some (.struct fs))(h:DataW.trod enc P w 0 sp held fuel t cs=some (d,ps)):
  cs.length=P.cellsOf t/\∀f∈fs.toList,∃q x,DataW.trod enc P w 0 sp held q f.type (cut cs f.offset (P.cellsOf f.type))=some x:=by
 cases fuel with
 |zero=>simp[DataW.trod]at h
 |succ fuel=>
  unfold DataW.trod at h;rw[hu]at h;split at h<;>first|(simp_all;done)|skip
  rename_i fs' heq;cases heq;split at h
  ·rename_i hc;refine⟨hc,fun f hf=>?_⟩;simp only[Option.map_eq_some_iff]at h;obtain⟨xs,hx,_⟩:=h;obtain⟨_,hg⟩:=HU hx;obtain⟨i,hi⟩:=List.mem_iff_getElem?.1 hf;obtain⟨x,_,hx⟩:=hg i f hi;exact⟨fuel,x,hx⟩
  ·cases h
end
theorem oH(h:w.cell? a=some v):a.block<w.heap.size:=by
 unfold World.cell? at h;cases hh:w.heap[a.block]? with
 |none=>simp[hh]at h
 |some o=>exact(Array.getElem?_eq_some_iff.1 hh).1
theorem rH(a:Addr)(m k:Nat)(h:m<=k):a.add k=(a.add m).add (k-m):=by
 simp only[Addr.add];by_cases h0:m=0
 ·subst h0;simp
 ·by_cases h1:k-m=0
  ·have:k=m:=zAC;subst this;simp[h0]
  ·have:k≠0:=zAC;simp only[h0,h1,this,if_false];congr 1;omega
theorem tA{e:TypeId}{cap:Nat}(hlc:len<=cap)(hcm:cap<=maxLen)
  (h:∀i,i<len->∃xs row,w.cells? 0 (a.add (i*size)) size=some xs/\YJ (Rd (Cells w) w) xs row/\TyR P n e row):
  ∃rows:List (List D),Rd (Cells w) w (.slice (some a) len cap) (.sl size rows)/\rows.length<=maxLen/\∀r∈rows,TyR P n e r/\r.length=size:=by
 have key:∀m,m<=len->∃rows:List (List D),rows.length=m/\(∀r∈rows,TyR P n e r/\r.length=size)/\
   ∀k d,rows.flatten[k]?=some d->∃v,w.cell? (a.add k)=some v/\Rd (Cells w) w v d:=by
  intro m;induction m with
  |zero=>intro _;exact⟨[],rfl,(by intro r hr;cases hr),(by intro k d hk;simp at hk)⟩
  |succ m ih=>
   intro hm;obtain⟨rows,hl,ht,hk⟩:=ih zAC;obtain⟨xs,row,hx,ir,ej⟩:=h m zAC;obtain⟨bl,hxc⟩:=s4 hx;have dv:row.length=size:=by rw[<-ir.length,bl]
   have fL:rows.flatten.length=m*size:=by rw[YV rows size (fun r hr=>(ht r hr).2),hl]
   refine⟨rows++[row],by simp[hl],fun r hr=>?_,fun k d hd=>?_⟩
   ·rcases List.mem_append.1 hr with hr|hr
    ·exact ht r hr
    ·simp at hr;subst hr;exact⟨ej,dv⟩
   ·rw[List.flatten_append,List.flatten_singleton]at hd;rcases Nat.lt_or_ge k rows.flatten.length with hD|dR
    ·rw[List.getElem?_append_left hD]at hd;exact hk k d hd
    ·rw[List.getElem?_append_right dR]at hd;obtain⟨v,hv,hr⟩:=ir.get' _ d hd;refine⟨v,?_,hr⟩;have:=hxc _ v hv
     rw[show a.add k=(a.add (m*size)).add (k-rows.flatten.length)by rw[fL];rw[fL]at dR;exact rH a (m*size) k dR];exact this
 obtain⟨rows,hl,ht,hk⟩:=key len (Nat.le_refl _);refine⟨rows,?_,zAC,ht⟩;have spot0:rows.flatten≠[]->a.spot=none:=by
  intro ij;obtain⟨d,tl,hcons⟩:=List.exists_cons_of_ne_nil ij;obtain⟨v,hv,_⟩:=hk 0 d (by rw[hcons];rfl);have:=World.cell?_spot hv
  simpa[Addr.add]using this
 refine .sl a len cap size rows (fun k=>(w.cell? (a.add k)).getD undef) hl hlc hcm (fun r hr=>(ht r hr).2) spot0 (fun k d hd=>?_) (fun k d hd=>?_)
 ·obtain⟨v,hv,_⟩:=hk k d hd;have bX:a.spot=none:=spot0 (by intro hh;rw[hh]at hd;simp at hd)
  have he:a.add k=⟨a.block,a.off+k,none⟩:=by
   obtain⟨b,o,sp⟩:=a;simp only at bX;subst bX;simp only[Addr.add];split
   ·rename_i h0;subst h0;rfl
   ·rfl
  rw[he]at hv⊢;rw[hv];exact⟨rfl,oH (a:=⟨a.block,a.off+k,none⟩) hv⟩
 ·obtain⟨v,hv,hr⟩:=hk k d hd;simp only[hv,Option.getD_some];exact hr
theorem Lr{H:Type}{enc:TypeId×Value->H}{P:Program}{w:World}{sp:Nat->Bool}{held:Bool}:∀(n:Nat){fuel:Nat}{t:TypeId}{cs:List Value}{d:DataW H}{ps:List MemPlace},Oh P n t=true->AJ P n t=true->
  DataW.trod enc P w 0 sp held fuel t cs=some (d,ps)->∃row,YJ (Rd (Cells w) w) cs row/\TyR P n t row
 |0,_,_,_,_,_,h,_,_=>by simp[Oh]at h
 |n+1,fuel,t,cs,d,ps,hp,hl,h=>by
  simp only[Oh]at hp;simp only[AJ]at hl;simp only[TyR];cases hu:P.underlying t with
  |none=>simp[hu]at hp
  |some td=>
   cases td with
   |bool=>obtain⟨b,rfl⟩:=trod_bool hu h;exact⟨_,.cons (.bool b) .nil,b,rfl⟩
   |int k=>obtain⟨m,rfl,h1,h2⟩:=trod_int hu h;exact⟨_,.cons (.int k m) .nil,m,rfl,h1,h2⟩
   |string=>obtain⟨s,rfl,h1⟩:=pA hu h;exact⟨_,.cons (.str s) .nil,s,rfl,h1⟩
   |slice e=>
    simp only[hu]at hp hl;simp only[Bool.and_eq_true]at hl;rcases trod_slice hu h with rfl|⟨a,len,cap,rfl,h1,h2,h3⟩
    ·exact⟨_,.cons (.nil (P.cellsOf e)) .nil,[],rfl,zAE,zAE⟩
    ·obtain⟨rows,hr,dv,hrt⟩:=tA (P:=P) (n:=n) (size:=P.cellsOf e) (e:=e) h1 h2 (fun i hi=>by
      obtain⟨xs,f,x,hx,ht⟩:=h3 i hi;obtain⟨row,ir,ej⟩:=Lr n hp hl.2 (d:=x.1) (ps:=x.2) ht;exact⟨xs,row,hx,ir,ej⟩)
     exact⟨_,.cons hr .nil,rows,rfl,dv,hrt⟩
   |struct fs=>
    simp only[hu]at hp hl;simp only[Bool.and_eq_true]at hp hl;obtain⟨h1,h2⟩:=trod_struct hu h;obtain⟨row,ir,ai⟩:=O5 (w:=w) (P:=P) (q:=n) h1 hl.2 (Nat.zero_le _) (fun f hf=>by
     obtain⟨q,x,hx⟩:=h2 f hf;exact Lr n (List.all_eq_true.1 hp.1 f hf) (List.all_eq_true.1 hl.1 f hf) (d:=x.1) (ps:=x.2) hx)
    refine⟨row,by simpa using ir,?_,fun f hf=>by simpa using ai [] rfl f hf⟩;have:=ir.length
    simp at this;omega
   |_=>simp[hu]at hp
open Go.RowKit Go.WideShapes Go.ChangeAt Go.ChangeShapes
theorem Bo{H:Type}{enc:TypeId×Value->H}{t:TypeId}{d:DataW H}
  (hp:Oh P n t=true) (hl:AJ P n t=true) (gF:Value.okWide P w r base t v) (h:DataW.Trod enc P w 0 sp held t v d ps):∃row,Reads w v row/\TyR P n t row:=by
 obtain⟨fuel,hf⟩:=h;obtain⟨row,ir,ej⟩:=Lr n hp hl hf;refine⟨row,⟨v.cells.toList,?_,ir⟩,ej⟩;cases n with
 |zero=>simp[Oh]at hp
 |succ n=>
  simp only[Oh]at hp;cases hu:P.underlying t with
  |none=>simp[hu]at hp
  |some td=>
   cases td with
   |bool=>obtain⟨b,rfl⟩:=okWide_bool hu gF;exact .inl ⟨_,rfl,rfl,rfl⟩
   |int k=>obtain⟨b,rfl⟩:=okWide_int hu gF;exact .inl ⟨_,rfl,rfl,rfl⟩
   |string=>obtain⟨b,rfl⟩:=okWide_string hu gF;exact .inl ⟨_,rfl,rfl,rfl⟩
   |slice e=>obtain⟨a,l,c,rfl⟩:=okWide_slice hu gF;exact .inl ⟨_,rfl,rfl,rfl⟩
   |struct fs=>obtain⟨cs,rfl,g7⟩:=okWide_struct hu gF;simp[hu]at hp;exact .inr ⟨by simp[Value.cells,g7,hp.2],by simp[Value.cells]⟩
   |_=>simp[hu]at hp
def Bz(P:Program)(n:Nat):List TypeId->List (List D)->Prop
 |[],[]=>True
 |t::ts,r::rs=>TyR P n t r/\Bz P n ts rs
 |_,_=>False
def SH(P:Program)(n:Nat)(ts:List TypeId):Bool:=ts.all fun t=>Oh P n t&&AJ P n t&&P.readableRec t&&decide (t<P.types.size)
theorem AL{H:Type}{enc:TypeId×Value->H}{P:Program}{w:World}{sp:Nat->Bool}{held:Bool}{n base:Nat}{r:Reach}:∀{ts:List TypeId}{vs:List Value}{ds:List (DataW H)}{ps:List MemPlace},SH P n ts=true->
  (∀(j:Nat) t v,ts[j]?=some t->vs[j]?=some v->Value.okWide P w r base t v)->DataW.TrodAll enc P w 0 sp held ts vs ds ps->∃rows,YJ (Reads w) vs rows/\Bz P n ts rows
 |[],[],[],_,_,_,_=>⟨[],.nil,trivial⟩
 |t::ts,v::vs,d::ds,_,hp,gF,h=>by obtain⟨p,q,h1,h2,_⟩:=h;simp only[SH,List.all_cons,Bool.and_eq_true]at hp;obtain⟨row,hr,ht⟩:=Bo hp.1.1.1.1 hp.1.1.1.2 (gF 0 t v rfl rfl) h1;obtain⟨rows,e8,hts⟩:=AL (by simpa[SH]using hp.2) (fun j t v ht hv=>gF (j+1) t v ht hv) h2;exact⟨row::rows,.cons hr e8,ht,hts⟩
 |[],[],_::_,_,_,_,h=>h.elim
 |[],_::_,_,_,_,_,h=>zBz
 |_::_,[],_,_,_,_,h=>zBz
 |_::_,_::_,[],_,_,_,h=>h.elim
theorem LF{H:Type}{enc:TypeId×Value->H}{P:Program}{n:Nat}(dQ:laidOutB P=true){W W':World}(hb:Below W.heap.size W W'):∀{ts:List TypeId}{vs:List Value}{ds:List (DataW H)}{ps:List MemPlace},SH P n ts=true->
  DataW.TrodAll enc P W 0 (fun _=>true) true ts vs ds ps->DataW.TrodAll enc P W' 0 (fun b=>decide (b<W.heap.size)) true ts vs ds ps
 |[],[],[],_,_,h=>h
 |t::ts,v::vs,d::ds,_,hp,h=>by
  obtain⟨p,q,h1,h2,rfl⟩:=h;simp only[SH,List.all_cons,Bool.and_eq_true,decide_eq_true_eq]at hp;have lt0:∀x∈p,x.block<W.heap.size:=by obtain⟨m,hm⟩:=h1;exact DataW.trod_lt m _ _ _ hm
  exact⟨p,q,Below.trod dQ hp.1.1.2 hp.1.2 h1 hb lt0,LF dQ hb (by simpa[SH]using hp.2) h2,rfl⟩
 |[],[],_::_,_,_,h=>h.elim
 |[],_::_,_,_,_,h=>zBz
 |_::_,[],_,_,_,h=>zBz
 |_::_,_::_,[],_,_,h=>h.elim
end Go.Vm
