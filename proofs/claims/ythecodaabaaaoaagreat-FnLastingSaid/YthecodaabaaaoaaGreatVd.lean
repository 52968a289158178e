/- An abstract machine M1 the model of Go, by value, and that it is sound: part Vd. No condition. -/
import Derived.Test.YthecodaabaaaoaaGreatVc
import Derived.Orders
set_option linter.unusedVariables false
set_option linter.unusedSimpArgs false
namespace Go.Vm
open Go.RowKit
variable{σ σ1 σ' σ2 A:St}{P:Program}{d u id t i j size b dx dy:Nat}{v:V}{o y oi:Oper}{x z:Operand}{l:List Oper}{op:BinOp}{k:Fr}{c:Call}{q:Bool}{f:FuncId}{n:Int}{a:Act}
structure Sub(P:Program)(xs:List Operand)(σ1 σ:St):Prop where
 len:σ1.length=σ.length
 look:∀x∈xs,∀ty,look P σ1 ty x=look P σ ty x
 ob:∀x∈xs,∀ty u,(Vm.look P σ1 ty x).ref u=true->∀j,σ1.ob u j≠ .none->σ.ob u j=σ1.ob u j
theorem QZ{x:At}(h:unc v= .one x)(hx:x.ref u=true):v.ref u=true:=by
 cases v with
 |cnd g y=>simp only[unc]at h;subst h;simp only[V.ref,V.Ow,Bool.or_eq_true];exact .inl hx
 |one y=>simp only[unc]at h;cases h;exact hx
 |any=>simp[unc]at h
 |agg xs=>simp[unc]at h
 |tup xs=>simp[unc]at h
 |fix g y=>simp only[unc]at h;subst h;simp only[V.ref,V.Ow,Bool.or_eq_true];exact .inl hx
theorem Of{xs:List At}(h:unc v= .agg xs)(hx:Yf u xs=true):v.ref u=true:=by
 cases v with
 |cnd g y=>simp only[unc]at h;subst h;simp only[V.ref,V.Ow,Bool.or_eq_true];exact .inl hx
 |agg y=>simp only[unc]at h;cases h;exact hx
 |any=>simp[unc]at h
 |one xs=>simp[unc]at h
 |tup xs=>simp[unc]at h
 |fix g y=>simp only[unc]at h;subst h;simp only[V.ref,V.Ow,Bool.or_eq_true];exact .inl hx
theorem W1(hx:Yf u (unc v).cells=true):v.ref u=true:=by
 cases h:unc v with
 |one x=>rw[h]at hx;simp[V.cells,Yf]at hx;exact QZ h hx
 |agg xs=>rw[h]at hx;exact Of h hx
 |any=>rw[h]at hx;simp[V.cells,Yf]at hx
 |tup xs=>rw[h]at hx;simp[V.cells,Yf]at hx
 |cnd g x=>rw[h]at hx;simp[V.cells,Yf]at hx
 |fix u x=>rw[h]at hx;simp[V.cells,Yf]at hx
theorem Sub.same{xs:List Operand}{ty:TypeId}{a:At}{o:Ob}(h:Sub P xs σ1 σ)(hx:x∈xs)(hv:unc (Vm.look P σ ty x)= .one a)(ha:a.ref u=true)(ho:σ1.ob u j=o)(hn:o≠ .none):σ.ob u j=o:=by rw[<-ho];refine h.ob x hx ty u ?_ j (by rw[ho];exact hn);rw[h.look x hx ty];exact QZ hv ha
theorem xk{xs:List Operand}{k:IntKind}(h:Sub P xs σ1 σ)(hx:x∈xs)(hl:Vy P σ1 x k n):Vy P σ x k n:=by unfold Vy at*;rw[<-h.look x hx];exact hl
theorem EW{xs:List Operand}{df n:Nat}{x:Option Operand}(h:Sub P xs σ1 σ)(hx:∀y,x=some y->y∈xs)(hl:bnd P σ1 df x n):bnd P σ df x n:=by
 cases x with
 |none=>exact hl
 |some x=>simp only[bnd]at*;rw[<-h.look x (hx x rfl)];exact hl
theorem NL{T:TypeId}:∀{ps:List (Nat×Operand)}{z out:List At},Sub P (ps.map (·.2)) σ1 σ->TT P σ1 T ps z out->TT P σ T ps z out
 |[],_,_,_,h=>h
 |(i,x)::ps,z,out,hs,h=>by have e:=hs.look x zAG;simp only[TT]at h⊢;rw[<-e];refine⟨h.1,h.2.1,h.2.2.1,h.2.2.2.1,h.2.2.2.2.1,NL ⟨hs.len,fun y hy=>hs.look y zBP,fun y hy=>hs.ob y zBP⟩ h.2.2.2.2.2⟩
theorem WU{op:Op}{ty:TypeId}(hs:Yh P σ1 op ty v)(h:Sub P op.operands.toList σ1 σ):Yh P σ op ty v:=by
 cases op<;>simp only[Yh]at hs⊢;case move x=>rw[<-h.look x zAb];exact hs
 case assign x=>rw[<-h.look x zAb];exact hs
 case pick c a b=>rw[<-h.look c zAb,<-h.look a zAb,<-h.look b zAb];exact hs
 case load T x=>
  rw[h.look x zAb]at hs;refine⟨hs.1,hs.2.1,?_⟩;have nt:=hs.2.2
  split at nt
  ·rename_i t c hx;obtain⟨cells,ho,hr⟩:=nt;exact⟨cells,h.same zAb hx zAy ho zAG,hr⟩
  ·rename_i t j i c hx;obtain⟨q,size,rows,ho,hr⟩:=nt;exact⟨q,size,rows,h.same zAb hx zAy ho zAG,hr⟩
  ·exact nt
  ·rename_i t j i c k hx;obtain⟨size,rows,s,ho,hr⟩:=nt;exact⟨size,rows,s,h.same zAb hx zAy ho zAG,hr⟩
  ·exact nt.elim
 case nilCheck x=>
  rw[h.look x zAb]at hs;refine⟨hs.1,?_⟩;have nt:=hs.2
  split at nt
  ·rename_i t c hx;obtain⟨⟨cells,ho⟩,hr⟩:=nt;exact⟨⟨cells,h.same zAb hx zAy ho zAG⟩,hr⟩
  ·exact nt.elim
 case fieldAddr T x f=>
  rw[h.look x zAb]at hs;refine⟨hs.1,hs.2.1,?_⟩;have nt:=hs.2.2
  split at nt
  ·rename_i t c hx;obtain⟨⟨cells,ho⟩,hr⟩:=nt;exact⟨⟨cells,h.same zAb hx zAy ho zAG⟩,hr⟩
  ·rename_i t j i c hx;obtain⟨⟨q,size,rows,ho⟩,hr⟩:=nt;exact⟨⟨q,size,rows,h.same zAb hx zAy ho zAG⟩,hr⟩
  ·exact nt
  ·rename_i t j i c k hx;obtain⟨⟨size,rows,ho⟩,hr⟩:=nt;exact⟨⟨size,rows,h.same zAb hx zAy ho zAG⟩,hr⟩
  ·exact nt.elim
 case indexAddr T x ix=>
  obtain⟨k,i,hk,h0,hg,nt⟩:=hs;rw[h.look x zAb]at hg nt;refine⟨k,i,xk h zAb hk,h0,hg,?_⟩;split at nt
  ·exact nt
  ·rename_i t j lo len hx;obtain⟨h1,h2,⟨q,rows,ho⟩,hr⟩:=nt;exact⟨h1,h2,⟨q,rows,h.same zAb hx zAy ho zAG⟩,hr⟩
  ·rename_i t c hx;obtain⟨⟨cells,ho⟩,hr⟩:=nt;exact⟨⟨cells,h.same zAb hx zAy ho zAG⟩,hr⟩
  ·rename_i t j m c hx;obtain⟨h1,h2,⟨size,rows,s,ho,hr⟩,hv⟩:=nt;exact⟨h1,h2,⟨size,rows,s,h.same zAb hx zAy ho zAG,hr⟩,hv⟩
  ·exact nt.elim
 case index T x ix=>obtain⟨k,i,hk,h0,hg,nt⟩:=hs;rw[h.look x zAb]at hg nt;exact⟨k,i,xk h zAb hk,h0,hg,nt⟩
 case slice T x lo hi mx=>
  cases mx with
  |some m=>exact hs.elim
  |none=>
   simp only at hs⊢;rw[h.look x zAb]at hs;refine⟨hs.1,?_⟩;have nt:=hs.2
   have b1:∀df n,bnd P σ1 df lo n->bnd P σ df lo n:=fun df n=>EW h (fun y hy=>by subst hy;simp[Op.operands]);have b2:∀df n,bnd P σ1 df hi n->bnd P σ df hi n:=fun df n=>EW h (fun y hy=>by subst hy;simp[Op.operands]);split at nt
   ·obtain⟨h1,l,hh,h2,h3,hr⟩:=nt;exact⟨h1,l,hh,b1 _ _ h2,b2 _ _ h3,hr⟩
   ·obtain⟨h1,h1',l,hh,h2,h3,hr⟩:=nt;exact⟨h1,h1',l,hh,b1 _ _ h2,b2 _ _ h3,hr⟩
   ·rename_i t j o len hx;obtain⟨h1,⟨q,rows,ho⟩,l,hh,h2,h3,hr⟩:=nt;exact⟨h1,⟨q,rows,h.same zAb hx zAy ho zAG⟩,l,hh,b1 _ _ h2,b2 _ _ h3,hr⟩
   ·exact nt.elim
 case binOp op T x y yt=>rw[<-h.look x zAb,<-h.look y zAb];exact hs
 case unOp op T x=>rw[<-h.look x zAb];exact hs
 case convert S T x=>rw[<-h.look x zAb];exact hs
 case extract x i=>rw[<-h.look x zAb];exact hs
 case field T x f=>rw[<-h.look x zAb];exact hs
 case build T parts=>obtain⟨h1,h2,z,out,h3,h4,h5⟩:=hs;refine⟨h1,h2,z,out,h3,NL ?_ h4,h5⟩;simpa[Op.operands]using h
 case call c=>
  obtain⟨cal,args,gx⟩:=c;have hm:∀x∈args.toList,x∈(Op.operands (.call ⟨cal,args,gx⟩)).toList:=by intro x hx;simp only[Op.operands,Call.operands];cases cal<;>simp at hx⊢<;>simp[hx]
  split at hs
  ·rename_i x t hc ha ht;rw[h.look x (hm x zBf)]at hs;try simp only[hc,ha,ht]
   refine⟨hs.1,?_⟩;have nt:=hs.2
   split at nt
   ·exact nt
   ·exact nt
   ·exact nt
   ·rename_i u j lo len hx;obtain⟨h1,⟨q,size,rows,ho⟩|⟨size,rows,ho⟩,hr⟩:=nt
    ·exact⟨h1,.inl ⟨q,size,rows,h.same (hm x zBf) hx zAy ho zAG⟩,hr⟩
    ·exact⟨h1,.inr ⟨size,rows,h.same (hm x zBf) hx zAy ho zAG⟩,hr⟩
   ·rename_i u j i c hx;obtain⟨h1,size,rows,n,s,ho,hr⟩:=nt;exact⟨h1,size,rows,n,s,h.same (hm x zBf) hx zAy ho zAG,hr⟩
   ·exact nt.elim
  ·rename_i x y hc ha;try simp only[hc,ha]
   obtain⟨k,m,n,h1,h2,h3⟩:=hs;exact⟨k,m,n,xk h (hm x zBf) h1,xk h (hm y zBf) h2,h3⟩
  ·rename_i x y hc ha;try simp only[hc,ha]
   obtain⟨k,m,n,h1,h2,h3⟩:=hs;exact⟨k,m,n,xk h (hm x zBf) h1,xk h (hm y zBf) h2,h3⟩
  ·exact hs.elim
open Go.RowKit
variable{ys:List Operand}{news res r:List (List D)}
def O6(P:Program)(xs:List Operand)(σ:St)(u:Nat):Prop:=
 ∃x∈xs,∃ty,(look P σ ty x).ref u=true\/∃t cells,(look P σ ty x).ref t=true/\σ.ob t 0= .box cells/\Yf u cells=true
theorem zq{u:Nat}:∀{xs:List At},Yf u xs=true↔∃x∈xs,x.ref u=true
 |[]=>by simp[Yf]
 |x::xs=>by simp[Yf,zq]
theorem Aj{xs ys:List At}(h:∀x∈xs,x∈ys)(hx:Yf u xs=true):Yf u ys=true:=by obtain⟨x,h1,h2⟩:=zq.1 hx;exact zq.2 ⟨x,h x h1,h2⟩
theorem OT{a:Nat}{xs:List At}(hx:Yf u (cut xs a b)=true):Yf u xs=true:=
 Aj (fun _ h=>List.mem_of_mem_drop (List.mem_of_mem_take h)) hx
theorem V0(xs:List D):Yf u (xs.map .d)=false:=by
 induction xs with
 |nil=>rfl
 |cons x xs ih=>simp[Yf,At.ref,ih]
theorem PN{T:TypeId}{xs:List At}(h:(ldV P T xs).ref u=true):Yf u xs=true:=by
 unfold ldV at h;split at h
 ·exact h
 ·split at h
  ·simpa[V.ref,Yf]using h
  ·simp[V.ref]at h
theorem vc{o:Nat}{r xs:List At}(h:Yf u (place r o xs)=true):Yf u r=true\/Yf u xs=true:=by
 obtain⟨x,h1,h2⟩:=zq.1 h;simp only[place,List.mem_append]at h1;rcases h1 with(h1|h1)|h1
 ·exact .inl (zq.2 ⟨x,List.mem_of_mem_take h1,h2⟩)
 ·exact .inr (zq.2 ⟨x,h1,h2⟩)
 ·exact .inl (zq.2 ⟨x,List.mem_of_mem_drop h1,h2⟩)
theorem si(h:(unc v).ref u=true)(hc:∀g x,unc v≠ .cnd g x)(hf:∀g x,unc v≠ .fix g x):v.ref u=true:=by
 cases v with
 |cnd g x=>
  simp only[unc]at h hc hf;simp only[V.ref,Bool.or_eq_true];cases x with
  |tup xs=>exact .inr h
  |cnd g y=>exact absurd rfl (hc g y)
  |fix g y=>exact absurd rfl (hf g y)
  |one x=>exact .inl h
  |agg x=>exact .inl h
  |any=>exact .inl h
 |fix g x=>
  simp only[unc]at h hc hf;simp only[V.ref,Bool.or_eq_true];cases x with
  |tup xs=>exact .inr h
  |cnd g y=>exact absurd rfl (hc g y)
  |fix g y=>exact absurd rfl (hf g y)
  |one x=>exact .inl h
  |agg x=>exact .inl h
  |any=>exact .inl h
 |_=>exact h
theorem HF{u t j i:Nat}:∀{c:Nat}{xs:List D},Yf u (Wc t j i c xs)=true->u=t
 |_,[],h=>by simp[Wc,Yf]at h
 |c,x::xs,h=>by
  simp only[Wc,Yf,Bool.or_eq_true]at h;rcases h with h|h
  ·cases x<;>simp[At.ref]at h;exact h.symm
  ·exact HF h
theorem Ak{c:Nat}{xs:List D}(h:Yf u (SY q t j i c xs)=true):u=t:=by
 cases q with
 |true=>exact HF h
 |false=>simp only[SY]at h;rw[V0]at h;cases h
theorem Ct{k:IntKind}{x y:Int}(h:I4 op k x y v)(u:Nat):v.ref u=false:=by cases op<;>simp only[I4]at h<;>first|(subst h;rfl)|(obtain⟨_,rfl⟩:=h;rfl)|exact h.elim
theorem Bi{x y:ByteArray}(h:HL op x y v)(u:Nat):v.ref u=false:=by cases op<;>simp only[HL]at h<;>first|(subst h;rfl)|(obtain⟨_,rfl⟩:=h;rfl)|exact h.elim
theorem Da{x y:Bool}(h:NT op x y v)(u:Nat):v.ref u=false:=by cases op<;>simp only[NT]at h<;>first|(subst h;rfl)|(obtain⟨_,rfl⟩:=h;rfl)|exact h.elim
theorem AA{T:TypeId}{x y:V}(h:BJ P op T x y v)(u:Nat):v.ref u=false:=by
 unfold BJ at h;split at h
 ·exact Ct h.2 u
 ·exact Bi h u
 ·exact Da h.2 u
 ·obtain⟨_,q,_,⟨_,rfl⟩|⟨_,rfl⟩⟩:=h<;>rfl
 ·exact h.elim
theorem EX{u:Nat}:∀{xs:List V}{i:Nat}{v:V},xs[i]?=some v->v.Ow u=true->Tf u xs=true
 |[],_,_,h,_=>by simp at h
 |x::xs,0,v,h,hr=>by simp at h;subst h;simp[Tf,hr]
 |x::xs,i+1,v,h,hr=>by simp only[Tf,Bool.or_eq_true];exact .inr (EX zBr hr)
theorem Em(hf:v.flat=true)(u:Nat):v.ref u=v.Ow u:=by cases v<;>first|rfl|(simp[V.flat]at hf)
theorem Ha{P:Program}{σ:St}{T:TypeId}{u:Nat}:∀{ps:List (Nat×Operand)}{z out:List At},TT P σ T ps z out->Yf u out=true->
  Yf u z=true\/∃x∈ps.map (·.2),∃ty,(look P σ ty x).ref u=true
 |[],z,out,h,hr=>by simp only[TT]at h;subst h;exact .inl hr
 |(i,x)::ps,z,out,h,hr=>by
  simp only[TT]at h;rcases Ha h.2.2.2.2.2 hr with h1|⟨y,hy,ty,h1⟩
  ·rcases vc h1 with h1|h1
   ·exact .inl h1
   ·exact .inr ⟨x,zAG,_,W1 h1⟩
  ·exact .inr ⟨y,by simp at hy⊢;exact .inr hy,ty,h1⟩
theorem Mv{op:Op}{ty:TypeId}(hs:Yh P σ op ty v)(hr:v.ref u=true):O6 P op.operands.toList σ u:=by
 have nod:∀{x:D},v= .one (.d x)->False:=by intro x e;rw[e]at hr;cases hr
 cases op<;>simp only[Yh]at hs;case move x=>subst hs;exact⟨x,by simp[Op.operands],ty,.inl hr⟩
 case assign x=>subst hs;exact⟨x,by simp[Op.operands],ty,.inl hr⟩
 case pick c a b=>obtain⟨bc,p,q,_,_,_,_,_,_,rfl⟩:=hs;cases hr
 case load T x=>
  have nt:=hs.2.2;split at nt
  ·rename_i t c hx;obtain⟨cells,ho,_,rfl⟩:=nt;exact⟨x,by simp[Op.operands],0,.inr ⟨t,cells,QZ hx zAy,ho,OT (PN hr)⟩⟩
  ·rename_i t j i c hx;obtain⟨q,size,rows,_,_,_,rfl⟩:=nt;have:=Ak (PN hr)
   exact⟨x,by simp[Op.operands],0,.inl (QZ hx (by simp[At.ref,this]))⟩
  ·obtain⟨_,rfl⟩:=nt;have:=PN hr;rw[V0]at this;cases this
  ·obtain⟨_,_,_,_,_,_,_,_,_,rfl⟩:=nt;have:=PN hr;rw[V0]at this;cases this
  ·exact nt.elim
 case nilCheck x=>
  have nt:=hs.2;split at nt
  ·rename_i t c hx;obtain⟨_,rfl⟩:=nt;exact⟨x,by simp[Op.operands],0,.inl (QZ hx hr)⟩
  ·exact nt.elim
 case fieldAddr T x f=>
  have nt:=hs.2.2;split at nt
  ·rename_i t c hx;obtain⟨_,rfl⟩:=nt;exact⟨x,by simp[Op.operands],0,.inl (QZ hx hr)⟩
  ·rename_i t j i c hx;obtain⟨_,rfl⟩:=nt;exact⟨x,by simp[Op.operands],0,.inl (QZ hx hr)⟩
  ·subst nt;cases hr
  ·rename_i t j i c k hx;obtain⟨_,rfl⟩:=nt;exact⟨x,by simp[Op.operands],0,.inl (QZ hx hr)⟩
  ·exact nt.elim
 case indexAddr T x ix=>
  obtain⟨k,i,_,_,_,nt⟩:=hs;split at nt
  ·obtain⟨_,_,_,_,rfl⟩:=nt;cases hr
  ·rename_i t j lo len hx;obtain⟨_,_,_,_,rfl⟩:=nt;exact⟨x,by simp[Op.operands],0,.inl (QZ hx hr)⟩
  ·rename_i t c hx;obtain⟨_,_,rfl⟩:=nt;exact⟨x,by simp[Op.operands],0,.inl (QZ hx hr)⟩
  ·rename_i t j m c hx;obtain⟨_,_,_,rfl⟩:=nt;exact⟨x,by simp[Op.operands],0,.inl (QZ hx hr)⟩
  ·exact nt.elim
 case index T x ix=>
  obtain⟨k,i,_,_,_,nt⟩:=hs;split at nt
  ·obtain⟨_,_,rfl⟩:=nt;cases hr
  ·rename_i xs hx;obtain⟨_,_,_,rfl⟩:=nt;exact⟨x,by simp[Op.operands],0,.inl (Of hx (OT (PN hr)))⟩
  ·exact nt.elim
 case slice T x lo hi mx=>
  cases mx with
  |some m=>exact hs.elim
  |none=>
   simp only at hs;have nt:=hs.2
   split at nt
   ·obtain⟨_,_,_,_,_,_,_,rfl⟩:=nt;cases hr
   ·obtain⟨_,_,_,_,_,_,_,_,rfl⟩:=nt;cases hr
   ·rename_i t j o len hx;obtain⟨_,_,_,_,_,_,_,_,rfl⟩:=nt;exact⟨x,by simp[Op.operands],0,.inl (QZ hx hr)⟩
   ·exact nt.elim
 case binOp op T x y yt=>rw[AA hs.2.2 u]at hr;cases hr
 case unOp op T x=>
  have nt:=hs.2;split at nt
  ·subst nt;cases hr
  ·subst nt;cases hr
  ·exact nt.elim
 case convert S T x=>
  have nt:=hs.2.2;split at nt
  ·obtain⟨_,_,rfl⟩:=nt;cases hr
  ·exact nt.elim
 case extract x i=>
  have nt:=hs.2;split at nt
  ·rename_i xs hx;refine⟨x,by simp[Op.operands],0,.inl (si ?_ (by rw[hx];simp) (by rw[hx];simp))⟩;rw[hx];rw[Em nt.2]at hr;exact EX nt.1 hr
  ·exact nt.elim
 case field T x f=>
  have nt:=hs.2.2.2;split at nt
  ·rename_i xs hx;obtain⟨_,rfl⟩:=nt;exact⟨x,by simp[Op.operands],0,.inl (Of hx (OT (PN hr)))⟩
  ·exact nt.elim
 case build T parts=>
  obtain⟨_,_,z,out,h3,h4,rfl⟩:=hs;rcases Ha h4 hr with h1|⟨x,hx,ty',h1⟩
  ·rw[OX u _ _ _ h3]at h1;cases h1
  ·exact⟨x,by simpa[Op.operands]using hx,ty',.inl h1⟩
 case call c=>
  split at hs
  ·have nt:=hs.2;split at nt
   ·obtain⟨_,rfl⟩:=nt;cases hr
   ·obtain⟨_,rfl⟩:=nt;cases hr
   ·obtain⟨_,rfl⟩:=nt;cases hr
   ·obtain⟨_,_,rfl⟩:=nt;cases hr
   ·obtain⟨_,_,_,_,_,_,_,_,rfl⟩:=nt;cases hr
   ·exact nt.elim
  ·obtain⟨_,_,_,_,_,rfl⟩:=hs;cases hr
  ·obtain⟨_,_,_,_,_,rfl⟩:=hs;cases hr
  ·exact hs.elim
open Go.RowKit
inductive Eff where
 |put (v:V)
 |new (v:V) (os:List Ob)
 |drop (t j:Nat) (v:V) (os:List Ob)
variable{e:Eff}
def Eff.ap(d:Nat):Eff->St->St
 |.put v,σ=>σ.put d v
 |.new v os,σ=>σ.new d v os
 |.drop t j v os,σ=>(σ.Z1 t j .none).new d v os
def Eff.ok(d:Nat):Eff->St->Prop
 |.put _,_=>True
 |.new _ _,σ=>σ.fresh d=true
 |.drop t j _ _,σ=>(∃q s r,σ.ob t j= .arr q s r)/\(σ.Z1 t j .none).fresh d=true
def Eff.ref(u:Nat):Eff->Bool
 |.put v=>v.ref u
 |.new v os=>v.ref u||XE u os
 |.drop _ _ v os=>v.ref u||XE u os
def VW(o:Oper):Bool:=
 match o.op with
 |.call ⟨.builtin .append,⟨.const _::_⟩,_⟩=>false
 |.call ⟨.builtin .append,_,_⟩=>true
 |_=>false
def zT(o:Oper):Bool:=
 match o.op with
 |.alloc _=>false
 |.box _ _=>false
 |.buildSlice _ _ _=>false
 |.makeSlice _ _ _=>false
 |.call ⟨.builtin .append,_,_⟩=>false
 |.call ⟨.value _,_,_⟩=>false
 |_=>true
def yi(ops:Array Oper)(o:Oper):List Operand:=
 o.op.operands.toList++(match o.guard with|some (j,_)=>(match(ops[j]?).bind (·.dst)with|some dj=>[.tmp dj]|none=>[])|none=>[])
theorem Sub.left{xs:List Operand}(h:Sub P (xs++ys) σ1 σ):Sub P xs σ1 σ:=⟨h.len,fun x hx=>h.look x (by simp[hx]),fun x hx=>h.ob x (by simp[hx])⟩
theorem DT{x:At}{d:D}(h:∀u,x.ref u=true->∀j,σ1.ob u j≠ .none->σ.ob u j=σ1.ob u j)(hd:yH σ1 x=some d):yH σ x=some d:=by
 cases x with
 |sref t j lo len=>
  simp only[yH]at hd⊢;split at hd
  ·rename_i q size rows ho;rw[h t zAy j zAw,ho];exact hd
  ·cases hd
 |_=>exact hd
theorem WW:∀{xs:List At}{r:List D},(∀u,Yf u xs=true->∀j,σ1.ob u j≠ .none->σ.ob u j=σ1.ob u j)->rowOf σ1 xs=some r->rowOf σ xs=some r
 |[],_,_,h=>h
 |x::xs,r,h,hr=>by
  simp only[rowOf]at hr⊢;split at hr
  ·rename_i d ds h1 h2;rw[DT (fun u hu=>h u (by rw[Yf,hu];rfl)) h1,WW (fun u hu=>h u (by rw[Yf,hu,Bool.or_true])) h2];exact hr
  ·cases hr
theorem Fy{r:List D}(h:∀u,Yf u v.cells=true->∀j,σ1.ob u j≠ .none->σ.ob u j=σ1.ob u j)(hr:v.zB σ1=some r):v.zB σ=some r:=by
 cases v with
 |one x=>exact WW h hr
 |agg xs=>
  match xs,h,hr with
  |[],h,hr=>exact WW h hr
  |[_],_,hr=>simp[V.zB]at hr
  |x::y::xs,h,hr=>exact WW h hr
 |any=>simp[V.zB]at hr
 |tup xs=>simp[V.zB]at hr
 |cnd g x=>simp[V.zB]at hr
 |fix u x=>simp[V.zB]at hr
theorem Sub.cells{xs:List Operand}(h:Sub P xs σ1 σ)(hx:x∈xs)(ty:TypeId):∀u,Yf u (unc (Vm.look P σ1 ty x)).cells=true->∀j,σ1.ob u j≠ .none->σ.ob u j=σ1.ob u j:=
 fun u hu j hn=>h.ob x hx ty u (W1 hu) j hn
theorem kv:∀{xs:List Operand}{ts:List TypeId}{rs:List (List D)},Sub P xs σ1 σ->Qs P σ1 xs ts rs->Qs P σ xs ts rs
 |[],_,_,_,h=>h
 |x::xs,[],_,_,h=>h.elim
 |x::xs,t::ts,rs,hs,h=>by
  obtain⟨hg,r,rest,h1,h2,h3⟩:=h;have e:=hs.look x zAG t
  refine⟨by rw[<-e];exact hg,r,rest,?_,kv ⟨hs.len,fun y hy=>hs.look y (by simp[hy]),fun y hy=>hs.ob y (by simp[hy])⟩ h2,h3⟩;rw[<-e];exact Fy (hs.cells zAG t) h1
theorem kR:∀{xs:List Operand}{ts:List TypeId},Sub P xs σ1 σ->Yi P σ xs ts=Yi P σ1 xs ts
 |[],_,_=>by simp[Yi]
 |x::xs,[],_=>by simp[Yi]
 |x::xs,t::ts,hs=>by simp only[Yi];rw[hs.look x zAG t,kR ⟨hs.len,fun y hy=>hs.look y (by simp[hy]),fun y hy=>hs.ob y (by simp[hy])⟩]
theorem RS{own:Bool}(hs:Sub P c.args.toList σ1 σ)(h:Bo P σ1 c f own res):Bo P σ c f own res:=by obtain⟨rows,h1,h2,h3⟩:=h;exact⟨rows,kv hs h1,h2,by rw[kR hs];exact h3⟩
theorem Rw{T:TypeId}{size:Nat}:∀{ps:List (Nat×Operand)}{k:Nat}{rs:List (List D)},Sub P (ps.map (·.2)) σ1 σ->Nb P σ1 T size ps k rs->Nb P σ T size ps k rs
 |[],_,_,_,h=>h
 |(i,x)::ps,k,rs,hs,h=>by have e:=hs.look x zAG T;obtain⟨h1,h2,h3,h4,r,rest,h5,h6,h7,h8⟩:=h;refine⟨h1,by rw[<-e];exact h2,by rw[<-e];exact h3,by rw[<-e];exact h4,r,rest,?_,h6,Rw ⟨hs.len,fun y hy=>hs.look y zBP,fun y hy=>hs.ob y zBP⟩ h7,h8⟩;rw[<-e];exact WW (hs.cells zAG T) h5
theorem LZ{T:TypeId}{size:Nat}:∀{ps:List (Nat×Operand)}{k:Nat}{rs:List (List At)},Sub P (ps.map (·.2)) σ1 σ->N5 P σ1 T size ps k rs->N5 P σ T size ps k rs
 |[],_,_,_,h=>h
 |(i,x)::ps,k,rs,hs,h=>by
  obtain⟨h1,h2,h3,h4,rest,h5,h6⟩:=h;have e:=hs.look x zAG T
  rw[e]at h2 h3 h4 h6;exact⟨h1,h2,h3,h4,rest,LZ ⟨hs.len,fun y hy=>hs.look y zBP,fun y hy=>hs.ob y zBP⟩ h5,h6⟩
theorem ET{T:TypeId}{size u:Nat}:∀{ps:List (Nat×Operand)}{k:Nat}{rs:List (List At)},N5 P σ T size ps k rs->Yf u rs.flatten=true->∃x∈ps.map (·.2),(Vm.look P σ T x).ref u=true
 |[],_,_,h,hr=>by simp only[N5]at h;subst h;simp[Yf]at hr
 |(i,x)::ps,k,rs,h,hr=>by
  obtain⟨h1,h2,h3,h4,rest,h5,rfl⟩:=h;rw[List.flatten_cons]at hr;obtain⟨z,hz,iX⟩:=zq.1 hr;rcases List.mem_append.1 hz with hz|hz
  ·exact⟨x,zAG,W1 (zq.2 ⟨z,hz,iX⟩)⟩
  ·obtain⟨y,hy,hyr⟩:=ET h5 (zq.2 ⟨z,hz,iX⟩);exact⟨y,by simp at hy⊢;exact .inr hy,hyr⟩
theorem yb(u:Nat):∀(qs:List Bool)(ds:List D),XE u (YY qs ds)=false
 |qs,[]=>by cases qs<;>rfl
 |q::qs,.sl size rows::ds=>by simp[YY,XE,yb u qs ds]
 |[],.sl size rows::ds=>by simp[YY,XE,yb u [] ds]
 |qs,.int _ _::ds=>zBg
 |qs,.bool _::ds=>zBg
 |qs,.str _::ds=>zBg
 |qs,.unk::ds=>zBg
theorem TN{xs:List Operand}{ty:TypeId}(hs:Sub P xs σ1 σ)(hx:x∈xs)(h:WE σ1 (unc (Vm.look P σ1 ty x)) size news):WE σ (unc (Vm.look P σ ty x)) size news:=by
 rw[hs.look x hx]at h;unfold WE at h⊢;split at h
 ·exact h
 ·exact h
 ·rename_i t j lo len hv;obtain⟨rows,ho,hr⟩:=h;exact⟨rows,hs.same hx hv zAy ho zAG,hr⟩
 ·exact h.elim
theorem w5(u:Nat)(r:List D):(vOf (r.map At.d)).ref u=false:=by
 have:=V0 (u:=u) r;match r,this with
 |[],_=>rfl
 |[x],_=>rfl
 |x::y::r,h=>exact h
theorem B9(u:Nat)(r:List D):(vOf (r.map At.d)).Ow u=false:=by
 have:=V0 (u:=u) r;match r,this with
 |[],_=>rfl
 |[x],_=>rfl
 |x::y::r,h=>exact h
theorem EN(u:Nat)(res:List (List D)):(qe res).ref u=false:=by
 have tl:∀rs:List (List D),Tf u (rs.map fun r=>vOf (r.map At.d))=false:=by
  intro rs;induction rs with
  |nil=>rfl
  |cons r rs ih=>simp only[List.map_cons,Tf,B9,ih,Bool.or_false]
 match res with
 |[]=>rfl
 |[r]=>exact w5 u r
 |r::r'::rs=>exact tl (r::r'::rs)
theorem OV{u d:Nat}(hu:u≠d):∀(k:Nat)(r:List D),Yf u (Kj d k r)=false
 |_,[]=>rfl
 |k,x::r=>by cases x<;>simp[Kj,Yf,At.ref,OV hu,Ne.symm hu]
theorem Bk{xs:List At}(h:Yf u xs=false):(vOf xs).Ow u=false:=by
 match xs,h with
 |[],_=>rfl
 |[x],h=>simpa[vOf,V.Ow,Yf]using h
 |x::y::xs,h=>exact h
theorem GK(hu:u≠d)(res:List (List D)):(jf d res).ref u=false:=by
 have tl:∀(k:Nat)(rs:List (List D)),Tf u (EU d k rs)=false:=by
  intro k rs;induction rs generalizing k with
  |nil=>rfl
  |cons r rs ih=>simp only[EU,Tf,Bk (OV hu _ _),ih,Bool.or_false]
 match res with
 |[]=>exact tl 0 []
 |[r]=>
  have h1:(vOf (Kj d 0 r)).flat=true:=by
   match Kj d 0 r with
   |[]=>rfl
   |[x]=>rfl
   |x::y::xs=>rfl
  have:=Bk (OV hu 0 r);rw[<-Em h1]at this;exact this
 |r::r'::rs=>exact tl 0 (r::r'::rs)
theorem GR(u:Nat):∀(ds:List D),XE u (xR ds)=false
 |[]=>rfl
 |x::ds=>by cases x<;>simp[xR,XE,GR u ds]
theorem T1(ty:TypeId)(v:Value)(u:Nat):(cst P ty v).ref u=false:=by
 unfold cst;split<;>first|rfl|skip
 all_goals(repeat' split)<;>first|rfl|skip
open Go.RowKit
variable{ops:Array Oper}{os:List Ob}
def G7(P:Program)(ops:Array Oper)(o:Oper)(d:Nat)(σ1:St)(e:Eff):Prop:=
 e.ok d σ1/\(∀t j v os,e= .drop t j v os->VW o=true/\∃x∈yi ops o,∃ty,(look P σ1 ty x).ref t=true)/\
 (zT o=true\/o.guard.isSome=true->∃v,e= .put v)/\
 (o.guard=none->∀u,u≠d->e.ref u=true->O6 P (yi ops o) σ1 u)/\
 ∀σ,Sub P (yi ops o) σ1 σ->e.ok d σ->Xm P ops o σ (e.ap d σ)
theorem OK{xs:List Operand}(h:O6 P xs σ1 u):O6 P (xs++ys) σ1 u:=by obtain⟨x,hx,r⟩:=h;exact⟨x,by simp[hx],r⟩
theorem TB(hg:o.guard=none)(hd:o.dst=some d)(h:Step P o d σ σ'):Xm P ops o σ σ':=by unfold Xm;simp only[hg,hd];exact h
theorem Nu(hg:o.guard=none)(hd:o.dst=some d)(dL:∀u,u≠d->v.ref u=true->O6 P o.op.operands.toList σ1 u)
  (mf:∀σ,Sub P o.op.operands.toList σ1 σ->Step P o d σ (σ.put d v)):G7 P ops o d σ1 (.put v):=
 ⟨trivial,(fun t j v os h=>by cases h),fun _=>⟨v,rfl⟩,fun _ u hu hr=>OK (dL u hu hr),fun σ hs _=>TB hg hd (mf σ hs.left)⟩
theorem Us(hg:o.guard=none)(hd:o.dst=some d)(hp:zT o=false)(mH:σ1.fresh d=true)(dL:∀u,u≠d->(v.ref u||XE u os)=true->O6 P o.op.operands.toList σ1 u)
  (mf:∀σ,Sub P o.op.operands.toList σ1 σ->σ.fresh d=true->Step P o d σ (σ.new d v os)):G7 P ops o d σ1 (.new v os):=
 ⟨mH,(fun t j v os h=>by cases h),(fun h=>h.elim (fun h=>by rw[hp]at h;cases h) (fun h=>by rw[hg]at h;cases h)),fun _ u hu hr=>OK (dL u hu hr),fun σ hs hf=>TB hg hd (mf σ hs.left hf)⟩
theorem zx(hx:x∈c.args.toList):x∈(Op.operands (.call c)).toList:=by obtain⟨cal,args,gx⟩:=c;simp only[Op.operands,Call.operands];cases cal<;>simp at hx⊢<;>simp[hx]
theorem Oy(h:Sub P (Op.operands (.call c)).toList σ1 σ):Sub P c.args.toList σ1 σ:=
 ⟨h.len,fun x hx=>h.look x (zx hx),fun x hx=>h.ob x (zx hx)⟩
theorem uC(hg:o.guard=none)(hd:o.dst=some d)(hs:Step P o d σ1 σ2):∃e:Eff,σ2=e.ap d σ1/\G7 P ops o d σ1 e:=by
 have lY:(∃v,Yh P σ1 o.op o.type v/\σ2=σ1.put d v)->(∀σ v,Yh P σ o.op o.type v->Step P o d σ (σ.put d v))->∃e:Eff,σ2=e.ap d σ1/\G7 P ops o d σ1 e:=by rintro⟨v,hv,rfl⟩ mF;exact⟨.put v,rfl,Nu hg hd (fun u _ hr=>Mv hv hr) (fun σ mL=>mF σ v (WU hv mL))⟩
 have hs0:=hs;unfold Step at hs;split at hs
 ·rename_i T na;obtain⟨hf,hz,row,mN,rfl⟩:=hs;refine⟨.new _ _,rfl,Us hg hd (by simp[zT,na]) hf (fun u hu hr=>?_) (fun σ mL fC=>?_)⟩
  ·simp only[V.ref,At.ref,XE,OX u _ _ _ mN,Bool.or_false,beq_iff_eq]at hr;exact absurd hr.symm hu
  ·unfold Step;rw[na];exact⟨fC,hz,row,mN,rfl⟩
 ·rename_i T x na;obtain⟨hf,h1,h2,h3,rfl⟩:=hs;refine⟨.new _ _,rfl,Us hg hd (by simp[zT,na]) hf (fun u hu hr=>?_) (fun σ mL fC=>?_)⟩
  ·simp only[V.ref,At.ref,XE,Bool.or_false,Bool.or_eq_true,beq_iff_eq]at hr;rcases hr with hr|hr
   ·exact absurd hr.symm hu
   ·exact⟨x,by simp[na,Op.operands],T,.inl (W1 hr)⟩
  ·have e:=mL.look x (by simp[na,Op.operands]) T;unfold Step;rw[na];simp only;rw[<-e];exact⟨fC,h1,h2,h3,rfl⟩
 ·rename_i T n parts na;rcases hs with⟨hf,h1,h2,h3,h4,h5,⟨rows,h6,rfl⟩|⟨rows,h6,h7,rfl⟩⟩|⟨h1,rows,h6,rfl⟩
  ·refine⟨.new _ _,rfl,Us hg hd (by simp[zT,na]) hf (fun u hu hr=>?_) (fun σ mL fC=>?_)⟩
   ·simp only[V.ref,At.ref,XE,Bool.or_false,beq_iff_eq]at hr;exact absurd hr.symm hu
   ·unfold Step;rw[na];refine .inl ⟨fC,h1,h2,h3,h4,h5,.inl ⟨rows,Rw ?_ h6,rfl⟩⟩;rw[na]at mL;simpa[Op.operands]using mL
  ·refine⟨.new _ _,rfl,Us hg hd (by simp[zT,na]) hf (fun u hu hr=>?_) (fun σ mL fC=>?_)⟩
   ·simp only[V.ref,At.ref,XE,Bool.or_false,Bool.or_eq_true,beq_iff_eq]at hr;rcases hr with hr|hr
    ·exact absurd hr.symm hu
    ·obtain⟨x,hx,hxr⟩:=ET h6 hr;exact⟨x,by simpa[na,Op.operands]using hx,_,.inl hxr⟩
   ·unfold Step;rw[na];refine .inl ⟨fC,h1,h2,h3,h4,h5,.inr ⟨rows,LZ ?_ h6,h7,rfl⟩⟩;rw[na]at mL;simpa[Op.operands]using mL
  ·refine⟨.put _,rfl,Nu hg hd (fun u _ hr=>by cases hr) (fun σ mL=>?_)⟩;unfold Step;rw[na];refine .inr ⟨h1,rows,Rw ?_ h6,rfl⟩;rw[na]at mL;simpa[Op.operands]using mL
 ·rename_i T x y na;obtain⟨rfl,hf,h1,h2,h3,q,z,zr,k,n,hq,h4,h5,h6,h7,h8,rfl⟩:=hs;refine⟨.new _ _,rfl,Us hg hd (by simp[zT,na]) hf (fun u hu hr=>?_) (fun σ mL fC=>?_)⟩
  ·simp only[V.ref,At.ref,XE,Bool.or_false,beq_iff_eq]at hr;exact absurd hr.symm hu
  ·unfold Step;rw[na];exact⟨rfl,fC,h1,h2,h3,q,z,zr,k,n,hq,h4,h5,xk mL (by simp[na,Op.operands]) h6,h7,h8,rfl⟩
 ·rename_i c na;split at hs
  ·rename_i hc;obtain⟨x,y,t,ha,hH,h1,h2,h3,h4,h5,ng,news,σd,h6,h7,h8,h9,hR,rfl⟩:=hs;have hx:x∈o.op.operands.toList:=by rw[na];exact zx zBf
   have hy:y∈o.op.operands.toList:=by rw[na];exact zx zBf
   have fD:zT o=false:=by obtain⟨cc,ca,ct⟩:=c;simp only at hc;subst hc;simp[zT,na]
   have refs:∀u,u≠d->(V.ref u (.one (.sref d 0 0 (ng.length+news.length)))||XE u [.arr false (P.cellsOf (ZT P t)) (ng++news)])=true->O6 P o.op.operands.toList σ1 u:=by intro u hu hr;simp only[V.ref,At.ref,XE,Bool.or_false,beq_iff_eq]at hr;exact absurd hr.symm hu
   have h6':=h6;unfold SN at h6;split at h6
   ·rename_i s heq;obtain⟨rfl,rfl⟩:=h6;refine⟨.new _ _,rfl,Us hg hd fD h8 refs (fun σ mL fC=>?_)⟩;unfold Step;rw[na];simp only[hc];refine⟨x,y,t,ha,hH,?_,?_,h3,h4,h5,[],news,σ,?_,TN mL hy h7,fC,h9,hR,rfl⟩
    ·rw[<-mL.look x hx];exact h1
    ·rw[<-mL.look y hy];exact h2
    ·rw[<-mL.look x hx];unfold SN;rw[heq];exact⟨rfl,rfl⟩
   ·rename_i tt j lo len heq;obtain⟨rows,ho,gN,hlen,holds,rfl⟩:=h6;have hrx:(look P σ1 t x).ref tt=true:=QZ heq zAy
    refine⟨.drop tt j _ _,rfl,⟨⟨_,_,_,ho⟩,h8⟩,?_,(fun hh=>hh.elim (fun hh=>by rw[fD]at hh;cases hh) (fun hh=>by rw[hg]at hh;cases hh)),fun _ u hu hr=>OK (refs u hu hr),fun σ mL fC=>TB hg hd ?_⟩
    ·intro t' j' v os he;cases he;refine⟨?_,x,by simp only[yi,List.mem_append];exact .inl hx,t,hrx⟩;obtain⟨cc,ca,ct⟩:=c;simp only at hc ha;subst hc ha;cases x with
     |const v=>rw[Vm.look,T1]at hrx;cases hrx
     |_=>simp[VW,na]
    ·have fE:=mL.left;unfold Step;rw[na];simp only[hc];have gb:unc (look P σ t x)= .one (.sref tt j lo len):=by rw[<-fE.look x hx];exact heq
     refine⟨x,y,t,ha,hH,?_,?_,h3,h4,h5,ng,news,_,?_,TN fE hy h7,fC.2,h9,hR,rfl⟩
     ·rw[<-fE.look x hx];exact h1
     ·rw[<-fE.look y hy];exact h2
     ·unfold SN;rw[gb];exact⟨rows,fE.same hx gb zAy ho zAG,gN,hlen,holds,rfl⟩
   ·exact h6.elim
  ·rename_i f hc;have fD:zT o=false:=by obtain⟨cc,ca,ct⟩:=c;simp only at hc;subst hc;simp[zT,na]
   rcases hs with⟨own,res,hcr,rfl⟩|⟨res,hcr,hf,rfl⟩|⟨rows,res,qs,ha,hsd,hq,hf,rfl⟩
   ·refine⟨.put _,rfl,Nu hg hd (fun u _ hr=>by rw[EN]at hr;cases hr) (fun σ mL=>?_)⟩;rw[na]at mL;unfold Step;rw[na];simp only[hc];exact .inl ⟨own,res,RS (Oy mL) hcr,rfl⟩
   ·refine⟨.new _ _,rfl,Us hg hd fD hf (fun u hu hr=>?_) (fun σ mL fC=>?_)⟩
    ·rw[GK hu,GR]at hr;cases hr
    ·rw[na]at mL;unfold Step;rw[na];simp only[hc];exact .inr (.inl ⟨res,RS (Oy mL) hcr,fC,rfl⟩)
   ·refine⟨.new _ _,rfl,Us hg hd fD hf (fun u hu hr=>?_) (fun σ mL fC=>?_)⟩
    ·rw[GK hu,yb]at hr;cases hr
    ·rw[na]at mL;unfold Step;rw[na];simp only[hc];exact .inr (.inr ⟨rows,res,qs,kv (Oy mL) ha,hsd,hq,fC,rfl⟩)
  ·rename_i h1 h2;refine lY hs (fun σ v hv=>?_);unfold Step;rw[na];simp only;exact⟨v,by rw[na]at hv;exact hv,rfl⟩
 ·rename_i S T x na;rcases hs with hs|⟨l,h1,h2,h3,h4,rfl⟩|⟨s,h1,h2,h3,h4,h5,rfl⟩
  ·refine lY hs (fun σ v hv=>?_);unfold Step;rw[na];exact .inl ⟨v,by rw[na]at hv;exact hv,rfl⟩
  ·refine⟨.put _,rfl,Nu hg hd (fun u _ hr=>by cases hr) (fun σ mL=>?_)⟩;have hx:x∈o.op.operands.toList:=by simp[na,Op.operands]
   unfold Step;rw[na];exact .inr (.inl ⟨l,by rw[<-mL.look x hx];exact h1,h2,h3,TN mL hx h4,rfl⟩)
  ·refine⟨.put _,rfl,Nu hg hd (fun u _ hr=>by cases hr) (fun σ mL=>?_)⟩;have hx:x∈o.op.operands.toList:=by simp[na,Op.operands]
   unfold Step;rw[na];exact .inr (.inr ⟨s,by rw[<-mL.look x hx];exact h1,h2,h3,by rw[<-mL.look x hx];exact h4,h5,rfl⟩)
 ·rename_i n1 n2 n3 n4 n5 n6;refine lY hs (fun σ v hv=>?_);unfold Step;split
  ·rename_i T na;exact absurd na (n1 T)
  ·rename_i T x na;exact absurd na (n2 T x)
  ·rename_i T n ps na;exact absurd na (n3 T n ps)
  ·rename_i T x y na;exact absurd na (n4 T x y)
  ·rename_i c na;exact absurd na (n5 c)
  ·rename_i S T x na;exact absurd na (n6 S T x)
  ·exact⟨v,hv,rfl⟩
open Go.RowKit
theorem Qu:σ.fresh d=true↔d<σ.length/\∀t e,σ[t]?=some e->t≠d->e.1.ref d=false/\XE d e.2=false:=by
 unfold St.fresh;rw[Bool.and_eq_true,decide_eq_true_eq];refine and_congr_right fun _=>⟨fun h t e he nf=>xO h t e he zAD,fun h=>?_⟩;have:∀(σ:St)(k:Nat),(∀t e,σ[t]?=some e->k+t≠d->e.1.ref d=false/\XE d e.2=false)->yG d k σ=true:=by
  intro σ;induction σ with
  |nil=>intro k _;rfl
  |cons e σ ih=>
   intro k hk;simp only[yG,Bool.and_eq_true,Bool.or_eq_true,beq_iff_eq,Bool.not_eq_true'];refine⟨?_,ih (k+1) fun t e' he nf=>hk (t+1) e' (by simpa using he) zAD⟩;by_cases h0:k=d
   ·exact .inl h0
   ·exact .inr (hk 0 e zAG zAD)
 exact this σ 0 (fun t e he nf=>h t e he zAD)
theorem I9{e:Ent}(h:σ[t]?=some e)(j:Nat):σ.ob t j=Yp e.2 j:=by unfold St.ob;rw[h]
theorem RL{o:Ob}(h:σ.ob t j=o)(hn:o≠ .none):∃e,σ[t]?=some e/\Yp e.2 j=o:=by
 unfold St.ob at h;split at h
 ·rename_i e he;exact⟨e,he,h⟩
 ·exact absurd h.symm hn
theorem Oi{u:Nat}:∀{os:List Ob}{j:Nat}{cells:List At},Yp os j= .box cells->Yf u cells=true->XE u os=true
 |[],_,_,h,_=>by simp[Yp]at h
 |o::os,0,cells,h,hr=>by have:o= .box cells:=h;subst this;simp[XE,hr]
 |o::os,j+1,cells,h,hr=>by have h':Yp os j= .box cells:=zB5;have:=Oi h' hr;cases o<;>simp[XE,this]
theorem qF{u s:Nat}{q:Bool}{r:List (List D)}:∀{os:List Ob}{j:Nat},Yp os j= .arr q s r->XE u (os.set j .none)=XE u os
 |[],_,h=>by simp[Yp]at h
 |o::os,0,h=>by have:o= .arr q s r:=h;subst this;simp[XE]
 |o::os,j+1,h=>by have h':Yp os j= .arr q s r:=zB5;have:=qF (u:=u) h';cases o<;>simp[XE,this]
theorem MC(h:Xt σ d=true){e:Ent}(he:σ[d]?=some e)(u:Nat):e.1.ref u=false/\XE u e.2=false:=by
 unfold Xt at h;split at h
 ·rename_i h1;rw[he]at h1;cases h1;exact⟨rfl,rfl⟩
 ·rename_i h1;rw[he]at h1;cases h1;exact⟨rfl,rfl⟩
 ·cases h
section
variable{x:Oper}
theorem ko(hd:o.dst=some d)(hs:Xm P ops o σ1 σ2):∃e:Eff,σ2=e.ap d σ1/\G7 P ops o d σ1 e:=by
 unfold Xm at hs;split at hs
 ·rename_i hg;simp only[hd]at hs;exact uC hg hd hs
 ·rename_i j want hg;obtain⟨dj,d',g,v,lj,nn,nu,l4,hv,rfl⟩:=hs;rw[hd]at nu;cases nu;refine⟨.put (.cnd g v),rfl,trivial,(fun t j v os h=>by cases h),fun _=>⟨_,rfl⟩,(fun h=>by rw[hg]at h;cases h),fun σ mL _=>?_⟩;have lJ:Operand.tmp dj∈yi ops o:=by simp[yi,hg,lj]
  have lB:σ.get dj=σ1.get dj:=(mL.look _ lJ 0).symm;unfold Xm;simp only[hg];refine⟨dj,d,g,v,lj,by rw[<-mL.len];exact nn,hd,by rw[lB];exact l4,fun eH=>?_,rfl⟩;have iM:=hv eH;have fu:=mL.left;unfold MH at iM⊢;split at iM
  ·rename_i c na;split at iM
   ·rename_i f hc;obtain⟨own,res,hcr,rfl⟩:=iM;rw[na]at fu;exact⟨own,res,RS (Oy fu) hcr,rfl⟩
   ·obtain⟨v0,h1,h2⟩:=iM;exact⟨v0,WU h1 fu,h2⟩
  ·obtain⟨v0,h1,h2⟩:=iM;exact⟨v0,WU h1 fu,h2⟩
theorem yE(e:Eff):(e.ap d σ).length=σ.length:=by cases e<;>simp[Eff.ap,St.JG,St.ki,St.Xf]
theorem Mg(e:Eff)(nf:t≠d):(e.ap d σ).get t=σ.get t:=by
 cases e with
 |put v=>simp[Eff.ap,St.zb,nf]
 |new v os=>simp[Eff.ap,St.VA,nf]
 |drop a j v os=>simp[Eff.ap,St.VA,St.QL,nf]
theorem vB(h:(σ.get t).ref u=true):∃e,σ[t]?=some e/\e.1.ref u=true:=by
 unfold St.get at h;split at h
 ·rename_i e he;exact⟨e,he,h⟩
 ·cases h
end
open Go.RowKit
variable{en:Ent}
section
variable{x:Oper}
theorem zo(hf:∀t e,σ[t]?=some e->t≠d->e.1.ref d=false)(hz:z≠ .tmp d)(ty:TypeId):(look P σ ty z).ref d=false:=by
 cases z with
 |tmp t=>
  have nf:t≠d:=fun h=>hz (by rw[h]);cases hr:(look P σ ty (.tmp t)).ref d with
  |false=>rfl
  |true=>obtain⟨e,he,lG⟩:=vB (σ:=σ) (t:=t) hr;rw[hf t e he nf]at lG;cases lG
 |const v=>exact T1 ty v d
 |global g=>rfl
 |func f=>rfl
theorem look_eq(hg:∀t,t≠d->σ1.get t=σ.get t)(hz:z≠ .tmp d)(ty:TypeId):look P σ1 ty z=look P σ ty z:=by
 cases z with
 |tmp t=>exact hg t (fun h=>hz (by rw[h]))
 |const v=>rfl
 |global g=>rfl
 |func f=>rfl
theorem jh(h:e.ok d σ)(nf:∀v,e≠ .put v):∀t en,σ[t]?=some en->t≠d->en.1.ref d=false:=by
 intro t en he ht;cases e with
 |put v=>exact absurd rfl (nf v)
 |new v os=>exact((Qu.1 h).2 t en he ht).1
 |drop a j v os=>
  have:=(Qu.1 h.2).2 t;rw[JA]at this;by_cases eY:t=a
  ·rw[if_pos eY,he]at this;exact(this _ rfl ht).1
  ·rw[if_neg eY]at this;exact(this en he ht).1
theorem Oe(h:e.ok d σ)(nf:∀v,e≠ .put v):∀t en,σ[t]?=some en->t≠d->XE d en.2=false:=by
 intro t en he ht;cases e with
 |put v=>exact absurd rfl (nf v)
 |new v os=>exact((Qu.1 h).2 t en he ht).2
 |drop a j v os=>
  obtain⟨⟨q,s,r,ho⟩,hf⟩:=h;have:=(Qu.1 hf).2 t
  rw[JA]at this;by_cases eY:t=a
  ·rw[if_pos eY,he]at this;have h2:=(this _ rfl ht).2
   subst eY;rw[I9 he]at ho;rw[qF ho]at h2;exact h2
  ·rw[if_neg eY]at this;exact(this en he ht).2
theorem sw(h:e.ok d σ)(nf:∀v,e≠ .put v):d<σ.length:=by
 cases e with
 |put v=>exact absurd rfl (nf v)
 |new v os=>exact(Qu.1 h).1
 |drop a j v os=>have:=(Qu.1 h.2).1;rwa[St.Xf]at this
theorem we(h:e.ok d σ)(hu:(∀v,e≠ .put v)->u≠d)(hn:(e.ap d σ).ob u j≠ .none):σ.ob u j=(e.ap d σ).ob u j:=by
 cases e with
 |put v=>simp only[Eff.ap,St.JJ]
 |new v os=>have:=hu (by intro v h;cases h);simp only[Eff.ap,St.Ji,this,false_and,if_false]
 |drop a k v os=>
  have dN:=hu (by intro v h;cases h);obtain⟨⟨q,s,r,ho⟩,_⟩:=h;simp only[Eff.ap,St.Ji,dN,false_and,if_false]at hn⊢;rw[St.Xz σ a k _ u j zAw]at hn⊢;split at hn
  ·exact absurd rfl hn
  ·rename_i hh;rw[if_neg hh]
theorem O5(mu:∀t j v os,e≠ .drop t j v os)(hu:(∀v,e≠ .put v)->u≠d):(e.ap d σ).ob u j=σ.ob u j:=by
 cases e with
 |put v=>simp only[Eff.ap,St.JJ]
 |new v os=>have:=hu (by intro v h;cases h);simp only[Eff.ap,St.Ji,this,false_and,if_false]
 |drop a k v os=>exact absurd rfl (mu a k v os)
theorem uR(mH:e.ok d σ)(ht:t≠d)(he:(e.ap d σ)[t]?=some en):∃en0,σ[t]?=some en0/\en0.1=en.1/\∀u,XE u en0.2=XE u en.2:=by
 cases e with
 |put v=>simp only[Eff.ap,kG,if_neg ht]at he;exact⟨en,he,rfl,fun _=>rfl⟩
 |new v os=>simp only[Eff.ap,yn,if_neg ht]at he;exact⟨en,he,rfl,fun _=>rfl⟩
 |drop a j v os=>
  simp only[Eff.ap,yn,if_neg ht,JA]at he;split at he
  ·rename_i eY;subst eY;obtain⟨⟨q,s,r,ho⟩,_⟩:=mH;obtain⟨e0,gz,m9⟩:=RL ho zAG;rw[gz]at he;simp at he;subst he;exact⟨e0,gz,rfl,fun u=>(qF m9).symm⟩
  ·exact⟨en,he,rfl,fun _=>rfl⟩
theorem swap(lp:x.dst=some dx)(iT:y.dst=some dy)(nf:dx≠dy)(gO:∀z∈yi ops y,z≠ .tmp dx)(eW:∀z∈yi ops x,z≠ .tmp dy)(mu:VW y=false)(hgp:y.guard=none\/zT x=true\/x.guard.isSome=true)
  (mK:Xt σ dx=true) (h1:Xm P ops x σ σ1) (h2:Xm P ops y σ1 σ2):∃σ1',Xm P ops y σ σ1'/\Xm P ops x σ1' σ2:=by
 obtain⟨ex,rfl,fQ,ft,purex,_,frx⟩:=ko lp h1;obtain⟨ey,rfl,oky,dropy,_,refy,fry⟩:=ko iT h2;have aQ:∀t j v os,ey≠ .drop t j v os:=by
  intro t j v os h;have:=(dropy t j v os h).1
  rw[mu]at this;cases this
 have suby:Sub P (yi ops y) (ex.ap dx σ) σ:=by refine⟨yE ex,fun z hz ty=>look_eq (fun t ht=>Mg ex ht) (gO z hz) ty,fun z hz ty u hr j hn=>?_⟩;refine we fQ (fun iB hu=>?_) hn;subst hu;rw[look_eq (fun t ht=>Mg ex ht) (gO z hz) ty,zo (jh fQ iB) (gO z hz)]at hr;cases hr
 have cI:ey.ok dy σ:=by
  cases ey with
  |put v=>trivial
  |drop a j v os=>exact absurd rfl (aQ a j v os)
  |new v os=>
   have hf:=Qu.1 oky;refine Qu.2 ⟨by rw[<-yE ex (d:=dx)];exact hf.1,fun t e he ht=>?_⟩;by_cases cq:t=dx
   ·subst cq;exact MC mK he dy
   ·cases ex with
    |put v'=>exact hf.2 t e (by simp only[Eff.ap,kG,if_neg cq];exact he) ht
    |new v' di=>exact hf.2 t e (by simp only[Eff.ap,yn,if_neg cq];exact he) ht
    |drop a j v' di=>
     obtain⟨⟨q,s,r,ho⟩,_⟩:=fQ;by_cases eY:t=a
     ·subst eY;have:=hf.2 t (e.1,e.2.set j .none) (by simp only[Eff.ap,yn,if_neg cq,JA,if_true,he,Option.map_some]) ht
      rw[I9 he]at ho;rw[qF ho]at this;exact this
     ·exact hf.2 t e (by simp only[Eff.ap,yn,if_neg cq,JA,if_neg eY];exact he) ht
 have stepy:=fry σ suby cI;have subx:Sub P (yi ops x) σ (ey.ap dy σ):=by refine⟨(yE ey).symm,fun z hz ty=>(look_eq (fun t ht=>Mg ey ht) (eW z hz) ty).symm,fun z hz ty u hr j hn=>?_⟩;refine O5 aQ (fun iB hu=>?_);subst hu;rw[zo (jh cI iB) (eW z hz)]at hr;cases hr
 have yref:(∀v,ex≠ .put v)->ey.ref dx=false:=by
  intro iB;have hg:y.guard=none:=by
   rcases hgp with h|h
   ·exact h
   ·obtain⟨v,hv⟩:=purex h;exact absurd hv (iB v)
  cases hr:ey.ref dx with
  |false=>rfl
  |true=>
   obtain⟨z,hz,ty,mr⟩:=refy hg dx nf hr;have hl:look P (ex.ap dx σ) ty z=look P σ ty z:=look_eq (fun t ht=>Mg ex ht) (gO z hz) ty
   rw[hl]at mr;rcases mr with mr|⟨t',cells,ht',ho,hc⟩
   ·rw[zo (jh fQ iB) (gO z hz)]at mr;cases mr
   ·have cq:t'≠dx:=by intro h;subst h;rw[zo (jh fQ iB) (gO z hz)]at ht';cases ht'
    have mG:σ.ob t' 0= .box cells:=by rw[we fQ (fun _=>cq) zAw,ho]
    obtain⟨en,hen,hoe⟩:=RL mG zAG;have:=Oe fQ iB t' en hen cq
    rw[Oi hoe hc]at this;cases this
 have entries:(∀v,ex≠ .put v)->∀t e,(ey.ap dy σ)[t]?=some e->t≠dx->e.1.ref dx=false/\XE dx e.2=false:=by
  intro iB t e he ht;have hy:=yref iB
  by_cases iV:t=dy
  ·subst iV;cases ey with
   |put v=>simp only[Eff.ap,kG,if_true,Option.map_eq_some_iff]at he;obtain⟨e0,gz,rfl⟩:=he;exact⟨hy,Oe fQ iB t e0 gz ht⟩
   |new v os=>simp only[Eff.ap,yn,if_true,Option.map_eq_some_iff]at he;obtain⟨e0,gz,rfl⟩:=he;simp only[Eff.ref,Bool.or_eq_false_iff]at hy;exact hy
   |drop a j v os=>exact absurd rfl (aQ a j v os)
  ·obtain⟨e0,gz,h1,h2⟩:=uR cI iV he;rw[<-h1,<-h2];exact⟨jh fQ iB t e0 gz ht,Oe fQ iB t e0 gz ht⟩
 have okx':ex.ok dx (ey.ap dy σ):=by
  cases ex with
  |put v=>trivial
  |new v os=>
   have iB:∀v',Eff.new v os≠ .put v':=by intro v' h;cases h
   exact Qu.2 ⟨by rw[yE];exact sw fQ iB,entries iB⟩
  |drop a j v os=>
   have iB:∀v',Eff.drop a j v os≠ .put v':=by intro v' h;cases h
   obtain⟨z,hz,ty,hr⟩:=(ft a j v os rfl).2;obtain⟨q,s,r,ho⟩:=fQ.1;have mG:(ey.ap dy σ).ob a j= .arr q s r:=by rw[<-ho];exact subx.ob z hz ty a hr j zAw
   refine⟨⟨q,s,r,mG⟩,Qu.2 ⟨by rw[St.Xf,yE];exact sw fQ iB,fun t e he ht=>?_⟩⟩;rw[JA]at he;split at he
   ·rename_i eY;subst eY;obtain⟨e0,gz,m9⟩:=RL mG zAG;rw[gz]at he;simp at he;subst he;have:=entries iB t e0 gz ht
    exact⟨this.1,by rw[qF m9];exact this.2⟩
   ·exact entries iB t e he ht
 refine⟨_,stepy,?_⟩;have:=frx _ subx okx'
 have heq:ex.ap dx (ey.ap dy σ)=ey.ap dy (ex.ap dx σ):=by
  apply List.ext_getElem?;intro t;have hnexy:=nf
  cases ex with
  |put v=>
   cases ey with
   |put v'=>simp only[Eff.ap,kG];by_cases h1:t=dx<;>by_cases h2:t=dy<;>simp_all
   |new v' di=>simp only[Eff.ap,kG,yn];by_cases h1:t=dx<;>by_cases h2:t=dy<;>simp_all
   |drop a j v' di=>exact absurd rfl (aQ a j v' di)
  |new v os=>
   cases ey with
   |put v'=>simp only[Eff.ap,kG,yn];by_cases h1:t=dx<;>by_cases h2:t=dy<;>simp_all
   |new v' di=>simp only[Eff.ap,yn];by_cases h1:t=dx<;>by_cases h2:t=dy<;>simp_all
   |drop a j v' di=>exact absurd rfl (aQ a j v' di)
  |drop a j v os=>
   obtain⟨z,hz,ty,hr⟩:=(ft a j v os rfl).2;cases ey with
   |put v'=>simp only[Eff.ap,kG,yn,JA];by_cases h1:t=dx<;>by_cases h2:t=dy<;>by_cases h3:t=a<;>simp_all;all_goals(first|(cases σ[dy]?<;>rfl)|(cases σ[t]?<;>rfl)|(cases σ[a]?<;>rfl))
   |new v' di=>
    have hay:a≠dy:=by intro h;subst h;rw[zo (jh cI (by intro v h;cases h)) (eW z hz)]at hr;cases hr
    simp only[Eff.ap,yn,JA];by_cases h1:t=dx<;>by_cases h2:t=dy<;>by_cases h3:t=a<;>simp_all
   |drop a' j' v' di=>exact absurd rfl (aQ a' j' v' di)
 rw[<-heq];exact this
end
open Go.RowKit
variable{PT:List (Nat×Nat)}{bar br:Oper->Bool}{NB post ord:List Nat}{pos:Nat->Nat}{Q:Exit->St->Prop}{cs:List At}{B:Nat->Prop}{w0 w:World}
def Bs(ops:Array Oper)(bar:Oper->Bool)(x y:Oper):Bool:=!bar x&&!bar y&&
 (match x.dst,y.dst with
 |some dx,some dy=>dx !=dy&&!(yi ops y).any (xA dx)&&!(yi ops x).any (xA dy)&&!VW y&&(y.guard.isNone||zT x||x.guard.isSome)
 |_,_=>false)
def CZ(bar:Oper->Bool)(x y:Oper):Bool:=!bar x&&!bar y&&x.guard.isNone&&y.guard.isNone&&
 (match x.dst,y.dst,y.op with
 |some dx,none,.store _ p q=>(match x.op with|.move _=>true|.assign _=>true|.extract _ _=>true|_=>false)&&!xA dx p&&!xA dx q
 |_,_,_=>false)
def Cv(bar:Oper->Bool)(x y:Oper):Bool:=!bar x&&bar y&&x.guard.isNone&&V4 y&&y.guard.isNone&&y.dst.isNone&&
 (match x.dst with
 |some dx=>(match x.op with|.move _=>true|.assign _=>true|.extract _ _=>true|_=>false)&&Wy y dx
 |none=>false)
def Pk(PT:List (Nat×Nat))(σ:St):Prop:=∀p∈PT,σ.get p.1= .any\/∃c,unc (σ.get p.1)= .one (.bptr p.2 c)
def ptB(PT:List (Nat×Nat))(σ:St):Bool:=PT.all fun p=>match σ.get p.1 with|.any=>true|v=>(match unc v with|.one (.bptr b _)=>b==p.2|_=>false)
def Ou(ops:Array Oper)(PT:List (Nat×Nat)):Bool:=ops.toList.all fun o=>match o.dst with
 |none=>true
 |some d=>PT.all fun p=>p.1 !=d||(o.guard.isNone&&(match o.op with|.fieldAddr _ (.tmp r) _=>PT.contains (r,p.2)|.move (.tmp r)=>PT.contains (r,p.2)|_=>false))
def R9(PT:List (Nat×Nat))(b:Nat):Op->Bool
 |.load _ (.tmp t)=>PT.any fun r=>r.1==t&&r.2 !=b
 |.fieldAddr _ _ _=>true
 |.move _=>true
 |.assign _=>true
 |.extract _ _=>true
 |.binOp _ _ _ _ _=>true
 |.call ⟨.builtin .len,⟨[_]⟩,⟨[_]⟩⟩=>true
 |_=>false
def swapT(PT:List (Nat×Nat))(bar:Oper->Bool)(x y:Oper):Bool:=!bar x&&!bar y&&x.guard.isNone&&y.guard.isNone&&
 (match x.dst,y.dst,y.op with
 |some dx,none,.store _ (.tmp tp) q=>tp !=dx&&!xA dx q&&PT.any fun p=>p.1==tp&&R9 PT p.2 x.op
 |_,_,_=>false)
def GV(NB:List Nat)(σ:St):Prop:=∀t∈NB,∀b c,unc (σ.get t)≠ .one (.bptr b c)
def nbB(NB:List Nat)(σ:St):Bool:=NB.all fun t=>match unc (σ.get t)with|.one (.bptr _ _)=>false|_=>true
def I6(P:Program)(ops:Array Oper)(NB:List Nat):Bool:=ops.toList.all fun o=>match o.dst with
 |none=>true
 |some d=>NB.all fun t=>t !=d||(o.guard.isNone&&(match o.op with|.indexAddr T _ _=>Xl P T|_=>false))
def FG(PT:List (Nat×Nat))(NB:List Nat)(σ:St):Prop:=Pk PT σ/\GV NB σ
def Ci(PT:List (Nat×Nat))(NB:List Nat)(bar:Oper->Bool)(x y:Oper):Bool:=!bar x&&bar y&&x.guard.isNone&&V4 y&&y.guard.isNone&&y.dst.isNone&&
 (match x.dst,y.op with
 |some dx,.store _ (.tmp tp) q=>NB.contains tp&&tp !=dx&&!xA dx q&&(match x.op with|.load _ (.tmp t)=>PT.any fun r=>r.1==t|.fieldAddr _ (.tmp t) _=>PT.any fun r=>r.1==t|_=>false)
 |_,_=>false)
def AK(PT:List (Nat×Nat)):Op->Bool
 |.move _=>true
 |.load _ (.tmp t)=>PT.any fun r=>r.1==t
 |.fieldAddr _ (.tmp _) _=>true
 |.slice _ (.tmp _) _ _ none=>true
 |_=>false
def BT(PT:List (Nat×Nat))(ops:Array Oper)(bar:Oper->Bool)(x y:Oper):Bool:=bar x&&!bar y&&kP x&&x.guard.isNone&&y.guard.isNone&&AK PT y.op&&
 (match x.dst,y.dst with
 |some dx,some dy=>dx !=dy&&!(yi ops y).any (xA dx)&&!(yi ops x).any (xA dy)
 |_,_=>false)
def DZ(PT:List (Nat×Nat))(o:Oper):Option Nat:=match o.op with|.call ⟨.value (.func _),⟨.tmp z::_⟩,_⟩=>(PT.find? (fun p=>p.1==z)).map (·.2)|_=>none
def pw:Operand->Bool
 |.const _=>true
 |_=>false
def MB(PT:List (Nat×Nat))(y x:Oper):Bool:=(x.op.operands.toList.all pw&&!VW x)||(match DZ PT y with|some b=>R9 PT b x.op|none=>false)
def Bl(P:Program)(PT:List (Nat×Nat))(ops:Array Oper)(bar:Oper->Bool)(x y:Oper):Bool:=x.guard.isNone&&y.guard.isNone&&Pp bar x&&Pp bar y&&(match x.dst,y.dst with
 |some dx,some dy=>dx !=dy&&!(yi ops y).any (xA dx)&&!(yi ops x).any (xA dy)&&((!bar x&&bar y&&KK P y&&MB PT y x)||(bar x&&KK P x&&!bar y&&MB PT x y))
 |_,_=>false)
def Ot(o:Oper)(j:Nat):Bool:=o.after.any fun e=>e.on==j&&Region.binds .any e
def Pr:List Oper->List Nat->List Nat
 |[],acc=>acc
 |o::rest,acc=>Pr rest (acc++[o.after.toList.foldl (fun m e=>if Region.binds .any e then m|||(1<<<e.on)|||acc.getD e.on 0 else m) 0])
def wG(ms:List Nat)(i j:Nat):Bool:=(ms.getD i 0).testBit j
inductive Pre(ops:Array Oper):Nat->Nat->Prop
 |one {i j:Nat} {o:Oper} (ho:ops[i]?=some o) (hp:Ot o j=true):Pre ops i j
 |more {i m j:Nat} {o:Oper} (ho:ops[i]?=some o) (hp:Ot o m=true) (h:Pre ops m j):Pre ops i j
theorem ER{ops:Array Oper}:∀{l:List Oper}{acc:List Nat},(∀k o,l[k]?=some o->ops[acc.length+k]?=some o)->(∀i j,(acc.getD i 0).testBit j=true->Pre ops i j)->∀i j,wG (Pr l acc) i j=true->Pre ops i j
 |[],acc,_,ha,i,j,h=>ha i j h
 |o::rest,acc,hl,ha,i,j,h=>by
  refine ER (l:=rest) (fun k o' hk=>?_) (fun i j eF=>?_) i j h
  ·have:=hl (k+1) o' (by simpa using hk);rw[List.length_append,List.length_singleton,Nat.add_assoc,Nat.add_comm 1 k];exact this
  ·rw[List.getD_eq_getElem?_getD]at eF;rcases Nat.lt_trichotomy i acc.length with nn|heq|eH
   ·rw[List.getElem?_append_left nn,<-List.getD_eq_getElem?_getD]at eF;exact ha i j eF
   ·subst heq;rw[List.getElem?_append_right (Nat.le_refl _)]at eF;simp only[Nat.sub_self,List.getElem?_cons_zero,Option.getD_some]at eF;have ho:=hl 0 o zAG
    rw[Nat.add_zero]at ho;have key:∀(es:List Edge)(m:Nat),(∀e∈es,e∈o.after)->(∀j,m.testBit j=true->Pre ops acc.length j)->∀j,(es.foldl (fun m e=>if Region.binds .any e then m|||(1<<<e.on)|||acc.getD e.on 0 else m) m).testBit j=true->Pre ops acc.length j:=by
     intro es;induction es with
     |nil=>intro m _ hm j hj;exact hm j hj
     |cons e es ih=>
      intro m hes hm j hj;refine ih _ (fun e' he'=>hes e' (by simp[he'])) (fun j hj=>?_) j hj;by_cases hb:Region.binds .any e=true
      ·simp only[hb,if_true]at hj;have hp:Ot o e.on=true:=by unfold Ot;rw[<-Array.any_toList];exact List.any_eq_true.2 ⟨e,by simpa using hes e zAG,by simp[hb]⟩
       rw[Nat.testBit_or,Nat.testBit_or,Bool.or_eq_true,Bool.or_eq_true]at hj;rcases hj with(hj|hj)|hj
       ·exact hm j hj
       ·rw[Nat.testBit_shiftLeft]at hj;simp only[Bool.and_eq_true,decide_eq_true_eq]at hj;have h1:j-e.on=0:=by
         have:=hj.2;rw[show(1:Nat)=2^0 from rfl,Nat.testBit_two_pow]at this;have h3:0=j-e.on:=by simpa using this
         omega
        have:j=e.on:=zAD;subst this;exact .one ho hp
       ·exact .more ho hp (ha e.on j hj)
      ·simp only[hb,Bool.false_eq_true,if_false]at hj;exact hm j hj
    exact key o.after.toList 0 (fun e he=>by simpa using he) (fun j hj=>by simp at hj) j eF
   ·rw[List.getElem?_eq_none zAx]at eF;simp at eF
def C3(ops:Array Oper)(i j:Nat):Bool:=wG (Pr ops.toList []) i j
theorem vS(h:C3 ops i j=true):Pre ops i j:=
 ER (l:=ops.toList) (acc:=[]) (fun k o hk=>by simpa using hk) (fun i j h=>by simp at h) i j h
def rA(P:Program)(ops:Array Oper)(bar:Oper->Bool)(PT:List (Nat×Nat))(NB ms:List Nat)(i j:Nat):Bool:=match ops[i]?,ops[j]? with|some oi,some oj=>wG ms i j||Bs ops bar oj oi||CZ bar oj oi||swapT PT bar oj oi||Cv bar oj oi||BT PT ops bar oj oi||Ci PT NB bar oj oi||Bl P PT ops bar oj oi|_,_=>false
def rG(ops:Array Oper)(pos:Nat->Nat)(i:Nat):Bool:=match ops[i]? with|some o=>o.after.all fun e=>!Region.binds .any e||(decide (pos e.on<pos i)&&decide (e.on<ops.size))|none=>false
def wY(ops:Array Oper)(j:Nat):Bool:=match ops[j]? with
 |some o=>(match o.dst with|some d=>(List.range ops.size).all fun k=>k==j||(match ops[k]? with|some q=>q.dst !=some d|none=>true)|none=>false)
 |none=>false
def Dd(ops:Array Oper)(pos:Nat->Nat)(ms:List Nat)(j:Nat):Bool:=(List.range ops.size).any fun i=>decide (pos j<pos i)&&!wG ms i j
def Re(ops:Array Oper)(pos:Nat->Nat)(j:Nat):Bool:=Dd ops pos (Pr ops.toList []) j
def BR(P:Program)(ops:Array Oper)(pos:Nat->Nat)(bar:Oper->Bool)(PT:List (Nat×Nat))(NB ms:List Nat):Bool:=
 (List.range ops.size).all fun i=>rG ops pos i&&((List.range ops.size).all fun j=>!decide (pos j<pos i)||rA P ops bar PT NB ms i j)&&(!Dd ops pos ms i||wY ops i)
def N3(P:Program)(ops:Array Oper)(pos:Nat->Nat)(bar:Oper->Bool):Bool:=BR P ops pos bar [] [] (Pr ops.toList [])
def xB(ops:Array Oper)(pos:Nat->Nat)(σ:St):Bool:=
 let ms:=Pr ops.toList []
 (List.range ops.size).all fun j=>!Dd ops pos ms j||(match(ops[j]?).bind (·.dst)with|some d=>Xt σ d|none=>false)
theorem VJ{xs:List Operand}(h:xs.any (xA d)=false):∀z∈xs,z≠ .tmp d:=by
 intro z hz he;subst he;have:=List.any_eq_false.1 h _ hz
 simp[xA]at this
theorem AM{x:Oper}(h:Bs ops bar x y=true):bar x=false/\bar y=false/\∃dx dy,x.dst=some dx/\y.dst=some dy/\dx≠dy/\(∀z∈yi ops y,z≠ .tmp dx)/\(∀z∈yi ops x,z≠ .tmp dy)/\VW y=false/\(y.guard=none\/zT x=true\/x.guard.isSome=true):=by
 unfold Bs at h;rw[Bool.and_eq_true,Bool.and_eq_true]at h;obtain⟨⟨lC,mQ⟩,h⟩:=h;refine⟨by simpa using lC,by simpa using mQ,?_⟩;split at h
 ·rename_i dx dy h1 h2;simp only[Bool.and_eq_true,bne_iff_ne,ne_eq,Bool.not_eq_true',Bool.or_eq_true,Option.isNone_iff_eq_none]at h;exact⟨dx,dy,h1,h2,h.1.1.1.1,VJ h.1.1.1.2,VJ h.1.1.2,h.1.2,or_assoc.1 h.2⟩
 ·cases h
theorem z8{o:Ob}{T:TypeId}:look P (σ.Z1 t j o) T x=look P σ T x:=by
 cases x with
 |tmp u=>simp[look,St.QL]
 |const c=>rfl
 |global g=>rfl
 |func f=>rfl
theorem PR{σ:St}{d:Nat}{v:V}:∀(xs:List At),rowOf (σ.put d v) xs=rowOf σ xs
 |[]=>rfl
 |x::xs=>by
  have:yH (σ.put d v) x=yH σ x:=by cases x<;>simp[yH,St.JJ]
  simp only[rowOf,this,PR xs]
theorem sF{x:Oper}(h:CZ bar x y=true)(mj:zE P ops bar x σ σ1)(nt:zE P ops bar y σ1 σ2):∃σ1',Xm P ops y σ σ1'/\Xm P ops x σ1' σ2:=by
 unfold CZ at h;simp only[Bool.and_eq_true,Bool.not_eq_true',Option.isNone_iff_eq_none]at h;obtain⟨⟨⟨⟨lC,mQ⟩,fe⟩,hO⟩,h⟩:=h;have mj:=mj.resolve_right (fun hh=>by rw[lC]at hh;cases hh.1)
 have nt:=nt.resolve_right (fun hh=>by rw[mQ]at hh;cases hh.1);split at h
 ·rename_i dx T p q lp iT na;simp only[Bool.and_eq_true,Bool.not_eq_true']at h;obtain⟨⟨hv,hp⟩,hq⟩:=h;unfold Xm at mj nt;simp only[fe,lp]at mj;simp only[hO,iT,na]at nt;have e1:∃v,Yh P σ x.op x.type v/\σ1=σ.put dx v:=by unfold Step at mj;cases hx:x.op<;>rw[hx]at mj hv<;>first|exact mj|(exact Bool.noConfusion hv)
  obtain⟨v,iM,rfl⟩:=e1;have mv:∀(t j:Nat)(o:Ob),Yh P (σ.Z1 t j o) x.op x.type v:=by intro t j o;cases hx:x.op<;>rw[hx]at hv iM<;>first|(exact Bool.noConfusion hv)|(simp only[Yh,z8]at iM⊢;exact iM)
  have ab:∀(t j:Nat)(o:Ob),Xm P ops x (σ.Z1 t j o) ((σ.put dx v).Z1 t j o):=by
   intro t j o;unfold Xm;simp only[fe,lp];have:=mv t j o
   rw[xJ];unfold Step;cases hx:x.op<;>rw[hx]at hv this<;>first|exact⟨v,this,rfl⟩|(exact Bool.noConfusion hv)
  unfold qB at nt;rw[Xp hp,Xp hq]at nt;obtain⟨k1,k2,k3,k4,nt⟩:=nt;split at nt
  ·rename_i t c hl;obtain⟨cells,c1,c2,c3,rfl⟩:=nt;rw[St.JJ]at c1;refine⟨_,?_,ab _ _ _⟩;unfold Xm qB;simp only[hO,iT,na];refine⟨k1,k2,k3,k4,?_⟩;rw[hl];exact⟨cells,c1,c2,c3,rfl⟩
  ·rename_i t j i c hl;obtain⟨q',size,rows,ds,c1,c2,c3,c4,c5,c6,c7,rfl⟩:=nt;rw[St.JJ]at c1;rw[PR]at c3;refine⟨_,?_,ab _ _ _⟩;unfold Xm qB;simp only[hO,iT,na];refine⟨k1,k2,k3,k4,?_⟩;rw[hl];exact⟨q',size,rows,ds,c1,c2,c3,c4,c5,c6,c7,rfl⟩
  ·exact nt.elim
 ·cases h
theorem qG{T:TypeId}:look P σ T (.tmp t)=σ.get t:=rfl
theorem PM{op:Op}(ho:o.op=op)(h:R9 PT b op=true):Step P o d σ σ'↔∃v,Yh P σ op o.type v/\σ'=σ.put d v:=by unfold Step;rw[ho];unfold R9 at h;split at h<;>first|exact Iff.rfl|(exact Bool.noConfusion h)
theorem AO{op:Op}{ty:TypeId}{cells:List At}(h:R9 PT b op=true)(hp:Pk PT σ)(c1:σ.ob b 0= .box cells)(hv:Yh P σ op ty v):Yh P (σ.Z1 b 0 (.box cs)) op ty v:=by
 have nf:σ.ob b 0≠ .none:=by rw[c1];intro e;cases e
 have ho:=fun u i=>St.Xz σ b 0 (.box cs) u i nf;have lU:∀t j,(∃q size rows,σ.ob t j= .arr q size rows)->∃q size rows,(σ.Z1 b 0 (.box cs)).ob t j= .arr q size rows:=by
  rintro t j ⟨q,size,rows,e⟩;by_cases hh:t=b/\j=0
  ·obtain⟨rfl,rfl⟩:=hh;rw[c1]at e;cases e
  ·exact⟨q,size,rows,by rw[ho,if_neg hh];exact e⟩
 have dC:∀t j,(∃size rows,σ.ob t j= .lit size rows)->∃size rows,(σ.Z1 b 0 (.box cs)).ob t j= .lit size rows:=by
  rintro t j ⟨size,rows,e⟩;by_cases hh:t=b/\j=0
  ·obtain⟨rfl,rfl⟩:=hh;rw[c1]at e;cases e
  ·exact⟨size,rows,by rw[ho,if_neg hh];exact e⟩
 have cH:∀t,(∃cells,σ.ob t 0= .box cells)->∃cells,(σ.Z1 b 0 (.box cs)).ob t 0= .box cells:=by
  rintro t ⟨ce,e⟩;by_cases hh:t=b
  ·subst hh;exact⟨cs,by rw[ho,if_pos ⟨rfl,rfl⟩]⟩
  ·exact⟨ce,by rw[ho,if_neg (fun hh2=>hh hh2.1)];exact e⟩
 unfold R9 at h;split at h
 ·rename_i T t;simp only[List.any_eq_true,Bool.and_eq_true,beq_iff_eq,bne_iff_ne,ne_eq]at h;obtain⟨r,hrm,rfl,hrb⟩:=h;simp only[Yh,z8]at hv⊢;refine⟨hv.1,hv.2.1,?_⟩;have hv:=hv.2.2
  rw[qG]at hv⊢;rcases hp r hrm with e|⟨c,e⟩
  ·rw[e]at hv;exact hv.elim
  ·rw[e]at hv⊢;obtain⟨ce,e1,e2,e3⟩:=hv;exact⟨ce,by rw[ho,if_neg (fun hh=>hrb hh.1)];exact e1,e2,e3⟩
 ·simp only[Yh,z8]at hv⊢;refine⟨hv.1,hv.2.1,?_⟩;have hv:=hv.2.2
  split at hv
  ·rename_i e;first|exact⟨cH _ hv.1,hv.2⟩|(simp only[e];exact⟨cH _ hv.1,hv.2⟩)
  ·rename_i e;first|exact⟨lU _ _ hv.1,hv.2⟩|(simp only[e];exact⟨lU _ _ hv.1,hv.2⟩)
  ·rename_i e;first|exact hv|(simp only[e];exact hv)
  ·rename_i e;have hq:∀t j,(∃size rows,σ.ob t j= .arr true size rows)->∃size rows,(σ.Z1 b 0 (.box cs)).ob t j= .arr true size rows:=by
    rintro t j ⟨size,rows,e⟩;by_cases hh:t=b/\j=0
    ·obtain⟨rfl,rfl⟩:=hh;rw[c1]at e;cases e
    ·exact⟨size,rows,by rw[ho,if_neg hh];exact e⟩
   first|exact⟨hq _ _ hv.1,hv.2⟩|(simp only[e];exact⟨hq _ _ hv.1,hv.2⟩)
  ·exact hv.elim
 ·simp only[Yh,z8]at hv⊢;exact hv
 ·simp only[Yh,z8]at hv⊢;exact hv
 ·simp only[Yh,z8]at hv⊢;exact hv
 ·simp only[Yh,z8]at hv⊢;exact hv
 ·simp only[Yh,z8]at hv⊢;refine⟨hv.1,?_⟩;have hv:=hv.2
  split at hv
  ·rename_i e;first|exact hv|(simp only[e];exact hv)
  ·rename_i e;first|exact hv|(simp only[e];exact hv)
  ·rename_i e;first|exact hv|(simp only[e];exact hv)
  ·rename_i e;first|exact⟨hv.1,hv.2.1.imp (lU _ _) (dC _ _),hv.2.2⟩|(simp only[e];exact⟨hv.1,hv.2.1.imp (lU _ _) (dC _ _),hv.2.2⟩)
  ·rename_i u j i c e;obtain⟨g1,size,rows,n,s,g2,g3⟩:=hv;have g4:(σ.Z1 b 0 (.box cs)).ob u j= .arr true size rows:=by
    rw[ho];by_cases hh:u=b/\j=0
    ·obtain⟨rfl,rfl⟩:=hh;rw[c1]at g2;cases g2
    ·rw[if_neg hh];exact g2
   first|exact⟨g1,size,rows,n,s,g4,g3⟩|(simp only[e];exact⟨g1,size,rows,n,s,g4,g3⟩)
  ·exact hv.elim
 ·exact Bool.noConfusion h
theorem rZ{x:Oper}(h:swapT PT bar x y=true)(hp:Pk PT σ)(mj:zE P ops bar x σ σ1)(nt:zE P ops bar y σ1 σ2):∃σ1',Xm P ops y σ σ1'/\Xm P ops x σ1' σ2:=by
 unfold swapT at h;simp only[Bool.and_eq_true,Bool.not_eq_true',Option.isNone_iff_eq_none]at h;obtain⟨⟨⟨⟨lC,mQ⟩,fe⟩,hO⟩,h⟩:=h;have mj:=mj.resolve_right (fun hh=>by rw[lC]at hh;cases hh.1)
 have nt:=nt.resolve_right (fun hh=>by rw[mQ]at hh;cases hh.1);split at h
 ·rename_i dx T tp q lp iT na;simp only[Bool.and_eq_true,Bool.not_eq_true',List.any_eq_true,beq_iff_eq,bne_iff_ne,ne_eq]at h;obtain⟨⟨nf,hq⟩,p,bm,iu,hv⟩:=h;have ma:xA dx (.tmp tp)=false:=by simp[xA,nf]
  unfold Xm at mj nt;simp only[fe,lp]at mj;simp only[hO,iT,na]at nt;obtain⟨v,iM,rfl⟩:=(PM rfl hv).1 mj;unfold qB at nt;rw[Xp ma,Xp hq,qG]at nt;obtain⟨k1,k2,k3,k4,nt⟩:=nt;have ia:=hp p bm
  rw[iu]at ia;rcases ia with ia|⟨c,ia⟩
  ·rw[ia]at nt;exact nt.elim
  ·rw[ia]at nt;obtain⟨cells,c1,c2,c3,rfl⟩:=nt;rw[St.JJ]at c1;refine⟨σ.Z1 p.2 0 (.box (place cells c (unc (look P σ T q)).cells)),?_,?_⟩
   ·unfold Xm qB;simp only[hO,iT,na];refine⟨k1,by rw[qG];exact k2,k3,k4,?_⟩;rw[qG,ia];exact⟨cells,c1,c2,c3,rfl⟩
   ·unfold Xm;simp only[fe,lp];rw[xJ];exact(PM rfl hv).2 ⟨v,AO hv hp c1 iM,rfl⟩
 ·cases h
theorem kK:∀(σ:St)(d:Nat),σ.put d (σ.get d)=σ
 |[],_=>rfl
 |e::σ,0=>by simp[St.put,St.get]
 |e::σ,d+1=>by have:=kK σ d;simp only[St.put,St.get,List.getElem?_cons_succ]at this⊢;rw[this]
theorem NZ:∀(σ:St)(d:Nat)(v v':V),(σ.put d v).put d v'=σ.put d v'
 |[],_,_,_=>rfl
 |e::σ,0,_,_=>rfl
 |e::σ,d+1,v,v'=>by simp[St.put,NZ σ d v v']
theorem Gl(h:∀u,σ'.get u=σ.get u){T:TypeId}:look P σ' T x=look P σ T x:=by
 cases x with
 |tmp u=>exact h u
 |const c=>rfl
 |global g=>rfl
 |func f=>rfl
theorem pC{x:Oper}(h:Cv bar x y=true)(lp:x.dst=some d)(mK:Xt σ d=true)(mj:zE P ops bar x σ σ1)(nt:zE P ops bar y σ1 σ2):∃σ1',zE P ops bar y σ σ1'/\Xm P ops x σ1' σ2:=by
 unfold Cv at h;simp only[lp,Bool.and_eq_true,Bool.not_eq_true',Option.isNone_iff_eq_none]at h;obtain⟨⟨⟨⟨⟨⟨lC,mQ⟩,fe⟩,mF⟩,hO⟩,iT⟩,hv,hu⟩:=h;have mj:=mj.resolve_right (fun hh=>by rw[lC]at hh;cases hh.1)
 unfold Xm at mj;simp only[fe,lp]at mj;have e1:∃v,Yh P σ x.op x.type v/\σ1=σ.put d v:=by unfold Step at mj;cases hx:x.op<;>rw[hx]at mj hv<;>first|exact mj|(exact Bool.noConfusion hv)
 obtain⟨v,iM,rfl⟩:=e1;have back:∀σ',(∀u,σ'.get u=σ.get u)->Xm P ops x σ' (σ'.put d v):=by
  intro σ' hg;unfold Xm;simp only[fe,lp];have:Yh P σ' x.op x.type v:=by cases hx:x.op<;>rw[hx]at hv iM<;>first|(exact Bool.noConfusion hv)|(simp only[Yh,Gl hg]at iM⊢;exact iM)
  unfold Step;cases hx:x.op<;>rw[hx]at hv this<;>first|exact⟨v,this,rfl⟩|(exact Bool.noConfusion hv)
 rcases nt with nt|⟨_,_,_,hk,_⟩
 · -- a plain store
  unfold V4 at mF;split at mF
  ·rename_i T p q na;simp only[Wy,na,Bool.and_eq_true,Bool.not_eq_true']at hu;unfold Xm at nt;simp only[hO,iT,na]at nt;unfold qB at nt;rw[Xp hu.1,Xp hu.2]at nt;obtain⟨k1,k2,k3,k4,nt⟩:=nt;split at nt
   ·rename_i t c hl;obtain⟨cells,c1,c2,c3,rfl⟩:=nt;rw[St.JJ]at c1;refine⟨σ.Z1 t 0 (.box (place cells c (unc (look P σ T q)).cells)),.inl ?_,?_⟩
    ·unfold Xm qB;simp only[hO,iT,na];refine⟨k1,k2,k3,k4,?_⟩;rw[hl];exact⟨cells,c1,c2,c3,rfl⟩
    ·rw[xJ];exact back _ (fun u=>St.QL _ _ _ _ _)
   ·rename_i t j i c hl;obtain⟨q',size,rows,ds,c1,c2,c3,c4,c5,c6,c7,rfl⟩:=nt;rw[St.JJ]at c1;rw[PR]at c3;refine⟨σ.Z1 t j (.arr q' size (rows.set i (place (rows.getD i []) c ds))),.inl ?_,?_⟩
    ·unfold Xm qB;simp only[hO,iT,na];refine⟨k1,k2,k3,k4,?_⟩;rw[hl];exact⟨q',size,rows,ds,c1,c2,c3,c4,c5,c6,c7,rfl⟩
    ·rw[xJ];exact back _ (fun u=>St.QL _ _ _ _ _)
   ·exact nt.elim
  ·cases mF
 ·obtain⟨⟨gG,lB⟩,mw,cH⟩:=hk mF;rw[St.JG]at gG;have fJ:M5 (σ.get d)=true:=by rw[qX]at mK;unfold St.get;rcases mK with e|⟨x',e⟩<;>rw[e]<;>rfl
  have hq:∀l:List (Nat×V),(σ.put d v).JO ((d,σ.get d)::l)=σ.JO l:=fun l=>by rw[St.JO,NZ,kK]
  have h0:=mw [(d,σ.get d)] (fun p hp=>by cases List.mem_singleton.1 hp;exact⟨hu,fJ⟩);rw[hq []]at h0;have hlen:d<σ.length:=by rw[qX]at mK;rcases mK with e|⟨x',e⟩<;>exact(List.getElem?_eq_some_iff.1 e).1
  have ek:∀u,(σ2.put d (σ.get d)).get u=σ.get u:=fun u=>by
   rw[St.zb];by_cases dN:u=d/\d<σ2.length
   ·rw[if_pos dN,dN.1]
   ·rw[if_neg dN,lB,St.zb];have bp:¬u=d:=fun e=>dN ⟨e,by rw[gG];exact hlen⟩
    rw[if_neg (fun hh=>bp hh.1)]
  refine⟨σ2.put d (σ.get d),.inr ⟨mQ,h0.1,h0.2,fun _=>⟨⟨by rw[St.JG];exact gG,ek⟩,fun l hl=>?_,fun t cells hb=>by rw[St.JJ];exact cH t cells (by rw[St.JJ];exact hb)⟩,fun hh=>(by rw[DL mF]at hh;cases hh),fun hh _=>(by rw[Cj mF]at hh;cases hh)⟩,?_⟩
  ·have:=mw ((d,σ.get d)::l) (fun p hp=>by
    rcases List.mem_cons.1 hp with rfl|hp
    ·exact⟨hu,fJ⟩
    ·exact hl p hp)
   rw[hq l]at this;exact this
  ·have:=back _ ek;rw[NZ]at this;have e:σ2.put d v=σ2:=by have g1:=lB d;rw[St.zb,if_pos ⟨rfl,hlen⟩]at g1;rw[<-g1];exact kK σ2 d
   rw[e]at this;exact this
theorem rh{x:Oper}(h:Ci PT NB bar x y=true)(hp:Pk PT σ)(hnb:GV NB σ)(lp:x.dst=some d)(mK:Xt σ d=true)(mj:zE P ops bar x σ σ1)(nt:zE P ops bar y σ1 σ2):∃σ1',zE P ops bar y σ σ1'/\Xm P ops x σ1' σ2:=by
 unfold Ci at h;simp only[lp,Bool.and_eq_true,Bool.not_eq_true',Option.isNone_iff_eq_none]at h;obtain⟨⟨⟨⟨⟨⟨lC,mQ⟩,fe⟩,mF⟩,hO⟩,iT⟩,h⟩:=h;have mj:=mj.resolve_right (fun hh=>by rw[lC]at hh;cases hh.1)
 split at h
 ·rename_i dx T tp q hdx' na;cases hdx';simp only[Bool.and_eq_true,Bool.not_eq_true',bne_iff_ne,ne_eq,List.contains_iff_mem]at h;obtain⟨⟨⟨htp,nf⟩,hq⟩,hv⟩:=h;have ma:xA d (.tmp tp)=false:=by simp[xA,nf]
  have hu:Wy y d=true:=by simp only[Wy,na,ma,hq];rfl
  unfold Xm at mj;simp only[fe,lp]at mj;have e1:∃v,Yh P σ x.op x.type v/\σ1=σ.put d v:=by unfold Step at mj;cases hx:x.op<;>rw[hx]at mj hv<;>first|exact mj|(exact Bool.noConfusion hv)
  obtain⟨v,iM,rfl⟩:=e1;have back:∀σ',(∀u,σ'.get u=σ.get u)->(∀t cells,σ.ob t 0= .box cells->σ'.ob t 0= .box cells)->Xm P ops x σ' (σ'.put d v):=by
   intro σ' hg cH;unfold Xm;simp only[fe,lp];have:Yh P σ' x.op x.type v:=by
    cases hx:x.op<;>rw[hx]at hv iM<;>try exact Bool.noConfusion hv
    case load T' z=>
     cases z with
     |tmp t=>
      simp only[List.any_eq_true,beq_iff_eq]at hv;obtain⟨p,bm,iu⟩:=hv;simp only[Yh,Gl hg]at iM⊢;refine⟨iM.1,iM.2.1,?_⟩;have mv:=iM.2.2
      have ia:=hp p bm;rw[iu]at ia;rw[qG]at mv⊢;rcases ia with e|⟨c,e⟩
      ·rw[e]at mv;exact mv.elim
      ·rw[e]at mv⊢;obtain⟨ce,k1,k2⟩:=mv;exact⟨ce,cH _ _ k1,k2⟩
     |_=>exact Bool.noConfusion hv
    case fieldAddr T' z f=>
     cases z with
     |tmp t=>
      simp only[List.any_eq_true,beq_iff_eq]at hv;obtain⟨p,bm,iu⟩:=hv;simp only[Yh,Gl hg]at iM⊢;refine⟨iM.1,iM.2.1,?_⟩;have mv:=iM.2.2
      have ia:=hp p bm;rw[iu]at ia;rw[qG]at mv⊢;rcases ia with e|⟨c,e⟩
      ·rw[e]at mv;exact mv.elim
      ·rw[e]at mv⊢;obtain⟨⟨ce,k1⟩,k2⟩:=mv;exact⟨⟨ce,cH _ _ k1⟩,k2⟩
     |_=>exact Bool.noConfusion hv
   unfold Step;cases hx:x.op<;>rw[hx]at hv this<;>first|exact⟨v,this,rfl⟩|(exact Bool.noConfusion hv)
  rcases nt with nt|⟨_,_,_,hk,_⟩
  ·unfold Xm at nt;simp only[hO,iT,na]at nt;unfold qB at nt;rw[Xp ma,Xp hq]at nt;obtain⟨k1,k2,k3,k4,nt⟩:=nt;split at nt
   ·rename_i t c hl;exact absurd hl (hnb tp htp t c)
   ·rename_i t j i c hl;obtain⟨q',size,rows,ds,c1,c2,c3,c4,c5,c6,c7,rfl⟩:=nt;rw[St.JJ]at c1;rw[PR]at c3;refine⟨σ.Z1 t j (.arr q' size (rows.set i (place (rows.getD i []) c ds))),.inl ?_,?_⟩
    ·unfold Xm qB;simp only[hO,iT,na];refine⟨k1,k2,k3,k4,?_⟩;rw[hl];exact⟨q',size,rows,ds,c1,c2,c3,c4,c5,c6,c7,rfl⟩
    ·rw[xJ];refine back _ (fun u=>St.QL _ _ _ _ _) (fun b cells hb=>?_);have gh:σ.ob t j≠ .none:=by rw[c1];simp
     rw[St.Xz σ t j _ b 0 gh];split
     ·rename_i hc;rw[hc.1,hc.2]at hb;rw[c1]at hb;cases hb
     ·exact hb
   ·exact nt.elim
  ·obtain⟨⟨gG,lB⟩,mw,cH⟩:=hk mF;rw[St.JG]at gG;have fJ:M5 (σ.get d)=true:=by rw[qX]at mK;unfold St.get;rcases mK with e|⟨x',e⟩<;>rw[e]<;>rfl
   have hqq:∀l:List (Nat×V),(σ.put d v).JO ((d,σ.get d)::l)=σ.JO l:=fun l=>by rw[St.JO,NZ,kK]
   have h0:=mw [(d,σ.get d)] (fun p hp=>by cases List.mem_singleton.1 hp;exact⟨hu,fJ⟩);rw[hqq []]at h0;have hlen:d<σ.length:=by rw[qX]at mK;rcases mK with e|⟨x',e⟩<;>exact(List.getElem?_eq_some_iff.1 e).1
   have ek:∀u,(σ2.put d (σ.get d)).get u=σ.get u:=fun u=>by
    rw[St.zb];by_cases dN:u=d/\d<σ2.length
    ·rw[if_pos dN,dN.1]
    ·rw[if_neg dN,lB,St.zb];have bp:¬u=d:=fun e=>dN ⟨e,by rw[gG];exact hlen⟩
     rw[if_neg (fun hh=>bp hh.1)]
   have hbx':∀t cells,σ.ob t 0= .box cells->(σ2.put d (σ.get d)).ob t 0= .box cells:=fun t cells hb=>by rw[St.JJ];exact cH t cells (by rw[St.JJ];exact hb)
   refine⟨σ2.put d (σ.get d),.inr ⟨mQ,h0.1,h0.2,fun _=>⟨⟨by rw[St.JG];exact gG,ek⟩,fun l hl=>?_,hbx'⟩,fun hh=>(by rw[DL mF]at hh;cases hh),fun hh _=>(by rw[Cj mF]at hh;cases hh)⟩,?_⟩
   ·have:=mw ((d,σ.get d)::l) (fun p hp=>by
     rcases List.mem_cons.1 hp with rfl|hp
     ·exact⟨hu,fJ⟩
     ·exact hl p hp)
    rw[hqq l]at this;exact this
   ·have:=back _ ek hbx';rw[NZ]at this;have e:σ2.put d v=σ2:=by have g1:=lB d;rw[St.zb,if_pos ⟨rfl,hlen⟩]at g1;rw[<-g1];exact kK σ2 d
    rw[e]at this;exact this
 ·cases h
theorem oP(lB:∀t,t≠d->σ1.get t=σ.get t/\(σ.get t).ref d=false)(iW:∀t j cells,t≠d->σ1.ob t j= .box cells->σ.ob t j= .box cells/\Yf d cells=false)
  (lU:∀t j q s rows,t≠d->σ1.ob t j= .arr q s rows->∃nv,σ.ob t j= .arr q s nv) (hp:Pk PT σ) {op:Op} {ty:TypeId} (fP:AK PT op=true) (gy:∀z∈op.operands.toList,z≠ .tmp d) (hv:Yh P σ1 op ty v):Yh P σ op ty v/\v.ref d=false:=by
 have hl:∀(z:Operand)(T:TypeId),z≠ .tmp d->look P σ1 T z=look P σ T z:=by
  intro z T hz;cases z with
  |tmp u=>exact(lB u (fun e=>hz (by rw[e]))).1
  |const c=>rfl
  |global g=>rfl
  |func f=>rfl
 have hr:∀(z:Operand)(T:TypeId),z≠ .tmp d->(look P σ T z).ref d=false:=by
  intro z T hz;cases z with
  |tmp u=>exact(lB u (fun e=>hz (by rw[e]))).2
  |const c=>exact T1 T c d
  |global g=>rfl
  |func f=>rfl
 have nf:∀(z:Operand)(T:TypeId)(x:At),z≠ .tmp d->unc (look P σ T z)= .one x->x.ref d=false:=by
  intro z T x hz hu;cases hx:x.ref d with
  |false=>rfl
  |true=>have:=QZ hu hx;rw[hr z T hz]at this;cases this
 refine⟨?_,?_⟩
 ·cases op<;>simp only[AK]at fP<;>try exact Bool.noConfusion fP
  case move x=>simp only[Yh]at hv⊢;rw[hv,hl x ty (gy x zAb)]
  case load T x=>
   cases x with
   |tmp t=>
    have ht:Operand.tmp t≠ .tmp d:=gy _ zAb;simp only[List.any_eq_true,beq_iff_eq]at fP;obtain⟨p,bm,iu⟩:=fP;simp only[Yh]at hv⊢;rw[hl _ 0 ht]at hv;refine⟨hv.1,hv.2.1,?_⟩;have mv:=hv.2.2;have ia:=hp p bm;rw[iu]at ia;rw[qG]at mv⊢;rcases ia with e|⟨c,e⟩
    ·rw[e]at mv;exact mv.elim
    ·rw[e]at mv⊢;obtain⟨ce,e1,e2⟩:=mv;have hb:p.2≠d:=by have:=nf (.tmp t) 0 (.bptr p.2 c) ht (by rw[qG];exact e);simpa[At.ref]using this
     exact⟨ce,(iW _ _ _ hb e1).1,e2⟩
   |_=>exact Bool.noConfusion fP
  case fieldAddr T x f=>
   cases x with
   |tmp t=>
    have ht:Operand.tmp t≠ .tmp d:=gy _ zAb;simp only[Yh]at hv⊢;rw[hl _ 0 ht]at hv;refine⟨hv.1,hv.2.1,?_⟩;have mv:=hv.2.2;split at mv
    ·rename_i t' c e;have hb:t'≠d:=zBN
     obtain⟨⟨ce,e1⟩,e2⟩:=mv;first|exact⟨⟨ce,(iW _ _ _ hb e1).1⟩,e2⟩|(simp only[e];exact⟨⟨ce,(iW _ _ _ hb e1).1⟩,e2⟩)
    ·rename_i t' j i c e;have hb:t'≠d:=zBN
     obtain⟨⟨q,s,rows,e1⟩,e2⟩:=mv;obtain⟨nv,e3⟩:=lU _ _ _ _ _ hb e1;first|exact⟨⟨q,s,nv,e3⟩,e2⟩|(simp only[e];exact⟨⟨q,s,nv,e3⟩,e2⟩)
    ·rename_i rr c e;first|exact mv|(simp only[e];exact mv)
    ·rename_i t' j i c k e;have hb:t'≠d:=zBN
     obtain⟨⟨s,rows,e1⟩,e2⟩:=mv;obtain⟨nv,e3⟩:=lU _ _ _ _ _ hb e1;first|exact⟨⟨s,nv,e3⟩,e2⟩|(simp only[e];exact⟨⟨s,nv,e3⟩,e2⟩)
    ·exact mv.elim
   |_=>exact Bool.noConfusion fP
  case slice T x lo hi mx=>
   cases x with
   |tmp t=>
    cases mx with
    |some m=>exact Bool.noConfusion fP
    |none=>
     have ht:Operand.tmp t≠ .tmp d:=gy _ zAb;have ep:∀(df n:Nat)(z:Option Operand),(∀y,z=some y->y≠ .tmp d)->bnd P σ1 df z n->bnd P σ df z n:=by
      intro df n z hz h;cases z with
      |none=>exact h
      |some z=>simp only[bnd]at h⊢;rw[hl z 0 (hz z rfl)]at h;exact h
     have gN:∀y,lo=some y->y≠ .tmp d:=fun y e=>gy y (by subst e;simp[Op.operands]);have fg:∀y,hi=some y->y≠ .tmp d:=fun y e=>gy y (by subst e;simp[Op.operands]);simp only[Yh]at hv⊢;rw[hl _ 0 ht]at hv;refine⟨hv.1,?_⟩;have mv:=hv.2;split at mv
     ·rename_i s e;obtain⟨h1,l,h,h2,h3,h4⟩:=mv;first|exact⟨h1,l,h,ep _ _ _ gN h2,ep _ _ _ fg h3,h4⟩|(simp only[e];exact⟨h1,l,h,ep _ _ _ gN h2,ep _ _ _ fg h3,h4⟩)
     ·rename_i s rows e;obtain⟨h1,h0,l,h,h2,h3,h4⟩:=mv;first|exact⟨h1,h0,l,h,ep _ _ _ gN h2,ep _ _ _ fg h3,h4⟩|(simp only[e];exact⟨h1,h0,l,h,ep _ _ _ gN h2,ep _ _ _ fg h3,h4⟩)
     ·rename_i t' j o len e;have hb:t'≠d:=zBN
      obtain⟨h1,⟨q,rows,e1⟩,l,h,h2,h3,h4⟩:=mv;obtain⟨nv,e3⟩:=lU _ _ _ _ _ hb e1;first|exact⟨h1,⟨q,nv,e3⟩,l,h,ep _ _ _ gN h2,ep _ _ _ fg h3,h4⟩|(simp only[e];exact⟨h1,⟨q,nv,e3⟩,l,h,ep _ _ _ gN h2,ep _ _ _ fg h3,h4⟩)
     ·exact mv.elim
   |_=>exact Bool.noConfusion fP
 ·cases hx:v.ref d with
  |false=>rfl
  |true=>
   obtain⟨z,hz,T,h1⟩:=Mv hv hx;rw[hl z T (gy z hz)]at h1;rcases h1 with h1|⟨t,cells,h1,h2,h3⟩
   ·rw[hr z T (gy z hz)]at h1;cases h1
   ·by_cases bt:t=d
    ·rw[bt,hr z T (gy z hz)]at h1;cases h1
    ·have:=(iW t 0 cells bt h2).2;rw[this]at h3;cases h3
theorem rz{x:Oper}(h:BT PT ops bar x y=true)(hp:Pk PT σ)(lp:x.dst=some d)(mK:Xt σ d=true)(mj:zE P ops bar x σ σ1)(nt:zE P ops bar y σ1 σ2):∃σ1',zE P ops bar y σ σ1'/\zE P ops bar x σ1' σ2:=by
 unfold BT at h;simp only[Bool.and_eq_true,Bool.not_eq_true',Option.isNone_iff_eq_none]at h;obtain⟨⟨⟨⟨⟨⟨lC,mQ⟩,eJ⟩,fe⟩,hO⟩,fP⟩,h⟩:=h;rw[lp]at h;cases iT:y.dst with
 |none=>rw[iT]at h;cases h
 |some dy=>
  rw[iT]at h;simp only[Bool.and_eq_true,Bool.not_eq_true',bne_iff_ne,ne_eq]at h;obtain⟨⟨nf,gO⟩,eW⟩:=h;have hxy':=VJ gO
  have hyx':=VJ eW;have nt:=nt.resolve_right (fun hh=>by rw[mQ]at hh;cases hh.1);rcases mj with mj|⟨_,hss,hck,_,cm,_⟩
  ·have mu:VW y=false:=by unfold VW;cases na:y.op<;>rw[na]at fP<;>first|rfl|(exact Bool.noConfusion fP)
   obtain⟨σ1',hy,hx⟩:=swap lp iT nf hxy' hyx' mu (.inl hO) mK mj nt;exact⟨σ1',.inl hy,.inl hx⟩
  ·obtain⟨d',nu,hlen,lB,iW,lU,mw⟩:=cm eJ;rw[lp]at nu;cases nu;have e2:∃v,Yh P σ1 y.op y.type v/\σ2=σ1.put dy v:=by unfold Xm at nt;simp only[hO,iT]at nt;unfold Step at nt;cases na:y.op<;>rw[na]at nt fP<;>first|exact nt|(exact Bool.noConfusion fP)
   obtain⟨v,hv,rfl⟩:=e2;obtain⟨dt,eM⟩:=oP lB iW lU hp fP (fun z hz=>hxy' z (by simp only[yi,List.mem_append];exact .inl hz)) hv;have hun:P2 x dy=true:=by
    simp only[P2,Bool.not_eq_true'];refine List.any_eq_false.2 (fun z hz=>?_);have:=hyx' z (by simp only[yi,List.mem_append];exact .inl hz)
    cases z<;>simp[xA]at this⊢;exact this
   have mH:∀p∈[(dy,v)],p.1≠d/\P2 x p.1=true/\p.2.ref d=false:=fun p hp=>by cases List.mem_singleton.1 hp;exact⟨fun e=>nf e.symm,hun,eM⟩
   have h0:=mw [(dy,v)] mH;refine⟨σ.put dy v,.inl ?_,.inr ⟨lC,h0.1,h0.2,fun hh=>(by rw[DL hh]at eJ;cases eJ),fun _=>⟨d,lp,by rw[St.JG,St.JG];exact hlen,fun t ht=>?_,fun t j cells ht hb=>?_,fun t j q s rows ht hb=>?_,fun l hl=>?_⟩,fun hh _=>(by rw[vt eJ]at hh;cases hh)⟩⟩
   ·unfold Xm;simp only[hO,iT];unfold Step;cases na:y.op<;>rw[na]at dt fP<;>first|exact⟨v,dt,rfl⟩|(exact Bool.noConfusion fP)
   ·have h1:=lB t ht;rw[St.zb,St.zb,hlen];by_cases hc:t=dy/\dy<σ.length
    ·simp only[if_pos hc];exact⟨trivial,eM⟩
    ·simp only[if_neg hc];exact h1
   ·rw[St.JJ]at hb⊢;exact iW t j cells ht hb
   ·rw[St.JJ]at hb⊢;exact lU t j q s rows ht hb
   ·exact mw ((dy,v)::l) (fun p hp=>by
     rcases List.mem_cons.1 hp with rfl|hp
     ·exact mH _ zAG
     ·exact hl p hp)
theorem vK(hn:σ.ob t j≠ .none):σ.Z1 t j (σ.ob t j)=σ:=by
 apply List.ext_getElem?;intro u;rw[JA];by_cases hu:u=t
 ·subst hu;obtain⟨e,he,ho⟩:=RL (σ:=σ) (t:=u) (j:=j) rfl hn;rw[if_pos rfl,he,Option.map_some];have:e.2.set j (σ.ob u j)=e.2:=by
   rw[<-ho];apply List.ext_getElem?;intro k;rw[List.getElem?_set];by_cases hk:j=k
   ·subst hk;rw[if_pos rfl];split
    ·rename_i nn;unfold Yp;rw[List.getElem?_eq_getElem nn]
    ·rename_i nn;exact(List.getElem?_eq_none zAD).symm
   ·rw[if_neg hk]
  rw[this]
 ·rw[if_neg hu]
theorem Cp(σ:St)(t j:Nat)(o o':Ob):(σ.Z1 t j o).Z1 t j o'=σ.Z1 t j o':=by
 apply List.ext_getElem?;intro u;rw[JA,JA,JA];by_cases hu:u=t
 ·simp only[if_pos hu];cases σ[u]?<;>simp
 ·simp only[if_neg hu]
section
variable{cells:List At}{os:Option (List Ob)}
theorem PO:(ya t d cs v os σ).length=σ.length:=by cases os<;>simp[ya,St.JG,St.ki,St.Xf]
theorem DR(h:u≠d):(ya t d cs v os σ).get u=σ.get u:=by cases os<;>simp[ya,St.zb,St.VA,St.QL,h]
theorem rj(hb:σ.ob t 0= .box cells)(hu:os≠none->u≠d):(ya t d cs v os σ).ob u j=if u=t/\j=0 then .box cs else σ.ob u j:=by
 have hn:σ.ob t 0≠ .none:=by rw[hb];simp
 cases os with
 |none=>simp only[ya,St.JJ];exact St.Xz σ t 0 _ u j hn
 |some l=>have:=hu zAG;simp only[ya,St.Ji,this,false_and,if_false];exact St.Xz σ t 0 _ u j hn
theorem ML:(ya t d cs v os σ)[u]?=if u=d then(σ[u]?).map (fun e=>(v,match os with|some l=>l|none=>if u=t then e.2.set 0 (.box cs)else e.2))else if u=t then(σ[u]?).map (fun e=>(e.1,e.2.set 0 (.box cs)))else σ[u]?:=by cases os<;>simp only[ya,kG,yn,JA]<;>by_cases h1:u=d<;>by_cases h2:u=t<;>simp[h1,h2]<;>(try subst h1)<;>(try subst h2)<;>(try simp_all)<;>(first|(cases σ[u]?<;>rfl)|(cases σ[t]?<;>rfl)|(cases σ[d]?<;>rfl))
theorem Hn(mu:∀a j w l,e≠ .drop a j w l)(h1:dx≠d)(h2:(∀w,e≠ .put w)->t≠dx):e.ap dx (ya t d cs v os σ)=ya t d cs v os (e.ap dx σ):=by
 apply List.ext_getElem?;intro u;rw[ML];cases e with
 |put w=>
  simp only[Eff.ap,kG,ML];by_cases e1:u=dx
  ·subst e1;simp only[if_true,if_neg h1];by_cases e2:u=t<;>simp[e2]<;>(first|(cases σ[u]?<;>rfl)|(cases σ[t]?<;>rfl)|rfl)
  ·simp only[if_neg e1]
 |new w l=>
  have h3:=h2 (by intro w h;cases h);simp only[Eff.ap,yn,ML];by_cases e1:u=dx
  ·subst e1;simp only[if_true,if_neg h1,if_neg (Ne.symm h3)]
  ·simp only[if_neg e1]
 |drop a j w l=>exact absurd rfl (mu a j w l)
theorem vI(h:σ.fresh u=true)(iH:Yf u cs=false)(hv:v.ref u=false/\∀l,os=some l->XE u l=false):(ya t d cs v os σ).fresh u=true:=by
 have hf:=Qu.1 h;refine Qu.2 ⟨by rw[PO];exact hf.1,fun k e he hk=>?_⟩;rw[ML]at he;have hset:∀aO,XE u aO=false->XE u (aO.set 0 (.box cs))=false:=by
  intro aO h0;cases aO with
  |nil=>exact h0
  |cons o aO=>simp only[List.set_cons_zero];cases o<;>simp_all[XE]
 by_cases h1:k=d
 ·rw[if_pos h1]at he;simp only[Option.map_eq_some_iff]at he;obtain⟨e0,gz,rfl⟩:=he;refine⟨hv.1,?_⟩;cases os with
  |some l=>exact hv.2 l rfl
  |none=>
   have:=(hf.2 k e0 gz hk).2;simp only;split
   ·exact hset _ this
   ·exact this
 ·rw[if_neg h1]at he;split at he
  ·simp only[Option.map_eq_some_iff]at he;obtain⟨e0,gz,rfl⟩:=he;exact⟨(hf.2 k e0 gz hk).1,hset _ (hf.2 k e0 gz hk).2⟩
  ·exact hf.2 k e he hk
theorem BD(hb:σ.ob t 0= .box cells)(h:(ya t d cs v os σ).fresh u=true)(mK:Xt σ d=true)(hce:Yf u cells=false):σ.fresh u=true:=by
 have hf:=Qu.1 h;refine Qu.2 ⟨by rw[<-PO (σ:=σ)];exact hf.1,fun k e he hk=>?_⟩;by_cases h1:k=d
 ·rw[h1]at he;exact MC mK he u
 ·by_cases h2:k=t
  ·have:=hf.2 k (e.1,e.2.set 0 (.box cs)) (by rw[ML,if_neg h1,if_pos h2,he];rfl) hk;refine⟨this.1,?_⟩;have h3:=this.2;rw[h2]at he;rw[I9 he]at hb;cases hos:e.2 with
   |nil=>rfl
   |cons o aO=>
    rw[hos]at hb h3;have hb:o= .box cells:=hb
    subst hb;simp only[List.set_cons_zero,XE,Bool.or_eq_false_iff]at h3⊢;exact⟨hce,h3.2⟩
  ·exact hf.2 k e (by rw[ML,if_neg h1,if_neg h2];exact he) hk
theorem BC{x:Oper}(hg:x.guard=none)(lp:x.dst=some dx)(nf:dx≠d)(cU:∀z∈yi ops x,z≠ .tmp d)(hb:σ.ob t 0= .box cells)(mf:os≠none->(σ.Z1 t 0 (.box cs)).fresh d=true)
  (iu:Pk PT σ) (iW:∀b,DZ PT y=some b->b=t) (mg:MB PT y x=true) (hA:A=σ\/A=ya t d cs v os σ) (hs:Xm P ops x A σ2):
  ∃e:Eff,σ2=e.ap dx A/\(∀a j w l,e≠ .drop a j w l)/\e.ok dx A/\∀B,(B=σ\/B=ya t d cs v os σ)->e.ok dx B->Xm P ops x B (e.ap dx B)/\∀u,u≠dx->e.ref u=true->O6 P (yi ops x) B u:=by
 have na:yi ops x=x.op.operands.toList:=by simp[yi,hg]
 simp only[MB,Bool.or_eq_true,Bool.and_eq_true,Bool.not_eq_true']at mg;have hlenA:A.length=σ.length:=by rcases hA with rfl|rfl<;>simp[PO]
 rcases mg with⟨hc,mu⟩|hf
 ·obtain⟨e,rfl,mH,hdr,_,dL,hfrm⟩:=ko lp hs;refine⟨e,rfl,(fun a j w l h=>by have:=(hdr a j w l h).1;rw[mu]at this;cases this),mH,fun B hB hokB=>?_⟩;have hlenB:B.length=σ.length:=by rcases hB with rfl|rfl<;>simp[PO]
  have hk:∀z∈yi ops x,∃c,z= .const c:=by
   intro z hz;rw[na]at hz;have:=List.all_eq_true.1 hc z hz
   cases z<;>first|exact⟨_,rfl⟩|cases this
  have mL:Sub P (yi ops x) A B:=⟨by rw[hlenA,hlenB],fun z hz ty=>by obtain⟨c,rfl⟩:=hk z hz;rfl,fun z hz ty u hr=>by obtain⟨c,rfl⟩:=hk z hz;have h0:=T1 (P:=P) ty c u;simp only[look]at hr;rw[h0]at hr;cases hr⟩;have g5:∀u,¬O6 P (yi ops x) A u:=by rintro u ⟨z,hz,ty,h|⟨_,_,h,_,_⟩⟩<;>(obtain⟨c,rfl⟩:=hk z hz;have h0:=T1 (P:=P) ty c;simp only[look]at h;rw[h0]at h;cases h)
  exact⟨hfrm B mL hokB,fun u hu hr=>absurd (dL hg u hu hr) (g5 u)⟩
 ·split at hf
  ·rename_i b hcb;have hbt:=iW b hcb
   subst hbt;have hsA:Step P x dx A σ2:=by unfold Xm at hs;simp only[hg,lp]at hs;exact hs
   obtain⟨w,hw,rfl⟩:=(PM rfl hf).1 hsA;refine⟨.put w,rfl,(fun a j w' l h=>by cases h),trivial,fun B hB _=>?_⟩;have bq:∀z∈x.op.operands.toList,∀ty,look P (ya b d cs v os σ) ty z=look P (σ.Z1 b 0 (.box cs)) ty z:=fun z hz ty=>by rw[z8];exact look_eq (fun u hu=>DR hu) (cU z (by rw[na];exact hz)) ty
   have g5:os≠none->∀z∈x.op.operands.toList,∀ty,(look P (σ.Z1 b 0 (.box cs)) ty z).ref d=false:=fun hn z hz ty=>
    zo (fun t' e he ht'=>((Qu.1 (mf hn)).2 t' e he ht').1) (cU z (by rw[na];exact hz)) ty
   have hobe:∀u,(os≠none->u≠d)->∀j,(ya b d cs v os σ).ob u j=(σ.Z1 b 0 (.box cs)).ob u j:=fun u hu j=>by rw[rj hb hu,St.Xz _ _ _ _ _ _ (by rw[hb];simp)]
   have fw:Yh P (σ.Z1 b 0 (.box cs)) x.op x.type w->Yh P (ya b d cs v os σ) x.op x.type w:=fun hv=>WU hv
    ⟨by rw[PO,St.Xf],fun z hz ty=>(bq z hz ty).symm,fun z hz ty u hr j _=>hobe u (fun hn e=>by subst e;rw[g5 hn z hz ty]at hr;cases hr) j⟩
   have bw:Yh P (ya b d cs v os σ) x.op x.type w->Yh P (σ.Z1 b 0 (.box cs)) x.op x.type w:=fun hv=>WU hv
    ⟨by rw[PO,St.Xf],fun z hz ty=>bq z hz ty,fun z hz ty u hr j _=>(hobe u (fun hn e=>by subst e;rw[bq z hz ty,g5 hn z hz ty]at hr;cases hr) j).symm⟩
   have hpt2:Pk PT (σ.Z1 b 0 (.box cs)):=fun p hp=>by rw[St.QL];exact iu p hp
   have mQ:(σ.Z1 b 0 (.box cs)).ob b 0= .box cs:=by rw[St.Xz _ _ _ _ _ _ (by rw[hb];simp),if_pos ⟨rfl,rfl⟩]
   have gl:(σ.Z1 b 0 (.box cs)).Z1 b 0 (.box cells)=σ:=by rw[Cp,<-hb];exact vK (by rw[hb];simp)
   have hσ:Yh P σ x.op x.type w:=by
    rcases hA with rfl|rfl
    ·exact hw
    ·have:=AO (cs:=cells) hf hpt2 mQ (bw hw);rw[gl]at this;exact this
   have hB':Yh P B x.op x.type w:=by
    rcases hB with rfl|rfl
    ·exact hσ
    ·exact fw (AO hf iu hb hσ)
   refine⟨?_,fun u hu hr=>?_⟩
   ·unfold Xm;simp only[hg,lp];exact(PM rfl hf).2 ⟨w,hB',rfl⟩
   ·rw[na];exact Mv hB' hr
  ·cases hf
end
theorem Nr(h:KK P o=true):V4 o=false/\kP o=false:=by
 unfold KK at h;split at h
 ·rename_i na;simp[V4,kP,na]
 ·cases h
theorem wH(iu:Pk PT σ)(h:∃z r,(∃f ts,y.op= .call ⟨.value (.func f),⟨z::r⟩,ts⟩)/\∃ty,unc (look P σ ty z)= .one (.bptr t 0)):∀b,DZ PT y=some b->b=t:=by
 obtain⟨z,r,⟨f,ts,na⟩,ty,hz⟩:=h;intro b hb;unfold DZ at hb;rw[na]at hb;cases z with
 |tmp k=>
  simp only[Option.map_eq_some_iff]at hb;obtain⟨p,hp,rfl⟩:=hb;have hk:p.1=k:=by simpa using List.find?_some hp
  have hm:=List.mem_of_find?_eq_some hp;rw[qG]at hz;rcases iu p hm with e|⟨c,e⟩<;>rw[hk]at e<;>rw[e]at hz<;>simp[unc]at hz;exact hz.1
 |_=>cases hb
theorem Am(h:KK P o=true):VW o=false:=by
 unfold KK at h;split at h
 ·rename_i na;simp[VW,na]
 ·cases h
theorem LN{x:Oper}(h:MB PT y x=true):VW x=false:=by
 simp only[MB,Bool.or_eq_true,Bool.and_eq_true,Bool.not_eq_true']at h;rcases h with⟨_,h⟩|h
 ·exact h
 ·split at h
  ·rename_i b _;have key:∀op,R9 PT b op=true->(match op with|.call ⟨.builtin .append,⟨.const _::_⟩,_⟩=>false|.call ⟨.builtin .append,_,_⟩=>true|_=>false)=false:=by intro op h;unfold R9 at h;split at h<;>first|rfl|(exact Bool.noConfusion h)
   exact key _ h
  ·cases h
theorem rQ{x:Oper}(h:Bl P PT ops bar x y=true)(hp:Pk PT σ)(hp1:Pk PT σ1)(lp:x.dst=some d)(mK:Xt σ d=true)(mj:zE P ops bar x σ σ1)(nt:zE P ops bar y σ1 σ2):∃σ1',zE P ops bar y σ σ1'/\zE P ops bar x σ1' σ2:=by
 unfold Bl at h;simp only[lp,Bool.and_eq_true,Option.isNone_iff_eq_none]at h;obtain⟨⟨⟨⟨fe,hO⟩,ho1⟩,iS⟩,h⟩:=h;cases iT:y.dst with
 |none=>rw[iT]at h;cases h
 |some dy=>
  rw[iT]at h;simp only[Bool.and_eq_true,Bool.or_eq_true,Bool.not_eq_true',bne_iff_ne,ne_eq]at h;obtain⟨⟨⟨nf,gO⟩,eW⟩,h⟩:=h;have gO:=VJ gO
  have eW:=VJ eW;have eZ:yi ops y=y.op.operands.toList:=by simp[yi,hO]
  have ec:yi ops x=x.op.operands.toList:=by simp[yi,fe]
  have hclo:∀j,σ.ob d j= .none:=fun j=>by rw[qX]at mK;unfold St.ob;rcases mK with e|⟨_,e⟩<;>rw[e]<;>simp[Yp]
  rcases h with⟨⟨⟨lC,mQ⟩,gk⟩,mg⟩|⟨⟨⟨lC,gk⟩,mQ⟩,mg⟩
  ·have mj:=mj.resolve_right (fun hh=>by rw[lC]at hh;cases hh.1);rcases nt with nt|⟨_,_,_,_,_,hbc⟩
   ·obtain⟨σ1',hy,hx⟩:=swap lp iT nf gO eW (Am gk) (.inl hO) mK mj nt;exact⟨σ1',.inl hy,.inl hx⟩
   ·obtain⟨d',t,cells,cs,v,os,nu,hb,hz,hH,eM,mf,rfl,mw⟩:=hbc gk iS;rw[iT]at nu;cases nu;obtain⟨ex,rfl,fQ,ft,_⟩:=ko lp mj;have hnd0:∀a j w l,ex≠ .drop a j w l:=fun a j w l hh=>by have:=(ft a j w l hh).1;rw[LN mg]at this;cases this
    have fO:∀z∈yi ops y,∀ty,look P (ex.ap d σ) ty z=look P σ ty z:=fun z hz ty=>look_eq (fun u hu=>Mg ex hu) (gO z hz) ty;have cr:∀z∈yi ops y,∀ty u,(look P (ex.ap d σ) ty z).ref u=true->(∀w,ex≠ .put w)->u≠d:=fun z hz ty u hr iB e=>by rw[e,fO z hz,zo (jh fQ iB) (gO z hz)]at hr;cases hr
    have fM:=hz;obtain⟨z,r,⟨f,ts,na⟩,ty,aP⟩:=hz;have aR:z∈yi ops y:=by rw[eZ,na];exact zx (c:=⟨.value (.func f),⟨z::r⟩,ts⟩) zAG
    have htd':(∀w,ex≠ .put w)->t≠d:=cr z aR ty t (QZ aP zAy);have hbσ:σ.ob t 0= .box cells:=by rw[we fQ htd' (by rw[hb];simp),hb]
    have bt:t≠d:=fun e=>by rw[e,hclo]at hbσ;cases hbσ
    have bu:os≠none->(σ.Z1 t 0 (.box cs)).fresh dy=true:=fun hn=>by
     have hf:=Qu.1 (mf hn);refine Qu.2 ⟨by have:=hf.1;rw[St.Xf]at this⊢;rwa[yE]at this,fun k e he hk=>?_⟩;by_cases hkd:k=d
     ·rw[hkd,JA,if_neg bt.symm]at he;rw[hkd]at*;exact MC mK he dy
     ·refine hf.2 k e ?_ hk;rw[JA]at he⊢;have:(ex.ap d σ)[k]?=σ[k]?:=by
       cases ex with
       |put w=>simp only[Eff.ap,kG,if_neg hkd]
       |new w l=>simp only[Eff.ap,yn,if_neg hkd]
       |drop a j w l=>exact absurd rfl (hnd0 a j w l)
      rw[this];exact he
    obtain⟨e,heq,mu,mH,hB⟩:=BC (v:=v) fe lp nf eW hbσ bu hp (wH hp1 fM) mg (.inl rfl) mj;rw[heq]at hb fM mf mw fO cr⊢;have lH:∀z∈yi ops y,∀ty u,(look P (e.ap d σ) ty z).ref u=true->∀j,(e.ap d σ).ob u j≠ .none->σ.ob u j=(e.ap d σ).ob u j:=fun z hz ty u hr j hn=>
     we mH (fun iB hu=>by rw[hu,fO z hz,zo (jh mH iB) (gO z hz)]at hr;cases hr) hn
    have h0:=mw σ (yE e) (fun z hz ty=>fO z zB2 ty) (fun z hz ty u hr j hn=>lH z zB2 ty u hr j hn) bu;refine⟨ya t dy cs v os σ,.inr ⟨mQ,h0.1,h0.2,fun hh=>(by rw[(Nr gk).1]at hh;cases hh),fun hh=>(by rw[(Nr gk).2]at hh;cases hh),fun _ _=>?_⟩,.inl ?_⟩
    ·refine⟨dy,t,cells,cs,v,os,iT,hbσ,⟨z,r,⟨f,ts,na⟩,ty,by rw[<-fO z aR,<-heq];exact aP⟩,hH,eM,bu,rfl,fun σ3 ax bj bk hf3=>?_⟩;refine mw σ3 (by rw[yE];exact ax) (fun z hz ty=>by rw[fO z zB2,bj z hz]) (fun z hz ty u hr j hn=>?_) hf3;have h1:=lH z zB2 ty u hr j hn
     rw[<-h1];exact bk z hz ty u (by rw[<-fO z zB2];exact hr) j (by rw[h1];exact hn)
    ·rw[<-Hn mu nf (fun _=>bt)];refine(hB _ (.inr rfl) ?_).1;cases e with
     |put w=>trivial
     |new w l=>exact vI mH (hH d).2 (eM d (.inr nf))
     |drop a j w l=>exact absurd rfl (mu a j w l)
  ·have nt:=nt.resolve_right (fun hh=>by rw[mQ]at hh;cases hh.1);rcases mj with mj|⟨_,_,_,_,_,hbc⟩
   ·obtain⟨σ1',hy,hx⟩:=swap lp iT nf gO eW (LN mg) (.inl hO) mK mj nt;exact⟨σ1',.inl hy,.inl hx⟩
   ·obtain⟨d',t,cells,cs,v,os,nu,hb,hz,hH,eM,mf,rfl,mw⟩:=hbc gk ho1;rw[lp]at nu;cases nu;have fM:=hz
    obtain⟨z,r,⟨f,ts,na⟩,ty,aP⟩:=hz;have aR:z∈yi ops x:=by rw[ec,na];exact zx (c:=⟨.value (.func f),⟨z::r⟩,ts⟩) zAG
    obtain⟨e,rfl,mu,mH,hB⟩:=BC hO iT (Ne.symm nf) gO hb mf hp (wH hp fM) mg (.inr rfl) nt;have hokσ:e.ok dy σ:=by
     cases e with
     |put w=>trivial
     |new w l=>exact BD hb mH mK (hH dy).1
     |drop a j w l=>exact absurd rfl (mu a j w l)
    have fO:∀z∈yi ops x,∀ty,look P (e.ap dy σ) ty z=look P σ ty z:=fun z hz ty=>look_eq (fun u hu=>Mg e hu) (eW z hz) ty;have cr:∀z∈yi ops x,∀ty u,(look P σ ty z).ref u=true->(∀w,e≠ .put w)->u≠dy:=fun z hz ty u hr iB he=>by rw[he,zo (jh hokσ iB) (eW z hz)]at hr;cases hr
    have iV:(∀w,e≠ .put w)->t≠dy:=cr z aR ty t (QZ aP zAy);have n9:∀z∈yi ops x,∀ty u,(look P σ ty z).ref u=true->∀j,(e.ap dy σ).ob u j=σ.ob u j:=fun z hz ty u hr j=>O5 mu (cr z hz ty u hr);have fF:=hB σ (.inl rfl) hokσ;have hfr':os≠none->((e.ap dy σ).Z1 t 0 (.box cs)).fresh d=true:=fun hn=>by
     have hf:=Qu.1 (mf hn);have her:e.ref d=false:=by
      cases hr:e.ref d with
      |false=>rfl
      |true=>
       obtain⟨z',ic,ty',h1|⟨t',nq,h1,h2,h3⟩⟩:=fF.2 d nf hr
       ·rw[<-z8 (t:=t) (j:=0) (o:=.box cs),zo (fun k e0 he hk=>(hf.2 k e0 he hk).1) (gO z' ic)]at h1;cases h1
       ·by_cases htt:t'=t
        ·subst htt;rw[hb]at h2;cases h2;rw[(hH d).1]at h3;cases h3
        ·have bt:t'≠d:=fun e0=>by rw[e0,hclo]at h2;cases h2
         obtain⟨en,hen,hoe⟩:=RL h2 zAG;have:=(hf.2 t' en (by rw[JA,if_neg htt];exact hen) bt).2
         rw[Oi hoe h3]at this;cases this
     refine Qu.2 ⟨by have:=hf.1;rw[St.Xf]at this⊢;rwa[yE],fun k en he hk=>?_⟩;cases e with
     |put w=>
      simp only[Eff.ap,xJ,kG]at he;split at he
      ·simp only[Option.map_eq_some_iff]at he;obtain⟨e0,gz,rfl⟩:=he;exact⟨her,(hf.2 k e0 gz hk).2⟩
      ·exact hf.2 k en he hk
     |new w l=>
      have ht:=iV (by intro w h;cases h);simp only[Eff.ap,JA,yn]at he;by_cases hkt:k=t
      ·subst hkt;simp only[if_true,if_neg ht]at he;exact hf.2 k en (by rw[JA,if_pos rfl];exact he) hk
      ·simp only[if_neg hkt]at he;split at he
       ·simp only[Option.map_eq_some_iff]at he;obtain⟨e0,gz,rfl⟩:=he;simp only[Eff.ref,Bool.or_eq_false_iff]at her;exact her
       ·exact hf.2 k en (by rw[JA,if_neg hkt];exact he) hk
     |drop a j w l=>exact absurd rfl (mu a j w l)
    have h0:=mw (e.ap dy σ) (yE e).symm (fun z hz ty=>(fO z zB3 ty).symm) (fun z hz ty u hr j _=>n9 z zB3 ty u hr j) hfr';have hcomm:e.ap dy (ya t d cs v os σ)=ya t d cs v os (e.ap dy σ):=by
     cases e with
     |put w=>exact Hn mu (Ne.symm nf) (fun hh=>absurd rfl (hh w))
     |new w l=>exact Hn mu (Ne.symm nf) iV
     |drop a j w l=>exact absurd rfl (mu a j w l)
    refine⟨e.ap dy σ,.inl fF.1,.inr ?_⟩;rw[hcomm];refine⟨lC,h0.1,h0.2,fun hh=>(by rw[(Nr gk).1]at hh;cases hh),fun hh=>(by rw[(Nr gk).2]at hh;cases hh),fun _ _=>?_⟩;refine⟨d,t,cells,cs,v,os,lp,?_,⟨z,r,⟨f,ts,na⟩,ty,by rw[fO z aR];exact aP⟩,hH,eM,hfr',rfl,fun σ3 ax bj bk hf3=>?_⟩
    ·rw[n9 z aR ty t (QZ aP zAy) 0];exact hb
    ·refine mw σ3 (by rw[<-ax,yE]) (fun z hz ty=>by rw[<-bj z hz,fO z zB3]) (fun z hz ty u hr j hn=>?_) hf3;have h1:=n9 z zB3 ty u hr j
     rw[<-h1];exact bk z hz ty u (by rw[fO z zB3];exact hr) j (by rw[h1];exact hn)
theorem tK(h:ptB PT σ=true):Pk PT σ:=by
 intro p hp;have:=List.all_eq_true.1 h p hp
 split at this
 ·rename_i e;exact .inl e
 ·split at this
  ·rename_i b c e;have hb:b=p.2:=by simpa using this
   subst hb;exact .inr ⟨c,e⟩
  ·cases this
def B4(P:Program)(ops:Array Oper)(bar:Oper->Bool):List Nat->St->(St->Prop)->Prop
 |[],σ,Q=>Q σ
 |i::rem,σ,Q=>∃o σ',ops[i]?=some o/\zE P ops bar o σ σ'/\B4 P ops bar rem σ' Q
theorem HE(hs:Xm P ops o σ σ')(hd:o.dst≠some d)(h:Xt σ d=true):Xt σ' d=true:=by
 cases hdo:o.dst with
 |some d'=>
  have nf:d≠d':=fun e=>hd (by rw[hdo,e]);obtain⟨e,rfl,_⟩:=ko hdo hs;cases e with
  |put v=>unfold Xt at*;simp only[Eff.ap,kG,if_neg nf];exact h
  |new v os=>unfold Xt at*;simp only[Eff.ap,yn,if_neg nf];exact h
  |drop a j v os=>have:=Qh (a:=a) (j:=j) (o:=.none) h;unfold Xt at*;simp only[Eff.ap,yn,if_neg nf];exact this
 |none=>
  unfold Xm at hs;split at hs
  ·simp only[hdo]at hs;split at hs
   ·unfold qB at hs;obtain⟨_,_,_,_,hs⟩:=hs;split at hs
    ·obtain⟨_,_,_,_,rfl⟩:=hs;exact Qh h
    ·obtain⟨_,_,_,_,_,_,_,_,_,_,_,rfl⟩:=hs;exact Qh h
    ·exact hs.elim
   ·exact hs.elim
  ·obtain⟨_,_,_,_,_,_,nu,_⟩:=hs;rw[hdo]at nu;cases nu
theorem wg(cG:Ou ops PT=true)(hi:ops[i]?=some o)(hs:Xm P ops o σ σ')(h:Pk PT σ):Pk PT σ':=by
 have hc:=List.all_eq_true.1 cG o (by rw[Array.mem_toList_iff];exact Array.mem_of_getElem? hi);cases hdo:o.dst with
 |none=>
  have:∃t j ob,σ'=σ.Z1 t j ob:=by
   unfold Xm at hs;split at hs
   ·simp only[hdo]at hs;split at hs
    ·unfold qB at hs;obtain⟨_,_,_,_,hs⟩:=hs;split at hs
     ·obtain⟨_,_,_,_,rfl⟩:=hs;exact⟨_,_,_,rfl⟩
     ·obtain⟨_,_,_,_,_,_,_,_,_,_,_,rfl⟩:=hs;exact⟨_,_,_,rfl⟩
     ·exact hs.elim
    ·exact hs.elim
   ·obtain⟨_,_,_,_,_,_,nu,_⟩:=hs;rw[hdo]at nu;cases nu
  obtain⟨t,j,ob,rfl⟩:=this;intro p hp;rw[St.QL];exact h p hp
 |some d=>
  intro p hp;rw[hdo]at hc;have hc:=List.all_eq_true.1 hc p hp
  by_cases eS:p.1=d
  ·simp only[eS,bne_self_eq_false,Bool.false_or,Bool.and_eq_true,Option.isNone_iff_eq_none]at hc;obtain⟨hg,hc⟩:=hc;split at hc
   ·rename_i T r f na;have hr:=h (r,p.2) zBG
    unfold Xm at hs;simp only[hg,hdo]at hs;unfold Step at hs;rw[na]at hs;obtain⟨v,hv,rfl⟩:=hs;simp only[Yh]at hv;have hv:=hv.2.2
    rw[qG]at hv;rcases hr with e|⟨c,e⟩
    ·rw[e]at hv;exact hv.elim
    ·rw[e]at hv;rw[St.zb,eS];by_cases hl:d<σ.length
     ·rw[if_pos ⟨rfl,hl⟩];exact .inr ⟨_,by rw[hv.2];rfl⟩
     ·rw[if_neg (fun hh=>hl hh.2)];have:=h p hp;rw[eS]at this;exact this
   ·rename_i r na;have hr:=h (r,p.2) zBG
    unfold Xm at hs;simp only[hg,hdo]at hs;unfold Step at hs;rw[na]at hs;obtain⟨v,hv,rfl⟩:=hs;simp only[Yh]at hv;rw[qG]at hv;rw[St.zb,eS];by_cases hl:d<σ.length
    ·rw[if_pos ⟨rfl,hl⟩,hv];exact hr
    ·rw[if_neg (fun hh=>hl hh.2)];have:=h p hp;rw[eS]at this;exact this
   ·cases hc
  ·obtain⟨e,rfl,_⟩:=ko hdo hs;have hg:∀σ0:St,σ0.get p.1=σ.get p.1->(σ0.get p.1= .any\/∃c,unc (σ0.get p.1)= .one (.bptr p.2 c)):=fun σ0 e=>by rw[e];exact h p hp
   cases e with
   |put v=>exact hg _ (by simp only[Eff.ap];rw[St.zb,if_neg (fun hh=>eS hh.1)])
   |new v os=>exact hg _ (by simp only[Eff.ap];rw[St.VA,if_neg (fun hh=>eS hh.1)])
   |drop a j v os=>exact hg _ (by simp only[Eff.ap];rw[St.VA,if_neg (fun hh=>eS hh.1),St.QL])
theorem Iz:FG [] [] σ:=⟨fun _ hp=>absurd hp List.not_mem_nil,fun _ hp=>absurd hp List.not_mem_nil⟩
theorem uJ(h:GV NB σ)(hd:d∈NB->∀b c,unc v≠ .one (.bptr b c)):GV NB (σ.put d v):=by
 intro t ht b c;rw[St.zb];split
 ·rename_i hc;exact hd (hc.1▸ht) b c
 ·exact h t ht b c
theorem uE(h:GV NB σ)(hd:d∉NB):GV NB (σ.new d v os):=by
 intro t ht b c;have nf:¬(t=d/\d<σ.length):=fun hc=>hd (by rw[<-hc.1];exact ht)
 rw[St.VA,if_neg nf];exact h t ht b c
theorem sJ(iK:I6 P ops NB=true)(hi:ops[i]?=some o)(hs:Xm P ops o σ σ')(h:GV NB σ):GV NB σ':=by
 have hc:=List.all_eq_true.1 iK o (by rw[Array.mem_toList_iff];exact Array.mem_of_getElem? hi);cases hdo:o.dst with
 |none=>
  have:∃t j ob,σ'=σ.Z1 t j ob:=by
   unfold Xm at hs;split at hs
   ·simp only[hdo]at hs;split at hs
    ·unfold qB at hs;obtain⟨_,_,_,_,hs⟩:=hs;split at hs
     ·obtain⟨_,_,_,_,rfl⟩:=hs;exact⟨_,_,_,rfl⟩
     ·obtain⟨_,_,_,_,_,_,_,_,_,_,_,rfl⟩:=hs;exact⟨_,_,_,rfl⟩
     ·exact hs.elim
    ·exact hs.elim
   ·obtain⟨_,_,_,_,_,_,nu,_⟩:=hs;rw[hdo]at nu;cases nu
  obtain⟨t,j,ob,rfl⟩:=this;intro p hp;rw[St.QL];exact h p hp
 |some d=>
  rw[hdo]at hc;by_cases hd:d∈NB
  ·have hc:=List.all_eq_true.1 hc d hd;simp only[bne_self_eq_false,Bool.false_or,Bool.and_eq_true,Option.isNone_iff_eq_none]at hc;obtain⟨hg,hc⟩:=hc;split at hc
   ·rename_i T r ix na;unfold Xm at hs;simp only[hg,hdo]at hs;unfold Step at hs;rw[na]at hs;obtain⟨v,hv,rfl⟩:=hs;refine uJ h (fun _ b c=>?_);simp only[Yh]at hv;obtain⟨_,_,_,_,_,hv⟩:=hv;split at hv
    ·obtain⟨_,_,_,_,rfl⟩:=hv;intro e;cases e
    ·obtain⟨_,_,_,_,rfl⟩:=hv;intro e;cases e
    ·obtain⟨_,⟨n,ha,_⟩,_⟩:=hv;unfold Xl at hc;unfold Dx at ha;split at hc
     ·rename_i e he;rw[he]at ha;cases ha
     ·cases hc
    ·obtain⟨_,_,_,rfl⟩:=hv;intro e;cases e
    ·exact hv.elim
   ·cases hc
  ·obtain⟨e,rfl,_⟩:=ko hdo hs;cases e with
   |put v=>exact uJ h (fun hh=>absurd hh hd)
   |new v os=>exact uE h hd
   |drop a j v os=>refine uE (σ:=σ.Z1 a j .none) (fun t ht b c=>?_) hd;rw[St.QL];exact h t ht b c
theorem r7(h:nbB NB σ=true):GV NB σ:=by
 intro t ht b c e;have:=List.all_eq_true.1 h t ht
 rw[e]at this;cases this
def CE(ops:Array Oper)(pos:Nat->Nat)(rem:List Nat)(σ:St):Prop:=
 ∀j∈rem,Re ops pos j=true->wY ops j=true/\∃o d,ops[j]?=some o/\o.dst=some d/\Xt σ d=true
theorem sH{k:Nat}{oj ok:Oper}(h:wY ops j=true)(hj:ops[j]?=some oj)(hd:oj.dst=some d)(hk:ops[k]?=some ok)(nf:k≠j):ok.dst≠some d:=by
 unfold wY at h;simp only[hj,hd]at h;have nn:k<ops.size:=(Array.getElem?_eq_some_iff.1 hk).1
 have:=List.all_eq_true.1 h k (List.mem_range.2 nn);simp only[hk,Bool.or_eq_true,beq_iff_eq,bne_iff_ne,ne_eq]at this;exact this.resolve_left nf
theorem Ca(hs:zE P ops bar o σ σ')(hd:o.dst≠some d)(h:Xt σ d=true):Xt σ' d=true:=by
 rcases hs with hs|hs
 ·exact HE hs hd h
 ·exact hs.2.2.1 d hd h
theorem Lk{rem bh:List Nat}(hi:ops[i]?=some o)(hs:zE P ops bar o σ σ')(hni:i∉bh)(mL:∀j∈bh,j∈rem)(h:CE ops pos rem σ):CE ops pos bh σ':=by intro j hj hl;obtain⟨cp,oj,d,h1,h2,h3⟩:=h j (mL j hj) hl;exact⟨cp,oj,d,h1,h2,Ca hs (sH cp h1 h2 hi (fun e=>hni (e▸hj))) h3⟩
theorem pull{pos:Nat->Nat}{bar:Oper->Bool}{PT:List (Nat×Nat)}{NB:List Nat}(ia:∀(i:Nat)(o:Oper)(σ σ':St),ops[i]?=some o->zE P ops bar o σ σ'->FG PT NB σ->FG PT NB σ'){i:Nat}{post:List Nat}{Q:St->Prop}{oi:Oper}(hi:ops[i]?=some oi):∀{pre:List Nat}{σ:St},(pre++i::post).Nodup->(∀j∈pre,Re ops pos j=true/\∃oj,ops[j]?=some oj/\(Bs ops bar oj oi=true\/CZ bar oj oi=true\/swapT PT bar oj oi=true\/Cv bar oj oi=true\/BT PT ops bar oj oi=true\/Ci PT NB bar oj oi=true\/Bl P PT ops bar oj oi=true))->CE ops pos (pre++i::post) σ->FG PT NB σ->
  B4 P ops bar (pre++i::post) σ Q->∃σ',zE P ops bar oi σ σ'/\B4 P ops bar (pre++post) σ' Q
 |[],σ,_,_,_,_,h=>by obtain⟨o,σ',ho,hs,hr⟩:=h;rw[hi]at ho;cases ho;exact⟨σ',hs,hr⟩
 |j::pre,σ,mu,hsw,mK,iu,h=>by
  obtain⟨oj,σ1,hj,mj,hr⟩:=h;have hnd':=List.nodup_cons.1 mu
  obtain⟨σ2,nt,ed⟩:=pull ia hi (pre:=pre) hnd'.2 (fun k hk=>hsw k (by simp[hk])) (Lk (rem:=(j::pre)++i::post) hj mj hnd'.1 (fun k hk=>by simp only[List.cons_append,List.mem_cons];exact .inr hk) mK) (ia j oj σ σ1 hj mj iu) hr;obtain⟨hl,oj',gA,ff⟩:=hsw j zAG;rw[hj]at gA;cases gA;rcases ff with ff|ff|ff|ff|ff|ff|ff
  rotate_left
  ·obtain⟨σ1',hy,hx⟩:=sF ff mj nt;exact⟨σ1',.inl hy,oj,σ2,hj,.inl hx,ed⟩
  ·obtain⟨σ1',hy,hx⟩:=rZ ff iu.1 mj nt;exact⟨σ1',.inl hy,oj,σ2,hj,.inl hx,ed⟩
  ·obtain⟨_,o',d',mG,nu,mZ⟩:=mK j zAG hl;rw[hj]at mG;cases mG;obtain⟨σ1',hy,hx⟩:=pC ff nu mZ mj nt;exact⟨σ1',hy,oj,σ2,hj,.inl hx,ed⟩
  ·obtain⟨_,o',d',mG,nu,mZ⟩:=mK j zAG hl;rw[hj]at mG;cases mG;obtain⟨σ1',hy,hx⟩:=rz ff iu.1 nu mZ mj nt;exact⟨σ1',hy,oj,σ2,hj,hx,ed⟩
  ·obtain⟨_,o',d',mG,nu,mZ⟩:=mK j zAG hl;rw[hj]at mG;cases mG;obtain⟨σ1',hy,hx⟩:=rh ff iu.1 iu.2 nu mZ mj nt;exact⟨σ1',hy,oj,σ2,hj,.inl hx,ed⟩
  ·obtain⟨_,o',d',mG,nu,mZ⟩:=mK j zAG hl;rw[hj]at mG;cases mG;obtain⟨σ1',hy,hx⟩:=rQ ff iu.1 (ia j oj σ σ1 hj mj iu).1 nu mZ mj nt;exact⟨σ1',hy,oj,σ2,hj,hx,ed⟩
  obtain⟨lC,mQ,dx,dy,h1,h2,h3,h4,h5,h6,h7⟩:=AM ff;have mj:=mj.resolve_right (fun hh=>by rw[lC]at hh;cases hh.1)
  have nt:=nt.resolve_right (fun hh=>by rw[mQ]at hh;cases hh.1);obtain⟨_,o',d',mG,nu,mZ⟩:=mK j zAG hl;rw[hj]at mG;cases mG;rw[h1]at nu;cases nu;obtain⟨σ1',hy,hx⟩:=swap h1 h2 h3 h4 h5 h6 h7 mZ mj nt;exact⟨σ1',.inl hy,oj,σ2,hj,.inl hx,ed⟩
open Go.RowKit
variable{mX:Array Bool}{Qa:St->Prop}{T0:CS}
theorem NG(h1:mX.getD j true=false)(h2:mX.getD j false=true):False:=by
 rw[Array.getD_eq_getD_getElem?]at h1 h2;cases h:mX[j]? with
 |none=>rw[h]at h1;simp at h1
 |some b=>rw[h]at h1 h2;simp at h1 h2;rw[h1]at h2;cases h2
theorem E6(ia:∀(i:Nat)(o:Oper)(σ σ':St),ops[i]?=some o->zE P ops bar o σ σ'->FG PT NB σ->FG PT NB σ')(hdr:BR P ops pos bar PT NB (Pr ops.toList [])=true){Q:Exit->Act->World->Prop}(hK:∀σ a w,Qa σ->Jq T0 B σ a w->XI B w0 w->Q .normal a w):
  ∀(fuel:Nat)(rem:List Nat)(mX:Array Bool)(σ:St)(a:Act)(w:World),rem.length=fuel->mX.size=ops.size->rem.Pairwise (fun i j=>pos i<pos j)->(∀i,i∈rem↔mX.getD i true=false)->(∀i∈rem,i<ops.size)->(∀m om,ops[m]?=some om->m∉rem->∀j,Ot om j=true->j∉rem)->
   CE ops pos rem σ->FG PT NB σ->B4 P ops bar rem σ Qa->Jq T0 B σ a w->XI B w0 w->wpAny P .any ops Q fuel mX a w:=by
 have mw:=List.all_eq_true.1 hdr;have first:∀(rem:List Nat)(mX:Array Bool),mX.size=ops.size->rem.Pairwise (fun i j=>pos i<pos j)->(∀i,i∈rem↔mX.getD i true=false)->(∀i∈rem,i<ops.size)->Region.ready .any ops mX=[]->rem=[]:=by
  intro rem mX m0 bl lJ nn hre;cases rem with
  |nil=>rfl
  |cons i rem=>
   exfalso;have hi:=nn i zAG
   have hb:=mw i (List.mem_range.2 hi);simp only[Bool.and_eq_true]at hb;have gl:=hb.1.1;unfold rG at gl;rw[Array.getElem?_eq_getElem hi]at gl;simp only[Array.all_eq_true_iff_forall_mem,decide_eq_true_eq,Bool.and_eq_true,Bool.or_eq_true,Bool.not_eq_true']at gl;have:i∈Region.ready .any ops mX:=by
    refine mem_ready.2 ⟨(lJ i).1 zAG,ops[i],Array.getElem?_eq_getElem hi,fun e he hbi=>?_⟩;have dO:=(gl e he).resolve_left (by rw[hbi];simp)
    have fU:=dO.1;have hlt2:=dO.2;have gX:e.on∉i::rem:=by
     intro hm;rcases List.mem_cons.1 hm with h|h
     ·rw[h]at fU;omega
     ·have:=(List.pairwise_cons.1 bl).1 _ h;omega
    have nf:mX.getD e.on true≠false:=fun h=>gX ((lJ _).2 h);have dh:e.on<mX.size:=by rw[m0];omega
    rw[Array.getD_eq_getD_getElem?,Array.getElem?_eq_getElem dh]at nf⊢;simpa using nf
   rw[hre]at this;cases this
 intro fuel;induction fuel with
 |zero=>
  intro rem mX σ a w hl m0 bl lJ nn hdn mK iu mB lh hb;have gW:rem=[]:=List.eq_nil_of_length_eq_zero hl
  subst gW;refine⟨?_,hK σ a w mB lh hb⟩;cases hre:Region.ready .any ops mX with
  |nil=>rfl
  |cons i l=>
   have hi:i∈Region.ready .any ops mX:=by rw[hre];simp
   have:=(lJ i).2 (mem_ready.1 hi).1;cases this
 |succ fuel ih=>
  intro rem mX σ a w hl m0 bl lJ nn hdn mK iu mB lh hb;refine⟨fun hre=>?_,fun i hi=>?_⟩
  ·have:=first rem mX m0 bl lJ nn hre
   subst this;simp at hl
  ·obtain⟨h0,oi,bn,dM⟩:=mem_ready.1 hi;obtain⟨pre,post,rfl⟩:=List.append_of_mem ((lJ i).2 h0);have mu:(pre++i::post).Nodup:=bl.imp (fun h e=>by rw[e]at h;omega)
   have l5:∀j∈pre,pos j<pos i:=fun j hj=>(List.pairwise_append.1 bl).2.2 j hj i zAG;have hC:i<ops.size:=nn i zAG;have hdone:∀e∈oi.after,Region.binds .any e=true->e.on∉pre++i::post:=by intro e he hbi hm;exact NG ((lJ e.on).1 hm) (dM e he hbi)
   have hnp0:∀j,j∈pre++i::post->Ot oi j=false:=by
    intro j hj;cases hp:Ot oi j with
    |false=>rfl
    |true=>unfold Ot at hp;rw[<-Array.any_toList]at hp;obtain⟨e,he,mQ⟩:=List.any_eq_true.1 hp;rw[Array.mem_toList_iff]at he;simp only[Bool.and_eq_true,beq_iff_eq]at mQ;exact(NG ((lJ j).1 hj) (by rw[<-mQ.1];exact dM e he mQ.2)).elim
   have eS:∀m j,Pre ops m j->(∀om,ops[m]?=some om->∀k,Ot om k=true->k∉pre++i::post)->j∉pre++i::post:=by
    intro m j hp;induction hp with
    |one ho hp=>intro h;exact h _ ho _ hp
    |more ho hp _ ih=>intro h;exact ih (fun om eo k hk=>hdn _ om eo (h _ ho _ hp) k hk)
   have iB:∀j∈pre,C3 ops i j=false:=by
    intro j hj;have hjr:j∈pre++i::post:=by simp[hj]
    cases hq:C3 ops i j with
    |false=>rfl
    |true=>
     refine absurd hjr (eS i j (vS hq) (fun om eo k hk hkr=>?_));rw[bn]at eo;cases eo;have:=hnp0 k hkr
     rw[hk]at this;cases this
   have hsw:∀j∈pre,Re ops pos j=true/\∃oj,ops[j]?=some oj/\(Bs ops bar oj oi=true\/CZ bar oj oi=true\/swapT PT bar oj oi=true\/Cv bar oj oi=true\/BT PT ops bar oj oi=true\/Ci PT NB bar oj oi=true\/Bl P PT ops bar oj oi=true):=by
    intro j hj;have hji:=l5 j hj
    have bx:j<ops.size:=nn j (by simp[hj]);refine⟨?_,ops[j],Array.getElem?_eq_getElem bx,?_⟩
    ·unfold Re Dd;refine List.any_eq_true.2 ⟨i,List.mem_range.2 hC,?_⟩;have:=iB j hj
     unfold C3 at this;simp only[this,Bool.not_false,Bool.and_true,decide_eq_true_eq];exact hji
    ·have:=mw i (List.mem_range.2 hC);simp only[Bool.and_eq_true]at this;have hp:=List.all_eq_true.1 this.1.2 j (List.mem_range.2 bx);simp only[hji,decide_true,Bool.not_true,Bool.false_or]at hp;unfold rA at hp;rw[bn,Array.getElem?_eq_getElem bx]at hp;have:=iB j hj;unfold C3 at this;simpa[this,or_assoc]using hp
   obtain⟨σ',hs,hr⟩:=pull ia bn mu hsw mK iu mB;have hni:i∉pre++post:=by
    have:=List.nodup_append.1 mu;intro hm;rcases List.mem_append.1 hm with h|h
    ·exact Nat.lt_irrefl _ (l5 i h)
    ·exact(List.nodup_cons.1 this.2.1).1 h
   have fv:∀j∈pre++post,j∈pre++i::post:=by
    intro j hj;rcases List.mem_append.1 hj with h|h
    ·simp[h]
    ·simp[h]
   have key:∀a' w',Jq T0 B σ' a' w'->XI B w w'->wpAny P .any ops Q fuel (mX.setIfInBounds i true) a' w':=by
    intro a' w' hrel' n7;refine ih (pre++post) _ σ' a' w' zBu (by simp[m0]) ?_ (fun j=>?_) (fun j hj=>nn j (fv j hj)) ?_ (Lk bn hs hni fv mK) (ia i oi σ σ' bn hs iu) hr hrel' (hb.trans n7)
    ·exact bl.sublist (List.Sublist.append (List.Sublist.refl pre) (List.sublist_cons_self i post))
    ·by_cases eF:i=j
     ·subst eF;constructor
      ·intro hm;exact absurd hm hni
      ·intro hm;rw[Array.getD_eq_getD_getElem?]at hm;simp[m0,hC]at hm
     ·rw[getD_set_ne true eF,<-lJ j];simp only[List.mem_append,List.mem_cons];constructor
      ·rintro(h|h)
       ·exact .inl h
       ·exact .inr (.inr h)
      ·rintro(h|h|h)
       ·exact .inl h
       ·exact absurd h.symm eF
       ·exact .inr h
    ·intro m om eo hm j hpj hj;by_cases hmi:m=i
     ·subst hmi;rw[bn]at eo;cases eo;have:=hnp0 j (fv j hj)
      rw[hpj]at this;cases this
     ·have hmr:m∉pre++i::post:=by
       intro h;rcases List.mem_append.1 h with h|h
       ·exact hm (by simp[h])
       ·rcases List.mem_cons.1 h with h|h
        ·exact hmi h
        ·exact hm (by simp[h])
      exact hdn m om eo hmr j hpj (fv j hj)
   have mF:=PG hs T0 B a w (wpAny P .any ops Q fuel (mX.setIfInBounds i true)) Q lh key;unfold wpOp;simp only[bn];split
   ·rename_i hw;rw[if_pos hw]at mF;exact .inl mF
   ·rename_i hw;rw[if_neg hw]at mF;exact mF
theorem EO(h:Jq T0 B σ a w):Jq T0 B σ a {w with drawn:=w.drawn+1}:=by obtain⟨X,hh,r⟩:=h;exact⟨X,hh,r.grow (w':={w with drawn:=w.drawn+1}) ⟨rfl,rfl,rfl,Nat.le_refl _,fun _ _ _=>rfl⟩ (fun _ hb=>hb) (fun _ hb=>.inl hb)⟩
theorem wF{bar:Oper->Bool}{Q:St->Prop}:∀{n k:Nat}{σ:St},k+n=ops.size->D0 P ops bar (ops.toList.drop k) σ Q->B4 P ops bar (List.range' k n) σ Q
 |0,k,σ,hk,h=>by rw[List.drop_eq_nil_of_le zAx]at h;exact h
 |n+1,k,σ,hk,h=>by have nn:k<ops.toList.length:=zAx;rw[List.drop_eq_getElem_cons nn]at h;obtain⟨σ',hs,hr⟩:=h;rw[List.range'_succ];exact⟨ops.toList[k],σ',by rw[<-Array.getElem?_toList];exact List.getElem?_eq_getElem nn,hs,wF zAD hr⟩
theorem MK(ia:∀(i:Nat)(o:Oper)(σ σ':St),ops[i]?=some o->zE P ops bar o σ σ'->FG PT NB σ->FG PT NB σ')(iu:FG PT NB σ)(hm:P.follows .mixedOrders=true)(hdr:BR P ops (fun i=>i) bar PT NB (Pr ops.toList [])=true)(mK:xB ops (fun i=>i) σ=true)(h:D0 P ops bar ops.toList σ (Q .normal)):AWP P (.region id ops true) Q σ:=by
 intro T0 B a w lh;refine wp_region_any hm ?_;have mw:=List.all_eq_true.1 hdr
 refine E6 (T0:=T0) (B:=B) (w0:=w) ia hdr (Qa:=Q .normal) (fun σ' a' w' hq hr hb=>⟨σ',hq,hr,hb⟩) ops.size (List.range' 0 ops.size) _ σ a _ zAG zAG ?_ (fun i=>?_) (fun i hi=>by simp[List.mem_range']at hi;omega) (fun m om eo hm=>absurd (by simp only[List.mem_range'_1];have:=(Array.getElem?_eq_some_iff.1 eo).1;omega) hm) ?_ iu (wF zAD zBr) (EO lh) ⟨rfl,rfl,rfl,Nat.le_refl _,fun _ _=>rfl⟩
 ·exact List.pairwise_lt_range'
 ·rw[Array.getD_eq_getD_getElem?,Array.getElem?_replicate];simp only[List.mem_range'_1];constructor
  ·intro hh;rw[if_pos zAD];rfl
  ·intro hh;split at hh
   ·omega
   ·cases hh
 ·intro j hj hl;simp only[List.mem_range'_1]at hj;have hb:=mw j (List.mem_range.2 zAD)
  simp only[Bool.and_eq_true,Bool.or_eq_true,Bool.not_eq_true']at hb;refine⟨hb.2.resolve_left (by unfold Re at hl;rw[hl];simp),?_⟩;have hc:=List.all_eq_true.1 mK j (List.mem_range.2 zAD)
  unfold Re at hl;simp only[hl,Bool.not_true,Bool.false_or]at hc;have nn:j<ops.size:=zAD
  rw[Array.getElem?_eq_getElem nn]at hc;simp only[Option.bind_some]at hc;cases hd:ops[j].dst with
  |none=>rw[hd]at hc;cases hc
  |some d=>rw[hd]at hc;exact⟨_,d,Array.getElem?_eq_getElem nn,hd,hc⟩
theorem Cf(hm:P.follows .mixedOrders=true)(hdr:N3 P ops (fun i=>i) bar=true)(mK:xB ops (fun i=>i) σ=true)(h:D0 P ops bar ops.toList σ (Q .normal)):AWP P (.region id ops true) Q σ:=
 MK (PT:=[]) (NB:=[]) (fun _ _ _ _ _ _ _=>Iz) Iz hm hdr mK h
theorem vv(PT:List (Nat×Nat))(hm:P.follows .mixedOrders=true)(hdr:BR P ⟨l⟩ (fun i=>i) (fun _=>false) PT [] (Pr l [])=true)(mK:xB ⟨l⟩ (fun i=>i) σ=true)(cG:Ou ⟨l⟩ PT=true)(hp:ptB PT σ=true)(h:@EI P σ ⟨⟨l⟩,fun _=>false⟩ ⟨l⟩ k):@DI P id σ ⟨⟨l⟩,br⟩ k:=
 MK (bar:=fun _=>false) (PT:=PT) (NB:=[]) (fun _ _ _ _ hi hs hq=>⟨wg cG hi (hs.resolve_right (fun hh=>by cases hh.1)) hq.1,fun p hp=>by cases hp⟩) ⟨tK hp,fun p hp=>by cases hp⟩ hm hdr mK (JW h)
theorem vx(hm:P.follows .mixedOrders=true)(hdr:N3 P ⟨l⟩ (fun i=>i) (fun _=>false)=true)(mK:xB ⟨l⟩ (fun i=>i) σ=true)(h:@EI P σ ⟨⟨l⟩,fun _=>false⟩ ⟨l⟩ k):@DI P id σ ⟨⟨l⟩,br⟩ k:=
 Cf hm hdr mK (JW h)
def Nl(bs:List Nat)(o:Oper):Bool:=match o.dst with|some d=>bs.contains d|none=>!bs.contains 3000001
theorem rl(cG:Ou ops PT=true)(cm:(ops.toList.all fun o=>!bar o||V4 o||kP o||(KK P o&&Pp bar o))=true)(hi:ops[i]?=some o)(hs:zE P ops bar o σ σ')(h:Pk PT σ):Pk PT σ':=by
 rcases hs with hs|⟨hb,_,_,hk1,ej,hk3⟩
 ·exact wg cG hi hs h
 ·have lJ:o∈ops.toList:=by rw[Array.mem_toList_iff];exact Array.mem_of_getElem? hi
  have h1:=List.all_eq_true.1 cm o lJ;simp only[hb,Bool.not_true,Bool.false_or,Bool.or_eq_true,Bool.and_eq_true]at h1;rcases h1 with(h1|h1)|⟨h1,h1o⟩
  ·obtain⟨⟨_,hg⟩,_⟩:=hk1 h1;intro p hp;rw[hg];exact h p hp
  ·obtain⟨d,hd,_,hg,_⟩:=ej h1;intro p hp;have nf:p.1≠d:=by
    intro e;have hc:=List.all_eq_true.1 cG o lJ
    rw[hd]at hc;have hc:=List.all_eq_true.1 hc p hp
    simp only[e,bne_self_eq_false,Bool.false_or,Bool.and_eq_true]at hc;have hc:=hc.2
    unfold kP at h1;cases na:o.op<;>rw[na]at h1 hc<;>first|(exact Bool.noConfusion h1)|(exact Bool.noConfusion hc)
   rw[(hg p.1 nf).1];exact h p hp
  ·obtain⟨d,t,cells,cs,v,os,hd,_,_,_,_,_,rfl,_⟩:=hk3 h1 h1o;intro p hp;have nf:p.1≠d:=by
    intro e;have hc:=List.all_eq_true.1 cG o lJ
    rw[hd]at hc;have hc:=List.all_eq_true.1 hc p hp
    simp only[e,bne_self_eq_false,Bool.false_or,Bool.and_eq_true]at hc;have hc:=hc.2
    unfold KK at h1;cases na:o.op<;>rw[na]at h1 hc<;>first|(exact Bool.noConfusion h1)|(exact Bool.noConfusion hc)
   rw[DR nf];exact h p hp
theorem r9(iK:I6 P ops NB=true)(cm:(ops.toList.all fun o=>!bar o||V4 o||kP o||(KK P o&&Pp bar o))=true)(hi:ops[i]?=some o)(hs:zE P ops bar o σ σ')(h:GV NB σ):GV NB σ':=by
 rcases hs with hs|⟨hb,_,_,hk1,ej,hk3⟩
 ·exact sJ iK hi hs h
 ·have lJ:o∈ops.toList:=by rw[Array.mem_toList_iff];exact Array.mem_of_getElem? hi
  have h1:=List.all_eq_true.1 cm o lJ;simp only[hb,Bool.not_true,Bool.false_or,Bool.or_eq_true,Bool.and_eq_true]at h1;rcases h1 with(h1|h1)|⟨h1,h1o⟩
  ·obtain⟨⟨_,hg⟩,_⟩:=hk1 h1;intro p hp;rw[hg];exact h p hp
  ·obtain⟨d,hd,_,hg,_⟩:=ej h1;intro p hp;have nf:p≠d:=by
    intro e;have hc:=List.all_eq_true.1 iK o lJ
    rw[hd]at hc;have hc:=List.all_eq_true.1 hc p hp
    simp only[e,bne_self_eq_false,Bool.false_or,Bool.and_eq_true]at hc;have hc:=hc.2
    unfold kP at h1;cases na:o.op<;>rw[na]at h1 hc<;>first|(exact Bool.noConfusion h1)|(exact Bool.noConfusion hc)
   rw[(hg p nf).1];exact h p hp
  ·obtain⟨d,t,cells,cs,v,os,hd,_,_,_,_,_,rfl,_⟩:=hk3 h1 h1o;intro p hp;have nf:p≠d:=by
    intro e;have hc:=List.all_eq_true.1 iK o lJ
    rw[hd]at hc;have hc:=List.all_eq_true.1 hc p hp
    simp only[e,bne_self_eq_false,Bool.false_or,Bool.and_eq_true]at hc;have hc:=hc.2
    unfold KK at h1;cases na:o.op<;>rw[na]at h1 hc<;>first|(exact Bool.noConfusion h1)|(exact Bool.noConfusion hc)
   rw[DR nf];exact h p hp
theorem wR(PT:List (Nat×Nat))(NB bs:List Nat)(hm:P.follows .mixedOrders=true)(hdr:BR P ⟨l⟩ (fun i=>i) (Nl bs) PT NB (Pr l [])=true)(mK:xB ⟨l⟩ (fun i=>i) σ=true)(cG:Ou ⟨l⟩ PT=true)(hp:ptB PT σ=true)(iK:I6 P ⟨l⟩ NB=true)(hnb:nbB NB σ=true)(cm:(l.all fun o=>!Nl bs o||V4 o||kP o||(KK P o&&Pp (Nl bs) o))=true)(h:@EI P σ ⟨⟨l⟩,Nl bs⟩ ⟨l⟩ k):@DI P id σ ⟨⟨l⟩,br⟩ k:=
 MK (bar:=Nl bs) (PT:=PT) (NB:=NB) (fun _ _ _ _ hi hs hq=>⟨rl cG cm hi hs hq.1,r9 iK cm hi hs hq.2⟩) ⟨tK hp,r7 hnb⟩ hm hdr mK (JW h)
theorem pG(bs:List Nat)(hm:P.follows .mixedOrders=true)(hdr:Vm.N3 P ⟨l⟩ (fun i=>i) (Nl bs)=true)(mK:xB ⟨l⟩ (fun i=>i) σ=true)(h:@EI P σ ⟨⟨l⟩,Nl bs⟩ ⟨l⟩ k):@DI P id σ ⟨⟨l⟩,br⟩ k:=
 Cf hm hdr mK (JW h)
def pwB(pos:Nat->Nat):List Nat->Bool
 |[]=>true
 |i::r=>r.all (fun j=>decide (pos i<pos j))&&pwB pos r
theorem uf{pos:Nat->Nat}:∀{l:List Nat},pwB pos l=true->l.Pairwise (fun i j=>pos i<pos j)
 |[],_=>.nil
 |i::r,h=>by simp only[pwB,Bool.and_eq_true,List.all_eq_true,decide_eq_true_eq]at h;exact .cons h.1 (uf h.2)
def posOf:List Nat->Nat->Nat
 |[],_=>0
 |i::r,k=>if i==k then 0 else posOf r k+1
def tZ(n:Nat)(ord:List Nat):Bool:=ord.length==n&&pwB (posOf ord) ord&&ord.all (fun i=>decide (i<n))&&(List.range n).all (fun i=>ord.contains i)
@[reducible] def r8:List Oper->Nat->Oper->Oper
 |[],_,d=>d
 |o::_,0,_=>o
 |_::l,i+1,d=>r8 l i d
@[reducible] def vw(l:List Oper)(d:Oper):List Nat->List Oper
 |[]=>[]
 |i::r=>r8 l i d::vw l d r
theorem BL{d:Oper}:∀{l:List Oper}{i:Nat},i<l.length->l[i]?=some (r8 l i d)
 |[],i,h=>by simp at h
 |o::l,0,_=>rfl
 |o::l,i+1,h=>by simpa using BL (l:=l) (i:=i) zBr
theorem Ey{bar:Oper->Bool}{Q:St->Prop}{l:List Oper}{d:Oper}:∀{ord:List Nat}{σ:St},(∀i∈ord,i<l.length)->D0 P l.toArray bar (vw l d ord) σ Q->B4 P l.toArray bar ord σ Q
 |[],σ,_,h=>h
 |i::r,σ,hi,h=>by obtain⟨σ',hs,hr⟩:=h;exact⟨_,σ',by rw[List.getElem?_toArray];exact BL (hi i zAG),hs,Ey (fun j hj=>hi j (by simp[hj])) hr⟩
theorem wm(hm:P.follows .mixedOrders=true)(ho:tZ ops.size ord=true)(hdr:N3 P ops (posOf ord) bar=true)(mK:xB ops (posOf ord) σ=true)(h:B4 P ops bar ord σ (Q .normal)):AWP P (.region id ops true) Q σ:=by
 intro T0 B a w lh;refine wp_region_any hm ?_;have mw:=List.all_eq_true.1 hdr
 simp only[tZ,Bool.and_eq_true,beq_iff_eq,List.all_eq_true,decide_eq_true_eq,List.mem_range,List.contains_iff_mem]at ho;obtain⟨⟨⟨o1,o2⟩,o3⟩,o4⟩:=ho;refine E6 (T0:=T0) (B:=B) (w0:=w) (PT:=[]) (NB:=[]) (fun _ _ _ _ _ _ _=>Iz) hdr (Qa:=Q .normal) (fun σ' a' w' hq hr hb=>⟨σ',hq,hr,hb⟩) ops.size ord _ σ a _ o1 zAG (uf o2) (fun i=>?_) o3 (fun m om eo hm=>absurd (o4 m (Array.getElem?_eq_some_iff.1 eo).1) hm) ?_ Iz h (EO lh) ⟨rfl,rfl,rfl,Nat.le_refl _,fun _ _=>rfl⟩
 ·rw[Array.getD_eq_getD_getElem?,Array.getElem?_replicate];constructor
  ·intro hh;rw[if_pos (o3 i hh)];rfl
  ·intro hh;split at hh
   ·rename_i nn;exact o4 i nn
   ·cases hh
 ·intro j hj hl;have cO:=o3 j hj
  have hb:=mw j (List.mem_range.2 cO);simp only[Bool.and_eq_true,Bool.or_eq_true,Bool.not_eq_true']at hb;refine⟨hb.2.resolve_left (by unfold Re at hl;rw[hl];simp),?_⟩;have hc:=List.all_eq_true.1 mK j (List.mem_range.2 cO);unfold Re at hl;simp only[hl,Bool.not_true,Bool.false_or]at hc;rw[Array.getElem?_eq_getElem cO]at hc;simp only[Option.bind_some]at hc;cases hd:ops[j].dst with
  |none=>rw[hd]at hc;cases hc
  |some d=>rw[hd]at hc;exact⟨_,d,Array.getElem?_eq_getElem cO,hd,hc⟩
theorem HV(ord:List Nat)(hm:P.follows .mixedOrders=true)(ho:tZ (o::l).length ord=true)(hdr:N3 P ⟨o::l⟩ (posOf ord) (fun _=>false)=true)(mK:xB ⟨o::l⟩ (posOf ord) σ=true)
  (h:@EI P σ ⟨⟨o::l⟩,fun _=>false⟩ ⟨vw (o::l) o ord⟩ k):@DI P id σ ⟨⟨o::l⟩,br⟩ k:=by
 have h2:∀i∈ord,i<(o::l).length:=by simp only[tZ,Bool.and_eq_true,List.all_eq_true,decide_eq_true_eq]at ho;exact ho.1.2
 exact wm hm ho hdr mK (Ey h2 (JW h))
end Go.Vm
