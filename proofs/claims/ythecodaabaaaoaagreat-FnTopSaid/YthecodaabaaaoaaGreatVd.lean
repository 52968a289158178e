/- An abstract machine La the model of Go, by value, and that it is sound: part Vd. No condition. -/
import Derived.Test.YthecodaabaaaoaaGreatVc
import Derived.Orders
set_option linter.unusedVariables false
set_option linter.unusedSimpArgs false
namespace Go.Vm
open Go.RowKit
variable{σ σ1 σ' σ2 A:St}{P:Program}{d u id t i j size b dx dy:Nat}{v:V}{o y oi:Oper}{x z:Operand}{l:List Oper}{op:BinOp}{k:Fr}{c:Call}{q:Bool}{f:FuncId}{n:Int}{a:Act}
structure Sub(P:Program)(xs:List Operand)(σ1 σ:St):Prop where
 len:σ1.length=σ.length
 look:∀x∈xs,∀ty,look P σ1 ty x=look P σ ty x
 ob:∀x∈xs,∀ty u,(Vm.look P σ1 ty x).ref u=true->∀j,σ1.ob u j≠ .none->σ.ob u j=σ1.ob u j
theorem Qj{x:At}(h:unc v= .one x)(hx:x.ref u=true):v.ref u=true:=by
 cases v with
 |cnd g y=>simp only[unc]at h;subst h;simp only[V.ref,V.Nv,Bool.or_eq_true];exact .inl hx
 |one y=>simp only[unc]at h;cases h;exact hx
 |any=>simp[unc]at h
 |agg xs=>simp[unc]at h
 |tup xs=>simp[unc]at h
 |fix g y=>simp only[unc]at h;subst h;simp only[V.ref,V.Nv,Bool.or_eq_true];exact .inl hx
theorem O9{xs:List At}(h:unc v= .agg xs)(hx:Yi u xs=true):v.ref u=true:=by
 cases v with
 |cnd g y=>simp only[unc]at h;subst h;simp only[V.ref,V.Nv,Bool.or_eq_true];exact .inl hx
 |agg y=>simp only[unc]at h;cases h;exact hx
 |any=>simp[unc]at h
 |one xs=>simp[unc]at h
 |tup xs=>simp[unc]at h
 |fix g y=>simp only[unc]at h;subst h;simp only[V.ref,V.Nv,Bool.or_eq_true];exact .inl hx
theorem VN(hx:Yi u (unc v).cells=true):v.ref u=true:=by
 cases h:unc v with
 |one x=>rw[h]at hx;simp[V.cells,Yi]at hx;exact Qj h hx
 |agg xs=>rw[h]at hx;exact O9 h hx
 |any=>rw[h]at hx;simp[V.cells,Yi]at hx
 |tup xs=>rw[h]at hx;simp[V.cells,Yi]at hx
 |cnd g x=>rw[h]at hx;simp[V.cells,Yi]at hx
 |fix u x=>rw[h]at hx;simp[V.cells,Yi]at hx
theorem Sub.same{xs:List Operand}{ty:TypeId}{a:At}{o:Ob}(h:Sub P xs σ1 σ)(hx:x∈xs)(hv:unc (Vm.look P σ ty x)= .one a)(ha:a.ref u=true)(ho:σ1.ob u j=o)(hn:o≠ .none):σ.ob u j=o:=by
 rw[<-ho];refine h.ob x hx ty u ?_ j (by rw[ho];exact hn);rw[h.look x hx ty];exact Qj hv ha
theorem qa{xs:List Operand}{k:IntKind}(h:Sub P xs σ1 σ)(hx:x∈xs)(hl:Um P σ1 x k n):Um P σ x k n:=by
 unfold Um at*;rw[<-h.look x hx];exact hl
theorem Em{xs:List Operand}{df n:Nat}{x:Option Operand}(h:Sub P xs σ1 σ)(hx:∀y,x=some y->y∈xs)(hl:bnd P σ1 df x n):bnd P σ df x n:=by
 cases x with
 |none=>exact hl
 |some x=>
  simp only[bnd]at*;rw[<-h.look x (hx x rfl)];exact hl
theorem MV{T:TypeId}:∀{ps:List (Nat×Operand)}{z out:List At},Sub P (ps.map (·.2)) σ1 σ->Tr P σ1 T ps z out->Tr P σ T ps z out
 |[],_,_,_,h=>h
 |(i,x)::ps,z,out,hs,h=>by
  have e:=hs.look x zAE
  simp only[Tr]at h⊢
  rw[<-e]
  refine⟨h.1,h.2.1,h.2.2.1,h.2.2.2.1,h.2.2.2.2.1,MV ⟨hs.len,fun y hy=>hs.look y zBM,fun y hy=>hs.ob y zBM⟩ h.2.2.2.2.2⟩
theorem Wo{op:Op}{ty:TypeId}(hs:Yj P σ1 op ty v)(h:Sub P op.operands.toList σ1 σ):Yj P σ op ty v:=by
 cases op<;>simp only[Yj]at hs⊢;case move x=>rw[<-h.look x zAa];exact hs
 case assign x=>rw[<-h.look x zAa];exact hs
 case pick c a b=>
  rw[<-h.look c zAa,<-h.look a zAa,<-h.look b zAa];exact hs
 case load T x=>
  rw[h.look x zAa]at hs;refine⟨hs.1,hs.2.1,?_⟩;have ib:=hs.2.2
  split at ib
  ·rename_i t c hx;obtain⟨cells,ho,hr⟩:=ib;exact⟨cells,h.same zAa hx zAy ho zAE,hr⟩
  ·rename_i t j i c hx;obtain⟨q,size,rows,ho,hr⟩:=ib;exact⟨q,size,rows,h.same zAa hx zAy ho zAE,hr⟩
  ·exact ib
  ·rename_i t j i c k hx;obtain⟨size,rows,s,ho,hr⟩:=ib;exact⟨size,rows,s,h.same zAa hx zAy ho zAE,hr⟩
  ·exact ib.elim
 case nilCheck x=>
  rw[h.look x zAa]at hs;refine⟨hs.1,?_⟩;have ib:=hs.2
  split at ib
  ·rename_i t c hx;obtain⟨⟨cells,ho⟩,hr⟩:=ib;exact⟨⟨cells,h.same zAa hx zAy ho zAE⟩,hr⟩
  ·exact ib.elim
 case fieldAddr T x f=>
  rw[h.look x zAa]at hs;refine⟨hs.1,hs.2.1,?_⟩;have ib:=hs.2.2
  split at ib
  ·rename_i t c hx;obtain⟨⟨cells,ho⟩,hr⟩:=ib;exact⟨⟨cells,h.same zAa hx zAy ho zAE⟩,hr⟩
  ·rename_i t j i c hx;obtain⟨⟨q,size,rows,ho⟩,hr⟩:=ib;exact⟨⟨q,size,rows,h.same zAa hx zAy ho zAE⟩,hr⟩
  ·exact ib
  ·rename_i t j i c k hx;obtain⟨⟨size,rows,ho⟩,hr⟩:=ib;exact⟨⟨size,rows,h.same zAa hx zAy ho zAE⟩,hr⟩
  ·exact ib.elim
 case indexAddr T x ix=>
  obtain⟨k,i,hk,h0,hg,ib⟩:=hs;rw[h.look x zAa]at hg ib;refine⟨k,i,qa h zAa hk,h0,hg,?_⟩;split at ib
  ·exact ib
  ·rename_i t j lo len hx;obtain⟨h1,h2,⟨q,rows,ho⟩,hr⟩:=ib;exact⟨h1,h2,⟨q,rows,h.same zAa hx zAy ho zAE⟩,hr⟩
  ·rename_i t c hx;obtain⟨⟨cells,ho⟩,hr⟩:=ib;exact⟨⟨cells,h.same zAa hx zAy ho zAE⟩,hr⟩
  ·rename_i t j m c hx;obtain⟨h1,h2,⟨size,rows,s,ho,hr⟩,hv⟩:=ib;exact⟨h1,h2,⟨size,rows,s,h.same zAa hx zAy ho zAE,hr⟩,hv⟩
  ·exact ib.elim
 case index T x ix=>
  obtain⟨k,i,hk,h0,hg,ib⟩:=hs;rw[h.look x zAa]at hg ib;exact⟨k,i,qa h zAa hk,h0,hg,ib⟩
 case slice T x lo hi mx=>
  cases mx with
  |some m=>exact hs.elim
  |none=>
   simp only at hs⊢;rw[h.look x zAa]at hs;refine⟨hs.1,?_⟩;have ib:=hs.2
   have b1:∀df n,bnd P σ1 df lo n->bnd P σ df lo n:=fun df n=>Em h (fun y hy=>by subst hy;simp[Op.operands]);have b2:∀df n,bnd P σ1 df hi n->bnd P σ df hi n:=fun df n=>Em h (fun y hy=>by subst hy;simp[Op.operands]);split at ib
   ·obtain⟨h1,l,hh,h2,h3,hr⟩:=ib;exact⟨h1,l,hh,b1 _ _ h2,b2 _ _ h3,hr⟩
   ·obtain⟨h1,h1',l,hh,h2,h3,hr⟩:=ib;exact⟨h1,h1',l,hh,b1 _ _ h2,b2 _ _ h3,hr⟩
   ·rename_i t j o len hx;obtain⟨h1,⟨q,rows,ho⟩,l,hh,h2,h3,hr⟩:=ib;exact⟨h1,⟨q,rows,h.same zAa hx zAy ho zAE⟩,l,hh,b1 _ _ h2,b2 _ _ h3,hr⟩
   ·exact ib.elim
 case binOp op T x y yt=>
  rw[<-h.look x zAa,<-h.look y zAa];exact hs
 case unOp op T x=>rw[<-h.look x zAa];exact hs
 case convert S T x=>rw[<-h.look x zAa];exact hs
 case extract x i=>rw[<-h.look x zAa];exact hs
 case field T x f=>rw[<-h.look x zAa];exact hs
 case build T parts=>
  obtain⟨h1,h2,z,out,h3,h4,h5⟩:=hs;refine⟨h1,h2,z,out,h3,MV ?_ h4,h5⟩;simpa[Op.operands]using h
 case call c=>
  obtain⟨cal,args,dW⟩:=c;have hm:∀x∈args.toList,x∈(Op.operands (.call ⟨cal,args,dW⟩)).toList:=by
   intro x hx;simp only[Op.operands,Call.operands];cases cal<;>simp at hx⊢<;>simp[hx]
  split at hs
  ·rename_i x t hc ha ht;rw[h.look x (hm x zBa)]at hs;try simp only[hc,ha,ht]
   refine⟨hs.1,?_⟩;have ib:=hs.2
   split at ib
   ·exact ib
   ·exact ib
   ·exact ib
   ·rename_i u j lo len hx;obtain⟨h1,⟨q,size,rows,ho⟩|⟨size,rows,ho⟩,hr⟩:=ib
    ·exact⟨h1,.inl ⟨q,size,rows,h.same (hm x zBa) hx zAy ho zAE⟩,hr⟩
    ·exact⟨h1,.inr ⟨size,rows,h.same (hm x zBa) hx zAy ho zAE⟩,hr⟩
   ·rename_i u j i c hx;obtain⟨h1,size,rows,n,s,ho,hr⟩:=ib;exact⟨h1,size,rows,n,s,h.same (hm x zBa) hx zAy ho zAE,hr⟩
   ·exact ib.elim
  ·rename_i x y hc ha;try simp only[hc,ha]
   obtain⟨k,m,n,h1,h2,h3⟩:=hs;exact⟨k,m,n,qa h (hm x zBa) h1,qa h (hm y zBa) h2,h3⟩
  ·rename_i x y hc ha;try simp only[hc,ha]
   obtain⟨k,m,n,h1,h2,h3⟩:=hs;exact⟨k,m,n,qa h (hm x zBa) h1,qa h (hm y zBa) h2,h3⟩
  ·exact hs.elim
open Go.RowKit
variable{ys:List Operand}{news res r:List (List D)}
def N3(P:Program)(xs:List Operand)(σ:St)(u:Nat):Prop:=
 ∃x∈xs,∃ty,(look P σ ty x).ref u=true\/∃t cells,(look P σ ty x).ref t=true/\σ.ob t 0= .box cells/\Yi u cells=true
theorem yP{u:Nat}:∀{xs:List At},Yi u xs=true↔∃x∈xs,x.ref u=true
 |[]=>by simp[Yi]
 |x::xs=>by simp[Yi,yP]
theorem wu{xs ys:List At}(h:∀x∈xs,x∈ys)(hx:Yi u xs=true):Yi u ys=true:=by
 obtain⟨x,h1,h2⟩:=yP.1 hx;exact yP.2 ⟨x,h x h1,h2⟩
theorem O5{a:Nat}{xs:List At}(hx:Yi u (cut xs a b)=true):Yi u xs=true:=
 wu (fun _ h=>List.mem_of_mem_drop (List.mem_of_mem_take h)) hx
theorem UC(xs:List D):Yi u (xs.map .d)=false:=by
 induction xs with
 |nil=>rfl
 |cons x xs ih=>simp[Yi,At.ref,ih]
theorem Ps{T:TypeId}{xs:List At}(h:(ldV P T xs).ref u=true):Yi u xs=true:=by
 unfold ldV at h;split at h
 ·exact h
 ·split at h
  ·simpa[V.ref,Yi]using h
  ·simp[V.ref]at h
theorem uf{o:Nat}{r xs:List At}(h:Yi u (place r o xs)=true):Yi u r=true\/Yi u xs=true:=by
 obtain⟨x,h1,h2⟩:=yP.1 h;simp only[place,List.mem_append]at h1;rcases h1 with(h1|h1)|h1
 ·exact .inl (yP.2 ⟨x,List.mem_of_mem_take h1,h2⟩)
 ·exact .inr (yP.2 ⟨x,h1,h2⟩)
 ·exact .inl (yP.2 ⟨x,List.mem_of_mem_drop h1,h2⟩)
theorem pM(h:(unc v).ref u=true)(hc:∀g x,unc v≠ .cnd g x)(hf:∀g x,unc v≠ .fix g x):v.ref u=true:=by
 cases v with
 |cnd g x=>
  simp only[unc]at h hc hf;simp only[V.ref,Bool.or_eq_true];cases x with
  |tup xs=>exact .inr h
  |cnd g y=>exact absurd rfl (hc g y)
  |fix g y=>exact absurd rfl (hf g y)
  |one x=>exact .inl h
  |agg x=>exact .inl h
  |any=>exact .inl h
 |fix g x=>
  simp only[unc]at h hc hf;simp only[V.ref,Bool.or_eq_true];cases x with
  |tup xs=>exact .inr h
  |cnd g y=>exact absurd rfl (hc g y)
  |fix g y=>exact absurd rfl (hf g y)
  |one x=>exact .inl h
  |agg x=>exact .inl h
  |any=>exact .inl h
 |_=>exact h
theorem Hu{u t j i:Nat}:∀{c:Nat}{xs:List D},Yi u (VG t j i c xs)=true->u=t
 |_,[],h=>by simp[VG,Yi]at h
 |c,x::xs,h=>by
  simp only[VG,Yi,Bool.or_eq_true]at h
  rcases h with h|h
  ·cases x<;>simp[At.ref]at h;exact h.symm
  ·exact Hu h
theorem wx{c:Nat}{xs:List D}(h:Yi u (Si q t j i c xs)=true):u=t:=by
 cases q with
 |true=>exact Hu h
 |false=>simp only[Si]at h;rw[UC]at h;cases h
theorem AB{k:IntKind}{x y:Int}(h:Hw op k x y v)(u:Nat):v.ref u=false:=by
 cases op<;>simp only[Hw]at h<;>first|(subst h;rfl)|(obtain⟨_,rfl⟩:=h;rfl)|exact h.elim
theorem Br{x y:ByteArray}(h:GN op x y v)(u:Nat):v.ref u=false:=by
 cases op<;>simp only[GN]at h<;>first|(subst h;rfl)|(obtain⟨_,rfl⟩:=h;rfl)|exact h.elim
theorem Cu{x y:Bool}(h:MA op x y v)(u:Nat):v.ref u=false:=by
 cases op<;>simp only[MA]at h<;>first|(subst h;rfl)|(obtain⟨_,rfl⟩:=h;rfl)|exact h.elim
theorem Am{T:TypeId}{x y:V}(h:AA P op T x y v)(u:Nat):v.ref u=false:=by
 unfold AA at h;split at h
 ·exact AB h.2 u
 ·exact Br h u
 ·exact Cu h.2 u
 ·obtain⟨_,q,_,⟨_,rfl⟩|⟨_,rfl⟩⟩:=h<;>rfl
 ·exact h.elim
theorem Eo{u:Nat}:∀{xs:List V}{i:Nat}{v:V},xs[i]?=some v->v.Nv u=true->SM u xs=true
 |[],_,_,h,_=>by simp at h
 |x::xs,0,v,h,hr=>by simp at h;subst h;simp[SM,hr]
 |x::xs,i+1,v,h,hr=>by simp only[SM,Bool.or_eq_true];exact .inr (Eo zBh hr)
theorem DQ(hf:v.flat=true)(u:Nat):v.ref u=v.Nv u:=by
 cases v<;>first|rfl|(simp[V.flat]at hf)
theorem Gz{P:Program}{σ:St}{T:TypeId}{u:Nat}:∀{ps:List (Nat×Operand)}{z out:List At},Tr P σ T ps z out->Yi u out=true->
  Yi u z=true\/∃x∈ps.map (·.2),∃ty,(look P σ ty x).ref u=true
 |[],z,out,h,hr=>by simp only[Tr]at h;subst h;exact .inl hr
 |(i,x)::ps,z,out,h,hr=>by
  simp only[Tr]at h
  rcases Gz h.2.2.2.2.2 hr with h1|⟨y,hy,ty,h1⟩
  ·rcases uf h1 with h1|h1
   ·exact .inl h1
   ·exact .inr ⟨x,zAE,_,VN h1⟩
  ·exact .inr ⟨y,by simp at hy⊢;exact .inr hy,ty,h1⟩
theorem Mk{op:Op}{ty:TypeId}(hs:Yj P σ op ty v)(hr:v.ref u=true):N3 P op.operands.toList σ u:=by
 have nod:∀{x:D},v= .one (.d x)->False:=by intro x e;rw[e]at hr;cases hr
 cases op<;>simp only[Yj]at hs;case move x=>subst hs;exact⟨x,by simp[Op.operands],ty,.inl hr⟩
 case assign x=>subst hs;exact⟨x,by simp[Op.operands],ty,.inl hr⟩
 case pick c a b=>obtain⟨bc,p,q,_,_,_,_,_,_,rfl⟩:=hs;cases hr
 case load T x=>
  have ib:=hs.2.2;split at ib
  ·rename_i t c hx;obtain⟨cells,ho,_,rfl⟩:=ib;exact⟨x,by simp[Op.operands],0,.inr ⟨t,cells,Qj hx zAy,ho,O5 (Ps hr)⟩⟩
  ·rename_i t j i c hx;obtain⟨q,size,rows,_,_,_,rfl⟩:=ib;have:=wx (Ps hr)
   exact⟨x,by simp[Op.operands],0,.inl (Qj hx (by simp[At.ref,this]))⟩
  ·obtain⟨_,rfl⟩:=ib;have:=Ps hr;rw[UC]at this;cases this
  ·obtain⟨_,_,_,_,_,_,_,_,_,rfl⟩:=ib;have:=Ps hr;rw[UC]at this;cases this
  ·exact ib.elim
 case nilCheck x=>
  have ib:=hs.2;split at ib
  ·rename_i t c hx;obtain⟨_,rfl⟩:=ib;exact⟨x,by simp[Op.operands],0,.inl (Qj hx hr)⟩
  ·exact ib.elim
 case fieldAddr T x f=>
  have ib:=hs.2.2;split at ib
  ·rename_i t c hx;obtain⟨_,rfl⟩:=ib;exact⟨x,by simp[Op.operands],0,.inl (Qj hx hr)⟩
  ·rename_i t j i c hx;obtain⟨_,rfl⟩:=ib;exact⟨x,by simp[Op.operands],0,.inl (Qj hx hr)⟩
  ·subst ib;cases hr
  ·rename_i t j i c k hx;obtain⟨_,rfl⟩:=ib;exact⟨x,by simp[Op.operands],0,.inl (Qj hx hr)⟩
  ·exact ib.elim
 case indexAddr T x ix=>
  obtain⟨k,i,_,_,_,ib⟩:=hs;split at ib
  ·obtain⟨_,_,_,_,rfl⟩:=ib;cases hr
  ·rename_i t j lo len hx;obtain⟨_,_,_,_,rfl⟩:=ib;exact⟨x,by simp[Op.operands],0,.inl (Qj hx hr)⟩
  ·rename_i t c hx;obtain⟨_,_,rfl⟩:=ib;exact⟨x,by simp[Op.operands],0,.inl (Qj hx hr)⟩
  ·rename_i t j m c hx;obtain⟨_,_,_,rfl⟩:=ib;exact⟨x,by simp[Op.operands],0,.inl (Qj hx hr)⟩
  ·exact ib.elim
 case index T x ix=>
  obtain⟨k,i,_,_,_,ib⟩:=hs;split at ib
  ·obtain⟨_,_,rfl⟩:=ib;cases hr
  ·rename_i xs hx;obtain⟨_,_,_,rfl⟩:=ib;exact⟨x,by simp[Op.operands],0,.inl (O9 hx (O5 (Ps hr)))⟩
  ·exact ib.elim
 case slice T x lo hi mx=>
  cases mx with
  |some m=>exact hs.elim
  |none=>
   simp only at hs;have ib:=hs.2
   split at ib
   ·obtain⟨_,_,_,_,_,_,_,rfl⟩:=ib;cases hr
   ·obtain⟨_,_,_,_,_,_,_,_,rfl⟩:=ib;cases hr
   ·rename_i t j o len hx;obtain⟨_,_,_,_,_,_,_,_,rfl⟩:=ib;exact⟨x,by simp[Op.operands],0,.inl (Qj hx hr)⟩
   ·exact ib.elim
 case binOp op T x y yt=>rw[Am hs.2.2 u]at hr;cases hr
 case unOp op T x=>
  have ib:=hs.2;split at ib
  ·subst ib;cases hr
  ·subst ib;cases hr
  ·exact ib.elim
 case convert S T x=>
  have ib:=hs.2.2;split at ib
  ·obtain⟨_,_,rfl⟩:=ib;cases hr
  ·exact ib.elim
 case extract x i=>
  have ib:=hs.2;split at ib
  ·rename_i xs hx;refine⟨x,by simp[Op.operands],0,.inl (pM ?_ (by rw[hx];simp) (by rw[hx];simp))⟩;rw[hx];rw[DQ ib.2]at hr;exact Eo ib.1 hr
  ·exact ib.elim
 case field T x f=>
  have ib:=hs.2.2.2;split at ib
  ·rename_i xs hx;obtain⟨_,rfl⟩:=ib;exact⟨x,by simp[Op.operands],0,.inl (O9 hx (O5 (Ps hr)))⟩
  ·exact ib.elim
 case build T parts=>
  obtain⟨_,_,z,out,h3,h4,rfl⟩:=hs;rcases Gz h4 hr with h1|⟨x,hx,ty',h1⟩
  ·rw[O2 u _ _ _ h3]at h1;cases h1
  ·exact⟨x,by simpa[Op.operands]using hx,ty',.inl h1⟩
 case call c=>
  split at hs
  ·have ib:=hs.2;split at ib
   ·obtain⟨_,rfl⟩:=ib;cases hr
   ·obtain⟨_,rfl⟩:=ib;cases hr
   ·obtain⟨_,rfl⟩:=ib;cases hr
   ·obtain⟨_,_,rfl⟩:=ib;cases hr
   ·obtain⟨_,_,_,_,_,_,_,_,rfl⟩:=ib;cases hr
   ·exact ib.elim
  ·obtain⟨_,_,_,_,_,rfl⟩:=hs;cases hr
  ·obtain⟨_,_,_,_,_,rfl⟩:=hs;cases hr
  ·exact hs.elim
open Go.RowKit
inductive Eff where
 |put (v:V)
 |new (v:V) (os:List Ob)
 |drop (t j:Nat) (v:V) (os:List Ob)
variable{e:Eff}
def Eff.ap(d:Nat):Eff->St->St
 |.put v,σ=>σ.put d v
 |.new v os,σ=>σ.new d v os
 |.drop t j v os,σ=>(σ.Zy t j .none).new d v os
def Eff.ok(d:Nat):Eff->St->Prop
 |.put _,_=>True
 |.new _ _,σ=>σ.fresh d=true
 |.drop t j _ _,σ=>(∃q s r,σ.ob t j= .arr q s r)/\(σ.Zy t j .none).fresh d=true
def Eff.ref(u:Nat):Eff->Bool
 |.put v=>v.ref u
 |.new v os=>v.ref u||XG u os
 |.drop _ _ v os=>v.ref u||XG u os
def UG(o:Oper):Bool:=
 match o.op with
 |.call ⟨.builtin .append,⟨.const _::_⟩,_⟩=>false
 |.call ⟨.builtin .append,_,_⟩=>true
 |_=>false
def zw(o:Oper):Bool:=
 match o.op with
 |.alloc _=>false
 |.box _ _=>false
 |.buildSlice _ _ _=>false
 |.makeSlice _ _ _=>false
 |.call ⟨.builtin .append,_,_⟩=>false
 |.call ⟨.value _,_,_⟩=>false
 |_=>true
def xR(ops:Array Oper)(o:Oper):List Operand:=
 o.op.operands.toList++(match o.guard with|some (j,_)=>(match(ops[j]?).bind (·.dst)with|some dj=>[.tmp dj]|none=>[])|none=>[])
theorem Sub.left{xs:List Operand}(h:Sub P (xs++ys) σ1 σ):Sub P xs σ1 σ:=⟨h.len,fun x hx=>h.look x (by simp[hx]),fun x hx=>h.ob x (by simp[hx])⟩
theorem Cz{x:At}{d:D}(h:∀u,x.ref u=true->∀j,σ1.ob u j≠ .none->σ.ob u j=σ1.ob u j)(hd:ye σ1 x=some d):ye σ x=some d:=by
 cases x with
 |sref t j lo len=>
  simp only[ye]at hd⊢;split at hd
  ·rename_i q size rows ho;rw[h t zAy j zAx,ho];exact hd
  ·cases hd
 |_=>exact hd
theorem Wm:∀{xs:List At}{r:List D},(∀u,Yi u xs=true->∀j,σ1.ob u j≠ .none->σ.ob u j=σ1.ob u j)->rowOf σ1 xs=some r->rowOf σ xs=some r
 |[],_,_,h=>h
 |x::xs,r,h,hr=>by
  simp only[rowOf]at hr⊢
  split at hr
  ·rename_i d ds h1 h2
   rw[Cz (fun u hu=>h u (by rw[Yi,hu];rfl)) h1,Wm (fun u hu=>h u (by rw[Yi,hu,Bool.or_true])) h2]
   exact hr
  ·cases hr
theorem Ej{r:List D}(h:∀u,Yi u v.cells=true->∀j,σ1.ob u j≠ .none->σ.ob u j=σ1.ob u j)(hr:v.zb σ1=some r):v.zb σ=some r:=by
 cases v with
 |one x=>exact Wm h hr
 |agg xs=>
  match xs,h,hr with
  |[],h,hr=>exact Wm h hr
  |[_],_,hr=>simp[V.zb]at hr
  |x::y::xs,h,hr=>exact Wm h hr
 |any=>simp[V.zb]at hr
 |tup xs=>simp[V.zb]at hr
 |cnd g x=>simp[V.zb]at hr
 |fix u x=>simp[V.zb]at hr
theorem Sub.cells{xs:List Operand}(h:Sub P xs σ1 σ)(hx:x∈xs)(ty:TypeId):∀u,Yi u (unc (Vm.look P σ1 ty x)).cells=true->∀j,σ1.ob u j≠ .none->σ.ob u j=σ1.ob u j:=
 fun u hu j hn=>h.ob x hx ty u (VN hu) j hn
theorem Wh:∀{xs:List Operand}{ts:List TypeId}{rs:List (List D)},Sub P xs σ1 σ->JE P σ1 xs ts rs->JE P σ xs ts rs
 |[],_,_,_,h=>h
 |x::xs,[],_,_,h=>h.elim
 |x::xs,t::ts,rs,hs,h=>by
  obtain⟨hg,r,rest,h1,h2,h3⟩:=h
  have e:=hs.look x zAE t
  refine⟨by rw[<-e];exact hg,r,rest,?_,Wh ⟨hs.len,fun y hy=>hs.look y (by simp[hy]),fun y hy=>hs.ob y (by simp[hy])⟩ h2,h3⟩
  rw[<-e]
  exact Ej (hs.cells zAE t) h1
theorem WK:∀{xs:List Operand}{ts:List TypeId},Sub P xs σ1 σ->Ym P σ xs ts=Ym P σ1 xs ts
 |[],_,_=>by simp[Ym]
 |x::xs,[],_=>by simp[Ym]
 |x::xs,t::ts,hs=>by
  simp only[Ym]
  rw[hs.look x zAE t,WK ⟨hs.len,fun y hy=>hs.look y (by simp[hy]),fun y hy=>hs.ob y (by simp[hy])⟩]
theorem R6{own:Bool}(hs:Sub P c.args.toList σ1 σ)(h:B0 P σ1 c f own res):B0 P σ c f own res:=by
 obtain⟨rows,h1,h2,h3⟩:=h;exact⟨rows,Wh hs h1,h2,by rw[WK hs];exact h3⟩
theorem Re{T:TypeId}{size:Nat}:∀{ps:List (Nat×Operand)}{k:Nat}{rs:List (List D)},Sub P (ps.map (·.2)) σ1 σ->N1 P σ1 T size ps k rs->N1 P σ T size ps k rs
 |[],_,_,_,h=>h
 |(i,x)::ps,k,rs,hs,h=>by
  have e:=hs.look x zAE T
  obtain⟨h1,h2,h3,h4,r,rest,h5,h6,h7,h8⟩:=h
  refine⟨h1,by rw[<-e];exact h2,by rw[<-e];exact h3,by rw[<-e];exact h4,r,rest,?_,h6,Re ⟨hs.len,fun y hy=>hs.look y zBM,fun y hy=>hs.ob y zBM⟩ h7,h8⟩
  rw[<-e]
  exact Wm (hs.cells zAE T) h5
theorem L5{T:TypeId}{size:Nat}:∀{ps:List (Nat×Operand)}{k:Nat}{rs:List (List At)},Sub P (ps.map (·.2)) σ1 σ->NR P σ1 T size ps k rs->NR P σ T size ps k rs
 |[],_,_,_,h=>h
 |(i,x)::ps,k,rs,hs,h=>by
  obtain⟨h1,h2,h3,h4,rest,h5,h6⟩:=h
  have e:=hs.look x zAE T
  rw[e]at h2 h3 h4 h6
  exact⟨h1,h2,h3,h4,rest,L5 ⟨hs.len,fun y hy=>hs.look y zBM,fun y hy=>hs.ob y zBM⟩ h5,h6⟩
theorem DZ{T:TypeId}{size u:Nat}:∀{ps:List (Nat×Operand)}{k:Nat}{rs:List (List At)},NR P σ T size ps k rs->Yi u rs.flatten=true->∃x∈ps.map (·.2),(Vm.look P σ T x).ref u=true
 |[],_,_,h,hr=>by simp only[NR]at h;subst h;simp[Yi]at hr
 |(i,x)::ps,k,rs,h,hr=>by
  obtain⟨h1,h2,h3,h4,rest,h5,rfl⟩:=h
  rw[List.flatten_cons]at hr
  obtain⟨z,hz,fx⟩:=yP.1 hr
  rcases List.mem_append.1 hz with hz|hz
  ·exact⟨x,zAE,VN (yP.2 ⟨z,hz,fx⟩)⟩
  ·obtain⟨y,hy,hyr⟩:=DZ h5 (yP.2 ⟨z,hz,fx⟩)
   exact⟨y,by simp at hy⊢;exact .inr hy,hyr⟩
theorem y8(u:Nat):∀(qs:List Bool)(ds:List D),XG u (Ya qs ds)=false
 |qs,[]=>by cases qs<;>rfl
 |q::qs,.sl size rows::ds=>by simp[Ya,XG,y8 u qs ds]
 |[],.sl size rows::ds=>by simp[Ya,XG,y8 u [] ds]
 |qs,.int _ _::ds=>zBb
 |qs,.bool _::ds=>zBb
 |qs,.str _::ds=>zBb
 |qs,.unk::ds=>zBb
theorem Tv{xs:List Operand}{ty:TypeId}(hs:Sub P xs σ1 σ)(hx:x∈xs)(h:Wb σ1 (unc (Vm.look P σ1 ty x)) size news):Wb σ (unc (Vm.look P σ ty x)) size news:=by
 rw[hs.look x hx]at h;unfold Wb at h⊢;split at h
 ·exact h
 ·exact h
 ·rename_i t j lo len hv;obtain⟨rows,ho,hr⟩:=h;exact⟨rows,hs.same hx hv zAy ho zAE,hr⟩
 ·exact h.elim
theorem uH(u:Nat)(r:List D):(vOf (r.map At.d)).ref u=false:=by
 have:=UC (u:=u) r;match r,this with
 |[],_=>rfl
 |[x],_=>rfl
 |x::y::r,h=>exact h
theorem wm(u:Nat)(r:List D):(vOf (r.map At.d)).Nv u=false:=by
 have:=UC (u:=u) r;match r,this with
 |[],_=>rfl
 |[x],_=>rfl
 |x::y::r,h=>exact h
theorem Er(u:Nat)(res:List (List D)):(jF res).ref u=false:=by
 have tl:∀rs:List (List D),SM u (rs.map fun r=>vOf (r.map At.d))=false:=by
  intro rs;induction rs with
  |nil=>rfl
  |cons r rs ih=>simp only[List.map_cons,SM,wm,ih,Bool.or_false]
 match res with
 |[]=>rfl
 |[r]=>exact uH u r
 |r::r'::rs=>exact tl (r::r'::rs)
theorem Oh{u d:Nat}(hu:u≠d):∀(k:Nat)(r:List D),Yi u (K0 d k r)=false
 |_,[]=>rfl
 |k,x::r=>by cases x<;>simp[K0,Yi,At.ref,Oh hu,Ne.symm hu]
theorem C8{xs:List At}(h:Yi u xs=false):(vOf xs).Nv u=false:=by
 match xs,h with
 |[],_=>rfl
 |[x],h=>simpa[vOf,V.Nv,Yi]using h
 |x::y::xs,h=>exact h
theorem FL(hu:u≠d)(res:List (List D)):(kJ d res).ref u=false:=by
 have tl:∀(k:Nat)(rs:List (List D)),SM u (DE d k rs)=false:=by
  intro k rs;induction rs generalizing k with
  |nil=>rfl
  |cons r rs ih=>simp only[DE,SM,C8 (Oh hu _ _),ih,Bool.or_false]
 match res with
 |[]=>exact tl 0 []
 |[r]=>
  have h1:(vOf (K0 d 0 r)).flat=true:=by
   match K0 d 0 r with
   |[]=>rfl
   |[x]=>rfl
   |x::y::xs=>rfl
  have:=C8 (Oh hu 0 r);rw[<-DQ h1]at this;exact this
 |r::r'::rs=>exact tl 0 (r::r'::rs)
theorem Gh(u:Nat):∀(ds:List D),XG u (xy ds)=false
 |[]=>rfl
 |x::ds=>by cases x<;>simp[xy,XG,Gh u ds]
theorem SJ(ty:TypeId)(v:Value)(u:Nat):(cst P ty v).ref u=false:=by
 unfold cst;split<;>first|rfl|skip
 all_goals(repeat' split)<;>first|rfl|skip
open Go.RowKit
variable{ops:Array Oper}{os:List Ob}
def FZ(P:Program)(ops:Array Oper)(o:Oper)(d:Nat)(σ1:St)(e:Eff):Prop:=
 e.ok d σ1/\(∀t j v os,e= .drop t j v os->UG o=true/\∃x∈xR ops o,∃ty,(look P σ1 ty x).ref t=true)/\
 (zw o=true\/o.guard.isSome=true->∃v,e= .put v)/\
 (o.guard=none->∀u,u≠d->e.ref u=true->N3 P (xR ops o) σ1 u)/\
 ∀σ,Sub P (xR ops o) σ1 σ->e.ok d σ->Xm P ops o σ (e.ap d σ)
theorem O1{xs:List Operand}(h:N3 P xs σ1 u):N3 P (xs++ys) σ1 u:=by
 obtain⟨x,hx,r⟩:=h;exact⟨x,by simp[hx],r⟩
theorem Ti(hg:o.guard=none)(hd:o.dst=some d)(h:Step P o d σ σ'):Xm P ops o σ σ':=by
 unfold Xm;simp only[hg,hd];exact h
theorem MT(hg:o.guard=none)(hd:o.dst=some d)(aJ:∀u,u≠d->v.ref u=true->N3 P o.op.operands.toList σ1 u)
  (gG:∀σ,Sub P o.op.operands.toList σ1 σ->Step P o d σ (σ.put d v)):FZ P ops o d σ1 (.put v):=
 ⟨trivial,(fun t j v os h=>by cases h),fun _=>⟨v,rfl⟩,fun _ u hu hr=>O1 (aJ u hu hr),fun σ hs _=>Ti hg hd (gG σ hs.left)⟩
theorem U4(hg:o.guard=none)(hd:o.dst=some d)(hp:zw o=false)(iz:σ1.fresh d=true)(aJ:∀u,u≠d->(v.ref u||XG u os)=true->N3 P o.op.operands.toList σ1 u)
  (gG:∀σ,Sub P o.op.operands.toList σ1 σ->σ.fresh d=true->Step P o d σ (σ.new d v os)):FZ P ops o d σ1 (.new v os):=
 ⟨iz,(fun t j v os h=>by cases h),(fun h=>h.elim (fun h=>by rw[hp]at h;cases h) (fun h=>by rw[hg]at h;cases h)),fun _ u hu hr=>O1 (aJ u hu hr),fun σ hs hf=>Ti hg hd (gG σ hs.left hf)⟩
theorem yN(hx:x∈c.args.toList):x∈(Op.operands (.call c)).toList:=by
 obtain⟨cal,args,dW⟩:=c;simp only[Op.operands,Call.operands];cases cal<;>simp at hx⊢<;>simp[hx]
theorem MP(h:Sub P (Op.operands (.call c)).toList σ1 σ):Sub P c.args.toList σ1 σ:=
 ⟨h.len,fun x hx=>h.look x (yN hx),fun x hx=>h.ob x (yN hx)⟩
theorem s7(hg:o.guard=none)(hd:o.dst=some d)(hs:Step P o d σ1 σ2):∃e:Eff,σ2=e.ap d σ1/\FZ P ops o d σ1 e:=by
 have gy:(∃v,Yj P σ1 o.op o.type v/\σ2=σ1.put d v)->(∀σ v,Yj P σ o.op o.type v->Step P o d σ (σ.put d v))->∃e:Eff,σ2=e.ap d σ1/\FZ P ops o d σ1 e:=by
  rintro⟨v,hv,rfl⟩ hC;exact⟨.put v,rfl,MT hg hd (fun u _ hr=>Mk hv hr) (fun σ hP=>hC σ v (Wo hv hP))⟩
 have hs0:=hs;unfold Step at hs;split at hs
 ·rename_i T iE;obtain⟨hf,hz,row,hR,rfl⟩:=hs;refine⟨.new _ _,rfl,U4 hg hd (by simp[zw,iE]) hf (fun u hu hr=>?_) (fun σ hP dq=>?_)⟩
  ·simp only[V.ref,At.ref,XG,O2 u _ _ _ hR,Bool.or_false,beq_iff_eq]at hr;exact absurd hr.symm hu
  ·unfold Step;rw[iE];exact⟨dq,hz,row,hR,rfl⟩
 ·rename_i T x iE;obtain⟨hf,h1,h2,h3,rfl⟩:=hs;refine⟨.new _ _,rfl,U4 hg hd (by simp[zw,iE]) hf (fun u hu hr=>?_) (fun σ hP dq=>?_)⟩
  ·simp only[V.ref,At.ref,XG,Bool.or_false,Bool.or_eq_true,beq_iff_eq]at hr;rcases hr with hr|hr
   ·exact absurd hr.symm hu
   ·exact⟨x,by simp[iE,Op.operands],T,.inl (VN hr)⟩
  ·have e:=hP.look x (by simp[iE,Op.operands]) T;unfold Step;rw[iE];simp only;rw[<-e];exact⟨dq,h1,h2,h3,rfl⟩
 ·rename_i T n parts iE;rcases hs with⟨hf,h1,h2,h3,h4,h5,⟨rows,h6,rfl⟩|⟨rows,h6,h7,rfl⟩⟩|⟨h1,rows,h6,rfl⟩
  ·refine⟨.new _ _,rfl,U4 hg hd (by simp[zw,iE]) hf (fun u hu hr=>?_) (fun σ hP dq=>?_)⟩
   ·simp only[V.ref,At.ref,XG,Bool.or_false,beq_iff_eq]at hr;exact absurd hr.symm hu
   ·unfold Step;rw[iE];refine .inl ⟨dq,h1,h2,h3,h4,h5,.inl ⟨rows,Re ?_ h6,rfl⟩⟩;rw[iE]at hP;simpa[Op.operands]using hP
  ·refine⟨.new _ _,rfl,U4 hg hd (by simp[zw,iE]) hf (fun u hu hr=>?_) (fun σ hP dq=>?_)⟩
   ·simp only[V.ref,At.ref,XG,Bool.or_false,Bool.or_eq_true,beq_iff_eq]at hr;rcases hr with hr|hr
    ·exact absurd hr.symm hu
    ·obtain⟨x,hx,hxr⟩:=DZ h6 hr;exact⟨x,by simpa[iE,Op.operands]using hx,_,.inl hxr⟩
   ·unfold Step;rw[iE];refine .inl ⟨dq,h1,h2,h3,h4,h5,.inr ⟨rows,L5 ?_ h6,h7,rfl⟩⟩;rw[iE]at hP;simpa[Op.operands]using hP
  ·refine⟨.put _,rfl,MT hg hd (fun u _ hr=>by cases hr) (fun σ hP=>?_)⟩;unfold Step;rw[iE];refine .inr ⟨h1,rows,Re ?_ h6,rfl⟩;rw[iE]at hP;simpa[Op.operands]using hP
 ·rename_i T x y iE;obtain⟨rfl,hf,h1,h2,h3,q,z,zr,k,n,hq,h4,h5,h6,h7,h8,rfl⟩:=hs;refine⟨.new _ _,rfl,U4 hg hd (by simp[zw,iE]) hf (fun u hu hr=>?_) (fun σ hP dq=>?_)⟩
  ·simp only[V.ref,At.ref,XG,Bool.or_false,beq_iff_eq]at hr;exact absurd hr.symm hu
  ·unfold Step;rw[iE];exact⟨rfl,dq,h1,h2,h3,q,z,zr,k,n,hq,h4,h5,qa hP (by simp[iE,Op.operands]) h6,h7,h8,rfl⟩
 ·rename_i c iE;split at hs
  ·rename_i hc;obtain⟨x,y,t,ha,eQ,h1,h2,h3,h4,h5,iJ,news,σd,h6,h7,h8,h9,cA,rfl⟩:=hs;have hx:x∈o.op.operands.toList:=by rw[iE];exact yN zBa
   have hy:y∈o.op.operands.toList:=by rw[iE];exact yN zBa
   have dr:zw o=false:=by
    obtain⟨cc,ca,ct⟩:=c;simp only at hc;subst hc;simp[zw,iE]
   have refs:∀u,u≠d->(V.ref u (.one (.sref d 0 0 (iJ.length+news.length)))||XG u [.arr false (P.cellsOf (ZV P t)) (iJ++news)])=true->N3 P o.op.operands.toList σ1 u:=by
    intro u hu hr;simp only[V.ref,At.ref,XG,Bool.or_false,beq_iff_eq]at hr;exact absurd hr.symm hu
   have h6':=h6;unfold S3 at h6;split at h6
   ·rename_i s heq;obtain⟨rfl,rfl⟩:=h6;refine⟨.new _ _,rfl,U4 hg hd dr h8 refs (fun σ hP dq=>?_)⟩;unfold Step;rw[iE];simp only[hc];refine⟨x,y,t,ha,eQ,?_,?_,h3,h4,h5,[],news,σ,?_,Tv hP hy h7,dq,h9,cA,rfl⟩
    ·rw[<-hP.look x hx];exact h1
    ·rw[<-hP.look y hy];exact h2
    ·rw[<-hP.look x hx];unfold S3;rw[heq];exact⟨rfl,rfl⟩
   ·rename_i tt j lo len heq;obtain⟨rows,ho,ek,hlen,holds,rfl⟩:=h6;have hrx:(look P σ1 t x).ref tt=true:=Qj heq zAy
    refine⟨.drop tt j _ _,rfl,⟨⟨_,_,_,ho⟩,h8⟩,?_,(fun hh=>hh.elim (fun hh=>by rw[dr]at hh;cases hh) (fun hh=>by rw[hg]at hh;cases hh)),fun _ u hu hr=>O1 (refs u hu hr),fun σ hP dq=>Ti hg hd ?_⟩
    ·intro t' j' v os he;cases he;refine⟨?_,x,by simp only[xR,List.mem_append];exact .inl hx,t,hrx⟩;obtain⟨cc,ca,ct⟩:=c;simp only at hc ha;subst hc ha;cases x with
     |const v=>rw[Vm.look,SJ]at hrx;cases hrx
     |_=>simp[UG,iE]
    ·have dt:=hP.left;unfold Step;rw[iE];simp only[hc];have dG:unc (look P σ t x)= .one (.sref tt j lo len):=by rw[<-dt.look x hx];exact heq
     refine⟨x,y,t,ha,eQ,?_,?_,h3,h4,h5,iJ,news,_,?_,Tv dt hy h7,dq.2,h9,cA,rfl⟩
     ·rw[<-dt.look x hx];exact h1
     ·rw[<-dt.look y hy];exact h2
     ·unfold S3;rw[dG];exact⟨rows,dt.same hx dG zAy ho zAE,ek,hlen,holds,rfl⟩
   ·exact h6.elim
  ·rename_i f hc;have dr:zw o=false:=by
    obtain⟨cc,ca,ct⟩:=c;simp only at hc;subst hc;simp[zw,iE]
   rcases hs with⟨own,res,hcr,rfl⟩|⟨res,hcr,hf,rfl⟩|⟨rows,res,qs,ha,hsd,hq,hf,rfl⟩
   ·refine⟨.put _,rfl,MT hg hd (fun u _ hr=>by rw[Er]at hr;cases hr) (fun σ hP=>?_)⟩;rw[iE]at hP;unfold Step;rw[iE];simp only[hc];exact .inl ⟨own,res,R6 (MP hP) hcr,rfl⟩
   ·refine⟨.new _ _,rfl,U4 hg hd dr hf (fun u hu hr=>?_) (fun σ hP dq=>?_)⟩
    ·rw[FL hu,Gh]at hr;cases hr
    ·rw[iE]at hP;unfold Step;rw[iE];simp only[hc];exact .inr (.inl ⟨res,R6 (MP hP) hcr,dq,rfl⟩)
   ·refine⟨.new _ _,rfl,U4 hg hd dr hf (fun u hu hr=>?_) (fun σ hP dq=>?_)⟩
    ·rw[FL hu,y8]at hr;cases hr
    ·rw[iE]at hP;unfold Step;rw[iE];simp only[hc];exact .inr (.inr ⟨rows,res,qs,Wh (MP hP) ha,hsd,hq,dq,rfl⟩)
  ·rename_i h1 h2;refine gy hs (fun σ v hv=>?_);unfold Step;rw[iE];simp only;exact⟨v,by rw[iE]at hv;exact hv,rfl⟩
 ·rename_i S T x iE;rcases hs with hs|⟨l,h1,h2,h3,h4,rfl⟩|⟨s,h1,h2,h3,h4,h5,rfl⟩
  ·refine gy hs (fun σ v hv=>?_);unfold Step;rw[iE];exact .inl ⟨v,by rw[iE]at hv;exact hv,rfl⟩
  ·refine⟨.put _,rfl,MT hg hd (fun u _ hr=>by cases hr) (fun σ hP=>?_)⟩;have hx:x∈o.op.operands.toList:=by simp[iE,Op.operands]
   unfold Step;rw[iE];exact .inr (.inl ⟨l,by rw[<-hP.look x hx];exact h1,h2,h3,Tv hP hx h4,rfl⟩)
  ·refine⟨.put _,rfl,MT hg hd (fun u _ hr=>by cases hr) (fun σ hP=>?_)⟩;have hx:x∈o.op.operands.toList:=by simp[iE,Op.operands]
   unfold Step;rw[iE];exact .inr (.inr ⟨s,by rw[<-hP.look x hx];exact h1,h2,h3,by rw[<-hP.look x hx];exact h4,h5,rfl⟩)
 ·rename_i n1 n2 n3 n4 n5 n6;refine gy hs (fun σ v hv=>?_);unfold Step;split
  ·rename_i T iE;exact absurd iE (n1 T)
  ·rename_i T x iE;exact absurd iE (n2 T x)
  ·rename_i T n ps iE;exact absurd iE (n3 T n ps)
  ·rename_i T x y iE;exact absurd iE (n4 T x y)
  ·rename_i c iE;exact absurd iE (n5 c)
  ·rename_i S T x iE;exact absurd iE (n6 S T x)
  ·exact⟨v,hv,rfl⟩
open Go.RowKit
theorem Q7:σ.fresh d=true↔d<σ.length/\∀t e,σ[t]?=some e->t≠d->e.1.ref d=false/\XG d e.2=false:=by
 unfold St.fresh;rw[Bool.and_eq_true,decide_eq_true_eq];refine and_congr_right fun _=>⟨fun h t e he iH=>xq h t e he zAA,fun h=>?_⟩;have:∀(σ:St)(k:Nat),(∀t e,σ[t]?=some e->k+t≠d->e.1.ref d=false/\XG d e.2=false)->yk d k σ=true:=by
  intro σ;induction σ with
  |nil=>intro k _;rfl
  |cons e σ ih=>
   intro k hk;simp only[yk,Bool.and_eq_true,Bool.or_eq_true,beq_iff_eq,Bool.not_eq_true'];refine⟨?_,ih (k+1) fun t e' he iH=>hk (t+1) e' (by simpa using he) zAA⟩;by_cases h0:k=d
   ·exact .inl h0
   ·exact .inr (hk 0 e zAE zAA)
 exact this σ 0 (fun t e he iH=>h t e he zAA)
theorem Hp{e:Ent}(h:σ[t]?=some e)(j:Nat):σ.ob t j=Yt e.2 j:=by unfold St.ob;rw[h]
theorem RY{o:Ob}(h:σ.ob t j=o)(hn:o≠ .none):∃e,σ[t]?=some e/\Yt e.2 j=o:=by
 unfold St.ob at h;split at h
 ·rename_i e he;exact⟨e,he,h⟩
 ·exact absurd h.symm hn
theorem Oq{u:Nat}:∀{os:List Ob}{j:Nat}{cells:List At},Yt os j= .box cells->Yi u cells=true->XG u os=true
 |[],_,_,h,_=>by simp[Yt]at h
 |o::os,0,cells,h,hr=>by
  have:o= .box cells:=h
  subst this
  simp[XG,hr]
 |o::os,j+1,cells,h,hr=>by
  have h':Yt os j= .box cells:=zB0
  have:=Oq h' hr
  cases o<;>simp[XG,this]
theorem qJ{u s:Nat}{q:Bool}{r:List (List D)}:∀{os:List Ob}{j:Nat},Yt os j= .arr q s r->XG u (os.set j .none)=XG u os
 |[],_,h=>by simp[Yt]at h
 |o::os,0,h=>by
  have:o= .arr q s r:=h
  subst this
  simp[XG]
 |o::os,j+1,h=>by
  have h':Yt os j= .arr q s r:=zB0
  have:=qJ (u:=u) h'
  cases o<;>simp[XG,this]
theorem LN(h:Xs σ d=true){e:Ent}(he:σ[d]?=some e)(u:Nat):e.1.ref u=false/\XG u e.2=false:=by
 unfold Xs at h;split at h
 ·rename_i h1;rw[he]at h1;cases h1;exact⟨rfl,rfl⟩
 ·rename_i h1;rw[he]at h1;cases h1;exact⟨rfl,rfl⟩
 ·cases h
section
variable{x:Oper}
theorem WQ(hd:o.dst=some d)(hs:Xm P ops o σ1 σ2):∃e:Eff,σ2=e.ap d σ1/\FZ P ops o d σ1 e:=by
 unfold Xm at hs;split at hs
 ·rename_i hg;simp only[hd]at hs;exact s7 hg hd hs
 ·rename_i j want hg;obtain⟨dj,d',g,v,fA,iQ,ic,fK,hv,rfl⟩:=hs;rw[hd]at ic;cases ic;refine⟨.put (.cnd g v),rfl,trivial,(fun t j v os h=>by cases h),fun _=>⟨_,rfl⟩,(fun h=>by rw[hg]at h;cases h),fun σ hP _=>?_⟩;have gh:Operand.tmp dj∈xR ops o:=by simp[xR,hg,fA]
  have gW:σ.get dj=σ1.get dj:=(hP.look _ gh 0).symm;unfold Xm;simp only[hg];refine⟨dj,d,g,v,fA,by rw[<-hP.len];exact iQ,hd,by rw[gW];exact fK,fun bC=>?_,rfl⟩;have ff:=hv bC;have cu:=hP.left;unfold M6 at ff⊢;split at ff
  ·rename_i c iE;split at ff
   ·rename_i f hc;obtain⟨own,res,hcr,rfl⟩:=ff;rw[iE]at cu;exact⟨own,res,R6 (MP cu) hcr,rfl⟩
   ·obtain⟨v0,h1,h2⟩:=ff;exact⟨v0,Wo h1 cu,h2⟩
  ·obtain⟨v0,h1,h2⟩:=ff;exact⟨v0,Wo h1 cu,h2⟩
theorem yv(e:Eff):(e.ap d σ).length=σ.length:=by
 cases e<;>simp[Eff.ap,St.Jd,St.WO,St.Xf]
theorem M9(e:Eff)(iH:t≠d):(e.ap d σ).get t=σ.get t:=by
 cases e with
 |put v=>simp[Eff.ap,St.zu,iH]
 |new v os=>simp[Eff.ap,St.VZ,iH]
 |drop a j v os=>simp[Eff.ap,St.VZ,St.QP,iH]
theorem uU(h:(σ.get t).ref u=true):∃e,σ[t]?=some e/\e.1.ref u=true:=by
 unfold St.get at h;split at h
 ·rename_i e he;exact⟨e,he,h⟩
 ·cases h
end
open Go.RowKit
variable{en:Ent}
section
variable{x:Oper}
theorem yM(hf:∀t e,σ[t]?=some e->t≠d->e.1.ref d=false)(hz:z≠ .tmp d)(ty:TypeId):(look P σ ty z).ref d=false:=by
 cases z with
 |tmp t=>
  have iH:t≠d:=fun h=>hz (by rw[h]);cases hr:(look P σ ty (.tmp t)).ref d with
  |false=>rfl
  |true=>
   obtain⟨e,he,gb⟩:=uU (σ:=σ) (t:=t) hr;rw[hf t e he iH]at gb;cases gb
 |const v=>exact SJ ty v d
 |global g=>rfl
 |func f=>rfl
theorem look_eq(hg:∀t,t≠d->σ1.get t=σ.get t)(hz:z≠ .tmp d)(ty:TypeId):look P σ1 ty z=look P σ ty z:=by
 cases z with
 |tmp t=>exact hg t (fun h=>hz (by rw[h]))
 |const v=>rfl
 |global g=>rfl
 |func f=>rfl
theorem kh(h:e.ok d σ)(iH:∀v,e≠ .put v):∀t en,σ[t]?=some en->t≠d->en.1.ref d=false:=by
 intro t en he ht;cases e with
 |put v=>exact absurd rfl (iH v)
 |new v os=>exact((Q7.1 h).2 t en he ht).1
 |drop a j v os=>
  have:=(Q7.1 h.2).2 t;rw[JQ]at this;by_cases bS:t=a
  ·rw[if_pos bS,he]at this;exact(this _ rfl ht).1
  ·rw[if_neg bS]at this;exact(this en he ht).1
theorem Om(h:e.ok d σ)(iH:∀v,e≠ .put v):∀t en,σ[t]?=some en->t≠d->XG d en.2=false:=by
 intro t en he ht;cases e with
 |put v=>exact absurd rfl (iH v)
 |new v os=>exact((Q7.1 h).2 t en he ht).2
 |drop a j v os=>
  obtain⟨⟨q,s,r,ho⟩,hf⟩:=h;have:=(Q7.1 hf).2 t
  rw[JQ]at this;by_cases bS:t=a
  ·rw[if_pos bS,he]at this;have h2:=(this _ rfl ht).2
   subst bS;rw[Hp he]at ho;rw[qJ ho]at h2;exact h2
  ·rw[if_neg bS]at this;exact(this en he ht).2
theorem oQ(h:e.ok d σ)(iH:∀v,e≠ .put v):d<σ.length:=by
 cases e with
 |put v=>exact absurd rfl (iH v)
 |new v os=>exact(Q7.1 h).1
 |drop a j v os=>have:=(Q7.1 h.2).1;rwa[St.Xf]at this
theorem v5(h:e.ok d σ)(hu:(∀v,e≠ .put v)->u≠d)(hn:(e.ap d σ).ob u j≠ .none):σ.ob u j=(e.ap d σ).ob u j:=by
 cases e with
 |put v=>simp only[Eff.ap,St.Jc]
 |new v os=>
  have:=hu (by intro v h;cases h);simp only[Eff.ap,St.Jv,this,false_and,if_false]
 |drop a k v os=>
  have aL:=hu (by intro v h;cases h);obtain⟨⟨q,s,r,ho⟩,_⟩:=h;simp only[Eff.ap,St.Jv,aL,false_and,if_false]at hn⊢;rw[St.Xx σ a k _ u j zAx]at hn⊢;split at hn
  ·exact absurd rfl hn
  ·rename_i hh;rw[if_neg hh]
theorem Nw(gP:∀t j v os,e≠ .drop t j v os)(hu:(∀v,e≠ .put v)->u≠d):(e.ap d σ).ob u j=σ.ob u j:=by
 cases e with
 |put v=>simp only[Eff.ap,St.Jc]
 |new v os=>
  have:=hu (by intro v h;cases h);simp only[Eff.ap,St.Jv,this,false_and,if_false]
 |drop a k v os=>exact absurd rfl (gP a k v os)
theorem tx(iz:e.ok d σ)(ht:t≠d)(he:(e.ap d σ)[t]?=some en):∃en0,σ[t]?=some en0/\en0.1=en.1/\∀u,XG u en0.2=XG u en.2:=by
 cases e with
 |put v=>simp only[Eff.ap,kR,if_neg ht]at he;exact⟨en,he,rfl,fun _=>rfl⟩
 |new v os=>simp only[Eff.ap,xW,if_neg ht]at he;exact⟨en,he,rfl,fun _=>rfl⟩
 |drop a j v os=>
  simp only[Eff.ap,xW,if_neg ht,JQ]at he;split at he
  ·rename_i bS;subst bS;obtain⟨⟨q,s,r,ho⟩,_⟩:=iz;obtain⟨e0,dY,gU⟩:=RY ho zAE;rw[dY]at he;simp at he;subst he;exact⟨e0,dY,rfl,fun u=>(qJ gU).symm⟩
  ·exact⟨en,he,rfl,fun _=>rfl⟩
theorem swap(fC:x.dst=some dx)(fq:y.dst=some dy)(iH:dx≠dy)(dA:∀z∈xR ops y,z≠ .tmp dx)(bQ:∀z∈xR ops x,z≠ .tmp dy)(gP:UG y=false)(hgp:y.guard=none\/zw x=true\/x.guard.isSome=true)
  (hO:Xs σ dx=true) (h1:Xm P ops x σ σ1) (h2:Xm P ops y σ1 σ2):∃σ1',Xm P ops y σ σ1'/\Xm P ops x σ1' σ2:=by
 obtain⟨ex,rfl,cN,cr,purex,_,frx⟩:=WQ fC h1
 obtain⟨ey,rfl,oky,dropy,_,refy,fry⟩:=WQ fq h2
 have hyd:∀t j v os,ey≠ .drop t j v os:=by
  intro t j v os h
  have:=(dropy t j v os h).1
  rw[gP]at this;cases this
 have suby:Sub P (xR ops y) (ex.ap dx σ) σ:=by
  refine⟨yv ex,fun z hz ty=>look_eq (fun t ht=>M9 ex ht) (dA z hz) ty,fun z hz ty u hr j hn=>?_⟩
  refine v5 cN (fun fS hu=>?_) hn
  subst hu
  rw[look_eq (fun t ht=>M9 ex ht) (dA z hz) ty,yM (kh cN fS) (dA z hz)]at hr
  cases hr
 have oky':ey.ok dy σ:=by
  cases ey with
  |put v=>trivial
  |drop a j v os=>exact absurd rfl (hyd a j v os)
  |new v os=>
   have hf:=Q7.1 oky
   refine Q7.2 ⟨by rw[<-yv ex (d:=dx)];exact hf.1,fun t e he ht=>?_⟩
   by_cases htx:t=dx
   ·subst htx;exact LN hO he dy
   ·cases ex with
    |put v'=>exact hf.2 t e (by simp only[Eff.ap,kR,if_neg htx];exact he) ht
    |new v' aj=>exact hf.2 t e (by simp only[Eff.ap,xW,if_neg htx];exact he) ht
    |drop a j v' aj=>
     obtain⟨⟨q,s,r,ho⟩,_⟩:=cN
     by_cases bS:t=a
     ·subst bS
      have:=hf.2 t (e.1,e.2.set j .none) (by simp only[Eff.ap,xW,if_neg htx,JQ,if_true,he,Option.map_some]) ht
      rw[Hp he]at ho
      rw[qJ ho]at this
      exact this
     ·exact hf.2 t e (by simp only[Eff.ap,xW,if_neg htx,JQ,if_neg bS];exact he) ht
 have stepy:=fry σ suby oky'
 have subx:Sub P (xR ops x) σ (ey.ap dy σ):=by
  refine⟨(yv ey).symm,fun z hz ty=>(look_eq (fun t ht=>M9 ey ht) (bQ z hz) ty).symm,fun z hz ty u hr j hn=>?_⟩
  refine Nw hyd (fun fS hu=>?_)
  subst hu
  rw[yM (kh oky' fS) (bQ z hz)]at hr
  cases hr
 have yref:(∀v,ex≠ .put v)->ey.ref dx=false:=by
  intro fS
  have hg:y.guard=none:=by
   rcases hgp with h|h
   ·exact h
   ·obtain⟨v,hv⟩:=purex h;exact absurd hv (fS v)
  cases hr:ey.ref dx with
  |false=>rfl
  |true=>
   obtain⟨z,hz,ty,gO⟩:=refy hg dx iH hr
   have hl:look P (ex.ap dx σ) ty z=look P σ ty z:=look_eq (fun t ht=>M9 ex ht) (dA z hz) ty
   rw[hl]at gO
   rcases gO with gO|⟨t',cells,ht',ho,hc⟩
   ·rw[yM (kh cN fS) (dA z hz)]at gO;cases gO
   ·have htx:t'≠dx:=by
     intro h;subst h
     rw[yM (kh cN fS) (dA z hz)]at ht';cases ht'
    have hD:σ.ob t' 0= .box cells:=by rw[v5 cN (fun _=>htx) zAx,ho]
    obtain⟨en,hen,hoe⟩:=RY hD zAE
    have:=Om cN fS t' en hen htx
    rw[Oq hoe hc]at this;cases this
 have entries:(∀v,ex≠ .put v)->∀t e,(ey.ap dy σ)[t]?=some e->t≠dx->e.1.ref dx=false/\XG dx e.2=false:=by
  intro fS t e he ht
  have hy:=yref fS
  by_cases fu:t=dy
  ·subst fu
   cases ey with
   |put v=>
    simp only[Eff.ap,kR,if_true,Option.map_eq_some_iff]at he
    obtain⟨e0,dY,rfl⟩:=he
    exact⟨hy,Om cN fS t e0 dY ht⟩
   |new v os=>
    simp only[Eff.ap,xW,if_true,Option.map_eq_some_iff]at he
    obtain⟨e0,dY,rfl⟩:=he
    simp only[Eff.ref,Bool.or_eq_false_iff]at hy
    exact hy
   |drop a j v os=>exact absurd rfl (hyd a j v os)
  ·obtain⟨e0,dY,h1,h2⟩:=tx oky' fu he
   rw[<-h1,<-h2]
   exact⟨kh cN fS t e0 dY ht,Om cN fS t e0 dY ht⟩
 have okx':ex.ok dx (ey.ap dy σ):=by
  cases ex with
  |put v=>trivial
  |new v os=>
   have fS:∀v',Eff.new v os≠ .put v':=by intro v' h;cases h
   exact Q7.2 ⟨by rw[yv];exact oQ cN fS,entries fS⟩
  |drop a j v os=>
   have fS:∀v',Eff.drop a j v os≠ .put v':=by intro v' h;cases h
   obtain⟨z,hz,ty,hr⟩:=(cr a j v os rfl).2
   obtain⟨q,s,r,ho⟩:=cN.1
   have hD:(ey.ap dy σ).ob a j= .arr q s r:=by rw[<-ho];exact subx.ob z hz ty a hr j zAx
   refine⟨⟨q,s,r,hD⟩,Q7.2 ⟨by rw[St.Xf,yv];exact oQ cN fS,fun t e he ht=>?_⟩⟩
   rw[JQ]at he
   split at he
   ·rename_i bS
    subst bS
    obtain⟨e0,dY,gU⟩:=RY hD zAE
    rw[dY]at he;simp at he;subst he
    have:=entries fS t e0 dY ht
    exact⟨this.1,by rw[qJ gU];exact this.2⟩
   ·exact entries fS t e he ht
 refine⟨_,stepy,?_⟩
 have:=frx _ subx okx'
 have heq:ex.ap dx (ey.ap dy σ)=ey.ap dy (ex.ap dx σ):=by
  apply List.ext_getElem?
  intro t
  have hnexy:=iH
  cases ex with
  |put v=>
   cases ey with
   |put v'=>simp only[Eff.ap,kR];by_cases h1:t=dx<;>by_cases h2:t=dy<;>simp_all
   |new v' aj=>simp only[Eff.ap,kR,xW];by_cases h1:t=dx<;>by_cases h2:t=dy<;>simp_all
   |drop a j v' aj=>exact absurd rfl (hyd a j v' aj)
  |new v os=>
   cases ey with
   |put v'=>simp only[Eff.ap,kR,xW];by_cases h1:t=dx<;>by_cases h2:t=dy<;>simp_all
   |new v' aj=>simp only[Eff.ap,xW];by_cases h1:t=dx<;>by_cases h2:t=dy<;>simp_all
   |drop a j v' aj=>exact absurd rfl (hyd a j v' aj)
  |drop a j v os=>
   obtain⟨z,hz,ty,hr⟩:=(cr a j v os rfl).2
   cases ey with
   |put v'=>
    simp only[Eff.ap,kR,xW,JQ]
    by_cases h1:t=dx<;>by_cases h2:t=dy<;>by_cases h3:t=a<;>simp_all
    all_goals(first|(cases σ[dy]?<;>rfl)|(cases σ[t]?<;>rfl)|(cases σ[a]?<;>rfl))
   |new v' aj=>
    have hay:a≠dy:=by
     intro h;subst h
     rw[yM (kh oky' (by intro v h;cases h)) (bQ z hz)]at hr;cases hr
    simp only[Eff.ap,xW,JQ]
    by_cases h1:t=dx<;>by_cases h2:t=dy<;>by_cases h3:t=a<;>simp_all
   |drop a' j' v' aj=>exact absurd rfl (hyd a' j' v' aj)
 rw[<-heq]
 exact this
end
open Go.RowKit
variable{PT:List (Nat×Nat)}{bar br:Oper->Bool}{NB post ord:List Nat}{pos:Nat->Nat}{Q:Exit->St->Prop}{cs:List At}{B:Nat->Prop}{w0 w:World}
def AU(ops:Array Oper)(bar:Oper->Bool)(x y:Oper):Bool:=!bar x&&!bar y&&
 (match x.dst,y.dst with
 |some dx,some dy=>dx !=dy&&!(xR ops y).any (xh dx)&&!(xR ops x).any (xh dy)&&!UG y&&(y.guard.isNone||zw x||x.guard.isSome)
 |_,_=>false)
def AM(bar:Oper->Bool)(x y:Oper):Bool:=!bar x&&!bar y&&x.guard.isNone&&y.guard.isNone&&
 (match x.dst,y.dst,y.op with
 |some dx,none,.store _ p q=>(match x.op with|.move _=>true|.assign _=>true|.extract _ _=>true|_=>false)&&!xh dx p&&!xh dx q
 |_,_,_=>false)
def AI(bar:Oper->Bool)(x y:Oper):Bool:=!bar x&&bar y&&x.guard.isNone&&UK y&&y.guard.isNone&&y.dst.isNone&&
 (match x.dst with
 |some dx=>(match x.op with|.move _=>true|.assign _=>true|.extract _ _=>true|_=>false)&&VV y dx
 |none=>false)
def P3(PT:List (Nat×Nat))(σ:St):Prop:=∀p∈PT,σ.get p.1= .any\/∃c,unc (σ.get p.1)= .one (.bptr p.2 c)
def ptB(PT:List (Nat×Nat))(σ:St):Bool:=PT.all fun p=>match σ.get p.1 with|.any=>true|v=>(match unc v with|.one (.bptr b _)=>b==p.2|_=>false)
def Ny(ops:Array Oper)(PT:List (Nat×Nat)):Bool:=ops.toList.all fun o=>match o.dst with
 |none=>true
 |some d=>PT.all fun p=>p.1 !=d||(o.guard.isNone&&(match o.op with|.fieldAddr _ (.tmp r) _=>PT.contains (r,p.2)|.move (.tmp r)=>PT.contains (r,p.2)|_=>false))
def Ry(PT:List (Nat×Nat))(b:Nat):Op->Bool
 |.load _ (.tmp t)=>PT.any fun r=>r.1==t&&r.2 !=b
 |.fieldAddr _ _ _=>true
 |.move _=>true
 |.assign _=>true
 |.extract _ _=>true
 |.binOp _ _ _ _ _=>true
 |.call ⟨.builtin .len,⟨[_]⟩,⟨[_]⟩⟩=>true
 |_=>false
def swapT(PT:List (Nat×Nat))(bar:Oper->Bool)(x y:Oper):Bool:=!bar x&&!bar y&&x.guard.isNone&&y.guard.isNone&&
 (match x.dst,y.dst,y.op with
 |some dx,none,.store _ (.tmp tp) q=>tp !=dx&&!xh dx q&&PT.any fun p=>p.1==tp&&Ry PT p.2 x.op
 |_,_,_=>false)
def G5(NB:List Nat)(σ:St):Prop:=∀t∈NB,∀b c,unc (σ.get t)≠ .one (.bptr b c)
def nbB(NB:List Nat)(σ:St):Bool:=NB.all fun t=>match unc (σ.get t)with|.one (.bptr _ _)=>false|_=>true
def H6(P:Program)(ops:Array Oper)(NB:List Nat):Bool:=ops.toList.all fun o=>match o.dst with
 |none=>true
 |some d=>NB.all fun t=>t !=d||(o.guard.isNone&&(match o.op with|.indexAddr T _ _=>Xj P T|_=>false))
def Ft(PT:List (Nat×Nat))(NB:List Nat)(σ:St):Prop:=P3 PT σ/\G5 NB σ
def BG(PT:List (Nat×Nat))(NB:List Nat)(bar:Oper->Bool)(x y:Oper):Bool:=!bar x&&bar y&&x.guard.isNone&&UK y&&y.guard.isNone&&y.dst.isNone&&
 (match x.dst,y.op with
 |some dx,.store _ (.tmp tp) q=>NB.contains tp&&tp !=dx&&!xh dx q&&(match x.op with|.load _ (.tmp t)=>PT.any fun r=>r.1==t|.fieldAddr _ (.tmp t) _=>PT.any fun r=>r.1==t|_=>false)
 |_,_=>false)
def wZ(PT:List (Nat×Nat)):Op->Bool
 |.move _=>true
 |.load _ (.tmp t)=>PT.any fun r=>r.1==t
 |.fieldAddr _ (.tmp _) _=>true
 |.slice _ (.tmp _) _ _ none=>true
 |_=>false
def C3(PT:List (Nat×Nat))(ops:Array Oper)(bar:Oper->Bool)(x y:Oper):Bool:=bar x&&!bar y&&kr x&&x.guard.isNone&&y.guard.isNone&&wZ PT y.op&&
 (match x.dst,y.dst with
 |some dx,some dy=>dx !=dy&&!(xR ops y).any (xh dx)&&!(xR ops x).any (xh dy)
 |_,_=>false)
def CV(PT:List (Nat×Nat))(o:Oper):Option Nat:=match o.op with|.call ⟨.value (.func _),⟨.tmp z::_⟩,_⟩=>(PT.find? (fun p=>p.1==z)).map (·.2)|_=>none
def nj:Operand->Bool
 |.const _=>true
 |_=>false
def LM(PT:List (Nat×Nat))(y x:Oper):Bool:=(x.op.operands.toList.all nj&&!UG x)||(match CV PT y with|some b=>Ry PT b x.op|none=>false)
def BT(P:Program)(PT:List (Nat×Nat))(ops:Array Oper)(bar:Oper->Bool)(x y:Oper):Bool:=x.guard.isNone&&y.guard.isNone&&OP bar x&&OP bar y&&(match x.dst,y.dst with
 |some dx,some dy=>dx !=dy&&!(xR ops y).any (xh dx)&&!(xR ops x).any (xh dy)&&((!bar x&&bar y&&KV P y&&LM PT y x)||(bar x&&KV P x&&!bar y&&LM PT x y))
 |_,_=>false)
def Na(o:Oper)(j:Nat):Bool:=o.after.any fun e=>e.on==j&&Region.binds .any e
def OE:List Oper->List Nat->List Nat
 |[],acc=>acc
 |o::rest,acc=>OE rest (acc++[o.after.toList.foldl (fun m e=>if Region.binds .any e then m|||(1<<<e.on)|||acc.getD e.on 0 else m) 0])
def vD(ms:List Nat)(i j:Nat):Bool:=(ms.getD i 0).testBit j
inductive Pre(ops:Array Oper):Nat->Nat->Prop
 |one {i j:Nat} {o:Oper} (ho:ops[i]?=some o) (hp:Na o j=true):Pre ops i j
 |more {i m j:Nat} {o:Oper} (ho:ops[i]?=some o) (hp:Na o m=true) (h:Pre ops m j):Pre ops i j
theorem DY{ops:Array Oper}:∀{l:List Oper}{acc:List Nat},(∀k o,l[k]?=some o->ops[acc.length+k]?=some o)->(∀i j,(acc.getD i 0).testBit j=true->Pre ops i j)->∀i j,vD (OE l acc) i j=true->Pre ops i j
 |[],acc,_,ha,i,j,h=>ha i j h
 |o::rest,acc,hl,ha,i,j,h=>by
  refine DY (l:=rest) (fun k o' hk=>?_) (fun i j bM=>?_) i j h
  ·have:=hl (k+1) o' (by simpa using hk)
   rw[List.length_append,List.length_singleton,Nat.add_assoc,Nat.add_comm 1 k];exact this
  ·rw[List.getD_eq_getElem?_getD]at bM
   rcases Nat.lt_trichotomy i acc.length with iQ|heq|bC
   ·rw[List.getElem?_append_left iQ,<-List.getD_eq_getElem?_getD]at bM
    exact ha i j bM
   ·subst heq
    rw[List.getElem?_append_right (Nat.le_refl _)]at bM
    simp only[Nat.sub_self,List.getElem?_cons_zero,Option.getD_some]at bM
    have ho:=hl 0 o zAE
    rw[Nat.add_zero]at ho
    have key:∀(es:List Edge)(m:Nat),(∀e∈es,e∈o.after)->(∀j,m.testBit j=true->Pre ops acc.length j)->∀j,(es.foldl (fun m e=>if Region.binds .any e then m|||(1<<<e.on)|||acc.getD e.on 0 else m) m).testBit j=true->Pre ops acc.length j:=by
     intro es
     induction es with
     |nil=>intro m _ hm j hj;exact hm j hj
     |cons e es ih=>
      intro m hes hm j hj
      refine ih _ (fun e' he'=>hes e' (by simp[he'])) (fun j hj=>?_) j hj
      by_cases hb:Region.binds .any e=true
      ·simp only[hb,if_true]at hj
       have hp:Na o e.on=true:=by
        unfold Na
        rw[<-Array.any_toList]
        exact List.any_eq_true.2 ⟨e,by simpa using hes e zAE,by simp[hb]⟩
       rw[Nat.testBit_or,Nat.testBit_or,Bool.or_eq_true,Bool.or_eq_true]at hj
       rcases hj with(hj|hj)|hj
       ·exact hm j hj
       ·rw[Nat.testBit_shiftLeft]at hj
        simp only[Bool.and_eq_true,decide_eq_true_eq]at hj
        have h1:j-e.on=0:=by
         have:=hj.2
         rw[show(1:Nat)=2^0 from rfl,Nat.testBit_two_pow]at this
         have h3:0=j-e.on:=by simpa using this
         omega
        have:j=e.on:=zAA
        subst this
        exact .one ho hp
       ·exact .more ho hp (ha e.on j hj)
      ·simp only[hb,Bool.false_eq_true,if_false]at hj;exact hm j hj
    exact key o.after.toList 0 (fun e he=>by simpa using he) (fun j hj=>by simp at hj) j bM
   ·rw[List.getElem?_eq_none zAo]at bM
    simp at bM
def B9(ops:Array Oper)(i j:Nat):Bool:=vD (OE ops.toList []) i j
theorem uz(h:B9 ops i j=true):Pre ops i j:=
 DY (l:=ops.toList) (acc:=[]) (fun k o hk=>by simpa using hk) (fun i j h=>by simp at h) i j h
def ov(P:Program)(ops:Array Oper)(bar:Oper->Bool)(PT:List (Nat×Nat))(NB ms:List Nat)(i j:Nat):Bool:=match ops[i]?,ops[j]? with|some oi,some oj=>vD ms i j||AU ops bar oj oi||AM bar oj oi||swapT PT bar oj oi||AI bar oj oi||C3 PT ops bar oj oi||BG PT NB bar oj oi||BT P PT ops bar oj oi|_,_=>false
def od(ops:Array Oper)(pos:Nat->Nat)(i:Nat):Bool:=match ops[i]? with|some o=>o.after.all fun e=>!Region.binds .any e||(decide (pos e.on<pos i)&&decide (e.on<ops.size))|none=>false
def vh(ops:Array Oper)(j:Nat):Bool:=match ops[j]? with
 |some o=>(match o.dst with|some d=>(List.range ops.size).all fun k=>k==j||(match ops[k]? with|some q=>q.dst !=some d|none=>true)|none=>false)
 |none=>false
def Ch(ops:Array Oper)(pos:Nat->Nat)(ms:List Nat)(j:Nat):Bool:=(List.range ops.size).any fun i=>decide (pos j<pos i)&&!vD ms i j
def PL(ops:Array Oper)(pos:Nat->Nat)(j:Nat):Bool:=Ch ops pos (OE ops.toList []) j
def Bp(P:Program)(ops:Array Oper)(pos:Nat->Nat)(bar:Oper->Bool)(PT:List (Nat×Nat))(NB ms:List Nat):Bool:=
 (List.range ops.size).all fun i=>od ops pos i&&((List.range ops.size).all fun j=>!decide (pos j<pos i)||ov P ops bar PT NB ms i j)&&(!Ch ops pos ms i||vh ops i)
def Nq(P:Program)(ops:Array Oper)(pos:Nat->Nat)(bar:Oper->Bool):Bool:=Bp P ops pos bar [] [] (OE ops.toList [])
def xf(ops:Array Oper)(pos:Nat->Nat)(σ:St):Bool:=
 let ms:=OE ops.toList []
 (List.range ops.size).all fun j=>!Ch ops pos ms j||(match(ops[j]?).bind (·.dst)with|some d=>Xs σ d|none=>false)
theorem Vs{xs:List Operand}(h:xs.any (xh d)=false):∀z∈xs,z≠ .tmp d:=by
 intro z hz he;subst he;have:=List.any_eq_false.1 h _ hz
 simp[xh]at this
theorem Ag{x:Oper}(h:AU ops bar x y=true):bar x=false/\bar y=false/\∃dx dy,x.dst=some dx/\y.dst=some dy/\dx≠dy/\(∀z∈xR ops y,z≠ .tmp dx)/\(∀z∈xR ops x,z≠ .tmp dy)/\UG y=false/\(y.guard=none\/zw x=true\/x.guard.isSome=true):=by
 unfold AU at h;rw[Bool.and_eq_true,Bool.and_eq_true]at h;obtain⟨⟨gX,hZ⟩,h⟩:=h;refine⟨by simpa using gX,by simpa using hZ,?_⟩;split at h
 ·rename_i dx dy h1 h2;simp only[Bool.and_eq_true,bne_iff_ne,ne_eq,Bool.not_eq_true',Bool.or_eq_true,Option.isNone_iff_eq_none]at h;exact⟨dx,dy,h1,h2,h.1.1.1.1,Vs h.1.1.1.2,Vs h.1.1.2,h.1.2,or_assoc.1 h.2⟩
 ·cases h
theorem yO{o:Ob}{T:TypeId}:look P (σ.Zy t j o) T x=look P σ T x:=by
 cases x with
 |tmp u=>simp[look,St.QP]
 |const c=>rfl
 |global g=>rfl
 |func f=>rfl
theorem Px{σ:St}{d:Nat}{v:V}:∀(xs:List At),rowOf (σ.put d v) xs=rowOf σ xs
 |[]=>rfl
 |x::xs=>by
  have:ye (σ.put d v) x=ye σ x:=by cases x<;>simp[ye,St.Jc]
  simp only[rowOf,this,Px xs]
theorem pX{x:Oper}(h:AM bar x y=true)(gL:ze P ops bar x σ σ1)(ib:ze P ops bar y σ1 σ2):∃σ1',Xm P ops y σ σ1'/\Xm P ops x σ1' σ2:=by
 unfold AM at h;simp only[Bool.and_eq_true,Bool.not_eq_true',Option.isNone_iff_eq_none]at h;obtain⟨⟨⟨⟨gX,hZ⟩,cb⟩,eS⟩,h⟩:=h;have gL:=gL.resolve_right (fun hh=>by rw[gX]at hh;cases hh.1)
 have ib:=ib.resolve_right (fun hh=>by rw[hZ]at hh;cases hh.1);split at h
 ·rename_i dx T p q fC fq iE;simp only[Bool.and_eq_true,Bool.not_eq_true']at h;obtain⟨⟨hv,hp⟩,hq⟩:=h;unfold Xm at gL ib;simp only[cb,fC]at gL;simp only[eS,fq,iE]at ib;have e1:∃v,Yj P σ x.op x.type v/\σ1=σ.put dx v:=by
   unfold Step at gL;cases hx:x.op<;>rw[hx]at gL hv<;>first|exact gL|(exact Bool.noConfusion hv)
  obtain⟨v,ff,rfl⟩:=e1;have gQ:∀(t j:Nat)(o:Ob),Yj P (σ.Zy t j o) x.op x.type v:=by
   intro t j o;cases hx:x.op<;>rw[hx]at hv ff<;>first|(exact Bool.noConfusion hv)|(simp only[Yj,yO]at ff⊢;exact ff)
  have hx2:∀(t j:Nat)(o:Ob),Xm P ops x (σ.Zy t j o) ((σ.put dx v).Zy t j o):=by
   intro t j o;unfold Xm;simp only[cb,fC];have:=gQ t j o
   rw[xt];unfold Step;cases hx:x.op<;>rw[hx]at hv this<;>first|exact⟨v,this,rfl⟩|(exact Bool.noConfusion hv)
  unfold qO at ib;rw[Xo hp,Xo hq]at ib;obtain⟨k1,k2,k3,k4,ib⟩:=ib;split at ib
  ·rename_i t c hl;obtain⟨cells,c1,c2,c3,rfl⟩:=ib;rw[St.Jc]at c1;refine⟨_,?_,hx2 _ _ _⟩;unfold Xm qO;simp only[eS,fq,iE];refine⟨k1,k2,k3,k4,?_⟩;rw[hl];exact⟨cells,c1,c2,c3,rfl⟩
  ·rename_i t j i c hl;obtain⟨q',size,rows,ds,c1,c2,c3,c4,c5,c6,c7,rfl⟩:=ib;rw[St.Jc]at c1;rw[Px]at c3;refine⟨_,?_,hx2 _ _ _⟩;unfold Xm qO;simp only[eS,fq,iE];refine⟨k1,k2,k3,k4,?_⟩;rw[hl];exact⟨q',size,rows,ds,c1,c2,c3,c4,c5,c6,c7,rfl⟩
  ·exact ib.elim
 ·cases h
theorem qX{T:TypeId}:look P σ T (.tmp t)=σ.get t:=rfl
theorem Pu{op:Op}(ho:o.op=op)(h:Ry PT b op=true):Step P o d σ σ'↔∃v,Yj P σ op o.type v/\σ'=σ.put d v:=by
 unfold Step;rw[ho];unfold Ry at h;split at h<;>first|exact Iff.rfl|(exact Bool.noConfusion h)
theorem wM{op:Op}{ty:TypeId}{cells:List At}(h:Ry PT b op=true)(hp:P3 PT σ)(c1:σ.ob b 0= .box cells)(hv:Yj P σ op ty v):Yj P (σ.Zy b 0 (.box cs)) op ty v:=by
 have iH:σ.ob b 0≠ .none:=by rw[c1];intro e;cases e
 have ho:=fun u i=>St.Xx σ b 0 (.box cs) u i iH;have gr:∀t j,(∃q size rows,σ.ob t j= .arr q size rows)->∃q size rows,(σ.Zy b 0 (.box cs)).ob t j= .arr q size rows:=by
  rintro t j ⟨q,size,rows,e⟩;by_cases hh:t=b/\j=0
  ·obtain⟨rfl,rfl⟩:=hh;rw[c1]at e;cases e
  ·exact⟨q,size,rows,by rw[ho,if_neg hh];exact e⟩
 have bz:∀t j,(∃size rows,σ.ob t j= .lit size rows)->∃size rows,(σ.Zy b 0 (.box cs)).ob t j= .lit size rows:=by
  rintro t j ⟨size,rows,e⟩;by_cases hh:t=b/\j=0
  ·obtain⟨rfl,rfl⟩:=hh;rw[c1]at e;cases e
  ·exact⟨size,rows,by rw[ho,if_neg hh];exact e⟩
 have hbx:∀t,(∃cells,σ.ob t 0= .box cells)->∃cells,(σ.Zy b 0 (.box cs)).ob t 0= .box cells:=by
  rintro t ⟨ce,e⟩;by_cases hh:t=b
  ·subst hh;exact⟨cs,by rw[ho,if_pos ⟨rfl,rfl⟩]⟩
  ·exact⟨ce,by rw[ho,if_neg (fun hh2=>hh hh2.1)];exact e⟩
 unfold Ry at h;split at h
 ·rename_i T t;simp only[List.any_eq_true,Bool.and_eq_true,beq_iff_eq,bne_iff_ne,ne_eq]at h;obtain⟨r,hrm,rfl,hrb⟩:=h;simp only[Yj,yO]at hv⊢;refine⟨hv.1,hv.2.1,?_⟩;have hv:=hv.2.2
  rw[qX]at hv⊢;rcases hp r hrm with e|⟨c,e⟩
  ·rw[e]at hv;exact hv.elim
  ·rw[e]at hv⊢;obtain⟨ce,e1,e2,e3⟩:=hv;exact⟨ce,by rw[ho,if_neg (fun hh=>hrb hh.1)];exact e1,e2,e3⟩
 ·simp only[Yj,yO]at hv⊢;refine⟨hv.1,hv.2.1,?_⟩;have hv:=hv.2.2
  split at hv
  ·rename_i e;first|exact⟨hbx _ hv.1,hv.2⟩|(simp only[e];exact⟨hbx _ hv.1,hv.2⟩)
  ·rename_i e;first|exact⟨gr _ _ hv.1,hv.2⟩|(simp only[e];exact⟨gr _ _ hv.1,hv.2⟩)
  ·rename_i e;first|exact hv|(simp only[e];exact hv)
  ·rename_i e;have hq:∀t j,(∃size rows,σ.ob t j= .arr true size rows)->∃size rows,(σ.Zy b 0 (.box cs)).ob t j= .arr true size rows:=by
    rintro t j ⟨size,rows,e⟩;by_cases hh:t=b/\j=0
    ·obtain⟨rfl,rfl⟩:=hh;rw[c1]at e;cases e
    ·exact⟨size,rows,by rw[ho,if_neg hh];exact e⟩
   first|exact⟨hq _ _ hv.1,hv.2⟩|(simp only[e];exact⟨hq _ _ hv.1,hv.2⟩)
  ·exact hv.elim
 ·simp only[Yj,yO]at hv⊢;exact hv
 ·simp only[Yj,yO]at hv⊢;exact hv
 ·simp only[Yj,yO]at hv⊢;exact hv
 ·simp only[Yj,yO]at hv⊢;exact hv
 ·simp only[Yj,yO]at hv⊢;refine⟨hv.1,?_⟩;have hv:=hv.2
  split at hv
  ·rename_i e;first|exact hv|(simp only[e];exact hv)
  ·rename_i e;first|exact hv|(simp only[e];exact hv)
  ·rename_i e;first|exact hv|(simp only[e];exact hv)
  ·rename_i e;first|exact⟨hv.1,hv.2.1.imp (gr _ _) (bz _ _),hv.2.2⟩|(simp only[e];exact⟨hv.1,hv.2.1.imp (gr _ _) (bz _ _),hv.2.2⟩)
  ·rename_i u j i c e;obtain⟨g1,size,rows,n,s,g2,g3⟩:=hv;have g4:(σ.Zy b 0 (.box cs)).ob u j= .arr true size rows:=by
    rw[ho];by_cases hh:u=b/\j=0
    ·obtain⟨rfl,rfl⟩:=hh;rw[c1]at g2;cases g2
    ·rw[if_neg hh];exact g2
   first|exact⟨g1,size,rows,n,s,g4,g3⟩|(simp only[e];exact⟨g1,size,rows,n,s,g4,g3⟩)
  ·exact hv.elim
 ·exact Bool.noConfusion h
theorem o5{x:Oper}(h:swapT PT bar x y=true)(hp:P3 PT σ)(gL:ze P ops bar x σ σ1)(ib:ze P ops bar y σ1 σ2):∃σ1',Xm P ops y σ σ1'/\Xm P ops x σ1' σ2:=by
 unfold swapT at h;simp only[Bool.and_eq_true,Bool.not_eq_true',Option.isNone_iff_eq_none]at h;obtain⟨⟨⟨⟨gX,hZ⟩,cb⟩,eS⟩,h⟩:=h;have gL:=gL.resolve_right (fun hh=>by rw[gX]at hh;cases hh.1)
 have ib:=ib.resolve_right (fun hh=>by rw[hZ]at hh;cases hh.1);split at h
 ·rename_i dx T tp q fC fq iE;simp only[Bool.and_eq_true,Bool.not_eq_true',List.any_eq_true,beq_iff_eq,bne_iff_ne,ne_eq]at h;obtain⟨⟨iH,hq⟩,p,hpm,eH,hv⟩:=h;have gE:xh dx (.tmp tp)=false:=by simp[xh,iH]
  unfold Xm at gL ib;simp only[cb,fC]at gL;simp only[eS,fq,iE]at ib;obtain⟨v,ff,rfl⟩:=(Pu rfl hv).1 gL;unfold qO at ib;rw[Xo gE,Xo hq,qX]at ib;obtain⟨k1,k2,k3,k4,ib⟩:=ib;have eA:=hp p hpm
  rw[eH]at eA;rcases eA with eA|⟨c,eA⟩
  ·rw[eA]at ib;exact ib.elim
  ·rw[eA]at ib;obtain⟨cells,c1,c2,c3,rfl⟩:=ib;rw[St.Jc]at c1;refine⟨σ.Zy p.2 0 (.box (place cells c (unc (look P σ T q)).cells)),?_,?_⟩
   ·unfold Xm qO;simp only[eS,fq,iE];refine⟨k1,by rw[qX];exact k2,k3,k4,?_⟩;rw[qX,eA];exact⟨cells,c1,c2,c3,rfl⟩
   ·unfold Xm;simp only[cb,fC];rw[xt];exact(Pu rfl hv).2 ⟨v,wM hv hp c1 ff,rfl⟩
 ·cases h
theorem kW:∀(σ:St)(d:Nat),σ.put d (σ.get d)=σ
 |[],_=>rfl
 |e::σ,0=>by simp[St.put,St.get]
 |e::σ,d+1=>by have:=kW σ d;simp only[St.put,St.get,List.getElem?_cons_succ]at this⊢;rw[this]
theorem Nm:∀(σ:St)(d:Nat)(v v':V),(σ.put d v).put d v'=σ.put d v'
 |[],_,_,_=>rfl
 |e::σ,0,_,_=>rfl
 |e::σ,d+1,v,v'=>by simp[St.put,Nm σ d v v']
theorem GZ(h:∀u,σ'.get u=σ.get u){T:TypeId}:look P σ' T x=look P σ T x:=by
 cases x with
 |tmp u=>exact h u
 |const c=>rfl
 |global g=>rfl
 |func f=>rfl
theorem nH{x:Oper}(h:AI bar x y=true)(fC:x.dst=some d)(hO:Xs σ d=true)(gL:ze P ops bar x σ σ1)(ib:ze P ops bar y σ1 σ2):∃σ1',ze P ops bar y σ σ1'/\Xm P ops x σ1' σ2:=by
 unfold AI at h;simp only[fC,Bool.and_eq_true,Bool.not_eq_true',Option.isNone_iff_eq_none]at h;obtain⟨⟨⟨⟨⟨⟨gX,hZ⟩,cb⟩,hC⟩,eS⟩,fq⟩,hv,hu⟩:=h;have gL:=gL.resolve_right (fun hh=>by rw[gX]at hh;cases hh.1)
 unfold Xm at gL;simp only[cb,fC]at gL;have e1:∃v,Yj P σ x.op x.type v/\σ1=σ.put d v:=by
  unfold Step at gL;cases hx:x.op<;>rw[hx]at gL hv<;>first|exact gL|(exact Bool.noConfusion hv)
 obtain⟨v,ff,rfl⟩:=e1;have back:∀σ',(∀u,σ'.get u=σ.get u)->Xm P ops x σ' (σ'.put d v):=by
  intro σ' hg;unfold Xm;simp only[cb,fC];have:Yj P σ' x.op x.type v:=by
   cases hx:x.op<;>rw[hx]at hv ff<;>first|(exact Bool.noConfusion hv)|(simp only[Yj,GZ hg]at ff⊢;exact ff)
  unfold Step;cases hx:x.op<;>rw[hx]at hv this<;>first|exact⟨v,this,rfl⟩|(exact Bool.noConfusion hv)
 rcases ib with ib|⟨_,_,_,hk,_⟩
 · -- a plain store
  unfold UK at hC;split at hC
  ·rename_i T p q iE;simp only[VV,iE,Bool.and_eq_true,Bool.not_eq_true']at hu;unfold Xm at ib;simp only[eS,fq,iE]at ib;unfold qO at ib;rw[Xo hu.1,Xo hu.2]at ib;obtain⟨k1,k2,k3,k4,ib⟩:=ib;split at ib
   ·rename_i t c hl;obtain⟨cells,c1,c2,c3,rfl⟩:=ib;rw[St.Jc]at c1;refine⟨σ.Zy t 0 (.box (place cells c (unc (look P σ T q)).cells)),.inl ?_,?_⟩
    ·unfold Xm qO;simp only[eS,fq,iE];refine⟨k1,k2,k3,k4,?_⟩;rw[hl];exact⟨cells,c1,c2,c3,rfl⟩
    ·rw[xt];exact back _ (fun u=>St.QP _ _ _ _ _)
   ·rename_i t j i c hl;obtain⟨q',size,rows,ds,c1,c2,c3,c4,c5,c6,c7,rfl⟩:=ib;rw[St.Jc]at c1;rw[Px]at c3;refine⟨σ.Zy t j (.arr q' size (rows.set i (place (rows.getD i []) c ds))),.inl ?_,?_⟩
    ·unfold Xm qO;simp only[eS,fq,iE];refine⟨k1,k2,k3,k4,?_⟩;rw[hl];exact⟨q',size,rows,ds,c1,c2,c3,c4,c5,c6,c7,rfl⟩
    ·rw[xt];exact back _ (fun u=>St.QP _ _ _ _ _)
   ·exact ib.elim
  ·cases hC
 ·obtain⟨⟨ee,gW⟩,gR,hbx⟩:=hk hC;rw[St.Jd]at ee;have cG:Mh (σ.get d)=true:=by
   rw[jC]at hO;unfold St.get;rcases hO with e|⟨x',e⟩<;>rw[e]<;>rfl
  have hq:∀l:List (Nat×V),(σ.put d v).Jl ((d,σ.get d)::l)=σ.Jl l:=fun l=>by rw[St.Jl,Nm,kW]
  have h0:=gR [(d,σ.get d)] (fun p hp=>by cases List.mem_singleton.1 hp;exact⟨hu,cG⟩);rw[hq []]at h0;have hlen:d<σ.length:=by
   rw[jC]at hO;rcases hO with e|⟨x',e⟩<;>exact(List.getElem?_eq_some_iff.1 e).1
  have bh:∀u,(σ2.put d (σ.get d)).get u=σ.get u:=fun u=>by
   rw[St.zu];by_cases aL:u=d/\d<σ2.length
   ·rw[if_pos aL,aL.1]
   ·rw[if_neg aL,gW,St.zu];have hud2:¬u=d:=fun e=>aL ⟨e,by rw[ee];exact hlen⟩
    rw[if_neg (fun hh=>hud2 hh.1)]
  refine⟨σ2.put d (σ.get d),.inr ⟨hZ,h0.1,h0.2,fun _=>⟨⟨by rw[St.Jd];exact ee,bh⟩,fun l hl=>?_,fun t cells hb=>by rw[St.Jc];exact hbx t cells (by rw[St.Jc];exact hb)⟩,fun hh=>(by rw[CW hC]at hh;cases hh),fun hh _=>(by rw[B2 hC]at hh;cases hh)⟩,?_⟩
  ·have:=gR ((d,σ.get d)::l) (fun p hp=>by
    rcases List.mem_cons.1 hp with rfl|hp
    ·exact⟨hu,cG⟩
    ·exact hl p hp)
   rw[hq l]at this;exact this
  ·have:=back _ bh;rw[Nm]at this;have e:σ2.put d v=σ2:=by
    have g1:=gW d;rw[St.zu,if_pos ⟨rfl,hlen⟩]at g1;rw[<-g1];exact kW σ2 d
   rw[e]at this;exact this
theorem nQ{x:Oper}(h:BG PT NB bar x y=true)(hp:P3 PT σ)(hnb:G5 NB σ)(fC:x.dst=some d)(hO:Xs σ d=true)(gL:ze P ops bar x σ σ1)(ib:ze P ops bar y σ1 σ2):∃σ1',ze P ops bar y σ σ1'/\Xm P ops x σ1' σ2:=by
 unfold BG at h;simp only[fC,Bool.and_eq_true,Bool.not_eq_true',Option.isNone_iff_eq_none]at h;obtain⟨⟨⟨⟨⟨⟨gX,hZ⟩,cb⟩,hC⟩,eS⟩,fq⟩,h⟩:=h;have gL:=gL.resolve_right (fun hh=>by rw[gX]at hh;cases hh.1)
 split at h
 ·rename_i dx T tp q hdx' iE;cases hdx';simp only[Bool.and_eq_true,Bool.not_eq_true',bne_iff_ne,ne_eq,List.contains_iff_mem]at h;obtain⟨⟨⟨htp,iH⟩,hq⟩,hv⟩:=h;have gE:xh d (.tmp tp)=false:=by simp[xh,iH]
  have hu:VV y d=true:=by simp only[VV,iE,gE,hq];rfl
  unfold Xm at gL;simp only[cb,fC]at gL;have e1:∃v,Yj P σ x.op x.type v/\σ1=σ.put d v:=by
   unfold Step at gL;cases hx:x.op<;>rw[hx]at gL hv<;>first|exact gL|(exact Bool.noConfusion hv)
  obtain⟨v,ff,rfl⟩:=e1;have back:∀σ',(∀u,σ'.get u=σ.get u)->(∀t cells,σ.ob t 0= .box cells->σ'.ob t 0= .box cells)->Xm P ops x σ' (σ'.put d v):=by
   intro σ' hg hbx;unfold Xm;simp only[cb,fC];have:Yj P σ' x.op x.type v:=by
    cases hx:x.op<;>rw[hx]at hv ff<;>try exact Bool.noConfusion hv
    case load T' z=>
     cases z with
     |tmp t=>
      simp only[List.any_eq_true,beq_iff_eq]at hv;obtain⟨p,hpm,eH⟩:=hv;simp only[Yj,GZ hg]at ff⊢;refine⟨ff.1,ff.2.1,?_⟩;have gQ:=ff.2.2
      have eA:=hp p hpm;rw[eH]at eA;rw[qX]at gQ⊢;rcases eA with e|⟨c,e⟩
      ·rw[e]at gQ;exact gQ.elim
      ·rw[e]at gQ⊢;obtain⟨ce,k1,k2⟩:=gQ;exact⟨ce,hbx _ _ k1,k2⟩
     |_=>exact Bool.noConfusion hv
    case fieldAddr T' z f=>
     cases z with
     |tmp t=>
      simp only[List.any_eq_true,beq_iff_eq]at hv;obtain⟨p,hpm,eH⟩:=hv;simp only[Yj,GZ hg]at ff⊢;refine⟨ff.1,ff.2.1,?_⟩;have gQ:=ff.2.2
      have eA:=hp p hpm;rw[eH]at eA;rw[qX]at gQ⊢;rcases eA with e|⟨c,e⟩
      ·rw[e]at gQ;exact gQ.elim
      ·rw[e]at gQ⊢;obtain⟨⟨ce,k1⟩,k2⟩:=gQ;exact⟨⟨ce,hbx _ _ k1⟩,k2⟩
     |_=>exact Bool.noConfusion hv
   unfold Step;cases hx:x.op<;>rw[hx]at hv this<;>first|exact⟨v,this,rfl⟩|(exact Bool.noConfusion hv)
  rcases ib with ib|⟨_,_,_,hk,_⟩
  ·unfold Xm at ib;simp only[eS,fq,iE]at ib;unfold qO at ib;rw[Xo gE,Xo hq]at ib;obtain⟨k1,k2,k3,k4,ib⟩:=ib;split at ib
   ·rename_i t c hl;exact absurd hl (hnb tp htp t c)
   ·rename_i t j i c hl;obtain⟨q',size,rows,ds,c1,c2,c3,c4,c5,c6,c7,rfl⟩:=ib;rw[St.Jc]at c1;rw[Px]at c3;refine⟨σ.Zy t j (.arr q' size (rows.set i (place (rows.getD i []) c ds))),.inl ?_,?_⟩
    ·unfold Xm qO;simp only[eS,fq,iE];refine⟨k1,k2,k3,k4,?_⟩;rw[hl];exact⟨q',size,rows,ds,c1,c2,c3,c4,c5,c6,c7,rfl⟩
    ·rw[xt];refine back _ (fun u=>St.QP _ _ _ _ _) (fun b cells hb=>?_);have dJ:σ.ob t j≠ .none:=by rw[c1];simp
     rw[St.Xx σ t j _ b 0 dJ];split
     ·rename_i hc;rw[hc.1,hc.2]at hb;rw[c1]at hb;cases hb
     ·exact hb
   ·exact ib.elim
  ·obtain⟨⟨ee,gW⟩,gR,hbx⟩:=hk hC;rw[St.Jd]at ee;have cG:Mh (σ.get d)=true:=by
    rw[jC]at hO;unfold St.get;rcases hO with e|⟨x',e⟩<;>rw[e]<;>rfl
   have hqq:∀l:List (Nat×V),(σ.put d v).Jl ((d,σ.get d)::l)=σ.Jl l:=fun l=>by rw[St.Jl,Nm,kW]
   have h0:=gR [(d,σ.get d)] (fun p hp=>by cases List.mem_singleton.1 hp;exact⟨hu,cG⟩);rw[hqq []]at h0;have hlen:d<σ.length:=by
    rw[jC]at hO;rcases hO with e|⟨x',e⟩<;>exact(List.getElem?_eq_some_iff.1 e).1
   have bh:∀u,(σ2.put d (σ.get d)).get u=σ.get u:=fun u=>by
    rw[St.zu];by_cases aL:u=d/\d<σ2.length
    ·rw[if_pos aL,aL.1]
    ·rw[if_neg aL,gW,St.zu];have hud2:¬u=d:=fun e=>aL ⟨e,by rw[ee];exact hlen⟩
     rw[if_neg (fun hh=>hud2 hh.1)]
   have hbx':∀t cells,σ.ob t 0= .box cells->(σ2.put d (σ.get d)).ob t 0= .box cells:=fun t cells hb=>by rw[St.Jc];exact hbx t cells (by rw[St.Jc];exact hb)
   refine⟨σ2.put d (σ.get d),.inr ⟨hZ,h0.1,h0.2,fun _=>⟨⟨by rw[St.Jd];exact ee,bh⟩,fun l hl=>?_,hbx'⟩,fun hh=>(by rw[CW hC]at hh;cases hh),fun hh _=>(by rw[B2 hC]at hh;cases hh)⟩,?_⟩
   ·have:=gR ((d,σ.get d)::l) (fun p hp=>by
     rcases List.mem_cons.1 hp with rfl|hp
     ·exact⟨hu,cG⟩
     ·exact hl p hp)
    rw[hqq l]at this;exact this
   ·have:=back _ bh hbx';rw[Nm]at this;have e:σ2.put d v=σ2:=by
     have g1:=gW d;rw[St.zu,if_pos ⟨rfl,hlen⟩]at g1;rw[<-g1];exact kW σ2 d
    rw[e]at this;exact this
 ·cases h
theorem mf(gW:∀t,t≠d->σ1.get t=σ.get t/\(σ.get t).ref d=false)(fv:∀t j cells,t≠d->σ1.ob t j= .box cells->σ.ob t j= .box cells/\Yi d cells=false)
  (gr:∀t j q s rows,t≠d->σ1.ob t j= .arr q s rows->∃ig,σ.ob t j= .arr q s ig) (hp:P3 PT σ) {op:Op} {ty:TypeId} (cM:wZ PT op=true) (dX:∀z∈op.operands.toList,z≠ .tmp d) (hv:Yj P σ1 op ty v):Yj P σ op ty v/\v.ref d=false:=by
 have hl:∀(z:Operand)(T:TypeId),z≠ .tmp d->look P σ1 T z=look P σ T z:=by
  intro z T hz
  cases z with
  |tmp u=>exact(gW u (fun e=>hz (by rw[e]))).1
  |const c=>rfl
  |global g=>rfl
  |func f=>rfl
 have hr:∀(z:Operand)(T:TypeId),z≠ .tmp d->(look P σ T z).ref d=false:=by
  intro z T hz
  cases z with
  |tmp u=>exact(gW u (fun e=>hz (by rw[e]))).2
  |const c=>exact SJ T c d
  |global g=>rfl
  |func f=>rfl
 have iH:∀(z:Operand)(T:TypeId)(x:At),z≠ .tmp d->unc (look P σ T z)= .one x->x.ref d=false:=by
  intro z T x hz hu
  cases hx:x.ref d with
  |false=>rfl
  |true=>have:=Qj hu hx;rw[hr z T hz]at this;cases this
 refine⟨?_,?_⟩
 ·cases op<;>simp only[wZ]at cM<;>try exact Bool.noConfusion cM
  case move x=>
   simp only[Yj]at hv⊢
   rw[hv,hl x ty (dX x zAa)]
  case load T x=>
   cases x with
   |tmp t=>
    have ht:Operand.tmp t≠ .tmp d:=dX _ zAa
    simp only[List.any_eq_true,beq_iff_eq]at cM
    obtain⟨p,hpm,eH⟩:=cM
    simp only[Yj]at hv⊢
    rw[hl _ 0 ht]at hv
    refine⟨hv.1,hv.2.1,?_⟩
    have gQ:=hv.2.2
    have eA:=hp p hpm
    rw[eH]at eA
    rw[qX]at gQ⊢
    rcases eA with e|⟨c,e⟩
    ·rw[e]at gQ;exact gQ.elim
    ·rw[e]at gQ⊢
     obtain⟨ce,e1,e2⟩:=gQ
     have hb:p.2≠d:=by
      have:=iH (.tmp t) 0 (.bptr p.2 c) ht (by rw[qX];exact e)
      simpa[At.ref]using this
     exact⟨ce,(fv _ _ _ hb e1).1,e2⟩
   |_=>exact Bool.noConfusion cM
  case fieldAddr T x f=>
   cases x with
   |tmp t=>
    have ht:Operand.tmp t≠ .tmp d:=dX _ zAa
    simp only[Yj]at hv⊢
    rw[hl _ 0 ht]at hv
    refine⟨hv.1,hv.2.1,?_⟩
    have gQ:=hv.2.2
    split at gQ
    ·rename_i t' c e
     have hb:t'≠d:=zBK
     obtain⟨⟨ce,e1⟩,e2⟩:=gQ
     first|exact⟨⟨ce,(fv _ _ _ hb e1).1⟩,e2⟩|(simp only[e];exact⟨⟨ce,(fv _ _ _ hb e1).1⟩,e2⟩)
    ·rename_i t' j i c e
     have hb:t'≠d:=zBK
     obtain⟨⟨q,s,rows,e1⟩,e2⟩:=gQ
     obtain⟨ig,e3⟩:=gr _ _ _ _ _ hb e1
     first|exact⟨⟨q,s,ig,e3⟩,e2⟩|(simp only[e];exact⟨⟨q,s,ig,e3⟩,e2⟩)
    ·rename_i rr c e;first|exact gQ|(simp only[e];exact gQ)
    ·rename_i t' j i c k e
     have hb:t'≠d:=zBK
     obtain⟨⟨s,rows,e1⟩,e2⟩:=gQ
     obtain⟨ig,e3⟩:=gr _ _ _ _ _ hb e1
     first|exact⟨⟨s,ig,e3⟩,e2⟩|(simp only[e];exact⟨⟨s,ig,e3⟩,e2⟩)
    ·exact gQ.elim
   |_=>exact Bool.noConfusion cM
  case slice T x lo hi mx=>
   cases x with
   |tmp t=>
    cases mx with
    |some m=>exact Bool.noConfusion cM
    |none=>
     have ht:Operand.tmp t≠ .tmp d:=dX _ zAa
     have bk:∀(df n:Nat)(z:Option Operand),(∀y,z=some y->y≠ .tmp d)->bnd P σ1 df z n->bnd P σ df z n:=by
      intro df n z hz h
      cases z with
      |none=>exact h
      |some z=>simp only[bnd]at h⊢;rw[hl z 0 (hz z rfl)]at h;exact h
     have ek:∀y,lo=some y->y≠ .tmp d:=fun y e=>dX y (by subst e;simp[Op.operands])
     have cg:∀y,hi=some y->y≠ .tmp d:=fun y e=>dX y (by subst e;simp[Op.operands])
     simp only[Yj]at hv⊢
     rw[hl _ 0 ht]at hv
     refine⟨hv.1,?_⟩
     have gQ:=hv.2
     split at gQ
     ·rename_i s e
      obtain⟨h1,l,h,h2,h3,h4⟩:=gQ
      first|exact⟨h1,l,h,bk _ _ _ ek h2,bk _ _ _ cg h3,h4⟩|(simp only[e];exact⟨h1,l,h,bk _ _ _ ek h2,bk _ _ _ cg h3,h4⟩)
     ·rename_i s rows e
      obtain⟨h1,h0,l,h,h2,h3,h4⟩:=gQ
      first|exact⟨h1,h0,l,h,bk _ _ _ ek h2,bk _ _ _ cg h3,h4⟩|(simp only[e];exact⟨h1,h0,l,h,bk _ _ _ ek h2,bk _ _ _ cg h3,h4⟩)
     ·rename_i t' j o len e
      have hb:t'≠d:=zBK
      obtain⟨h1,⟨q,rows,e1⟩,l,h,h2,h3,h4⟩:=gQ
      obtain⟨ig,e3⟩:=gr _ _ _ _ _ hb e1
      first|exact⟨h1,⟨q,ig,e3⟩,l,h,bk _ _ _ ek h2,bk _ _ _ cg h3,h4⟩|(simp only[e];exact⟨h1,⟨q,ig,e3⟩,l,h,bk _ _ _ ek h2,bk _ _ _ cg h3,h4⟩)
     ·exact gQ.elim
   |_=>exact Bool.noConfusion cM
 ·cases hx:v.ref d with
  |false=>rfl
  |true=>
   obtain⟨z,hz,T,h1⟩:=Mk hv hx
   rw[hl z T (dX z hz)]at h1
   rcases h1 with h1|⟨t,cells,h1,h2,h3⟩
   ·rw[hr z T (dX z hz)]at h1;cases h1
   ·by_cases htd:t=d
    ·rw[htd,hr z T (dX z hz)]at h1;cases h1
    ·have:=(fv t 0 cells htd h2).2
     rw[this]at h3;cases h3
theorem nO{x:Oper}(h:C3 PT ops bar x y=true)(hp:P3 PT σ)(fC:x.dst=some d)(hO:Xs σ d=true)(gL:ze P ops bar x σ σ1)(ib:ze P ops bar y σ1 σ2):∃σ1',ze P ops bar y σ σ1'/\ze P ops bar x σ1' σ2:=by
 unfold C3 at h;simp only[Bool.and_eq_true,Bool.not_eq_true',Option.isNone_iff_eq_none]at h;obtain⟨⟨⟨⟨⟨⟨gX,hZ⟩,bN⟩,cb⟩,eS⟩,cM⟩,h⟩:=h;rw[fC]at h;cases fq:y.dst with
 |none=>rw[fq]at h;cases h
 |some dy=>
  rw[fq]at h;simp only[Bool.and_eq_true,Bool.not_eq_true',bne_iff_ne,ne_eq]at h;obtain⟨⟨iH,dA⟩,bQ⟩:=h;have hxy':=Vs dA
  have hyx':=Vs bQ;have ib:=ib.resolve_right (fun hh=>by rw[hZ]at hh;cases hh.1);rcases gL with gL|⟨_,hss,hck,_,hba,_⟩
  ·have gP:UG y=false:=by
    unfold UG;cases iE:y.op<;>rw[iE]at cM<;>first|rfl|(exact Bool.noConfusion cM)
   obtain⟨σ1',hy,hx⟩:=swap fC fq iH hxy' hyx' gP (.inl eS) hO gL ib;exact⟨σ1',.inl hy,.inl hx⟩
  ·obtain⟨d',ic,hlen,gW,fv,gr,gR⟩:=hba bN;rw[fC]at ic;cases ic;have e2:∃v,Yj P σ1 y.op y.type v/\σ2=σ1.put dy v:=by
    unfold Xm at ib;simp only[eS,fq]at ib;unfold Step at ib;cases iE:y.op<;>rw[iE]at ib cM<;>first|exact ib|(exact Bool.noConfusion cM)
   obtain⟨v,hv,rfl⟩:=e2;obtain⟨aa,bE⟩:=mf gW fv gr hp cM (fun z hz=>hxy' z (by simp only[xR,List.mem_append];exact .inl hz)) hv;have hun:P9 x dy=true:=by
    simp only[P9,Bool.not_eq_true'];refine List.any_eq_false.2 (fun z hz=>?_);have:=hyx' z (by simp only[xR,List.mem_append];exact .inl hz)
    cases z<;>simp[xh]at this⊢;exact this
   have iz:∀p∈[(dy,v)],p.1≠d/\P9 x p.1=true/\p.2.ref d=false:=fun p hp=>by
    cases List.mem_singleton.1 hp;exact⟨fun e=>iH e.symm,hun,bE⟩
   have h0:=gR [(dy,v)] iz;refine⟨σ.put dy v,.inl ?_,.inr ⟨gX,h0.1,h0.2,fun hh=>(by rw[CW hh]at bN;cases bN),fun _=>⟨d,fC,by rw[St.Jd,St.Jd];exact hlen,fun t ht=>?_,fun t j cells ht hb=>?_,fun t j q s rows ht hb=>?_,fun l hl=>?_⟩,fun hh _=>(by rw[sk bN]at hh;cases hh)⟩⟩
   ·unfold Xm;simp only[eS,fq];unfold Step;cases iE:y.op<;>rw[iE]at aa cM<;>first|exact⟨v,aa,rfl⟩|(exact Bool.noConfusion cM)
   ·have h1:=gW t ht;rw[St.zu,St.zu,hlen];by_cases hc:t=dy/\dy<σ.length
    ·simp only[if_pos hc];exact⟨trivial,bE⟩
    ·simp only[if_neg hc];exact h1
   ·rw[St.Jc]at hb⊢;exact fv t j cells ht hb
   ·rw[St.Jc]at hb⊢;exact gr t j q s rows ht hb
   ·exact gR ((dy,v)::l) (fun p hp=>by
     rcases List.mem_cons.1 hp with rfl|hp
     ·exact iz _ zAE
     ·exact hl p hp)
theorem uE(hn:σ.ob t j≠ .none):σ.Zy t j (σ.ob t j)=σ:=by
 apply List.ext_getElem?;intro u;rw[JQ];by_cases hu:u=t
 ·subst hu;obtain⟨e,he,ho⟩:=RY (σ:=σ) (t:=u) (j:=j) rfl hn;rw[if_pos rfl,he,Option.map_some];have:e.2.set j (σ.ob u j)=e.2:=by
   rw[<-ho];apply List.ext_getElem?;intro k;rw[List.getElem?_set];by_cases hk:j=k
   ·subst hk;rw[if_pos rfl];split
    ·rename_i iQ;unfold Yt;rw[List.getElem?_eq_getElem iQ]
    ·rename_i iQ;exact(List.getElem?_eq_none zAA).symm
   ·rw[if_neg hk]
  rw[this]
 ·rw[if_neg hu]
theorem Bd(σ:St)(t j:Nat)(o o':Ob):(σ.Zy t j o).Zy t j o'=σ.Zy t j o':=by
 apply List.ext_getElem?;intro u;rw[JQ,JQ,JQ];by_cases hu:u=t
 ·simp only[if_pos hu];cases σ[u]?<;>simp
 ·simp only[if_neg hu]
section
variable{cells:List At}{os:Option (List Ob)}
theorem Pf:(y9 t d cs v os σ).length=σ.length:=by
 cases os<;>simp[y9,St.Jd,St.WO,St.Xf]
theorem Cr(h:u≠d):(y9 t d cs v os σ).get u=σ.get u:=by
 cases os<;>simp[y9,St.zu,St.VZ,St.QP,h]
theorem nU(hb:σ.ob t 0= .box cells)(hu:os≠none->u≠d):(y9 t d cs v os σ).ob u j=if u=t/\j=0 then .box cs else σ.ob u j:=by
 have hn:σ.ob t 0≠ .none:=by rw[hb];simp
 cases os with
 |none=>simp only[y9,St.Jc];exact St.Xx σ t 0 _ u j hn
 |some l=>
  have:=hu zAE;simp only[y9,St.Jv,this,false_and,if_false];exact St.Xx σ t 0 _ u j hn
theorem Mv:(y9 t d cs v os σ)[u]?=if u=d then(σ[u]?).map (fun e=>(v,match os with|some l=>l|none=>if u=t then e.2.set 0 (.box cs)else e.2))else if u=t then(σ[u]?).map (fun e=>(e.1,e.2.set 0 (.box cs)))else σ[u]?:=by
 cases os<;>simp only[y9,kR,xW,JQ]<;>by_cases h1:u=d<;>by_cases h2:u=t<;>simp[h1,h2]<;>(try subst h1)<;>(try subst h2)<;>(try simp_all)<;>(first|(cases σ[u]?<;>rfl)|(cases σ[t]?<;>rfl)|(cases σ[d]?<;>rfl))
theorem FE(gP:∀a j w l,e≠ .drop a j w l)(h1:dx≠d)(h2:(∀w,e≠ .put w)->t≠dx):e.ap dx (y9 t d cs v os σ)=y9 t d cs v os (e.ap dx σ):=by
 apply List.ext_getElem?;intro u;rw[Mv];cases e with
 |put w=>
  simp only[Eff.ap,kR,Mv];by_cases e1:u=dx
  ·subst e1;simp only[if_true,if_neg h1];by_cases e2:u=t<;>simp[e2]<;>(first|(cases σ[u]?<;>rfl)|(cases σ[t]?<;>rfl)|rfl)
  ·simp only[if_neg e1]
 |new w l=>
  have h3:=h2 (by intro w h;cases h);simp only[Eff.ap,xW,Mv];by_cases e1:u=dx
  ·subst e1;simp only[if_true,if_neg h1,if_neg (Ne.symm h3)]
  ·simp only[if_neg e1]
 |drop a j w l=>exact absurd rfl (gP a j w l)
theorem uG(h:σ.fresh u=true)(fX:Yi u cs=false)(hv:v.ref u=false/\∀l,os=some l->XG u l=false):(y9 t d cs v os σ).fresh u=true:=by
 have hf:=Q7.1 h;refine Q7.2 ⟨by rw[Pf];exact hf.1,fun k e he hk=>?_⟩;rw[Mv]at he;have hset:∀os0,XG u os0=false->XG u (os0.set 0 (.box cs))=false:=by
  intro os0 h0;cases os0 with
  |nil=>exact h0
  |cons o os0=>
   simp only[List.set_cons_zero];cases o<;>simp_all[XG]
 by_cases h1:k=d
 ·rw[if_pos h1]at he;simp only[Option.map_eq_some_iff]at he;obtain⟨e0,dY,rfl⟩:=he;refine⟨hv.1,?_⟩;cases os with
  |some l=>exact hv.2 l rfl
  |none=>
   have:=(hf.2 k e0 dY hk).2;simp only;split
   ·exact hset _ this
   ·exact this
 ·rw[if_neg h1]at he;split at he
  ·simp only[Option.map_eq_some_iff]at he;obtain⟨e0,dY,rfl⟩:=he;exact⟨(hf.2 k e0 dY hk).1,hset _ (hf.2 k e0 dY hk).2⟩
  ·exact hf.2 k e he hk
theorem BL(hb:σ.ob t 0= .box cells)(h:(y9 t d cs v os σ).fresh u=true)(hO:Xs σ d=true)(hce:Yi u cells=false):σ.fresh u=true:=by
 have hf:=Q7.1 h;refine Q7.2 ⟨by rw[<-Pf (σ:=σ)];exact hf.1,fun k e he hk=>?_⟩;by_cases h1:k=d
 ·rw[h1]at he;exact LN hO he u
 ·by_cases h2:k=t
  ·have:=hf.2 k (e.1,e.2.set 0 (.box cs)) (by rw[Mv,if_neg h1,if_pos h2,he];rfl) hk;refine⟨this.1,?_⟩;have h3:=this.2;rw[h2]at he;rw[Hp he]at hb;cases hos:e.2 with
   |nil=>rfl
   |cons o os0=>
    rw[hos]at hb h3;have hb:o= .box cells:=hb
    subst hb;simp only[List.set_cons_zero,XG,Bool.or_eq_false_iff]at h3⊢;exact⟨hce,h3.2⟩
  ·exact hf.2 k e (by rw[Mv,if_neg h1,if_neg h2];exact he) hk
theorem BM{x:Oper}(hg:x.guard=none)(fC:x.dst=some dx)(iH:dx≠d)(hxd:∀z∈xR ops x,z≠ .tmp d)(hb:σ.ob t 0= .box cells)(gG:os≠none->(σ.Zy t 0 (.box cs)).fresh d=true)
  (eH:P3 PT σ) (fv:∀b,CV PT y=some b->b=t) (gH:LM PT y x=true) (hA:A=σ\/A=y9 t d cs v os σ) (hs:Xm P ops x A σ2):
  ∃e:Eff,σ2=e.ap dx A/\(∀a j w l,e≠ .drop a j w l)/\e.ok dx A/\∀B,(B=σ\/B=y9 t d cs v os σ)->e.ok dx B->Xm P ops x B (e.ap dx B)/\∀u,u≠dx->e.ref u=true->N3 P (xR ops x) B u:=by
 have iE:xR ops x=x.op.operands.toList:=by simp[xR,hg]
 simp only[LM,Bool.or_eq_true,Bool.and_eq_true,Bool.not_eq_true']at gH
 have hlenA:A.length=σ.length:=by rcases hA with rfl|rfl<;>simp[Pf]
 rcases gH with⟨hc,gP⟩|hf
 ·obtain⟨e,rfl,iz,hdr,_,aJ,hfrm⟩:=WQ fC hs
  refine⟨e,rfl,(fun a j w l h=>by have:=(hdr a j w l h).1;rw[gP]at this;cases this),iz,fun B hB hokB=>?_⟩
  have hlenB:B.length=σ.length:=by rcases hB with rfl|rfl<;>simp[Pf]
  have hk:∀z∈xR ops x,∃c,z= .const c:=by
   intro z hz
   rw[iE]at hz
   have:=List.all_eq_true.1 hc z hz
   cases z<;>first|exact⟨_,rfl⟩|cases this
  have hP:Sub P (xR ops x) A B:=⟨by rw[hlenA,hlenB],fun z hz ty=>by obtain⟨c,rfl⟩:=hk z hz;rfl,fun z hz ty u hr=>by obtain⟨c,rfl⟩:=hk z hz;have h0:=SJ (P:=P) ty c u;simp only[look]at hr;rw[h0]at hr;cases hr⟩
  have dm:∀u,¬N3 P (xR ops x) A u:=by
   rintro u ⟨z,hz,ty,h|⟨_,_,h,_,_⟩⟩<;>(obtain⟨c,rfl⟩:=hk z hz;have h0:=SJ (P:=P) ty c;simp only[look]at h;rw[h0]at h;cases h)
  exact⟨hfrm B hP hokB,fun u hu hr=>absurd (aJ hg u hu hr) (dm u)⟩
 ·split at hf
  ·rename_i b hcb
   have hbt:=fv b hcb
   subst hbt
   have hsA:Step P x dx A σ2:=by unfold Xm at hs;simp only[hg,fC]at hs;exact hs
   obtain⟨w,hw,rfl⟩:=(Pu rfl hf).1 hsA
   refine⟨.put w,rfl,(fun a j w' l h=>by cases h),trivial,fun B hB _=>?_⟩
   have hloo:∀z∈x.op.operands.toList,∀ty,look P (y9 b d cs v os σ) ty z=look P (σ.Zy b 0 (.box cs)) ty z:=fun z hz ty=>by
    rw[yO];exact look_eq (fun u hu=>Cr hu) (hxd z (by rw[iE];exact hz)) ty
   have dm:os≠none->∀z∈x.op.operands.toList,∀ty,(look P (σ.Zy b 0 (.box cs)) ty z).ref d=false:=fun hn z hz ty=>
    yM (fun t' e he ht'=>((Q7.1 (gG hn)).2 t' e he ht').1) (hxd z (by rw[iE];exact hz)) ty
   have hobe:∀u,(os≠none->u≠d)->∀j,(y9 b d cs v os σ).ob u j=(σ.Zy b 0 (.box cs)).ob u j:=fun u hu j=>by
    rw[nU hb hu,St.Xx _ _ _ _ _ _ (by rw[hb];simp)]
   have fw:Yj P (σ.Zy b 0 (.box cs)) x.op x.type w->Yj P (y9 b d cs v os σ) x.op x.type w:=fun hv=>Wo hv
    ⟨by rw[Pf,St.Xf],fun z hz ty=>(hloo z hz ty).symm,fun z hz ty u hr j _=>hobe u (fun hn e=>by subst e;rw[dm hn z hz ty]at hr;cases hr) j⟩
   have bw:Yj P (y9 b d cs v os σ) x.op x.type w->Yj P (σ.Zy b 0 (.box cs)) x.op x.type w:=fun hv=>Wo hv
    ⟨by rw[Pf,St.Xf],fun z hz ty=>hloo z hz ty,fun z hz ty u hr j _=>(hobe u (fun hn e=>by subst e;rw[hloo z hz ty,dm hn z hz ty]at hr;cases hr) j).symm⟩
   have hpt2:P3 PT (σ.Zy b 0 (.box cs)):=fun p hp=>by rw[St.QP];exact eH p hp
   have hZ:(σ.Zy b 0 (.box cs)).ob b 0= .box cs:=by rw[St.Xx _ _ _ _ _ _ (by rw[hb];simp),if_pos ⟨rfl,rfl⟩]
   have dN:(σ.Zy b 0 (.box cs)).Zy b 0 (.box cells)=σ:=by rw[Bd,<-hb];exact uE (by rw[hb];simp)
   have hσ:Yj P σ x.op x.type w:=by
    rcases hA with rfl|rfl
    ·exact hw
    ·have:=wM (cs:=cells) hf hpt2 hZ (bw hw)
     rw[dN]at this;exact this
   have hB':Yj P B x.op x.type w:=by
    rcases hB with rfl|rfl
    ·exact hσ
    ·exact fw (wM hf eH hb hσ)
   refine⟨?_,fun u hu hr=>?_⟩
   ·unfold Xm;simp only[hg,fC];exact(Pu rfl hf).2 ⟨w,hB',rfl⟩
   ·rw[iE];exact Mk hB' hr
  ·cases hf
end
theorem MR(h:KV P o=true):UK o=false/\kr o=false:=by
 unfold KV at h;split at h
 ·rename_i iE;simp[UK,kr,iE]
 ·cases h
theorem vd(eH:P3 PT σ)(h:∃z r,(∃f ts,y.op= .call ⟨.value (.func f),⟨z::r⟩,ts⟩)/\∃ty,unc (look P σ ty z)= .one (.bptr t 0)):∀b,CV PT y=some b->b=t:=by
 obtain⟨z,r,⟨f,ts,iE⟩,ty,hz⟩:=h;intro b hb;unfold CV at hb;rw[iE]at hb;cases z with
 |tmp k=>
  simp only[Option.map_eq_some_iff]at hb;obtain⟨p,hp,rfl⟩:=hb;have hk:p.1=k:=by simpa using List.find?_some hp
  have hm:=List.mem_of_find?_eq_some hp;rw[qX]at hz;rcases eH p hm with e|⟨c,e⟩<;>rw[hk]at e<;>rw[e]at hz<;>simp[unc]at hz;exact hz.1
 |_=>cases hb
theorem wA(h:KV P o=true):UG o=false:=by
 unfold KV at h;split at h
 ·rename_i iE;simp[UG,iE]
 ·cases h
theorem L2{x:Oper}(h:LM PT y x=true):UG x=false:=by
 simp only[LM,Bool.or_eq_true,Bool.and_eq_true,Bool.not_eq_true']at h;rcases h with⟨_,h⟩|h
 ·exact h
 ·split at h
  ·rename_i b _;have key:∀op,Ry PT b op=true->(match op with|.call ⟨.builtin .append,⟨.const _::_⟩,_⟩=>false|.call ⟨.builtin .append,_,_⟩=>true|_=>false)=false:=by
    intro op h;unfold Ry at h;split at h<;>first|rfl|(exact Bool.noConfusion h)
   exact key _ h
  ·cases h
theorem o0{x:Oper}(h:BT P PT ops bar x y=true)(hp:P3 PT σ)(hp1:P3 PT σ1)(fC:x.dst=some d)(hO:Xs σ d=true)(gL:ze P ops bar x σ σ1)(ib:ze P ops bar y σ1 σ2):∃σ1',ze P ops bar y σ σ1'/\ze P ops bar x σ1' σ2:=by
 unfold BT at h;simp only[fC,Bool.and_eq_true,Option.isNone_iff_eq_none]at h;obtain⟨⟨⟨⟨cb,eS⟩,ho1⟩,fp⟩,h⟩:=h;cases fq:y.dst with
 |none=>rw[fq]at h;cases h
 |some dy=>
  rw[fq]at h;simp only[Bool.and_eq_true,Bool.or_eq_true,Bool.not_eq_true',bne_iff_ne,ne_eq]at h;obtain⟨⟨⟨iH,dA⟩,bQ⟩,h⟩:=h;have dA:=Vs dA
  have bQ:=Vs bQ;have bT:xR ops y=y.op.operands.toList:=by simp[xR,eS]
  have bU:xR ops x=x.op.operands.toList:=by simp[xR,cb]
  have hclo:∀j,σ.ob d j= .none:=fun j=>by
   rw[jC]at hO;unfold St.ob;rcases hO with e|⟨_,e⟩<;>rw[e]<;>simp[Yt]
  rcases h with⟨⟨⟨gX,hZ⟩,dM⟩,gH⟩|⟨⟨⟨gX,dM⟩,hZ⟩,gH⟩
  ·have gL:=gL.resolve_right (fun hh=>by rw[gX]at hh;cases hh.1);rcases ib with ib|⟨_,_,_,_,_,hbc⟩
   ·obtain⟨σ1',hy,hx⟩:=swap fC fq iH dA bQ (wA dM) (.inl eS) hO gL ib;exact⟨σ1',.inl hy,.inl hx⟩
   ·obtain⟨d',t,cells,cs,v,os,ic,hb,hz,eQ,bE,gG,rfl,gR⟩:=hbc dM fp;rw[fq]at ic;cases ic;obtain⟨ex,rfl,cN,cr,_⟩:=WQ fC gL;have hnd0:∀a j w l,ex≠ .drop a j w l:=fun a j w l hh=>by have:=(cr a j w l hh).1;rw[L2 gH]at this;cases this
    have cL:∀z∈xR ops y,∀ty,look P (ex.ap d σ) ty z=look P σ ty z:=fun z hz ty=>look_eq (fun u hu=>M9 ex hu) (dA z hz) ty;have hnr:∀z∈xR ops y,∀ty u,(look P (ex.ap d σ) ty z).ref u=true->(∀w,ex≠ .put w)->u≠d:=fun z hz ty u hr fS e=>by
     rw[e,cL z hz,yM (kh cN fS) (dA z hz)]at hr;cases hr
    have cE:=hz;obtain⟨z,r,⟨f,ts,iE⟩,ty,hzt⟩:=hz;have hzm:z∈xR ops y:=by rw[bT,iE];exact yN (c:=⟨.value (.func f),⟨z::r⟩,ts⟩) zAE
    have htd':(∀w,ex≠ .put w)->t≠d:=hnr z hzm ty t (Qj hzt zAy);have hbσ:σ.ob t 0= .box cells:=by rw[v5 cN htd' (by rw[hb];simp),hb]
    have htd:t≠d:=fun e=>by rw[e,hclo]at hbσ;cases hbσ
    have hfrσ:os≠none->(σ.Zy t 0 (.box cs)).fresh dy=true:=fun hn=>by
     have hf:=Q7.1 (gG hn);refine Q7.2 ⟨by have:=hf.1;rw[St.Xf]at this⊢;rwa[yv]at this,fun k e he hk=>?_⟩;by_cases hkd:k=d
     ·rw[hkd,JQ,if_neg htd.symm]at he;rw[hkd]at*;exact LN hO he dy
     ·refine hf.2 k e ?_ hk;rw[JQ]at he⊢;have:(ex.ap d σ)[k]?=σ[k]?:=by
       cases ex with
       |put w=>simp only[Eff.ap,kR,if_neg hkd]
       |new w l=>simp only[Eff.ap,xW,if_neg hkd]
       |drop a j w l=>exact absurd rfl (hnd0 a j w l)
      rw[this];exact he
    obtain⟨e,heq,gP,iz,hB⟩:=BM (v:=v) cb fC iH bQ hbσ hfrσ hp (vd hp1 cE) gH (.inl rfl) gL;rw[heq]at hb cE gG gR cL hnr⊢;have gd:∀z∈xR ops y,∀ty u,(look P (e.ap d σ) ty z).ref u=true->∀j,(e.ap d σ).ob u j≠ .none->σ.ob u j=(e.ap d σ).ob u j:=fun z hz ty u hr j hn=>
     v5 iz (fun fS hu=>by rw[hu,cL z hz,yM (kh iz fS) (dA z hz)]at hr;cases hr) hn
    have h0:=gR σ (yv e) (fun z hz ty=>cL z zBx ty) (fun z hz ty u hr j hn=>gd z zBx ty u hr j hn) hfrσ;refine⟨y9 t dy cs v os σ,.inr ⟨hZ,h0.1,h0.2,fun hh=>(by rw[(MR dM).1]at hh;cases hh),fun hh=>(by rw[(MR dM).2]at hh;cases hh),fun _ _=>?_⟩,.inl ?_⟩
    ·refine⟨dy,t,cells,cs,v,os,fq,hbσ,⟨z,r,⟨f,ts,iE⟩,ty,by rw[<-cL z hzm,<-heq];exact hzt⟩,eQ,bE,hfrσ,rfl,fun σ3 hl3 hlk3 hob3 hf3=>?_⟩;refine gR σ3 (by rw[yv];exact hl3) (fun z hz ty=>by rw[cL z zBx,hlk3 z hz]) (fun z hz ty u hr j hn=>?_) hf3;have h1:=gd z zBx ty u hr j hn
     rw[<-h1];exact hob3 z hz ty u (by rw[<-cL z zBx];exact hr) j (by rw[h1];exact hn)
    ·rw[<-FE gP iH (fun _=>htd)];refine(hB _ (.inr rfl) ?_).1;cases e with
     |put w=>trivial
     |new w l=>exact uG iz (eQ d).2 (bE d (.inr iH))
     |drop a j w l=>exact absurd rfl (gP a j w l)
  ·have ib:=ib.resolve_right (fun hh=>by rw[hZ]at hh;cases hh.1);rcases gL with gL|⟨_,_,_,_,_,hbc⟩
   ·obtain⟨σ1',hy,hx⟩:=swap fC fq iH dA bQ (L2 gH) (.inl eS) hO gL ib;exact⟨σ1',.inl hy,.inl hx⟩
   ·obtain⟨d',t,cells,cs,v,os,ic,hb,hz,eQ,bE,gG,rfl,gR⟩:=hbc dM ho1;rw[fC]at ic;cases ic;have cE:=hz
    obtain⟨z,r,⟨f,ts,iE⟩,ty,hzt⟩:=hz;have hzm:z∈xR ops x:=by rw[bU,iE];exact yN (c:=⟨.value (.func f),⟨z::r⟩,ts⟩) zAE
    obtain⟨e,rfl,gP,iz,hB⟩:=BM eS fq (Ne.symm iH) dA hb gG hp (vd hp cE) gH (.inr rfl) ib;have hokσ:e.ok dy σ:=by
     cases e with
     |put w=>trivial
     |new w l=>exact BL hb iz hO (eQ dy).1
     |drop a j w l=>exact absurd rfl (gP a j w l)
    have cL:∀z∈xR ops x,∀ty,look P (e.ap dy σ) ty z=look P σ ty z:=fun z hz ty=>look_eq (fun u hu=>M9 e hu) (bQ z hz) ty;have hnr:∀z∈xR ops x,∀ty u,(look P σ ty z).ref u=true->(∀w,e≠ .put w)->u≠dy:=fun z hz ty u hr fS he=>by
     rw[he,yM (kh hokσ fS) (bQ z hz)]at hr;cases hr
    have fu:(∀w,e≠ .put w)->t≠dy:=hnr z hzm ty t (Qj hzt zAy);have iu:∀z∈xR ops x,∀ty u,(look P σ ty z).ref u=true->∀j,(e.ap dy σ).ob u j=σ.ob u j:=fun z hz ty u hr j=>Nw gP (hnr z hz ty u hr);have du:=hB σ (.inl rfl) hokσ;have hfr':os≠none->((e.ap dy σ).Zy t 0 (.box cs)).fresh d=true:=fun hn=>by
     have hf:=Q7.1 (gG hn);have her:e.ref d=false:=by
      cases hr:e.ref d with
      |false=>rfl
      |true=>
       obtain⟨z',eD,ty',h1|⟨t',iW,h1,h2,h3⟩⟩:=du.2 d iH hr
       ·rw[<-yO (t:=t) (j:=0) (o:=.box cs),yM (fun k e0 he hk=>(hf.2 k e0 he hk).1) (dA z' eD)]at h1;cases h1
       ·by_cases htt:t'=t
        ·subst htt;rw[hb]at h2;cases h2;rw[(eQ d).1]at h3;cases h3
        ·have htd:t'≠d:=fun e0=>by rw[e0,hclo]at h2;cases h2
         obtain⟨en,hen,hoe⟩:=RY h2 zAE;have:=(hf.2 t' en (by rw[JQ,if_neg htt];exact hen) htd).2
         rw[Oq hoe h3]at this;cases this
     refine Q7.2 ⟨by have:=hf.1;rw[St.Xf]at this⊢;rwa[yv],fun k en he hk=>?_⟩;cases e with
     |put w=>
      simp only[Eff.ap,xt,kR]at he;split at he
      ·simp only[Option.map_eq_some_iff]at he;obtain⟨e0,dY,rfl⟩:=he;exact⟨her,(hf.2 k e0 dY hk).2⟩
      ·exact hf.2 k en he hk
     |new w l=>
      have ht:=fu (by intro w h;cases h);simp only[Eff.ap,JQ,xW]at he;by_cases hkt:k=t
      ·subst hkt;simp only[if_true,if_neg ht]at he;exact hf.2 k en (by rw[JQ,if_pos rfl];exact he) hk
      ·simp only[if_neg hkt]at he;split at he
       ·simp only[Option.map_eq_some_iff]at he;obtain⟨e0,dY,rfl⟩:=he;simp only[Eff.ref,Bool.or_eq_false_iff]at her;exact her
       ·exact hf.2 k en (by rw[JQ,if_neg hkt];exact he) hk
     |drop a j w l=>exact absurd rfl (gP a j w l)
    have h0:=gR (e.ap dy σ) (yv e).symm (fun z hz ty=>(cL z zBy ty).symm) (fun z hz ty u hr j _=>iu z zBy ty u hr j) hfr';have hcomm:e.ap dy (y9 t d cs v os σ)=y9 t d cs v os (e.ap dy σ):=by
     cases e with
     |put w=>exact FE gP (Ne.symm iH) (fun hh=>absurd rfl (hh w))
     |new w l=>exact FE gP (Ne.symm iH) fu
     |drop a j w l=>exact absurd rfl (gP a j w l)
    refine⟨e.ap dy σ,.inl du.1,.inr ?_⟩;rw[hcomm];refine⟨gX,h0.1,h0.2,fun hh=>(by rw[(MR dM).1]at hh;cases hh),fun hh=>(by rw[(MR dM).2]at hh;cases hh),fun _ _=>?_⟩;refine⟨d,t,cells,cs,v,os,fC,?_,⟨z,r,⟨f,ts,iE⟩,ty,by rw[cL z hzm];exact hzt⟩,eQ,bE,hfr',rfl,fun σ3 hl3 hlk3 hob3 hf3=>?_⟩
    ·rw[iu z hzm ty t (Qj hzt zAy) 0];exact hb
    ·refine gR σ3 (by rw[<-hl3,yv]) (fun z hz ty=>by rw[<-hlk3 z hz,cL z zBy]) (fun z hz ty u hr j hn=>?_) hf3;have h1:=iu z zBy ty u hr j
     rw[<-h1];exact hob3 z hz ty u (by rw[cL z zBy];exact hr) j (by rw[h1];exact hn)
theorem rM(h:ptB PT σ=true):P3 PT σ:=by
 intro p hp;have:=List.all_eq_true.1 h p hp
 split at this
 ·rename_i e;exact .inl e
 ·split at this
  ·rename_i b c e;have hb:b=p.2:=by simpa using this
   subst hb;exact .inr ⟨c,e⟩
  ·cases this
def wW(P:Program)(ops:Array Oper)(bar:Oper->Bool):List Nat->St->(St->Prop)->Prop
 |[],σ,Q=>Q σ
 |i::rem,σ,Q=>∃o σ',ops[i]?=some o/\ze P ops bar o σ σ'/\wW P ops bar rem σ' Q
theorem Hq(hs:Xm P ops o σ σ')(hd:o.dst≠some d)(h:Xs σ d=true):Xs σ' d=true:=by
 cases hdo:o.dst with
 |some d'=>
  have iH:d≠d':=fun e=>hd (by rw[hdo,e]);obtain⟨e,rfl,_⟩:=WQ hdo hs;cases e with
  |put v=>unfold Xs at*;simp only[Eff.ap,kR,if_neg iH];exact h
  |new v os=>unfold Xs at*;simp only[Eff.ap,xW,if_neg iH];exact h
  |drop a j v os=>
   have:=Qs (a:=a) (j:=j) (o:=.none) h;unfold Xs at*;simp only[Eff.ap,xW,if_neg iH];exact this
 |none=>
  unfold Xm at hs;split at hs
  ·simp only[hdo]at hs;split at hs
   ·unfold qO at hs;obtain⟨_,_,_,_,hs⟩:=hs;split at hs
    ·obtain⟨_,_,_,_,rfl⟩:=hs;exact Qs h
    ·obtain⟨_,_,_,_,_,_,_,_,_,_,_,rfl⟩:=hs;exact Qs h
    ·exact hs.elim
   ·exact hs.elim
  ·obtain⟨_,_,_,_,_,_,ic,_⟩:=hs;rw[hdo]at ic;cases ic
theorem vu(hpc:Ny ops PT=true)(hi:ops[i]?=some o)(hs:Xm P ops o σ σ')(h:P3 PT σ):P3 PT σ':=by
 have hc:=List.all_eq_true.1 hpc o (by rw[Array.mem_toList_iff];exact Array.mem_of_getElem? hi);cases hdo:o.dst with
 |none=>
  have:∃t j ob,σ'=σ.Zy t j ob:=by
   unfold Xm at hs;split at hs
   ·simp only[hdo]at hs;split at hs
    ·unfold qO at hs;obtain⟨_,_,_,_,hs⟩:=hs;split at hs
     ·obtain⟨_,_,_,_,rfl⟩:=hs;exact⟨_,_,_,rfl⟩
     ·obtain⟨_,_,_,_,_,_,_,_,_,_,_,rfl⟩:=hs;exact⟨_,_,_,rfl⟩
     ·exact hs.elim
    ·exact hs.elim
   ·obtain⟨_,_,_,_,_,_,ic,_⟩:=hs;rw[hdo]at ic;cases ic
  obtain⟨t,j,ob,rfl⟩:=this;intro p hp;rw[St.QP];exact h p hp
 |some d=>
  intro p hp;rw[hdo]at hc;have hc:=List.all_eq_true.1 hc p hp
  by_cases bK:p.1=d
  ·simp only[bK,bne_self_eq_false,Bool.false_or,Bool.and_eq_true,Option.isNone_iff_eq_none]at hc;obtain⟨hg,hc⟩:=hc;split at hc
   ·rename_i T r f iE;have hr:=h (r,p.2) zBH
    unfold Xm at hs;simp only[hg,hdo]at hs;unfold Step at hs;rw[iE]at hs;obtain⟨v,hv,rfl⟩:=hs;simp only[Yj]at hv;have hv:=hv.2.2
    rw[qX]at hv;rcases hr with e|⟨c,e⟩
    ·rw[e]at hv;exact hv.elim
    ·rw[e]at hv;rw[St.zu,bK];by_cases hl:d<σ.length
     ·rw[if_pos ⟨rfl,hl⟩];exact .inr ⟨_,by rw[hv.2];rfl⟩
     ·rw[if_neg (fun hh=>hl hh.2)];have:=h p hp;rw[bK]at this;exact this
   ·rename_i r iE;have hr:=h (r,p.2) zBH
    unfold Xm at hs;simp only[hg,hdo]at hs;unfold Step at hs;rw[iE]at hs;obtain⟨v,hv,rfl⟩:=hs;simp only[Yj]at hv;rw[qX]at hv;rw[St.zu,bK];by_cases hl:d<σ.length
    ·rw[if_pos ⟨rfl,hl⟩,hv];exact hr
    ·rw[if_neg (fun hh=>hl hh.2)];have:=h p hp;rw[bK]at this;exact this
   ·cases hc
  ·obtain⟨e,rfl,_⟩:=WQ hdo hs;have hg:∀σ0:St,σ0.get p.1=σ.get p.1->(σ0.get p.1= .any\/∃c,unc (σ0.get p.1)= .one (.bptr p.2 c)):=fun σ0 e=>by rw[e];exact h p hp
   cases e with
   |put v=>exact hg _ (by simp only[Eff.ap];rw[St.zu,if_neg (fun hh=>bK hh.1)])
   |new v os=>exact hg _ (by simp only[Eff.ap];rw[St.VZ,if_neg (fun hh=>bK hh.1)])
   |drop a j v os=>exact hg _ (by simp only[Eff.ap];rw[St.VZ,if_neg (fun hh=>bK hh.1),St.QP])
theorem HX:Ft [] [] σ:=⟨fun _ hp=>absurd hp List.not_mem_nil,fun _ hp=>absurd hp List.not_mem_nil⟩
theorem tz(h:G5 NB σ)(hd:d∈NB->∀b c,unc v≠ .one (.bptr b c)):G5 NB (σ.put d v):=by
 intro t ht b c;rw[St.zu];split
 ·rename_i hc;exact hd (hc.1▸ht) b c
 ·exact h t ht b c
theorem rP(h:G5 NB σ)(hd:d∉NB):G5 NB (σ.new d v os):=by
 intro t ht b c;have iH:¬(t=d/\d<σ.length):=fun hc=>hd (by rw[<-hc.1];exact ht)
 rw[St.VZ,if_neg iH];exact h t ht b c
theorem pe(fc:H6 P ops NB=true)(hi:ops[i]?=some o)(hs:Xm P ops o σ σ')(h:G5 NB σ):G5 NB σ':=by
 have hc:=List.all_eq_true.1 fc o (by rw[Array.mem_toList_iff];exact Array.mem_of_getElem? hi);cases hdo:o.dst with
 |none=>
  have:∃t j ob,σ'=σ.Zy t j ob:=by
   unfold Xm at hs;split at hs
   ·simp only[hdo]at hs;split at hs
    ·unfold qO at hs;obtain⟨_,_,_,_,hs⟩:=hs;split at hs
     ·obtain⟨_,_,_,_,rfl⟩:=hs;exact⟨_,_,_,rfl⟩
     ·obtain⟨_,_,_,_,_,_,_,_,_,_,_,rfl⟩:=hs;exact⟨_,_,_,rfl⟩
     ·exact hs.elim
    ·exact hs.elim
   ·obtain⟨_,_,_,_,_,_,ic,_⟩:=hs;rw[hdo]at ic;cases ic
  obtain⟨t,j,ob,rfl⟩:=this;intro p hp;rw[St.QP];exact h p hp
 |some d=>
  rw[hdo]at hc;by_cases hd:d∈NB
  ·have hc:=List.all_eq_true.1 hc d hd;simp only[bne_self_eq_false,Bool.false_or,Bool.and_eq_true,Option.isNone_iff_eq_none]at hc;obtain⟨hg,hc⟩:=hc;split at hc
   ·rename_i T r ix iE;unfold Xm at hs;simp only[hg,hdo]at hs;unfold Step at hs;rw[iE]at hs;obtain⟨v,hv,rfl⟩:=hs;refine tz h (fun _ b c=>?_);simp only[Yj]at hv;obtain⟨_,_,_,_,_,hv⟩:=hv;split at hv
    ·obtain⟨_,_,_,_,rfl⟩:=hv;intro e;cases e
    ·obtain⟨_,_,_,_,rfl⟩:=hv;intro e;cases e
    ·obtain⟨_,⟨n,ha,_⟩,_⟩:=hv;unfold Xj at hc;unfold D0 at ha;split at hc
     ·rename_i e he;rw[he]at ha;cases ha
     ·cases hc
    ·obtain⟨_,_,_,rfl⟩:=hv;intro e;cases e
    ·exact hv.elim
   ·cases hc
  ·obtain⟨e,rfl,_⟩:=WQ hdo hs;cases e with
   |put v=>exact tz h (fun hh=>absurd hh hd)
   |new v os=>exact rP h hd
   |drop a j v os=>
    refine rP (σ:=σ.Zy a j .none) (fun t ht b c=>?_) hd;rw[St.QP];exact h t ht b c
theorem nS(h:nbB NB σ=true):G5 NB σ:=by
 intro t ht b c e;have:=List.all_eq_true.1 h t ht
 rw[e]at this;cases this
def Ce(ops:Array Oper)(pos:Nat->Nat)(rem:List Nat)(σ:St):Prop:=
 ∀j∈rem,PL ops pos j=true->vh ops j=true/\∃o d,ops[j]?=some o/\o.dst=some d/\Xs σ d=true
theorem ru{k:Nat}{oj ok:Oper}(h:vh ops j=true)(hj:ops[j]?=some oj)(hd:oj.dst=some d)(hk:ops[k]?=some ok)(iH:k≠j):ok.dst≠some d:=by
 unfold vh at h;simp only[hj,hd]at h;have iQ:k<ops.size:=(Array.getElem?_eq_some_iff.1 hk).1
 have:=List.all_eq_true.1 h k (List.mem_range.2 iQ);simp only[hk,Bool.or_eq_true,beq_iff_eq,bne_iff_ne,ne_eq]at this;exact this.resolve_left iH
theorem B1(hs:ze P ops bar o σ σ')(hd:o.dst≠some d)(h:Xs σ d=true):Xs σ' d=true:=by
 rcases hs with hs|hs
 ·exact Hq hs hd h
 ·exact hs.2.2.1 d hd h
theorem Lo{rem rem':List Nat}(hi:ops[i]?=some o)(hs:ze P ops bar o σ σ')(hni:i∉rem')(hP:∀j∈rem',j∈rem)(h:Ce ops pos rem σ):Ce ops pos rem' σ':=by
 intro j hj hl;obtain⟨hsole,oj,d,h1,h2,h3⟩:=h j (hP j hj) hl;exact⟨hsole,oj,d,h1,h2,B1 hs (ru hsole h1 h2 hi (fun e=>hni (e▸hj))) h3⟩
theorem pull{pos:Nat->Nat}{bar:Oper->Bool}{PT:List (Nat×Nat)}{NB:List Nat}(eA:∀(i:Nat)(o:Oper)(σ σ':St),ops[i]?=some o->ze P ops bar o σ σ'->Ft PT NB σ->Ft PT NB σ'){i:Nat}{post:List Nat}{Q:St->Prop}{oi:Oper}(hi:ops[i]?=some oi):∀{pre:List Nat}{σ:St},(pre++i::post).Nodup->(∀j∈pre,PL ops pos j=true/\∃oj,ops[j]?=some oj/\(AU ops bar oj oi=true\/AM bar oj oi=true\/swapT PT bar oj oi=true\/AI bar oj oi=true\/C3 PT ops bar oj oi=true\/BG PT NB bar oj oi=true\/BT P PT ops bar oj oi=true))->Ce ops pos (pre++i::post) σ->Ft PT NB σ->
  wW P ops bar (pre++i::post) σ Q->∃σ',ze P ops bar oi σ σ'/\wW P ops bar (pre++post) σ' Q
 |[],σ,_,_,_,_,h=>by
  obtain⟨o,σ',ho,hs,hr⟩:=h
  rw[hi]at ho;cases ho
  exact⟨σ',hs,hr⟩
 |j::pre,σ,gP,hsw,hO,eH,h=>by
  obtain⟨oj,σ1,hj,gL,hr⟩:=h
  have hnd':=List.nodup_cons.1 gP
  obtain⟨σ2,ib,bV⟩:=pull eA hi (pre:=pre) hnd'.2 (fun k hk=>hsw k (by simp[hk])) (Lo (rem:=(j::pre)++i::post) hj gL hnd'.1 (fun k hk=>by simp only[List.cons_append,List.mem_cons];exact .inr hk) hO) (eA j oj σ σ1 hj gL eH) hr
  obtain⟨hl,oj',eY,cf⟩:=hsw j zAE
  rw[hj]at eY;cases eY
  rcases cf with cf|cf|cf|cf|cf|cf|cf
  rotate_left
  ·obtain⟨σ1',hy,hx⟩:=pX cf gL ib
   exact⟨σ1',.inl hy,oj,σ2,hj,.inl hx,bV⟩
  ·obtain⟨σ1',hy,hx⟩:=o5 cf eH.1 gL ib
   exact⟨σ1',.inl hy,oj,σ2,hj,.inl hx,bV⟩
  ·obtain⟨_,o',d',hD,ic,gD⟩:=hO j zAE hl
   rw[hj]at hD;cases hD
   obtain⟨σ1',hy,hx⟩:=nH cf ic gD gL ib
   exact⟨σ1',hy,oj,σ2,hj,.inl hx,bV⟩
  ·obtain⟨_,o',d',hD,ic,gD⟩:=hO j zAE hl
   rw[hj]at hD;cases hD
   obtain⟨σ1',hy,hx⟩:=nO cf eH.1 ic gD gL ib
   exact⟨σ1',hy,oj,σ2,hj,hx,bV⟩
  ·obtain⟨_,o',d',hD,ic,gD⟩:=hO j zAE hl
   rw[hj]at hD;cases hD
   obtain⟨σ1',hy,hx⟩:=nQ cf eH.1 eH.2 ic gD gL ib
   exact⟨σ1',hy,oj,σ2,hj,.inl hx,bV⟩
  ·obtain⟨_,o',d',hD,ic,gD⟩:=hO j zAE hl
   rw[hj]at hD;cases hD
   obtain⟨σ1',hy,hx⟩:=o0 cf eH.1 (eA j oj σ σ1 hj gL eH).1 ic gD gL ib
   exact⟨σ1',hy,oj,σ2,hj,hx,bV⟩
  obtain⟨gX,hZ,dx,dy,h1,h2,h3,h4,h5,h6,h7⟩:=Ag cf
  have gL:=gL.resolve_right (fun hh=>by rw[gX]at hh;cases hh.1)
  have ib:=ib.resolve_right (fun hh=>by rw[hZ]at hh;cases hh.1)
  obtain⟨_,o',d',hD,ic,gD⟩:=hO j zAE hl
  rw[hj]at hD;cases hD
  rw[h1]at ic;cases ic
  obtain⟨σ1',hy,hx⟩:=swap h1 h2 h3 h4 h5 h6 h7 gD gL ib
  exact⟨σ1',.inl hy,oj,σ2,hj,.inl hx,bV⟩
open Go.RowKit
variable{gB:Array Bool}{Qa:St->Prop}{T0:CS}
theorem N9(h1:gB.getD j true=false)(h2:gB.getD j false=true):False:=by
 rw[Array.getD_eq_getD_getElem?]at h1 h2;cases h:gB[j]? with
 |none=>rw[h]at h1;simp at h1
 |some b=>rw[h]at h1 h2;simp at h1 h2;rw[h1]at h2;cases h2
theorem E7(eA:∀(i:Nat)(o:Oper)(σ σ':St),ops[i]?=some o->ze P ops bar o σ σ'->Ft PT NB σ->Ft PT NB σ')(hdr:Bp P ops pos bar PT NB (OE ops.toList [])=true){Q:Exit->Act->World->Prop}(hK:∀σ a w,Qa σ->J5 T0 B σ a w->XF B w0 w->Q .normal a w):
  ∀(fuel:Nat)(rem:List Nat)(gB:Array Bool)(σ:St)(a:Act)(w:World),rem.length=fuel->gB.size=ops.size->rem.Pairwise (fun i j=>pos i<pos j)->(∀i,i∈rem↔gB.getD i true=false)->(∀i∈rem,i<ops.size)->(∀m om,ops[m]?=some om->m∉rem->∀j,Na om j=true->j∉rem)->
   Ce ops pos rem σ->Ft PT NB σ->wW P ops bar rem σ Qa->J5 T0 B σ a w->XF B w0 w->wpAny P .any ops Q fuel gB a w:=by
 have gR:=List.all_eq_true.1 hdr
 have first:∀(rem:List Nat)(gB:Array Bool),gB.size=ops.size->rem.Pairwise (fun i j=>pos i<pos j)->(∀i,i∈rem↔gB.getD i true=false)->(∀i∈rem,i<ops.size)->Region.ready .any ops gB=[]->rem=[]:=by
  intro rem gB gT hso gh iQ hre
  cases rem with
  |nil=>rfl
  |cons i rem=>
   exfalso
   have hi:=iQ i zAE
   have hb:=gR i (List.mem_range.2 hi)
   simp only[Bool.and_eq_true]at hb
   have dN:=hb.1.1
   unfold od at dN
   rw[Array.getElem?_eq_getElem hi]at dN
   simp only[Array.all_eq_true_iff_forall_mem,decide_eq_true_eq,Bool.and_eq_true,Bool.or_eq_true,Bool.not_eq_true']at dN
   have:i∈Region.ready .any ops gB:=by
    refine mem_ready.2 ⟨(gh i).1 zAE,ops[i],Array.getElem?_eq_getElem hi,fun e he hbi=>?_⟩
    have aM:=(dN e he).resolve_left (by rw[hbi];simp)
    have cS:=aM.1
    have hlt2:=aM.2
    have e9:e.on∉i::rem:=by
     intro hm
     rcases List.mem_cons.1 hm with h|h
     ·rw[h]at cS;omega
     ·have:=(List.pairwise_cons.1 hso).1 _ h;omega
    have iH:gB.getD e.on true≠false:=fun h=>e9 ((gh _).2 h)
    have ah:e.on<gB.size:=by rw[gT];omega
    rw[Array.getD_eq_getD_getElem?,Array.getElem?_eq_getElem ah]at iH⊢
    simpa using iH
   rw[hre]at this;cases this
 intro fuel
 induction fuel with
 |zero=>
  intro rem gB σ a w hl gT hso gh iQ hdn hO eH iv g9 hb
  have e8:rem=[]:=List.eq_nil_of_length_eq_zero hl
  subst e8
  refine⟨?_,hK σ a w iv g9 hb⟩
  cases hre:Region.ready .any ops gB with
  |nil=>rfl
  |cons i l=>
   have hi:i∈Region.ready .any ops gB:=by rw[hre];simp
   have:=(gh i).2 (mem_ready.1 hi).1
   cases this
 |succ fuel ih=>
  intro rem gB σ a w hl gT hso gh iQ hdn hO eH iv g9 hb
  refine⟨fun hre=>?_,fun i hi=>?_⟩
  ·have:=first rem gB gT hso gh iQ hre
   subst this;simp at hl
  ·obtain⟨h0,oi,hoi,aK⟩:=mem_ready.1 hi
   obtain⟨pre,post,rfl⟩:=List.append_of_mem ((gh i).2 h0)
   have gP:(pre++i::post).Nodup:=hso.imp (fun h e=>by rw[e]at h;omega)
   have fL:∀j∈pre,pos j<pos i:=fun j hj=>(List.pairwise_append.1 hso).2.2 j hj i zAE
   have eM:i<ops.size:=iQ i zAE
   have hdone:∀e∈oi.after,Region.binds .any e=true->e.on∉pre++i::post:=by
    intro e he hbi hm
    exact N9 ((gh e.on).1 hm) (aK e he hbi)
   have hnp0:∀j,j∈pre++i::post->Na oi j=false:=by
    intro j hj
    cases hp:Na oi j with
    |false=>rfl
    |true=>
     unfold Na at hp
     rw[<-Array.any_toList]at hp
     obtain⟨e,he,hZ⟩:=List.any_eq_true.1 hp
     rw[Array.mem_toList_iff]at he
     simp only[Bool.and_eq_true,beq_iff_eq]at hZ
     exact(N9 ((gh j).1 hj) (by rw[<-hZ.1];exact aK e he hZ.2)).elim
   have bK:∀m j,Pre ops m j->(∀om,ops[m]?=some om->∀k,Na om k=true->k∉pre++i::post)->j∉pre++i::post:=by
    intro m j hp
    induction hp with
    |one ho hp=>intro h;exact h _ ho _ hp
    |more ho hp _ ih=>
     intro h
     exact ih (fun om bj k hk=>hdn _ om bj (h _ ho _ hp) k hk)
   have fS:∀j∈pre,B9 ops i j=false:=by
    intro j hj
    have hjr:j∈pre++i::post:=by simp[hj]
    cases hq:B9 ops i j with
    |false=>rfl
    |true=>
     refine absurd hjr (bK i j (uz hq) (fun om bj k hk hkr=>?_))
     rw[hoi]at bj;cases bj
     have:=hnp0 k hkr
     rw[hk]at this;cases this
   have hsw:∀j∈pre,PL ops pos j=true/\∃oj,ops[j]?=some oj/\(AU ops bar oj oi=true\/AM bar oj oi=true\/swapT PT bar oj oi=true\/AI bar oj oi=true\/C3 PT ops bar oj oi=true\/BG PT NB bar oj oi=true\/BT P PT ops bar oj oi=true):=by
    intro j hj
    have hji:=fL j hj
    have hjsz:j<ops.size:=iQ j (by simp[hj])
    refine⟨?_,ops[j],Array.getElem?_eq_getElem hjsz,?_⟩
    ·unfold PL Ch
     refine List.any_eq_true.2 ⟨i,List.mem_range.2 eM,?_⟩
     have:=fS j hj
     unfold B9 at this
     simp only[this,Bool.not_false,Bool.and_true,decide_eq_true_eq];exact hji
    ·have:=gR i (List.mem_range.2 eM)
     simp only[Bool.and_eq_true]at this
     have hp:=List.all_eq_true.1 this.1.2 j (List.mem_range.2 hjsz)
     simp only[hji,decide_true,Bool.not_true,Bool.false_or]at hp
     unfold ov at hp
     rw[hoi,Array.getElem?_eq_getElem hjsz]at hp
     have:=fS j hj
     unfold B9 at this
     simpa[this,or_assoc]using hp
   obtain⟨σ',hs,hr⟩:=pull eA hoi gP hsw hO eH iv
   have hni:i∉pre++post:=by
    have:=List.nodup_append.1 gP
    intro hm
    rcases List.mem_append.1 hm with h|h
    ·exact Nat.lt_irrefl _ (fL i h)
    ·exact(List.nodup_cons.1 this.2.1).1 h
   have cv:∀j∈pre++post,j∈pre++i::post:=by
    intro j hj
    rcases List.mem_append.1 hj with h|h
    ·simp[h]
    ·simp[h]
   have key:∀a' w',J5 T0 B σ' a' w'->XF B w w'->wpAny P .any ops Q fuel (gB.setIfInBounds i true) a' w':=by
    intro a' w' hrel' iq
    refine ih (pre++post) _ σ' a' w' zBm (by simp[gT]) ?_ (fun j=>?_) (fun j hj=>iQ j (cv j hj)) ?_ (Lo hoi hs hni cv hO) (eA i oi σ σ' hoi hs eH) hr hrel' (hb.trans iq)
    ·exact hso.sublist (List.Sublist.append (List.Sublist.refl pre) (List.sublist_cons_self i post))
    ·by_cases bM:i=j
     ·subst bM
      constructor
      ·intro hm;exact absurd hm hni
      ·intro hm
       rw[Array.getD_eq_getD_getElem?]at hm
       simp[gT,eM]at hm
     ·rw[getD_set_ne true bM,<-gh j]
      simp only[List.mem_append,List.mem_cons]
      constructor
      ·rintro(h|h)
       ·exact .inl h
       ·exact .inr (.inr h)
      ·rintro(h|h|h)
       ·exact .inl h
       ·exact absurd h.symm bM
       ·exact .inr h
    ·intro m om bj hm j hpj hj
     by_cases hmi:m=i
     ·subst hmi
      rw[hoi]at bj;cases bj
      have:=hnp0 j (cv j hj)
      rw[hpj]at this;cases this
     ·have hmr:m∉pre++i::post:=by
       intro h
       rcases List.mem_append.1 h with h|h
       ·exact hm (by simp[h])
       ·rcases List.mem_cons.1 h with h|h
        ·exact hmi h
        ·exact hm (by simp[h])
      exact hdn m om bj hmr j hpj (cv j hj)
   have hC:=Rg hs T0 B a w (wpAny P .any ops Q fuel (gB.setIfInBounds i true)) Q g9 key
   unfold wpOp
   simp only[hoi]
   split
   ·rename_i hw;rw[if_pos hw]at hC;exact .inl hC
   ·rename_i hw;rw[if_neg hw]at hC;exact hC
theorem DK(h:J5 T0 B σ a w):J5 T0 B σ a {w with drawn:=w.drawn+1}:=by
 obtain⟨X,hh,r⟩:=h;exact⟨X,hh,r.grow (w':={w with drawn:=w.drawn+1}) ⟨rfl,rfl,rfl,Nat.le_refl _,fun _ _ _=>rfl⟩ (fun _ hb=>hb) (fun _ hb=>.inl hb)⟩
theorem vP{bar:Oper->Bool}{Q:St->Prop}:∀{n k:Nat}{σ:St},k+n=ops.size->CD P ops bar (ops.toList.drop k) σ Q->wW P ops bar (List.range' k n) σ Q
 |0,k,σ,hk,h=>by
  rw[List.drop_eq_nil_of_le zAo]at h
  exact h
 |n+1,k,σ,hk,h=>by
  have iQ:k<ops.toList.length:=zAo
  rw[List.drop_eq_getElem_cons iQ]at h
  obtain⟨σ',hs,hr⟩:=h
  rw[List.range'_succ]
  exact⟨ops.toList[k],σ',by rw[<-Array.getElem?_toList];exact List.getElem?_eq_getElem iQ,hs,vP zAA hr⟩
theorem Lg(eA:∀(i:Nat)(o:Oper)(σ σ':St),ops[i]?=some o->ze P ops bar o σ σ'->Ft PT NB σ->Ft PT NB σ')(eH:Ft PT NB σ)(hm:P.follows .mixedOrders=true)(hdr:Bp P ops (fun i=>i) bar PT NB (OE ops.toList [])=true)(hO:xf ops (fun i=>i) σ=true)(h:CD P ops bar ops.toList σ (Q .normal)):AWP P (.region id ops true) Q σ:=by
 intro T0 B a w g9;refine wp_region_any hm ?_;have gR:=List.all_eq_true.1 hdr
 refine E7 (T0:=T0) (B:=B) (w0:=w) eA hdr (Qa:=Q .normal) (fun σ' a' w' hq hr hb=>⟨σ',hq,hr,hb⟩) ops.size (List.range' 0 ops.size) _ σ a _ zAE zAE ?_ (fun i=>?_) (fun i hi=>by simp[List.mem_range']at hi;omega) (fun m om bj hm=>absurd (by simp only[List.mem_range'_1];have:=(Array.getElem?_eq_some_iff.1 bj).1;omega) hm) ?_ eH (vP zAA zBh) (DK g9) ⟨rfl,rfl,rfl,Nat.le_refl _,fun _ _=>rfl⟩
 ·exact List.pairwise_lt_range'
 ·rw[Array.getD_eq_getD_getElem?,Array.getElem?_replicate];simp only[List.mem_range'_1];constructor
  ·intro hh;rw[if_pos zAA];rfl
  ·intro hh;split at hh
   ·omega
   ·cases hh
 ·intro j hj hl;simp only[List.mem_range'_1]at hj;have hb:=gR j (List.mem_range.2 zAA)
  simp only[Bool.and_eq_true,Bool.or_eq_true,Bool.not_eq_true']at hb;refine⟨hb.2.resolve_left (by unfold PL at hl;rw[hl];simp),?_⟩;have hc:=List.all_eq_true.1 hO j (List.mem_range.2 zAA)
  unfold PL at hl;simp only[hl,Bool.not_true,Bool.false_or]at hc;have iQ:j<ops.size:=zAA
  rw[Array.getElem?_eq_getElem iQ]at hc;simp only[Option.bind_some]at hc;cases hd:ops[j].dst with
  |none=>rw[hd]at hc;cases hc
  |some d=>rw[hd]at hc;exact⟨_,d,Array.getElem?_eq_getElem iQ,hd,hc⟩
theorem BZ(hm:P.follows .mixedOrders=true)(hdr:Nq P ops (fun i=>i) bar=true)(hO:xf ops (fun i=>i) σ=true)(h:CD P ops bar ops.toList σ (Q .normal)):AWP P (.region id ops true) Q σ:=
 Lg (PT:=[]) (NB:=[]) (fun _ _ _ _ _ _ _=>HX) HX hm hdr hO h
theorem sY(PT:List (Nat×Nat))(hm:P.follows .mixedOrders=true)(hdr:Bp P ⟨l⟩ (fun i=>i) (fun _=>false) PT [] (OE l [])=true)(hO:xf ⟨l⟩ (fun i=>i) σ=true)(hpc:Ny ⟨l⟩ PT=true)(hp:ptB PT σ=true)(h:@EI P σ ⟨⟨l⟩,fun _=>false⟩ ⟨l⟩ k):@DI P id σ ⟨⟨l⟩,br⟩ k:=
 Lg (bar:=fun _=>false) (PT:=PT) (NB:=[]) (fun _ _ _ _ hi hs hq=>⟨vu hpc hi (hs.resolve_right (fun hh=>by cases hh.1)) hq.1,fun p hp=>by cases hp⟩) ⟨rM hp,fun p hp=>by cases hp⟩ hm hdr hO (Jm h)
theorem rG(hm:P.follows .mixedOrders=true)(hdr:Nq P ⟨l⟩ (fun i=>i) (fun _=>false)=true)(hO:xf ⟨l⟩ (fun i=>i) σ=true)(h:@EI P σ ⟨⟨l⟩,fun _=>false⟩ ⟨l⟩ k):@DI P id σ ⟨⟨l⟩,br⟩ k:=
 BZ hm hdr hO (Jm h)
def Nd(bs:List Nat)(o:Oper):Bool:=match o.dst with|some d=>bs.contains d|none=>!bs.contains 3000001
theorem o9(hpc:Ny ops PT=true)(hba:(ops.toList.all fun o=>!bar o||UK o||kr o||(KV P o&&OP bar o))=true)(hi:ops[i]?=some o)(hs:ze P ops bar o σ σ')(h:P3 PT σ):P3 PT σ':=by
 rcases hs with hs|⟨hb,_,_,hk1,bg,hk3⟩
 ·exact vu hpc hi hs h
 ·have gh:o∈ops.toList:=by rw[Array.mem_toList_iff];exact Array.mem_of_getElem? hi
  have h1:=List.all_eq_true.1 hba o gh;simp only[hb,Bool.not_true,Bool.false_or,Bool.or_eq_true,Bool.and_eq_true]at h1;rcases h1 with(h1|h1)|⟨h1,h1o⟩
  ·obtain⟨⟨_,hg⟩,_⟩:=hk1 h1;intro p hp;rw[hg];exact h p hp
  ·obtain⟨d,hd,_,hg,_⟩:=bg h1;intro p hp;have iH:p.1≠d:=by
    intro e;have hc:=List.all_eq_true.1 hpc o gh
    rw[hd]at hc;have hc:=List.all_eq_true.1 hc p hp
    simp only[e,bne_self_eq_false,Bool.false_or,Bool.and_eq_true]at hc;have hc:=hc.2
    unfold kr at h1;cases iE:o.op<;>rw[iE]at h1 hc<;>first|(exact Bool.noConfusion h1)|(exact Bool.noConfusion hc)
   rw[(hg p.1 iH).1];exact h p hp
  ·obtain⟨d,t,cells,cs,v,os,hd,_,_,_,_,_,rfl,_⟩:=hk3 h1 h1o;intro p hp;have iH:p.1≠d:=by
    intro e;have hc:=List.all_eq_true.1 hpc o gh
    rw[hd]at hc;have hc:=List.all_eq_true.1 hc p hp
    simp only[e,bne_self_eq_false,Bool.false_or,Bool.and_eq_true]at hc;have hc:=hc.2
    unfold KV at h1;cases iE:o.op<;>rw[iE]at h1 hc<;>first|(exact Bool.noConfusion h1)|(exact Bool.noConfusion hc)
   rw[Cr iH];exact h p hp
theorem nN(fc:H6 P ops NB=true)(hba:(ops.toList.all fun o=>!bar o||UK o||kr o||(KV P o&&OP bar o))=true)(hi:ops[i]?=some o)(hs:ze P ops bar o σ σ')(h:G5 NB σ):G5 NB σ':=by
 rcases hs with hs|⟨hb,_,_,hk1,bg,hk3⟩
 ·exact pe fc hi hs h
 ·have gh:o∈ops.toList:=by rw[Array.mem_toList_iff];exact Array.mem_of_getElem? hi
  have h1:=List.all_eq_true.1 hba o gh;simp only[hb,Bool.not_true,Bool.false_or,Bool.or_eq_true,Bool.and_eq_true]at h1;rcases h1 with(h1|h1)|⟨h1,h1o⟩
  ·obtain⟨⟨_,hg⟩,_⟩:=hk1 h1;intro p hp;rw[hg];exact h p hp
  ·obtain⟨d,hd,_,hg,_⟩:=bg h1;intro p hp;have iH:p≠d:=by
    intro e;have hc:=List.all_eq_true.1 fc o gh
    rw[hd]at hc;have hc:=List.all_eq_true.1 hc p hp
    simp only[e,bne_self_eq_false,Bool.false_or,Bool.and_eq_true]at hc;have hc:=hc.2
    unfold kr at h1;cases iE:o.op<;>rw[iE]at h1 hc<;>first|(exact Bool.noConfusion h1)|(exact Bool.noConfusion hc)
   rw[(hg p iH).1];exact h p hp
  ·obtain⟨d,t,cells,cs,v,os,hd,_,_,_,_,_,rfl,_⟩:=hk3 h1 h1o;intro p hp;have iH:p≠d:=by
    intro e;have hc:=List.all_eq_true.1 fc o gh
    rw[hd]at hc;have hc:=List.all_eq_true.1 hc p hp
    simp only[e,bne_self_eq_false,Bool.false_or,Bool.and_eq_true]at hc;have hc:=hc.2
    unfold KV at h1;cases iE:o.op<;>rw[iE]at h1 hc<;>first|(exact Bool.noConfusion h1)|(exact Bool.noConfusion hc)
   rw[Cr iH];exact h p hp
theorem vj(PT:List (Nat×Nat))(NB bs:List Nat)(hm:P.follows .mixedOrders=true)(hdr:Bp P ⟨l⟩ (fun i=>i) (Nd bs) PT NB (OE l [])=true)(hO:xf ⟨l⟩ (fun i=>i) σ=true)(hpc:Ny ⟨l⟩ PT=true)(hp:ptB PT σ=true)(fc:H6 P ⟨l⟩ NB=true)(hnb:nbB NB σ=true)(hba:(l.all fun o=>!Nd bs o||UK o||kr o||(KV P o&&OP (Nd bs) o))=true)(h:@EI P σ ⟨⟨l⟩,Nd bs⟩ ⟨l⟩ k):@DI P id σ ⟨⟨l⟩,br⟩ k:=
 Lg (bar:=Nd bs) (PT:=PT) (NB:=NB) (fun _ _ _ _ hi hs hq=>⟨o9 hpc hba hi hs hq.1,nN fc hba hi hs hq.2⟩) ⟨rM hp,nS hnb⟩ hm hdr hO (Jm h)
theorem nz(bs:List Nat)(hm:P.follows .mixedOrders=true)(hdr:Vm.Nq P ⟨l⟩ (fun i=>i) (Nd bs)=true)(hO:xf ⟨l⟩ (fun i=>i) σ=true)(h:@EI P σ ⟨⟨l⟩,Nd bs⟩ ⟨l⟩ k):@DI P id σ ⟨⟨l⟩,br⟩ k:=
 BZ hm hdr hO (Jm h)
def pwB(pos:Nat->Nat):List Nat->Bool
 |[]=>true
 |i::r=>r.all (fun j=>decide (pos i<pos j))&&pwB pos r
theorem tZ{pos:Nat->Nat}:∀{l:List Nat},pwB pos l=true->l.Pairwise (fun i j=>pos i<pos j)
 |[],_=>.nil
 |i::r,h=>by
  simp only[pwB,Bool.and_eq_true,List.all_eq_true,decide_eq_true_eq]at h
  exact .cons h.1 (tZ h.2)
def posOf:List Nat->Nat->Nat
 |[],_=>0
 |i::r,k=>if i==k then 0 else posOf r k+1
def pU(n:Nat)(ord:List Nat):Bool:=ord.length==n&&pwB (posOf ord) ord&&ord.all (fun i=>decide (i<n))&&(List.range n).all (fun i=>ord.contains i)
@[reducible] def nY:List Oper->Nat->Oper->Oper
 |[],_,d=>d
 |o::_,0,_=>o
 |_::l,i+1,d=>nY l i d
@[reducible] def tU(l:List Oper)(d:Oper):List Nat->List Oper
 |[]=>[]
 |i::r=>nY l i d::tU l d r
theorem Bc{d:Oper}:∀{l:List Oper}{i:Nat},i<l.length->l[i]?=some (nY l i d)
 |[],i,h=>by simp at h
 |o::l,0,_=>rfl
 |o::l,i+1,h=>by simpa using Bc (l:=l) (i:=i) zBh
theorem Dc{bar:Oper->Bool}{Q:St->Prop}{l:List Oper}{d:Oper}:∀{ord:List Nat}{σ:St},(∀i∈ord,i<l.length)->CD P l.toArray bar (tU l d ord) σ Q->wW P l.toArray bar ord σ Q
 |[],σ,_,h=>h
 |i::r,σ,hi,h=>by
  obtain⟨σ',hs,hr⟩:=h
  exact⟨_,σ',by rw[List.getElem?_toArray];exact Bc (hi i zAE),hs,Dc (fun j hj=>hi j (by simp[hj])) hr⟩
theorem uB(hm:P.follows .mixedOrders=true)(ho:pU ops.size ord=true)(hdr:Nq P ops (posOf ord) bar=true)(hO:xf ops (posOf ord) σ=true)(h:wW P ops bar ord σ (Q .normal)):AWP P (.region id ops true) Q σ:=by
 intro T0 B a w g9;refine wp_region_any hm ?_;have gR:=List.all_eq_true.1 hdr
 simp only[pU,Bool.and_eq_true,beq_iff_eq,List.all_eq_true,decide_eq_true_eq,List.mem_range,List.contains_iff_mem]at ho;obtain⟨⟨⟨o1,o2⟩,o3⟩,o4⟩:=ho;refine E7 (T0:=T0) (B:=B) (w0:=w) (PT:=[]) (NB:=[]) (fun _ _ _ _ _ _ _=>HX) hdr (Qa:=Q .normal) (fun σ' a' w' hq hr hb=>⟨σ',hq,hr,hb⟩) ops.size ord _ σ a _ o1 zAE (tZ o2) (fun i=>?_) o3 (fun m om bj hm=>absurd (o4 m (Array.getElem?_eq_some_iff.1 bj).1) hm) ?_ HX h (DK g9) ⟨rfl,rfl,rfl,Nat.le_refl _,fun _ _=>rfl⟩
 ·rw[Array.getD_eq_getD_getElem?,Array.getElem?_replicate];constructor
  ·intro hh;rw[if_pos (o3 i hh)];rfl
  ·intro hh;split at hh
   ·rename_i iQ;exact o4 i iQ
   ·cases hh
 ·intro j hj hl;have hjs:=o3 j hj
  have hb:=gR j (List.mem_range.2 hjs);simp only[Bool.and_eq_true,Bool.or_eq_true,Bool.not_eq_true']at hb;refine⟨hb.2.resolve_left (by unfold PL at hl;rw[hl];simp),?_⟩;have hc:=List.all_eq_true.1 hO j (List.mem_range.2 hjs);unfold PL at hl;simp only[hl,Bool.not_true,Bool.false_or]at hc;rw[Array.getElem?_eq_getElem hjs]at hc;simp only[Option.bind_some]at hc;cases hd:ops[j].dst with
  |none=>rw[hd]at hc;cases hc
  |some d=>rw[hd]at hc;exact⟨_,d,Array.getElem?_eq_getElem hjs,hd,hc⟩
theorem FI(ord:List Nat)(hm:P.follows .mixedOrders=true)(ho:pU (o::l).length ord=true)(hdr:Nq P ⟨o::l⟩ (posOf ord) (fun _=>false)=true)(hO:xf ⟨o::l⟩ (posOf ord) σ=true)
  (h:@EI P σ ⟨⟨o::l⟩,fun _=>false⟩ ⟨tU (o::l) o ord⟩ k):@DI P id σ ⟨⟨o::l⟩,br⟩ k:=by
 have h2:∀i∈ord,i<(o::l).length:=by
  simp only[pU,Bool.and_eq_true,List.all_eq_true,decide_eq_true_eq]at ho
  exact ho.1.2
 exact uB hm ho hdr hO (Dc h2 (Jm h))
end Go.Vm
