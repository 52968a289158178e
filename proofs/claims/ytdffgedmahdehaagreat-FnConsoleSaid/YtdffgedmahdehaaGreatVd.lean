/- An abstract machine Gi the model of Go, by value, and that it is sound: part Vd. No condition. -/
import Derived.Test.YtdffgedmahdehaaGreatVc
import Derived.Orders
set_option linter.unusedVariables false
set_option linter.unusedSimpArgs false
namespace Go.Vm
open Go.RowKit
variable{σ σ1 σ' σ2 A:St}{P:Program}{d u id t i j size b dx dy:Nat}{v:V}{o y oi:Oper}{x z:Operand}{l:List Oper}{op:BinOp}{k:Fr}{c:Call}{q:Bool}{f:FuncId}{n:Int}{a:Act}
structure Sub(P:Program)(xs:List Operand)(σ1 σ:St):Prop where
 len:σ1.length=σ.length
 look:∀x∈xs,∀ty,look P σ1 ty x=look P σ ty x
 ob:∀x∈xs,∀ty u,(Vm.look P σ1 ty x).ref u=true->∀j,σ1.ob u j≠ .none->σ.ob u j=σ1.ob u j
theorem QD{x:At}(h:unc v= .one x)(hx:x.ref u=true):v.ref u=true:=by
 cases v with
 |cnd g y=>simp only[unc]at h;subst h;simp only[V.ref,V.IU,Bool.or_eq_true];exact .inl hx
 |one y=>simp only[unc]at h;cases h;exact hx
 |any=>simp[unc]at h
 |agg xs=>simp[unc]at h
 |tup xs=>simp[unc]at h
 |fix g y=>simp only[unc]at h;subst h;simp only[V.ref,V.IU,Bool.or_eq_true];exact .inl hx
theorem Ln{xs:List At}(h:unc v= .agg xs)(hx:Yb u xs=true):v.ref u=true:=by
 cases v with
 |cnd g y=>simp only[unc]at h;subst h;simp only[V.ref,V.IU,Bool.or_eq_true];exact .inl hx
 |agg y=>simp only[unc]at h;cases h;exact hx
 |any=>simp[unc]at h
 |one xs=>simp[unc]at h
 |tup xs=>simp[unc]at h
 |fix g y=>simp only[unc]at h;subst h;simp only[V.ref,V.IU,Bool.or_eq_true];exact .inl hx
theorem TA(hx:Yb u (unc v).cells=true):v.ref u=true:=by
 cases h:unc v with
 |one x=>rw[h]at hx;simp[V.cells,Yb]at hx;exact QD h hx
 |agg xs=>rw[h]at hx;exact Ln h hx
 |any=>rw[h]at hx;simp[V.cells,Yb]at hx
 |tup xs=>rw[h]at hx;simp[V.cells,Yb]at hx
 |cnd g x=>rw[h]at hx;simp[V.cells,Yb]at hx
 |fix u x=>rw[h]at hx;simp[V.cells,Yb]at hx
theorem Sub.same{xs:List Operand}{ty:TypeId}{a:At}{o:Ob}(h:Sub P xs σ1 σ)(hx:x∈xs)(hv:unc (Vm.look P σ ty x)= .one a)(ha:a.ref u=true)(ho:σ1.ob u j=o)(hn:o≠ .none):σ.ob u j=o:=by rw[<-ho];refine h.ob x hx ty u ?_ j (by rw[ho];exact hn);rw[h.look x hx ty];exact QD hv ha
theorem qF{xs:List Operand}{k:IntKind}(h:Sub P xs σ1 σ)(hx:x∈xs)(hl:SU P σ1 x k n):SU P σ x k n:=by unfold SU at*;rw[<-h.look x hx];exact hl
theorem Bw{xs:List Operand}{df n:Nat}{x:Option Operand}(h:Sub P xs σ1 σ)(hx:∀y,x=some y->y∈xs)(hl:bnd P σ1 df x n):bnd P σ df x n:=by
 cases x with
 |none=>exact hl
 |some x=>simp only[bnd]at*;rw[<-h.look x (hx x rfl)];exact hl
theorem I9{T:TypeId}:∀{ps:List (Nat×Operand)}{z out:List At},Sub P (ps.map (·.2)) σ1 σ->Rk P σ1 T ps z out->Rk P σ T ps z out
 |[],_,_,_,h=>h
 |(i,x)::ps,z,out,hs,h=>by have e:=hs.look x zAE;simp only[Rk]at h⊢;rw[<-e];refine⟨h.1,h.2.1,h.2.2.1,h.2.2.2.1,h.2.2.2.2.1,I9 ⟨hs.len,fun y hy=>hs.look y zBj,fun y hy=>hs.ob y zBj⟩ h.2.2.2.2.2⟩
theorem UC{op:Op}{ty:TypeId}(hs:Yj P σ1 op ty v)(h:Sub P op.operands.toList σ1 σ):Yj P σ op ty v:=by
 cases op<;>simp only[Yj]at hs⊢;case move x=>rw[<-h.look x zAg];exact hs
 case assign x=>rw[<-h.look x zAg];exact hs
 case pick c a b=>rw[<-h.look c zAg,<-h.look a zAg,<-h.look b zAg];exact hs
 case load T x=>
  rw[h.look x zAg]at hs;refine⟨hs.1,hs.2.1,?_⟩;have hH:=hs.2.2
  split at hH
  ·rename_i t c hx;obtain⟨cells,ho,hr⟩:=hH;exact⟨cells,h.same zAg hx zBC ho zAE,hr⟩
  ·rename_i t j i c hx;obtain⟨q,size,rows,ho,hr⟩:=hH;exact⟨q,size,rows,h.same zAg hx zBC ho zAE,hr⟩
  ·exact hH
  ·rename_i t j i c k hx;obtain⟨size,rows,s,ho,hr⟩:=hH;exact⟨size,rows,s,h.same zAg hx zBC ho zAE,hr⟩
  ·exact hH.elim
 case nilCheck x=>
  rw[h.look x zAg]at hs;refine⟨hs.1,?_⟩;have hH:=hs.2
  split at hH
  ·rename_i t c hx;obtain⟨⟨cells,ho⟩,hr⟩:=hH;exact⟨⟨cells,h.same zAg hx zBC ho zAE⟩,hr⟩
  ·exact hH.elim
 case fieldAddr T x f=>
  rw[h.look x zAg]at hs;refine⟨hs.1,hs.2.1,?_⟩;have hH:=hs.2.2
  split at hH
  ·rename_i t c hx;obtain⟨⟨cells,ho⟩,hr⟩:=hH;exact⟨⟨cells,h.same zAg hx zBC ho zAE⟩,hr⟩
  ·rename_i t j i c hx;obtain⟨⟨q,size,rows,ho⟩,hr⟩:=hH;exact⟨⟨q,size,rows,h.same zAg hx zBC ho zAE⟩,hr⟩
  ·exact hH
  ·rename_i t j i c k hx;obtain⟨⟨size,rows,ho⟩,hr⟩:=hH;exact⟨⟨size,rows,h.same zAg hx zBC ho zAE⟩,hr⟩
  ·exact hH.elim
 case indexAddr T x ix=>
  obtain⟨k,i,hk,h0,hg,hH⟩:=hs;rw[h.look x zAg]at hg hH;refine⟨k,i,qF h zAg hk,h0,hg,?_⟩;split at hH
  ·exact hH
  ·rename_i t j lo len hx;obtain⟨h1,h2,⟨q,rows,ho⟩,hr⟩:=hH;exact⟨h1,h2,⟨q,rows,h.same zAg hx zBC ho zAE⟩,hr⟩
  ·rename_i t c hx;obtain⟨⟨cells,ho⟩,hr⟩:=hH;exact⟨⟨cells,h.same zAg hx zBC ho zAE⟩,hr⟩
  ·rename_i t j m c hx;obtain⟨h1,h2,⟨size,rows,s,ho,hr⟩,hv⟩:=hH;exact⟨h1,h2,⟨size,rows,s,h.same zAg hx zBC ho zAE,hr⟩,hv⟩
  ·exact hH.elim
 case index T x ix=>obtain⟨k,i,hk,h0,hg,hH⟩:=hs;rw[h.look x zAg]at hg hH;exact⟨k,i,qF h zAg hk,h0,hg,hH⟩
 case slice T x lo hi mx=>
  cases mx with
  |some m=>exact hs.elim
  |none=>
   simp only at hs⊢;rw[h.look x zAg]at hs;refine⟨hs.1,?_⟩;have hH:=hs.2
   have b1:∀df n,bnd P σ1 df lo n->bnd P σ df lo n:=fun df n=>Bw h (fun y hy=>by subst hy;simp[Op.operands]);have b2:∀df n,bnd P σ1 df hi n->bnd P σ df hi n:=fun df n=>Bw h (fun y hy=>by subst hy;simp[Op.operands]);split at hH
   ·obtain⟨h1,l,hh,h2,h3,hr⟩:=hH;exact⟨h1,l,hh,b1 _ _ h2,b2 _ _ h3,hr⟩
   ·obtain⟨h1,h1',l,hh,h2,h3,hr⟩:=hH;exact⟨h1,h1',l,hh,b1 _ _ h2,b2 _ _ h3,hr⟩
   ·rename_i t j o len hx;obtain⟨h1,⟨q,rows,ho⟩,l,hh,h2,h3,hr⟩:=hH;exact⟨h1,⟨q,rows,h.same zAg hx zBC ho zAE⟩,l,hh,b1 _ _ h2,b2 _ _ h3,hr⟩
   ·exact hH.elim
 case binOp op T x y yt=>rw[<-h.look x zAg,<-h.look y zAg];exact hs
 case unOp op T x=>rw[<-h.look x zAg];exact hs
 case convert S T x=>rw[<-h.look x zAg];exact hs
 case extract x i=>rw[<-h.look x zAg];exact hs
 case field T x f=>rw[<-h.look x zAg];exact hs
 case build T parts=>obtain⟨h1,h2,z,out,h3,h4,h5⟩:=hs;refine⟨h1,h2,z,out,h3,I9 ?_ h4,h5⟩;simpa[Op.operands]using h
 case call c=>
  obtain⟨cal,args,dm⟩:=c;have hm:∀x∈args.toList,x∈(Op.operands (.call ⟨cal,args,dm⟩)).toList:=by intro x hx;simp only[Op.operands,Call.operands];cases cal<;>simp at hx⊢<;>simp[hx]
  split at hs
  ·rename_i x t hc ha ht;rw[h.look x (hm x zB3)]at hs;try simp only[hc,ha,ht]
   refine⟨hs.1,?_⟩;have hH:=hs.2
   split at hH
   ·exact hH
   ·exact hH
   ·exact hH
   ·rename_i u j lo len hx;obtain⟨h1,⟨q,size,rows,ho⟩|⟨size,rows,ho⟩,hr⟩:=hH
    ·exact⟨h1,.inl ⟨q,size,rows,h.same (hm x zB3) hx zBC ho zAE⟩,hr⟩
    ·exact⟨h1,.inr ⟨size,rows,h.same (hm x zB3) hx zBC ho zAE⟩,hr⟩
   ·rename_i u j i c hx;obtain⟨h1,size,rows,n,s,ho,hr⟩:=hH;exact⟨h1,size,rows,n,s,h.same (hm x zB3) hx zBC ho zAE,hr⟩
   ·exact hH.elim
  ·rename_i x y hc ha;try simp only[hc,ha]
   obtain⟨k,m,n,h1,h2,h3⟩:=hs;exact⟨k,m,n,qF h (hm x zB3) h1,qF h (hm y zB3) h2,h3⟩
  ·rename_i x y hc ha;try simp only[hc,ha]
   obtain⟨k,m,n,h1,h2,h3⟩:=hs;exact⟨k,m,n,qF h (hm x zB3) h1,qF h (hm y zB3) h2,h3⟩
  ·exact hs.elim
open Go.RowKit
variable{ys:List Operand}{news res r:List (List D)}
def HR(P:Program)(xs:List Operand)(σ:St)(u:Nat):Prop:=
 ∃x∈xs,∃ty,(look P σ ty x).ref u=true\/∃t cells,(look P σ ty x).ref t=true/\σ.ob t 0= .box cells/\Yb u cells=true
theorem zy{u:Nat}:∀{xs:List At},Yb u xs=true↔∃x∈xs,x.ref u=true
 |[]=>by simp[Yb]
 |x::xs=>by simp[Yb,zy]
theorem tW{xs ys:List At}(h:∀x∈xs,x∈ys)(hx:Yb u xs=true):Yb u ys=true:=by obtain⟨x,h1,h2⟩:=zy.1 hx;exact zy.2 ⟨x,h x h1,h2⟩
theorem Lh{a:Nat}{xs:List At}(hx:Yb u (cut xs a b)=true):Yb u xs=true:=
 tW (fun _ h=>List.mem_of_mem_drop (List.mem_of_mem_take h)) hx
theorem Tl(xs:List D):Yb u (xs.map .d)=false:=by
 induction xs with
 |nil=>rfl
 |cons x xs ih=>simp[Yb,At.ref,ih]
theorem Mk{T:TypeId}{xs:List At}(h:(ldV P T xs).ref u=true):Yb u xs=true:=by
 unfold ldV at h;split at h
 ·exact h
 ·split at h
  ·simpa[V.ref,Yb]using h
  ·simp[V.ref]at h
theorem sr{o:Nat}{r xs:List At}(h:Yb u (place r o xs)=true):Yb u r=true\/Yb u xs=true:=by
 obtain⟨x,h1,h2⟩:=zy.1 h;simp only[place,List.mem_append]at h1;rcases h1 with(h1|h1)|h1
 ·exact .inl (zy.2 ⟨x,List.mem_of_mem_take h1,h2⟩)
 ·exact .inr (zy.2 ⟨x,h1,h2⟩)
 ·exact .inl (zy.2 ⟨x,List.mem_of_mem_drop h1,h2⟩)
theorem oq(h:(unc v).ref u=true)(hc:∀g x,unc v≠ .cnd g x)(hf:∀g x,unc v≠ .fix g x):v.ref u=true:=by
 cases v with
 |cnd g x=>
  simp only[unc]at h hc hf;simp only[V.ref,Bool.or_eq_true];cases x with
  |tup xs=>exact .inr h
  |cnd g y=>exact absurd rfl (hc g y)
  |fix g y=>exact absurd rfl (hf g y)
  |one x=>exact .inl h
  |agg x=>exact .inl h
  |any=>exact .inl h
 |fix g x=>
  simp only[unc]at h hc hf;simp only[V.ref,Bool.or_eq_true];cases x with
  |tup xs=>exact .inr h
  |cnd g y=>exact absurd rfl (hc g y)
  |fix g y=>exact absurd rfl (hf g y)
  |one x=>exact .inl h
  |agg x=>exact .inl h
  |any=>exact .inl h
 |_=>exact h
theorem CC{u t j i:Nat}:∀{c:Nat}{xs:List D},Yb u (UZ t j i c xs)=true->u=t
 |_,[],h=>by simp[UZ,Yb]at h
 |c,x::xs,h=>by
  simp only[UZ,Yb,Bool.or_eq_true]at h;rcases h with h|h
  ·cases x<;>simp[At.ref]at h;exact h.symm
  ·exact CC h
theorem tE{c:Nat}{xs:List D}(h:Yb u (OL q t j i c xs)=true):u=t:=by
 cases q with
 |true=>exact CC h
 |false=>simp only[OL]at h;rw[Tl]at h;cases h
theorem uG{k:IntKind}{x y:Int}(h:Es op k x y v)(u:Nat):v.ref u=false:=by cases op<;>simp only[Es]at h<;>first|(subst h;rfl)|(obtain⟨_,rfl⟩:=h;rfl)|exact h.elim
theorem vG{x y:ByteArray}(h:DV op x y v)(u:Nat):v.ref u=false:=by cases op<;>simp only[DV]at h<;>first|(subst h;rfl)|(obtain⟨_,rfl⟩:=h;rfl)|exact h.elim
theorem wo{x y:Bool}(h:I3 op x y v)(u:Nat):v.ref u=false:=by cases op<;>simp only[I3]at h<;>first|(subst h;rfl)|(obtain⟨_,rfl⟩:=h;rfl)|exact h.elim
theorem tY{T:TypeId}{x y:V}(h:uT P op T x y v)(u:Nat):v.ref u=false:=by
 unfold uT at h;split at h
 ·exact uG h.2 u
 ·exact vG h u
 ·exact wo h.2 u
 ·obtain⟨_,q,_,⟨_,rfl⟩|⟨_,rfl⟩⟩:=h<;>rfl
 ·exact h.elim
theorem AV{u:Nat}:∀{xs:List V}{i:Nat}{v:V},xs[i]?=some v->v.IU u=true->Po u xs=true
 |[],_,_,h,_=>by simp at h
 |x::xs,0,v,h,hr=>by simp at h;subst h;simp[Po,hr]
 |x::xs,i+1,v,h,hr=>by simp only[Po,Bool.or_eq_true];exact .inr (AV zCF hr)
theorem AR(hf:v.flat=true)(u:Nat):v.ref u=v.IU u:=by cases v<;>first|rfl|(simp[V.flat]at hf)
theorem Dc{P:Program}{σ:St}{T:TypeId}{u:Nat}:∀{ps:List (Nat×Operand)}{z out:List At},Rk P σ T ps z out->Yb u out=true->
  Yb u z=true\/∃x∈ps.map (·.2),∃ty,(look P σ ty x).ref u=true
 |[],z,out,h,hr=>by simp only[Rk]at h;subst h;exact .inl hr
 |(i,x)::ps,z,out,h,hr=>by
  simp only[Rk]at h;rcases Dc h.2.2.2.2.2 hr with h1|⟨y,hy,ty,h1⟩
  ·rcases sr h1 with h1|h1
   ·exact .inl h1
   ·exact .inr ⟨x,zAE,_,TA h1⟩
  ·exact .inr ⟨y,by simp at hy⊢;exact .inr hy,ty,h1⟩
theorem G0{op:Op}{ty:TypeId}(hs:Yj P σ op ty v)(hr:v.ref u=true):HR P op.operands.toList σ u:=by
 have nod:∀{x:D},v= .one (.d x)->False:=by intro x e;rw[e]at hr;cases hr
 cases op<;>simp only[Yj]at hs;case move x=>subst hs;exact⟨x,by simp[Op.operands],ty,.inl hr⟩
 case assign x=>subst hs;exact⟨x,by simp[Op.operands],ty,.inl hr⟩
 case pick c a b=>obtain⟨bc,p,q,_,_,_,_,_,_,rfl⟩:=hs;cases hr
 case load T x=>
  have hH:=hs.2.2;split at hH
  ·rename_i t c hx;obtain⟨cells,ho,_,rfl⟩:=hH;exact⟨x,by simp[Op.operands],0,.inr ⟨t,cells,QD hx zBC,ho,Lh (Mk hr)⟩⟩
  ·rename_i t j i c hx;obtain⟨q,size,rows,_,_,_,rfl⟩:=hH;have:=tE (Mk hr)
   exact⟨x,by simp[Op.operands],0,.inl (QD hx (by simp[At.ref,this]))⟩
  ·obtain⟨_,rfl⟩:=hH;have:=Mk hr;rw[Tl]at this;cases this
  ·obtain⟨_,_,_,_,_,_,_,_,_,rfl⟩:=hH;have:=Mk hr;rw[Tl]at this;cases this
  ·exact hH.elim
 case nilCheck x=>
  have hH:=hs.2;split at hH
  ·rename_i t c hx;obtain⟨_,rfl⟩:=hH;exact⟨x,by simp[Op.operands],0,.inl (QD hx hr)⟩
  ·exact hH.elim
 case fieldAddr T x f=>
  have hH:=hs.2.2;split at hH
  ·rename_i t c hx;obtain⟨_,rfl⟩:=hH;exact⟨x,by simp[Op.operands],0,.inl (QD hx hr)⟩
  ·rename_i t j i c hx;obtain⟨_,rfl⟩:=hH;exact⟨x,by simp[Op.operands],0,.inl (QD hx hr)⟩
  ·subst hH;cases hr
  ·rename_i t j i c k hx;obtain⟨_,rfl⟩:=hH;exact⟨x,by simp[Op.operands],0,.inl (QD hx hr)⟩
  ·exact hH.elim
 case indexAddr T x ix=>
  obtain⟨k,i,_,_,_,hH⟩:=hs;split at hH
  ·obtain⟨_,_,_,_,rfl⟩:=hH;cases hr
  ·rename_i t j lo len hx;obtain⟨_,_,_,_,rfl⟩:=hH;exact⟨x,by simp[Op.operands],0,.inl (QD hx hr)⟩
  ·rename_i t c hx;obtain⟨_,_,rfl⟩:=hH;exact⟨x,by simp[Op.operands],0,.inl (QD hx hr)⟩
  ·rename_i t j m c hx;obtain⟨_,_,_,rfl⟩:=hH;exact⟨x,by simp[Op.operands],0,.inl (QD hx hr)⟩
  ·exact hH.elim
 case index T x ix=>
  obtain⟨k,i,_,_,_,hH⟩:=hs;split at hH
  ·obtain⟨_,_,rfl⟩:=hH;cases hr
  ·rename_i xs hx;obtain⟨_,_,_,rfl⟩:=hH;exact⟨x,by simp[Op.operands],0,.inl (Ln hx (Lh (Mk hr)))⟩
  ·exact hH.elim
 case slice T x lo hi mx=>
  cases mx with
  |some m=>exact hs.elim
  |none=>
   simp only at hs;have hH:=hs.2
   split at hH
   ·obtain⟨_,_,_,_,_,_,_,rfl⟩:=hH;cases hr
   ·obtain⟨_,_,_,_,_,_,_,_,rfl⟩:=hH;cases hr
   ·rename_i t j o len hx;obtain⟨_,_,_,_,_,_,_,_,rfl⟩:=hH;exact⟨x,by simp[Op.operands],0,.inl (QD hx hr)⟩
   ·exact hH.elim
 case binOp op T x y yt=>rw[tY hs.2.2 u]at hr;cases hr
 case unOp op T x=>
  have hH:=hs.2;split at hH
  ·subst hH;cases hr
  ·subst hH;cases hr
  ·exact hH.elim
 case convert S T x=>
  have hH:=hs.2.2;split at hH
  ·obtain⟨_,_,rfl⟩:=hH;cases hr
  ·exact hH.elim
 case extract x i=>
  have hH:=hs.2;split at hH
  ·rename_i xs hx;refine⟨x,by simp[Op.operands],0,.inl (oq ?_ (by rw[hx];simp) (by rw[hx];simp))⟩;rw[hx];rw[AR hH.2]at hr;exact AV hH.1 hr
  ·exact hH.elim
 case field T x f=>
  have hH:=hs.2.2.2;split at hH
  ·rename_i xs hx;obtain⟨_,rfl⟩:=hH;exact⟨x,by simp[Op.operands],0,.inl (Ln hx (Lh (Mk hr)))⟩
  ·exact hH.elim
 case build T parts=>
  obtain⟨_,_,z,out,h3,h4,rfl⟩:=hs;rcases Dc h4 hr with h1|⟨x,hx,ty',h1⟩
  ·rw[IF u _ _ _ h3]at h1;cases h1
  ·exact⟨x,by simpa[Op.operands]using hx,ty',.inl h1⟩
 case call c=>
  split at hs
  ·have hH:=hs.2;split at hH
   ·obtain⟨_,rfl⟩:=hH;cases hr
   ·obtain⟨_,rfl⟩:=hH;cases hr
   ·obtain⟨_,rfl⟩:=hH;cases hr
   ·obtain⟨_,_,rfl⟩:=hH;cases hr
   ·obtain⟨_,_,_,_,_,_,_,_,rfl⟩:=hH;cases hr
   ·exact hH.elim
  ·obtain⟨_,_,_,_,_,rfl⟩:=hs;cases hr
  ·obtain⟨_,_,_,_,_,rfl⟩:=hs;cases hr
  ·exact hs.elim
open Go.RowKit
inductive Eff where
 |put (v:V)
 |new (v:V) (os:List Ob)
 |drop (t j:Nat) (v:V) (os:List Ob)
variable{e:Eff}
def Eff.ap(d:Nat):Eff->St->St
 |.put v,σ=>σ.put d v
 |.new v os,σ=>σ.new d v os
 |.drop t j v os,σ=>(σ.Z0 t j .none).new d v os
def Eff.ok(d:Nat):Eff->St->Prop
 |.put _,_=>True
 |.new _ _,σ=>σ.fresh d=true
 |.drop t j _ _,σ=>(∃q s r,σ.ob t j= .arr q s r)/\(σ.Z0 t j .none).fresh d=true
def Eff.ref(u:Nat):Eff->Bool
 |.put v=>v.ref u
 |.new v os=>v.ref u||XB u os
 |.drop _ _ v os=>v.ref u||XB u os
def SR(o:Oper):Bool:=
 match o.op with
 |.call ⟨.builtin .append,⟨.const _::_⟩,_⟩=>false
 |.call ⟨.builtin .append,_,_⟩=>true
 |_=>false
def zb(o:Oper):Bool:=
 match o.op with
 |.alloc _=>false
 |.box _ _=>false
 |.buildSlice _ _ _=>false
 |.makeSlice _ _ _=>false
 |.call ⟨.builtin .append,_,_⟩=>false
 |.call ⟨.value _,_,_⟩=>false
 |_=>true
def xA(ops:Array Oper)(o:Oper):List Operand:=
 o.op.operands.toList++(match o.guard with|some (j,_)=>(match(ops[j]?).bind (·.dst)with|some dj=>[.tmp dj]|none=>[])|none=>[])
theorem Sub.left{xs:List Operand}(h:Sub P (xs++ys) σ1 σ):Sub P xs σ1 σ:=⟨h.len,fun x hx=>h.look x (by simp[hx]),fun x hx=>h.ob x (by simp[hx])⟩
theorem w8{x:At}{d:D}(h:∀u,x.ref u=true->∀j,σ1.ob u j≠ .none->σ.ob u j=σ1.ob u j)(hd:yX σ1 x=some d):yX σ x=some d:=by
 cases x with
 |sref t j lo len=>
  simp only[yX]at hd⊢;split at hd
  ·rename_i q size rows ho;rw[h t zBC j zA9,ho];exact hd
  ·cases hd
 |_=>exact hd
theorem UQ:∀{xs:List At}{r:List D},(∀u,Yb u xs=true->∀j,σ1.ob u j≠ .none->σ.ob u j=σ1.ob u j)->rowOf σ1 xs=some r->rowOf σ xs=some r
 |[],_,_,h=>h
 |x::xs,r,h,hr=>by
  simp only[rowOf]at hr⊢;split at hr
  ·rename_i d ds h1 h2;rw[w8 (fun u hu=>h u (by rw[Yb,hu];rfl)) h1,UQ (fun u hu=>h u (by rw[Yb,hu,Bool.or_true])) h2];exact hr
  ·cases hr
theorem Cr{r:List D}(h:∀u,Yb u v.cells=true->∀j,σ1.ob u j≠ .none->σ.ob u j=σ1.ob u j)(hr:v.zG σ1=some r):v.zG σ=some r:=by
 cases v with
 |one x=>exact UQ h hr
 |agg xs=>
  match xs,h,hr with
  |[],h,hr=>exact UQ h hr
  |[_],_,hr=>simp[V.zG]at hr
  |x::y::xs,h,hr=>exact UQ h hr
 |any=>simp[V.zG]at hr
 |tup xs=>simp[V.zG]at hr
 |cnd g x=>simp[V.zG]at hr
 |fix u x=>simp[V.zG]at hr
theorem Sub.cells{xs:List Operand}(h:Sub P xs σ1 σ)(hx:x∈xs)(ty:TypeId):∀u,Yb u (unc (Vm.look P σ1 ty x)).cells=true->∀j,σ1.ob u j≠ .none->σ.ob u j=σ1.ob u j:=
 fun u hu j hn=>h.ob x hx ty u (TA hu) j hn
theorem V6:∀{xs:List Operand}{ts:List TypeId}{rs:List (List D)},Sub P xs σ1 σ->Qb P σ1 xs ts rs->Qb P σ xs ts rs
 |[],_,_,_,h=>h
 |x::xs,[],_,_,h=>h.elim
 |x::xs,t::ts,rs,hs,h=>by
  obtain⟨hg,r,rest,h1,h2,h3⟩:=h;have e:=hs.look x zAE t
  refine⟨by rw[<-e];exact hg,r,rest,?_,V6 ⟨hs.len,fun y hy=>hs.look y (by simp[hy]),fun y hy=>hs.ob y (by simp[hy])⟩ h2,h3⟩;rw[<-e];exact Cr (hs.cells zAE t) h1
theorem Vi:∀{xs:List Operand}{ts:List TypeId},Sub P xs σ1 σ->Yh P σ xs ts=Yh P σ1 xs ts
 |[],_,_=>by simp[Yh]
 |x::xs,[],_=>by simp[Yh]
 |x::xs,t::ts,hs=>by simp only[Yh];rw[hs.look x zAE t,Vi ⟨hs.len,fun y hy=>hs.look y (by simp[hy]),fun y hy=>hs.ob y (by simp[hy])⟩]
theorem Nl{own:Bool}(hs:Sub P c.args.toList σ1 σ)(h:uU P σ1 c f own res):uU P σ c f own res:=by obtain⟨rows,h1,h2,h3⟩:=h;exact⟨rows,V6 hs h1,h2,by rw[Vi hs];exact h3⟩
theorem Nw{T:TypeId}{size:Nat}:∀{ps:List (Nat×Operand)}{k:Nat}{rs:List (List D)},Sub P (ps.map (·.2)) σ1 σ->HL P σ1 T size ps k rs->HL P σ T size ps k rs
 |[],_,_,_,h=>h
 |(i,x)::ps,k,rs,hs,h=>by have e:=hs.look x zAE T;obtain⟨h1,h2,h3,h4,r,rest,h5,h6,h7,h8⟩:=h;refine⟨h1,by rw[<-e];exact h2,by rw[<-e];exact h3,by rw[<-e];exact h4,r,rest,?_,h6,Nw ⟨hs.len,fun y hy=>hs.look y zBj,fun y hy=>hs.ob y zBj⟩ h7,h8⟩;rw[<-e];exact UQ (hs.cells zAE T) h5
theorem FN{T:TypeId}{size:Nat}:∀{ps:List (Nat×Operand)}{k:Nat}{rs:List (List At)},Sub P (ps.map (·.2)) σ1 σ->HH P σ1 T size ps k rs->HH P σ T size ps k rs
 |[],_,_,_,h=>h
 |(i,x)::ps,k,rs,hs,h=>by
  obtain⟨h1,h2,h3,h4,rest,h5,h6⟩:=h;have e:=hs.look x zAE T
  rw[e]at h2 h3 h4 h6;exact⟨h1,h2,h3,h4,rest,FN ⟨hs.len,fun y hy=>hs.look y zBj,fun y hy=>hs.ob y zBj⟩ h5,h6⟩
theorem B7{T:TypeId}{size u:Nat}:∀{ps:List (Nat×Operand)}{k:Nat}{rs:List (List At)},HH P σ T size ps k rs->Yb u rs.flatten=true->∃x∈ps.map (·.2),(Vm.look P σ T x).ref u=true
 |[],_,_,h,hr=>by simp only[HH]at h;subst h;simp[Yb]at hr
 |(i,x)::ps,k,rs,h,hr=>by
  obtain⟨h1,h2,h3,h4,rest,h5,rfl⟩:=h;rw[List.flatten_cons]at hr;obtain⟨z,hz,ep⟩:=zy.1 hr;rcases List.mem_append.1 hz with hz|hz
  ·exact⟨x,zAE,TA (zy.2 ⟨z,hz,ep⟩)⟩
  ·obtain⟨y,hy,hyr⟩:=B7 h5 (zy.2 ⟨z,hz,ep⟩);exact⟨y,by simp at hy⊢;exact .inr hy,hyr⟩
theorem yn(u:Nat):∀(qs:List Bool)(ds:List D),XB u (YZ qs ds)=false
 |qs,[]=>by cases qs<;>rfl
 |q::qs,.sl size rows::ds=>by simp[YZ,XB,yn u qs ds]
 |[],.sl size rows::ds=>by simp[YZ,XB,yn u [] ds]
 |qs,.int _ _::ds=>zB4
 |qs,.bool _::ds=>zB4
 |qs,.str _::ds=>zB4
 |qs,.unk::ds=>zB4
theorem Rf{xs:List Operand}{ty:TypeId}(hs:Sub P xs σ1 σ)(hx:x∈xs)(h:yF σ1 (unc (Vm.look P σ1 ty x)) size news):yF σ (unc (Vm.look P σ ty x)) size news:=by
 rw[hs.look x hx]at h;unfold yF at h⊢;split at h
 ·exact h
 ·exact h
 ·rename_i t j lo len hv;obtain⟨rows,ho,hr⟩:=h;exact⟨rows,hs.same hx hv zBC ho zAE,hr⟩
 ·exact h.elim
theorem sW(u:Nat)(r:List D):(vOf (r.map At.d)).ref u=false:=by
 have:=Tl (u:=u) r;match r,this with
 |[],_=>rfl
 |[x],_=>rfl
 |x::y::r,h=>exact h
theorem tI(u:Nat)(r:List D):(vOf (r.map At.d)).IU u=false:=by
 have:=Tl (u:=u) r;match r,this with
 |[],_=>rfl
 |[x],_=>rfl
 |x::y::r,h=>exact h
theorem AO(u:Nat)(res:List (List D)):(qG res).ref u=false:=by
 have tl:∀rs:List (List D),Po u (rs.map fun r=>vOf (r.map At.d))=false:=by
  intro rs;induction rs with
  |nil=>rfl
  |cons r rs ih=>simp only[List.map_cons,Po,tI,ih,Bool.or_false]
 match res with
 |[]=>rfl
 |[r]=>exact sW u r
 |r::r'::rs=>exact tl (r::r'::rs)
theorem Lp{u d:Nat}(hu:u≠d):∀(k:Nat)(r:List D),Yb u (Kg d k r)=false
 |_,[]=>rfl
 |k,x::r=>by cases x<;>simp[Kg,Yb,At.ref,Lp hu,Ne.symm hu]
theorem uJ{xs:List At}(h:Yb u xs=false):(vOf xs).IU u=false:=by
 match xs,h with
 |[],_=>rfl
 |[x],h=>simpa[vOf,V.IU,Yb]using h
 |x::y::xs,h=>exact h
theorem Dn(hu:u≠d)(res:List (List D)):(WM d res).ref u=false:=by
 have tl:∀(k:Nat)(rs:List (List D)),Po u (AP d k rs)=false:=by
  intro k rs;induction rs generalizing k with
  |nil=>rfl
  |cons r rs ih=>simp only[AP,Po,uJ (Lp hu _ _),ih,Bool.or_false]
 match res with
 |[]=>exact tl 0 []
 |[r]=>
  have h1:(vOf (Kg d 0 r)).flat=true:=by
   match Kg d 0 r with
   |[]=>rfl
   |[x]=>rfl
   |x::y::xs=>rfl
  have:=uJ (Lp hu 0 r);rw[<-AR h1]at this;exact this
 |r::r'::rs=>exact tl 0 (r::r'::rs)
theorem Cb(u:Nat):∀(ds:List D),XB u (xj ds)=false
 |[]=>rfl
 |x::ds=>by cases x<;>simp[xj,XB,Cb u ds]
theorem Pp(ty:TypeId)(v:Value)(u:Nat):(cst P ty v).ref u=false:=by
 unfold cst;split<;>first|rfl|skip
 all_goals(repeat' split)<;>first|rfl|skip
open Go.RowKit
variable{ops:Array Oper}{os:List Ob}
def CJ(P:Program)(ops:Array Oper)(o:Oper)(d:Nat)(σ1:St)(e:Eff):Prop:=
 e.ok d σ1/\(∀t j v os,e= .drop t j v os->SR o=true/\∃x∈xA ops o,∃ty,(look P σ1 ty x).ref t=true)/\
 (zb o=true\/o.guard.isSome=true->∃v,e= .put v)/\
 (o.guard=none->∀u,u≠d->e.ref u=true->HR P (xA ops o) σ1 u)/\
 ∀σ,Sub P (xA ops o) σ1 σ->e.ok d σ->XU P ops o σ (e.ap d σ)
theorem L7{xs:List Operand}(h:HR P xs σ1 u):HR P (xs++ys) σ1 u:=by obtain⟨x,hx,r⟩:=h;exact⟨x,by simp[hx],r⟩
theorem R7(hg:o.guard=none)(hd:o.dst=some d)(h:Step P o d σ σ'):XU P ops o σ σ':=by unfold XU;simp only[hg,hd];exact h
theorem IT(hg:o.guard=none)(hd:o.dst=some d)(aV:∀u,u≠d->v.ref u=true->HR P o.op.operands.toList σ1 u)
  (gj:∀σ,Sub P o.op.operands.toList σ1 σ->Step P o d σ (σ.put d v)):CJ P ops o d σ1 (.put v):=
 ⟨trivial,(fun t j v os h=>by cases h),fun _=>⟨v,rfl⟩,fun _ u hu hr=>L7 (aV u hu hr),fun σ hs _=>R7 hg hd (gj σ hs.left)⟩
theorem RX(hg:o.guard=none)(hd:o.dst=some d)(hp:zb o=false)(gF:σ1.fresh d=true)(aV:∀u,u≠d->(v.ref u||XB u os)=true->HR P o.op.operands.toList σ1 u)
  (gj:∀σ,Sub P o.op.operands.toList σ1 σ->σ.fresh d=true->Step P o d σ (σ.new d v os)):CJ P ops o d σ1 (.new v os):=
 ⟨gF,(fun t j v os h=>by cases h),(fun h=>h.elim (fun h=>by rw[hp]at h;cases h) (fun h=>by rw[hg]at h;cases h)),fun _ u hu hr=>L7 (aV u hu hr),fun σ hs hf=>R7 hg hd (gj σ hs.left hf)⟩
theorem zw(hx:x∈c.args.toList):x∈(Op.operands (.call c)).toList:=by obtain⟨cal,args,dm⟩:=c;simp only[Op.operands,Call.operands];cases cal<;>simp at hx⊢<;>simp[hx]
theorem Ha(h:Sub P (Op.operands (.call c)).toList σ1 σ):Sub P c.args.toList σ1 σ:=
 ⟨h.len,fun x hx=>h.look x (zw hx),fun x hx=>h.ob x (zw hx)⟩
theorem pD(hg:o.guard=none)(hd:o.dst=some d)(hs:Step P o d σ1 σ2):∃e:Eff,σ2=e.ap d σ1/\CJ P ops o d σ1 e:=by
 have fa:(∃v,Yj P σ1 o.op o.type v/\σ2=σ1.put d v)->(∀σ v,Yj P σ o.op o.type v->Step P o d σ (σ.put d v))->∃e:Eff,σ2=e.ap d σ1/\CJ P ops o d σ1 e:=by rintro⟨v,hv,rfl⟩ gH;exact⟨.put v,rfl,IT hg hd (fun u _ hr=>G0 hv hr) (fun σ gV=>gH σ v (UC hv gV))⟩
 have hs0:=hs;unfold Step at hs;split at hs
 ·rename_i T ig;obtain⟨hf,hz,row,gN,rfl⟩:=hs;refine⟨.new _ _,rfl,RX hg hd (by simp[zb,ig]) hf (fun u hu hr=>?_) (fun σ gV cQ=>?_)⟩
  ·simp only[V.ref,At.ref,XB,IF u _ _ _ gN,Bool.or_false,beq_iff_eq]at hr;exact absurd hr.symm hu
  ·unfold Step;rw[ig];exact⟨cQ,hz,row,gN,rfl⟩
 ·rename_i T x ig;obtain⟨hf,h1,h2,h3,rfl⟩:=hs;refine⟨.new _ _,rfl,RX hg hd (by simp[zb,ig]) hf (fun u hu hr=>?_) (fun σ gV cQ=>?_)⟩
  ·simp only[V.ref,At.ref,XB,Bool.or_false,Bool.or_eq_true,beq_iff_eq]at hr;rcases hr with hr|hr
   ·exact absurd hr.symm hu
   ·exact⟨x,by simp[ig,Op.operands],T,.inl (TA hr)⟩
  ·have e:=gV.look x (by simp[ig,Op.operands]) T;unfold Step;rw[ig];simp only;rw[<-e];exact⟨cQ,h1,h2,h3,rfl⟩
 ·rename_i T n parts ig;rcases hs with⟨hf,h1,h2,h3,h4,h5,⟨rows,h6,rfl⟩|⟨rows,h6,h7,rfl⟩⟩|⟨h1,rows,h6,rfl⟩
  ·refine⟨.new _ _,rfl,RX hg hd (by simp[zb,ig]) hf (fun u hu hr=>?_) (fun σ gV cQ=>?_)⟩
   ·simp only[V.ref,At.ref,XB,Bool.or_false,beq_iff_eq]at hr;exact absurd hr.symm hu
   ·unfold Step;rw[ig];refine .inl ⟨cQ,h1,h2,h3,h4,h5,.inl ⟨rows,Nw ?_ h6,rfl⟩⟩;rw[ig]at gV;simpa[Op.operands]using gV
  ·refine⟨.new _ _,rfl,RX hg hd (by simp[zb,ig]) hf (fun u hu hr=>?_) (fun σ gV cQ=>?_)⟩
   ·simp only[V.ref,At.ref,XB,Bool.or_false,Bool.or_eq_true,beq_iff_eq]at hr;rcases hr with hr|hr
    ·exact absurd hr.symm hu
    ·obtain⟨x,hx,hxr⟩:=B7 h6 hr;exact⟨x,by simpa[ig,Op.operands]using hx,_,.inl hxr⟩
   ·unfold Step;rw[ig];refine .inl ⟨cQ,h1,h2,h3,h4,h5,.inr ⟨rows,FN ?_ h6,h7,rfl⟩⟩;rw[ig]at gV;simpa[Op.operands]using gV
  ·refine⟨.put _,rfl,IT hg hd (fun u _ hr=>by cases hr) (fun σ gV=>?_)⟩;unfold Step;rw[ig];refine .inr ⟨h1,rows,Nw ?_ h6,rfl⟩;rw[ig]at gV;simpa[Op.operands]using gV
 ·rename_i T x y ig;obtain⟨rfl,hf,h1,h2,h3,q,z,zr,k,n,hq,h4,h5,h6,h7,h8,rfl⟩:=hs;refine⟨.new _ _,rfl,RX hg hd (by simp[zb,ig]) hf (fun u hu hr=>?_) (fun σ gV cQ=>?_)⟩
  ·simp only[V.ref,At.ref,XB,Bool.or_false,beq_iff_eq]at hr;exact absurd hr.symm hu
  ·unfold Step;rw[ig];exact⟨rfl,cQ,h1,h2,h3,q,z,zr,k,n,hq,h4,h5,qF gV (by simp[ig,Op.operands]) h6,h7,h8,rfl⟩
 ·rename_i c ig;split at hs
  ·rename_i hc;obtain⟨x,y,t,ha,dC,h1,h2,h3,h4,h5,im,news,σd,h6,h7,h8,h9,dT,rfl⟩:=hs;have hx:x∈o.op.operands.toList:=by rw[ig];exact zw zB3
   have hy:y∈o.op.operands.toList:=by rw[ig];exact zw zB3
   have cS:zb o=false:=by obtain⟨cc,ca,ct⟩:=c;simp only at hc;subst hc;simp[zb,ig]
   have refs:∀u,u≠d->(V.ref u (.one (.sref d 0 0 (im.length+news.length)))||XB u [.arr false (P.cellsOf (ZS P t)) (im++news)])=true->HR P o.op.operands.toList σ1 u:=by intro u hu hr;simp only[V.ref,At.ref,XB,Bool.or_false,beq_iff_eq]at hr;exact absurd hr.symm hu
   have h6':=h6;unfold OC at h6;split at h6
   ·rename_i s heq;obtain⟨rfl,rfl⟩:=h6;refine⟨.new _ _,rfl,RX hg hd cS h8 refs (fun σ gV cQ=>?_)⟩;unfold Step;rw[ig];simp only[hc];refine⟨x,y,t,ha,dC,?_,?_,h3,h4,h5,[],news,σ,?_,Rf gV hy h7,cQ,h9,dT,rfl⟩
    ·rw[<-gV.look x hx];exact h1
    ·rw[<-gV.look y hy];exact h2
    ·rw[<-gV.look x hx];unfold OC;rw[heq];exact⟨rfl,rfl⟩
   ·rename_i tt j lo len heq;obtain⟨rows,ho,dQ,hlen,holds,rfl⟩:=h6;have hrx:(look P σ1 t x).ref tt=true:=QD heq zBC
    refine⟨.drop tt j _ _,rfl,⟨⟨_,_,_,ho⟩,h8⟩,?_,(fun hh=>hh.elim (fun hh=>by rw[cS]at hh;cases hh) (fun hh=>by rw[hg]at hh;cases hh)),fun _ u hu hr=>L7 (refs u hu hr),fun σ gV cQ=>R7 hg hd ?_⟩
    ·intro t' j' v os he;cases he;refine⟨?_,x,by simp only[xA,List.mem_append];exact .inl hx,t,hrx⟩;obtain⟨cc,ca,ct⟩:=c;simp only at hc ha;subst hc ha;cases x with
     |const v=>rw[Vm.look,Pp]at hrx;cases hrx
     |_=>simp[SR,ig]
    ·have cT:=gV.left;unfold Step;rw[ig];simp only[hc];have dU:unc (look P σ t x)= .one (.sref tt j lo len):=by rw[<-cT.look x hx];exact heq
     refine⟨x,y,t,ha,dC,?_,?_,h3,h4,h5,im,news,_,?_,Rf cT hy h7,cQ.2,h9,dT,rfl⟩
     ·rw[<-cT.look x hx];exact h1
     ·rw[<-cT.look y hy];exact h2
     ·unfold OC;rw[dU];exact⟨rows,cT.same hx dU zBC ho zAE,dQ,hlen,holds,rfl⟩
   ·exact h6.elim
  ·rename_i f hc;have cS:zb o=false:=by obtain⟨cc,ca,ct⟩:=c;simp only at hc;subst hc;simp[zb,ig]
   rcases hs with⟨own,res,hcr,rfl⟩|⟨res,hcr,hf,rfl⟩|⟨rows,res,qs,ha,hsd,hq,hf,rfl⟩
   ·refine⟨.put _,rfl,IT hg hd (fun u _ hr=>by rw[AO]at hr;cases hr) (fun σ gV=>?_)⟩;rw[ig]at gV;unfold Step;rw[ig];simp only[hc];exact .inl ⟨own,res,Nl (Ha gV) hcr,rfl⟩
   ·refine⟨.new _ _,rfl,RX hg hd cS hf (fun u hu hr=>?_) (fun σ gV cQ=>?_)⟩
    ·rw[Dn hu,Cb]at hr;cases hr
    ·rw[ig]at gV;unfold Step;rw[ig];simp only[hc];exact .inr (.inl ⟨res,Nl (Ha gV) hcr,cQ,rfl⟩)
   ·refine⟨.new _ _,rfl,RX hg hd cS hf (fun u hu hr=>?_) (fun σ gV cQ=>?_)⟩
    ·rw[Dn hu,yn]at hr;cases hr
    ·rw[ig]at gV;unfold Step;rw[ig];simp only[hc];exact .inr (.inr ⟨rows,res,qs,V6 (Ha gV) ha,hsd,hq,cQ,rfl⟩)
  ·rename_i h1 h2;refine fa hs (fun σ v hv=>?_);unfold Step;rw[ig];simp only;exact⟨v,by rw[ig]at hv;exact hv,rfl⟩
 ·rename_i S T x ig;rcases hs with hs|⟨l,h1,h2,h3,h4,rfl⟩|⟨s,h1,h2,h3,h4,h5,rfl⟩
  ·refine fa hs (fun σ v hv=>?_);unfold Step;rw[ig];exact .inl ⟨v,by rw[ig]at hv;exact hv,rfl⟩
  ·refine⟨.put _,rfl,IT hg hd (fun u _ hr=>by cases hr) (fun σ gV=>?_)⟩;have hx:x∈o.op.operands.toList:=by simp[ig,Op.operands]
   unfold Step;rw[ig];exact .inr (.inl ⟨l,by rw[<-gV.look x hx];exact h1,h2,h3,Rf gV hx h4,rfl⟩)
  ·refine⟨.put _,rfl,IT hg hd (fun u _ hr=>by cases hr) (fun σ gV=>?_)⟩;have hx:x∈o.op.operands.toList:=by simp[ig,Op.operands]
   unfold Step;rw[ig];exact .inr (.inr ⟨s,by rw[<-gV.look x hx];exact h1,h2,h3,by rw[<-gV.look x hx];exact h4,h5,rfl⟩)
 ·rename_i n1 n2 n3 n4 n5 n6;refine fa hs (fun σ v hv=>?_);unfold Step;split
  ·rename_i T ig;exact absurd ig (n1 T)
  ·rename_i T x ig;exact absurd ig (n2 T x)
  ·rename_i T n ps ig;exact absurd ig (n3 T n ps)
  ·rename_i T x y ig;exact absurd ig (n4 T x y)
  ·rename_i c ig;exact absurd ig (n5 c)
  ·rename_i S T x ig;exact absurd ig (n6 S T x)
  ·exact⟨v,hv,rfl⟩
open Go.RowKit
theorem QY:σ.fresh d=true↔d<σ.length/\∀t e,σ[t]?=some e->t≠d->e.1.ref d=false/\XB d e.2=false:=by
 unfold St.fresh;rw[Bool.and_eq_true,decide_eq_true_eq];refine and_congr_right fun _=>⟨fun h t e he ij=>xW h t e he zAC,fun h=>?_⟩;have:∀(σ:St)(k:Nat),(∀t e,σ[t]?=some e->k+t≠d->e.1.ref d=false/\XB d e.2=false)->yG d k σ=true:=by
  intro σ;induction σ with
  |nil=>intro k _;rfl
  |cons e σ ih=>
   intro k hk;simp only[yG,Bool.and_eq_true,Bool.or_eq_true,beq_iff_eq,Bool.not_eq_true'];refine⟨?_,ih (k+1) fun t e' he ij=>hk (t+1) e' (by simpa using he) zAC⟩;by_cases h0:k=d
   ·exact .inl h0
   ·exact .inr (hk 0 e zAE zAC)
 exact this σ 0 (fun t e he ij=>h t e he zAC)
theorem Ch{e:Ent}(h:σ[t]?=some e)(j:Nat):σ.ob t j=Yr e.2 j:=by unfold St.ob;rw[h]
theorem NR{o:Ob}(h:σ.ob t j=o)(hn:o≠ .none):∃e,σ[t]?=some e/\Yr e.2 j=o:=by
 unfold St.ob at h;split at h
 ·rename_i e he;exact⟨e,he,h⟩
 ·exact absurd h.symm hn
theorem IC{u:Nat}:∀{os:List Ob}{j:Nat}{cells:List At},Yr os j= .box cells->Yb u cells=true->XB u os=true
 |[],_,_,h,_=>by simp[Yr]at h
 |o::os,0,cells,h,hr=>by have:o= .box cells:=h;subst this;simp[XB,hr]
 |o::os,j+1,cells,h,hr=>by have h':Yr os j= .box cells:=zCW;have:=IC h' hr;cases o<;>simp[XB,this]
theorem qS{u s:Nat}{q:Bool}{r:List (List D)}:∀{os:List Ob}{j:Nat},Yr os j= .arr q s r->XB u (os.set j .none)=XB u os
 |[],_,h=>by simp[Yr]at h
 |o::os,0,h=>by have:o= .arr q s r:=h;subst this;simp[XB]
 |o::os,j+1,h=>by have h':Yr os j= .arr q s r:=zCW;have:=qS (u:=u) h';cases o<;>simp[XB,this]
theorem Ho(h:XY σ d=true){e:Ent}(he:σ[d]?=some e)(u:Nat):e.1.ref u=false/\XB u e.2=false:=by
 unfold XY at h;split at h
 ·rename_i h1;rw[he]at h1;cases h1;exact⟨rfl,rfl⟩
 ·rename_i h1;rw[he]at h1;cases h1;exact⟨rfl,rfl⟩
 ·cases h
section
variable{x:Oper}
theorem VJ(hd:o.dst=some d)(hs:XU P ops o σ1 σ2):∃e:Eff,σ2=e.ap d σ1/\CJ P ops o d σ1 e:=by
 unfold XU at hs;split at hs
 ·rename_i hg;simp only[hd]at hs;exact pD hg hd hs
 ·rename_i j want hg;obtain⟨dj,d',g,v,fh,hD,hJ,fr,hv,rfl⟩:=hs;rw[hd]at hJ;cases hJ;refine⟨.put (.cnd g v),rfl,trivial,(fun t j v os h=>by cases h),fun _=>⟨_,rfl⟩,(fun h=>by rw[hg]at h;cases h),fun σ gV _=>?_⟩;have fF:Operand.tmp dj∈xA ops o:=by simp[xA,hg,fh]
  have fA:σ.get dj=σ1.get dj:=(gV.look _ fF 0).symm;unfold XU;simp only[hg];refine⟨dj,d,g,v,fh,by rw[<-gV.len];exact hD,hd,by rw[fA];exact fr,fun aW=>?_,rfl⟩;have eY:=hv aW;have bS:=gV.left;unfold GI at eY⊢;split at eY
  ·rename_i c ig;split at eY
   ·rename_i f hc;obtain⟨own,res,hcr,rfl⟩:=eY;rw[ig]at bS;exact⟨own,res,Nl (Ha bS) hcr,rfl⟩
   ·obtain⟨v0,h1,h2⟩:=eY;exact⟨v0,UC h1 bS,h2⟩
  ·obtain⟨v0,h1,h2⟩:=eY;exact⟨v0,UC h1 bS,h2⟩
theorem yO(e:Eff):(e.ap d σ).length=σ.length:=by cases e<;>simp[Eff.ap,St.Qv,St.Vw,St.XR]
theorem Hz(e:Eff)(ij:t≠d):(e.ap d σ).get t=σ.get t:=by
 cases e with
 |put v=>simp[Eff.ap,St.zc,ij]
 |new v os=>simp[Eff.ap,St.TD,ij]
 |drop a j v os=>simp[Eff.ap,St.TD,St.Xz,ij]
theorem rG(h:(σ.get t).ref u=true):∃e,σ[t]?=some e/\e.1.ref u=true:=by
 unfold St.get at h;split at h
 ·rename_i e he;exact⟨e,he,h⟩
 ·cases h
end
open Go.RowKit
variable{en:Ent}
section
variable{x:Oper}
theorem zp(hf:∀t e,σ[t]?=some e->t≠d->e.1.ref d=false)(hz:z≠ .tmp d)(ty:TypeId):(look P σ ty z).ref d=false:=by
 cases z with
 |tmp t=>
  have ij:t≠d:=fun h=>hz zCY;cases hr:(look P σ ty (.tmp t)).ref d with
  |false=>rfl
  |true=>obtain⟨e,he,fG⟩:=rG (σ:=σ) (t:=t) hr;rw[hf t e he ij]at fG;cases fG
 |const v=>exact Pp ty v d
 |global g=>rfl
 |func f=>rfl
theorem look_eq(hg:∀t,t≠d->σ1.get t=σ.get t)(hz:z≠ .tmp d)(ty:TypeId):look P σ1 ty z=look P σ ty z:=by
 cases z with
 |tmp t=>exact hg t (fun h=>hz zCY)
 |const v=>rfl
 |global g=>rfl
 |func f=>rfl
theorem Wa(h:e.ok d σ)(ij:∀v,e≠ .put v):∀t en,σ[t]?=some en->t≠d->en.1.ref d=false:=by
 intro t en he ht;cases e with
 |put v=>exact absurd rfl (ij v)
 |new v os=>exact((QY.1 h).2 t en he ht).1
 |drop a j v os=>
  have:=(QY.1 h.2).2 t;rw[Qn]at this;by_cases bb:t=a
  ·rw[if_pos bb,he]at this;exact(this _ rfl ht).1
  ·rw[if_neg bb]at this;exact(this en he ht).1
theorem Lt(h:e.ok d σ)(ij:∀v,e≠ .put v):∀t en,σ[t]?=some en->t≠d->XB d en.2=false:=by
 intro t en he ht;cases e with
 |put v=>exact absurd rfl (ij v)
 |new v os=>exact((QY.1 h).2 t en he ht).2
 |drop a j v os=>
  obtain⟨⟨q,s,r,ho⟩,hf⟩:=h;have:=(QY.1 hf).2 t
  rw[Qn]at this;by_cases bb:t=a
  ·rw[if_pos bb,he]at this;have h2:=(this _ rfl ht).2
   subst bb;rw[Ch he]at ho;rw[qS ho]at h2;exact h2
  ·rw[if_neg bb]at this;exact(this en he ht).2
theorem nE(h:e.ok d σ)(ij:∀v,e≠ .put v):d<σ.length:=by
 cases e with
 |put v=>exact absurd rfl (ij v)
 |new v os=>exact(QY.1 h).1
 |drop a j v os=>have:=(QY.1 h.2).1;rwa[St.XR]at this
theorem sF(h:e.ok d σ)(hu:(∀v,e≠ .put v)->u≠d)(hn:(e.ap d σ).ob u j≠ .none):σ.ob u j=(e.ap d σ).ob u j:=by
 cases e with
 |put v=>simp only[Eff.ap,St.Qz]
 |new v os=>have:=hu (by intro v h;cases h);simp only[Eff.ap,St.JN,this,false_and,if_false]
 |drop a k v os=>
  have aZ:=hu (by intro v h;cases h);obtain⟨⟨q,s,r,ho⟩,_⟩:=h;simp only[Eff.ap,St.JN,aZ,false_and,if_false]at hn⊢;rw[St.Xh σ a k _ u j zA9]at hn⊢;split at hn
  ·exact absurd rfl hn
  ·rename_i hh;rw[if_neg hh]
theorem Hb(gm:∀t j v os,e≠ .drop t j v os)(hu:(∀v,e≠ .put v)->u≠d):(e.ap d σ).ob u j=σ.ob u j:=by
 cases e with
 |put v=>simp only[Eff.ap,St.Qz]
 |new v os=>have:=hu (by intro v h;cases h);simp only[Eff.ap,St.JN,this,false_and,if_false]
 |drop a k v os=>exact absurd rfl (gm a k v os)
theorem rl(gF:e.ok d σ)(ht:t≠d)(he:(e.ap d σ)[t]?=some en):∃en0,σ[t]?=some en0/\en0.1=en.1/\∀u,XB u en0.2=XB u en.2:=by
 cases e with
 |put v=>simp only[Eff.ap,W1,if_neg ht]at he;exact⟨en,he,rfl,fun _=>rfl⟩
 |new v os=>simp only[Eff.ap,xI,if_neg ht]at he;exact⟨en,he,rfl,fun _=>rfl⟩
 |drop a j v os=>
  simp only[Eff.ap,xI,if_neg ht,Qn]at he;split at he
  ·rename_i bb;subst bb;obtain⟨⟨q,s,r,ho⟩,_⟩:=gF;obtain⟨e0,cA,g8⟩:=NR ho zAE;rw[cA]at he;simp at he;subst he;exact⟨e0,cA,rfl,fun u=>(qS g8).symm⟩
  ·exact⟨en,he,rfl,fun _=>rfl⟩
theorem swap(fp:x.dst=some dx)(ec:y.dst=some dy)(ij:dx≠dy)(dk:∀z∈xA ops y,z≠ .tmp dx)(ba:∀z∈xA ops x,z≠ .tmp dy)(gm:SR y=false)(hgp:y.guard=none\/zb x=true\/x.guard.isSome=true)
  (gM:XY σ dx=true) (h1:XU P ops x σ σ1) (h2:XU P ops y σ1 σ2):∃σ1',XU P ops y σ σ1'/\XU P ops x σ1' σ2:=by
 obtain⟨ex,rfl,cq,bQ,purex,_,frx⟩:=VJ fp h1;obtain⟨ey,rfl,oky,dropy,_,refy,fry⟩:=VJ ec h2;have hyd:∀t j v os,ey≠ .drop t j v os:=by
  intro t j v os h;have:=(dropy t j v os h).1
  rw[gm]at this;cases this
 have suby:Sub P (xA ops y) (ex.ap dx σ) σ:=by refine⟨yO ex,fun z hz ty=>look_eq (fun t ht=>Hz ex ht) (dk z hz) ty,fun z hz ty u hr j hn=>?_⟩;refine sF cq (fun eN hu=>?_) hn;subst hu;rw[look_eq (fun t ht=>Hz ex ht) (dk z hz) ty,zp (Wa cq eN) (dk z hz)]at hr;cases hr
 have oky':ey.ok dy σ:=by
  cases ey with
  |put v=>trivial
  |drop a j v os=>exact absurd rfl (hyd a j v os)
  |new v os=>
   have hf:=QY.1 oky;refine QY.2 ⟨by rw[<-yO ex (d:=dx)];exact hf.1,fun t e he ht=>?_⟩;by_cases htx:t=dx
   ·subst htx;exact Ho gM he dy
   ·cases ex with
    |put v'=>exact hf.2 t e (by simp only[Eff.ap,W1,if_neg htx];exact he) ht
    |new v' os'=>exact hf.2 t e (by simp only[Eff.ap,xI,if_neg htx];exact he) ht
    |drop a j v' os'=>
     obtain⟨⟨q,s,r,ho⟩,_⟩:=cq;by_cases bb:t=a
     ·subst bb;have:=hf.2 t (e.1,e.2.set j .none) (by simp only[Eff.ap,xI,if_neg htx,Qn,if_true,he,Option.map_some]) ht
      rw[Ch he]at ho;rw[qS ho]at this;exact this
     ·exact hf.2 t e (by simp only[Eff.ap,xI,if_neg htx,Qn,if_neg bb];exact he) ht
 have stepy:=fry σ suby oky';have subx:Sub P (xA ops x) σ (ey.ap dy σ):=by refine⟨(yO ey).symm,fun z hz ty=>(look_eq (fun t ht=>Hz ey ht) (ba z hz) ty).symm,fun z hz ty u hr j hn=>?_⟩;refine Hb hyd (fun eN hu=>?_);subst hu;rw[zp (Wa oky' eN) (ba z hz)]at hr;cases hr
 have yref:(∀v,ex≠ .put v)->ey.ref dx=false:=by
  intro eN;have hg:y.guard=none:=by
   rcases hgp with h|h
   ·exact h
   ·obtain⟨v,hv⟩:=purex h;exact absurd hv (eN v)
  cases hr:ey.ref dx with
  |false=>rfl
  |true=>
   obtain⟨z,hz,ty,gz⟩:=refy hg dx ij hr;have hl:look P (ex.ap dx σ) ty z=look P σ ty z:=look_eq (fun t ht=>Hz ex ht) (dk z hz) ty
   rw[hl]at gz;rcases gz with gz|⟨t',cells,ht',ho,hc⟩
   ·rw[zp (Wa cq eN) (dk z hz)]at gz;cases gz
   ·have htx:t'≠dx:=by intro h;subst h;rw[zp (Wa cq eN) (dk z hz)]at ht';cases ht'
    have gG:σ.ob t' 0= .box cells:=by rw[sF cq (fun _=>htx) zA9,ho]
    obtain⟨en,hen,hoe⟩:=NR gG zAE;have:=Lt cq eN t' en hen htx
    rw[IC hoe hc]at this;cases this
 have entries:(∀v,ex≠ .put v)->∀t e,(ey.ap dy σ)[t]?=some e->t≠dx->e.1.ref dx=false/\XB dx e.2=false:=by
  intro eN t e he ht;have hy:=yref eN
  by_cases ej:t=dy
  ·subst ej;cases ey with
   |put v=>simp only[Eff.ap,W1,if_true,Option.map_eq_some_iff]at he;obtain⟨e0,cA,rfl⟩:=he;exact⟨hy,Lt cq eN t e0 cA ht⟩
   |new v os=>simp only[Eff.ap,xI,if_true,Option.map_eq_some_iff]at he;obtain⟨e0,cA,rfl⟩:=he;simp only[Eff.ref,Bool.or_eq_false_iff]at hy;exact hy
   |drop a j v os=>exact absurd rfl (hyd a j v os)
  ·obtain⟨e0,cA,h1,h2⟩:=rl oky' ej he;rw[<-h1,<-h2];exact⟨Wa cq eN t e0 cA ht,Lt cq eN t e0 cA ht⟩
 have okx':ex.ok dx (ey.ap dy σ):=by
  cases ex with
  |put v=>trivial
  |new v os=>
   have eN:∀v',Eff.new v os≠ .put v':=by intro v' h;cases h
   exact QY.2 ⟨by rw[yO];exact nE cq eN,entries eN⟩
  |drop a j v os=>
   have eN:∀v',Eff.drop a j v os≠ .put v':=by intro v' h;cases h
   obtain⟨z,hz,ty,hr⟩:=(bQ a j v os rfl).2;obtain⟨q,s,r,ho⟩:=cq.1;have gG:(ey.ap dy σ).ob a j= .arr q s r:=by rw[<-ho];exact subx.ob z hz ty a hr j zA9
   refine⟨⟨q,s,r,gG⟩,QY.2 ⟨by rw[St.XR,yO];exact nE cq eN,fun t e he ht=>?_⟩⟩;rw[Qn]at he;split at he
   ·rename_i bb;subst bb;obtain⟨e0,cA,g8⟩:=NR gG zAE;rw[cA]at he;simp at he;subst he;have:=entries eN t e0 cA ht
    exact⟨this.1,by rw[qS g8];exact this.2⟩
   ·exact entries eN t e he ht
 refine⟨_,stepy,?_⟩;have:=frx _ subx okx'
 have heq:ex.ap dx (ey.ap dy σ)=ey.ap dy (ex.ap dx σ):=by
  apply List.ext_getElem?;intro t;have hnexy:=ij
  cases ex with
  |put v=>
   cases ey with
   |put v'=>simp only[Eff.ap,W1];by_cases h1:t=dx<;>by_cases h2:t=dy<;>simp_all
   |new v' os'=>simp only[Eff.ap,W1,xI];by_cases h1:t=dx<;>by_cases h2:t=dy<;>simp_all
   |drop a j v' os'=>exact absurd rfl (hyd a j v' os')
  |new v os=>
   cases ey with
   |put v'=>simp only[Eff.ap,W1,xI];by_cases h1:t=dx<;>by_cases h2:t=dy<;>simp_all
   |new v' os'=>simp only[Eff.ap,xI];by_cases h1:t=dx<;>by_cases h2:t=dy<;>simp_all
   |drop a j v' os'=>exact absurd rfl (hyd a j v' os')
  |drop a j v os=>
   obtain⟨z,hz,ty,hr⟩:=(bQ a j v os rfl).2;cases ey with
   |put v'=>simp only[Eff.ap,W1,xI,Qn];by_cases h1:t=dx<;>by_cases h2:t=dy<;>by_cases h3:t=a<;>simp_all;all_goals(first|(cases σ[dy]?<;>rfl)|(cases σ[t]?<;>rfl)|(cases σ[a]?<;>rfl))
   |new v' os'=>
    have hay:a≠dy:=by intro h;subst h;rw[zp (Wa oky' (by intro v h;cases h)) (ba z hz)]at hr;cases hr
    simp only[Eff.ap,xI,Qn];by_cases h1:t=dx<;>by_cases h2:t=dy<;>by_cases h3:t=a<;>simp_all
   |drop a' j' v' os'=>exact absurd rfl (hyd a' j' v' os')
 rw[<-heq];exact this
end
open Go.RowKit
variable{PT:List (Nat×Nat)}{bar br:Oper->Bool}{NB post ord:List Nat}{pos:Nat->Nat}{Q:Exit->St->Prop}{cs:List At}{B:Nat->Prop}{w0 w:World}
def ve(ops:Array Oper)(bar:Oper->Bool)(x y:Oper):Bool:=!bar x&&!bar y&&
 (match x.dst,y.dst with
 |some dx,some dy=>dx !=dy&&!(xA ops y).any (xK dx)&&!(xA ops x).any (xK dy)&&!SR y&&(y.guard.isNone||zb x||x.guard.isSome)
 |_,_=>false)
def vY(bar:Oper->Bool)(x y:Oper):Bool:=!bar x&&!bar y&&x.guard.isNone&&y.guard.isNone&&
 (match x.dst,y.dst,y.op with
 |some dx,none,.store _ p q=>(match x.op with|.move _=>true|.assign _=>true|.extract _ _=>true|_=>false)&&!xK dx p&&!xK dx q
 |_,_,_=>false)
def vt(bar:Oper->Bool)(x y:Oper):Bool:=!bar x&&bar y&&x.guard.isNone&&(SC y&&!r6 bar y)&&y.guard.isNone&&y.dst.isNone&&
 (match x.dst with
 |some dx=>(match x.op with|.move _=>true|.assign _=>true|.extract _ _=>true|_=>false)&&TU y dx
 |none=>false)
def Mv(PT:List (Nat×Nat))(σ:St):Prop:=∀p∈PT,σ.get p.1= .any\/∃c,unc (σ.get p.1)= .one (.bptr p.2 c)
def ptB(PT:List (Nat×Nat))(σ:St):Bool:=PT.all fun p=>match σ.get p.1 with|.any=>true|v=>(match unc v with|.one (.bptr b _)=>b==p.2|_=>false)
def HA(ops:Array Oper)(PT:List (Nat×Nat)):Bool:=ops.toList.all fun o=>match o.dst with
 |none=>true
 |some d=>PT.all fun p=>p.1 !=d||(o.guard.isNone&&(match o.op with|.fieldAddr _ (.tmp r) _=>PT.contains (r,p.2)|.move (.tmp r)=>PT.contains (r,p.2)|_=>false))
def N9(PT:List (Nat×Nat))(b:Nat):Op->Bool
 |.load _ (.tmp t)=>PT.any fun r=>r.1==t&&r.2 !=b
 |.fieldAddr _ _ _=>true
 |.move _=>true
 |.assign _=>true
 |.extract _ _=>true
 |.binOp _ _ _ _ _=>true
 |.call ⟨.builtin .len,⟨[_]⟩,⟨[_]⟩⟩=>true
 |_=>false
def swapT(PT:List (Nat×Nat))(bar:Oper->Bool)(x y:Oper):Bool:=!bar x&&!bar y&&x.guard.isNone&&y.guard.isNone&&
 (match x.dst,y.dst,y.op with
 |some dx,none,.store _ (.tmp tp) q=>tp !=dx&&!xK dx q&&PT.any fun p=>p.1==tp&&N9 PT p.2 x.op
 |_,_,_=>false)
def DG(NB:List Nat)(σ:St):Prop:=∀t∈NB,∀b c,unc (σ.get t)≠ .one (.bptr b c)
def nbB(NB:List Nat)(σ:St):Bool:=NB.all fun t=>match unc (σ.get t)with|.one (.bptr _ _)=>false|_=>true
def D5(P:Program)(ops:Array Oper)(NB:List Nat):Bool:=ops.toList.all fun o=>match o.dst with
 |none=>true
 |some d=>NB.all fun t=>t !=d||(o.guard.isNone&&(match o.op with|.indexAddr T _ _=>XS P T|_=>false))
def C2(PT:List (Nat×Nat))(NB:List Nat)(σ:St):Prop:=Mv PT σ/\DG NB σ
def vg(PT:List (Nat×Nat))(NB:List Nat)(bar:Oper->Bool)(x y:Oper):Bool:=!bar x&&bar y&&x.guard.isNone&&(SC y&&!r6 bar y)&&y.guard.isNone&&y.dst.isNone&&
 (match x.dst,y.op with
 |some dx,.store _ (.tmp tp) q=>NB.contains tp&&tp !=dx&&!xK dx q&&(match x.op with|.load _ (.tmp t)=>PT.any fun r=>r.1==t|.fieldAddr _ (.tmp t) _=>PT.any fun r=>r.1==t|_=>false)
 |_,_=>false)
def uf(PT:List (Nat×Nat)):Op->Bool
 |.move _=>true
 |.load _ (.tmp t)=>PT.any fun r=>r.1==t
 |.fieldAddr _ (.tmp _) _=>true
 |.slice _ (.tmp _) _ _ none=>true
 |_=>false
def uA(PT:List (Nat×Nat))(ops:Array Oper)(bar:Oper->Bool)(x y:Oper):Bool:=bar x&&!bar y&&VF x&&x.guard.isNone&&y.guard.isNone&&uf PT y.op&&
 (match x.dst,y.dst with
 |some dx,some dy=>dx !=dy&&!(xA ops y).any (xK dx)&&!(xA ops x).any (xK dy)
 |_,_=>false)
def vB(PT:List (Nat×Nat))(o:Oper):Option Nat:=match o.op with|.call ⟨.value (.func _),⟨.tmp z::_⟩,_⟩=>(PT.find? (fun p=>p.1==z)).map (·.2)|_=>none
def mR:Operand->Bool
 |.const _=>true
 |_=>false
def Gr(PT:List (Nat×Nat))(y x:Oper):Bool:=(x.op.operands.toList.all mR&&!SR x)||(match vB PT y with|some b=>N9 PT b x.op|none=>false)
def vu(P:Program)(PT:List (Nat×Nat))(ops:Array Oper)(bar:Oper->Bool)(x y:Oper):Bool:=x.guard.isNone&&y.guard.isNone&&La bar x&&La bar y&&(match x.dst,y.dst with
 |some dx,some dy=>dx !=dy&&!(xA ops y).any (xK dx)&&!(xA ops x).any (xK dy)&&((!bar x&&bar y&&KF P y&&Gr PT y x)||(bar x&&KF P x&&!bar y&&Gr PT x y))
 |_,_=>false)
def HS(o:Oper)(j:Nat):Bool:=o.after.any fun e=>e.on==j&&Region.binds .any e
def LM:List Oper->List Nat->List Nat
 |[],acc=>acc
 |o::rest,acc=>LM rest (acc++[o.after.toList.foldl (fun m e=>if Region.binds .any e then m|||(1<<<e.on)|||acc.getD e.on 0 else m) 0])
def tz(ms:List Nat)(i j:Nat):Bool:=(ms.getD i 0).testBit j
inductive Pre(ops:Array Oper):Nat->Nat->Prop
 |one {i j:Nat} {o:Oper} (ho:ops[i]?=some o) (hp:HS o j=true):Pre ops i j
 |more {i m j:Nat} {o:Oper} (ho:ops[i]?=some o) (hp:HS o m=true) (h:Pre ops m j):Pre ops i j
theorem AQ{ops:Array Oper}:∀{l:List Oper}{acc:List Nat},(∀k o,l[k]?=some o->ops[acc.length+k]?=some o)->(∀i j,(acc.getD i 0).testBit j=true->Pre ops i j)->∀i j,tz (LM l acc) i j=true->Pre ops i j
 |[],acc,_,ha,i,j,h=>ha i j h
 |o::rest,acc,hl,ha,i,j,h=>by
  refine AQ (l:=rest) (fun k o' hk=>?_) (fun i j aA=>?_) i j h
  ·have:=hl (k+1) o' (by simpa using hk);rw[List.length_append,List.length_singleton,Nat.add_assoc,Nat.add_comm 1 k];exact this
  ·rw[List.getD_eq_getElem?_getD]at aA;rcases Nat.lt_trichotomy i acc.length with hD|heq|aW
   ·rw[List.getElem?_append_left hD,<-List.getD_eq_getElem?_getD]at aA;exact ha i j aA
   ·subst heq;rw[List.getElem?_append_right (Nat.le_refl _)]at aA;simp only[Nat.sub_self,List.getElem?_cons_zero,Option.getD_some]at aA;have ho:=hl 0 o zAE
    rw[Nat.add_zero]at ho;have key:∀(es:List Edge)(m:Nat),(∀e∈es,e∈o.after)->(∀j,m.testBit j=true->Pre ops acc.length j)->∀j,(es.foldl (fun m e=>if Region.binds .any e then m|||(1<<<e.on)|||acc.getD e.on 0 else m) m).testBit j=true->Pre ops acc.length j:=by
     intro es;induction es with
     |nil=>intro m _ hm j hj;exact hm j hj
     |cons e es ih=>
      intro m hes hm j hj;refine ih _ (fun e' he'=>hes e' (by simp[he'])) (fun j hj=>?_) j hj;by_cases hb:Region.binds .any e=true
      ·simp only[hb,if_true]at hj;have hp:HS o e.on=true:=by unfold HS;rw[<-Array.any_toList];exact List.any_eq_true.2 ⟨e,by simpa using hes e zAE,by simp[hb]⟩
       rw[Nat.testBit_or,Nat.testBit_or,Bool.or_eq_true,Bool.or_eq_true]at hj;rcases hj with(hj|hj)|hj
       ·exact hm j hj
       ·rw[Nat.testBit_shiftLeft]at hj;simp only[Bool.and_eq_true,decide_eq_true_eq]at hj;have h1:j-e.on=0:=by
         have:=hj.2;rw[show(1:Nat)=2^0 from rfl,Nat.testBit_two_pow]at this;have h3:0=j-e.on:=by simpa using this
         omega
        have:j=e.on:=zAC;subst this;exact .one ho hp
       ·exact .more ho hp (ha e.on j hj)
      ·simp only[hb,Bool.false_eq_true,if_false]at hj;exact hm j hj
    exact key o.after.toList 0 (fun e he=>by simpa using he) (fun j hj=>by simp at hj) j aA
   ·rw[List.getElem?_eq_none zAk]at aA;simp at aA
def vK(ops:Array Oper)(i j:Nat):Bool:=tz (LM ops.toList []) i j
theorem s3(h:vK ops i j=true):Pre ops i j:=
 AQ (l:=ops.toList) (acc:=[]) (fun k o hk=>by simpa using hk) (fun i j h=>by simp at h) i j h
def nM(P:Program)(ops:Array Oper)(bar:Oper->Bool)(PT:List (Nat×Nat))(NB ms:List Nat)(i j:Nat):Bool:=match ops[i]?,ops[j]? with|some oi,some oj=>tz ms i j||ve ops bar oj oi||vY bar oj oi||swapT PT bar oj oi||vt bar oj oi||uA PT ops bar oj oi||vg PT NB bar oj oi||vu P PT ops bar oj oi|_,_=>false
def nH(ops:Array Oper)(pos:Nat->Nat)(i:Nat):Bool:=match ops[i]? with|some o=>o.after.all fun e=>!Region.binds .any e||(decide (pos e.on<pos i)&&decide (e.on<ops.size))|none=>false
def sA(ops:Array Oper)(j:Nat):Bool:=match ops[j]? with
 |some o=>(match o.dst with|some d=>(List.range ops.size).all fun k=>k==j||(match ops[k]? with|some q=>q.dst !=some d|none=>true)|none=>false)
 |none=>false
def Ad(ops:Array Oper)(pos:Nat->Nat)(ms:List Nat)(j:Nat):Bool:=(List.range ops.size).any fun i=>decide (pos j<pos i)&&!tz ms i j
def Nz(ops:Array Oper)(pos:Nat->Nat)(j:Nat):Bool:=Ad ops pos (LM ops.toList []) j
def vv(P:Program)(ops:Array Oper)(pos:Nat->Nat)(bar:Oper->Bool)(PT:List (Nat×Nat))(NB ms:List Nat):Bool:=
 (List.range ops.size).all fun i=>nH ops pos i&&((List.range ops.size).all fun j=>!decide (pos j<pos i)||nM P ops bar PT NB ms i j)&&(!Ad ops pos ms i||sA ops i)
def Ih(P:Program)(ops:Array Oper)(pos:Nat->Nat)(bar:Oper->Bool):Bool:=vv P ops pos bar [] [] (LM ops.toList [])
def xS(ops:Array Oper)(pos:Nat->Nat)(σ:St):Bool:=
 let ms:=LM ops.toList []
 (List.range ops.size).all fun j=>!Ad ops pos ms j||(match(ops[j]?).bind (·.dst)with|some d=>XY σ d|none=>false)
theorem Td{xs:List Operand}(h:xs.any (xK d)=false):∀z∈xs,z≠ .tmp d:=by
 intro z hz he;subst he;have:=List.any_eq_false.1 h _ hz
 simp[xK]at this
theorem tD{x:Oper}(h:ve ops bar x y=true):bar x=false/\bar y=false/\∃dx dy,x.dst=some dx/\y.dst=some dy/\dx≠dy/\(∀z∈xA ops y,z≠ .tmp dx)/\(∀z∈xA ops x,z≠ .tmp dy)/\SR y=false/\(y.guard=none\/zb x=true\/x.guard.isSome=true):=by
 unfold ve at h;rw[Bool.and_eq_true,Bool.and_eq_true]at h;obtain⟨⟨fB,gQ⟩,h⟩:=h;refine⟨by simpa using fB,by simpa using gQ,?_⟩;split at h
 ·rename_i dx dy h1 h2;simp only[Bool.and_eq_true,bne_iff_ne,ne_eq,Bool.not_eq_true',Bool.or_eq_true,Option.isNone_iff_eq_none]at h;exact⟨dx,dy,h1,h2,h.1.1.1.1,Td h.1.1.1.2,Td h.1.1.2,h.1.2,or_assoc.1 h.2⟩
 ·cases h
theorem zo{o:Ob}{T:TypeId}:look P (σ.Z0 t j o) T x=look P σ T x:=by
 cases x with
 |tmp u=>simp[look,St.Xz]
 |const c=>rfl
 |global g=>rfl
 |func f=>rfl
theorem Mm{σ:St}{d:Nat}{v:V}:∀(xs:List At),rowOf (σ.put d v) xs=rowOf σ xs
 |[]=>rfl
 |x::xs=>by
  have:yX (σ.put d v) x=yX σ x:=by cases x<;>simp[yX,St.Qz]
  simp only[rowOf,this,Mm xs]
theorem oJ{x:Oper}(h:vY bar x y=true)(gx:zH P ops bar x σ σ1)(hH:zH P ops bar y σ1 σ2):∃σ1',XU P ops y σ σ1'/\XU P ops x σ1' σ2:=by
 unfold vY at h;simp only[Bool.and_eq_true,Bool.not_eq_true',Option.isNone_iff_eq_none]at h;obtain⟨⟨⟨⟨fB,gQ⟩,cy⟩,dD⟩,h⟩:=h;have gx:=gx.resolve_right (fun hh=>by rw[fB]at hh;cases hh.1)
 have hH:=hH.resolve_right (fun hh=>by rw[gQ]at hh;cases hh.1);split at h
 ·rename_i dx T p q fp ec ig;simp only[Bool.and_eq_true,Bool.not_eq_true']at h;obtain⟨⟨hv,hp⟩,hq⟩:=h;unfold XU at gx hH;simp only[cy,fp]at gx;simp only[dD,ec,ig]at hH;have e1:∃v,Yj P σ x.op x.type v/\σ1=σ.put dx v:=by unfold Step at gx;cases hx:x.op<;>rw[hx]at gx hv<;>first|exact gx|(exact Bool.noConfusion hv)
  obtain⟨v,eY,rfl⟩:=e1;have gn:∀(t j:Nat)(o:Ob),Yj P (σ.Z0 t j o) x.op x.type v:=by intro t j o;cases hx:x.op<;>rw[hx]at hv eY<;>first|(exact Bool.noConfusion hv)|(simp only[Yj,zo]at eY⊢;exact eY)
  have hx2:∀(t j:Nat)(o:Ob),XU P ops x (σ.Z0 t j o) ((σ.put dx v).Z0 t j o):=by
   intro t j o;unfold XU;simp only[cy,fp];have:=gn t j o
   rw[xb];unfold Step;cases hx:x.op<;>rw[hx]at hv this<;>first|exact⟨v,this,rfl⟩|(exact Bool.noConfusion hv)
  unfold qi at hH;rw[XZ hp,XZ hq]at hH;obtain⟨k1,k2,k3,k4,hH⟩:=hH;split at hH
  ·rename_i t c hl;obtain⟨cells,c1,c2,c3,rfl⟩:=hH;rw[St.Qz]at c1;refine⟨_,?_,hx2 _ _ _⟩;unfold XU qi;simp only[dD,ec,ig];refine⟨k1,k2,k3,k4,?_⟩;rw[hl];exact⟨cells,c1,c2,c3,rfl⟩
  ·rename_i t j i c hl;obtain⟨q',size,rows,ds,c1,c2,c3,c4,c5,c6,c7,rfl⟩:=hH;rw[St.Qz]at c1;rw[Mm]at c3;refine⟨_,?_,hx2 _ _ _⟩;unfold XU qi;simp only[dD,ec,ig];refine⟨k1,k2,k3,k4,?_⟩;rw[hl];exact⟨q',size,rows,ds,c1,c2,c3,c4,c5,c6,c7,rfl⟩
  ·exact hH.elim
 ·cases h
theorem qV{T:TypeId}:look P σ T (.tmp t)=σ.get t:=rfl
theorem Ml{op:Op}(ho:o.op=op)(h:N9 PT b op=true):Step P o d σ σ'↔∃v,Yj P σ op o.type v/\σ'=σ.put d v:=by unfold Step;rw[ho];unfold N9 at h;split at h<;>first|exact Iff.rfl|(exact Bool.noConfusion h)
theorem ur{op:Op}{ty:TypeId}{cells:List At}(h:N9 PT b op=true)(hp:Mv PT σ)(c1:σ.ob b 0= .box cells)(hv:Yj P σ op ty v):Yj P (σ.Z0 b 0 (.box cs)) op ty v:=by
 have ij:σ.ob b 0≠ .none:=by rw[c1];intro e;cases e
 have ho:=fun u i=>St.Xh σ b 0 (.box cs) u i ij;have fO:∀t j,(∃q size rows,σ.ob t j= .arr q size rows)->∃q size rows,(σ.Z0 b 0 (.box cs)).ob t j= .arr q size rows:=by
  rintro t j ⟨q,size,rows,e⟩;by_cases hh:t=b/\j=0
  ·obtain⟨rfl,rfl⟩:=hh;rw[c1]at e;cases e
  ·exact⟨q,size,rows,by rw[ho,if_neg hh];exact e⟩
 have aa:∀t j,(∃size rows,σ.ob t j= .lit size rows)->∃size rows,(σ.Z0 b 0 (.box cs)).ob t j= .lit size rows:=by
  rintro t j ⟨size,rows,e⟩;by_cases hh:t=b/\j=0
  ·obtain⟨rfl,rfl⟩:=hh;rw[c1]at e;cases e
  ·exact⟨size,rows,by rw[ho,if_neg hh];exact e⟩
 have hbx:∀t,(∃cells,σ.ob t 0= .box cells)->∃cells,(σ.Z0 b 0 (.box cs)).ob t 0= .box cells:=by
  rintro t ⟨ce,e⟩;by_cases hh:t=b
  ·subst hh;exact⟨cs,by rw[ho,if_pos ⟨rfl,rfl⟩]⟩
  ·exact⟨ce,by rw[ho,if_neg (fun hh2=>hh hh2.1)];exact e⟩
 unfold N9 at h;split at h
 ·rename_i T t;simp only[List.any_eq_true,Bool.and_eq_true,beq_iff_eq,bne_iff_ne,ne_eq]at h;obtain⟨r,hrm,rfl,hrb⟩:=h;simp only[Yj,zo]at hv⊢;refine⟨hv.1,hv.2.1,?_⟩;have hv:=hv.2.2
  rw[qV]at hv⊢;rcases hp r hrm with e|⟨c,e⟩
  ·rw[e]at hv;exact hv.elim
  ·rw[e]at hv⊢;obtain⟨ce,e1,e2,e3⟩:=hv;exact⟨ce,by rw[ho,if_neg (fun hh=>hrb hh.1)];exact e1,e2,e3⟩
 ·simp only[Yj,zo]at hv⊢;refine⟨hv.1,hv.2.1,?_⟩;have hv:=hv.2.2
  split at hv
  ·rename_i e;first|exact⟨hbx _ hv.1,hv.2⟩|(simp only[e];exact⟨hbx _ hv.1,hv.2⟩)
  ·rename_i e;first|exact⟨fO _ _ hv.1,hv.2⟩|(simp only[e];exact⟨fO _ _ hv.1,hv.2⟩)
  ·rename_i e;first|exact hv|(simp only[e];exact hv)
  ·rename_i e;have hq:∀t j,(∃size rows,σ.ob t j= .arr true size rows)->∃size rows,(σ.Z0 b 0 (.box cs)).ob t j= .arr true size rows:=by
    rintro t j ⟨size,rows,e⟩;by_cases hh:t=b/\j=0
    ·obtain⟨rfl,rfl⟩:=hh;rw[c1]at e;cases e
    ·exact⟨size,rows,by rw[ho,if_neg hh];exact e⟩
   first|exact⟨hq _ _ hv.1,hv.2⟩|(simp only[e];exact⟨hq _ _ hv.1,hv.2⟩)
  ·exact hv.elim
 ·simp only[Yj,zo]at hv⊢;exact hv
 ·simp only[Yj,zo]at hv⊢;exact hv
 ·simp only[Yj,zo]at hv⊢;exact hv
 ·simp only[Yj,zo]at hv⊢;exact hv
 ·simp only[Yj,zo]at hv⊢;refine⟨hv.1,?_⟩;have hv:=hv.2
  split at hv
  ·rename_i e;first|exact hv|(simp only[e];exact hv)
  ·rename_i e;first|exact hv|(simp only[e];exact hv)
  ·rename_i e;first|exact hv|(simp only[e];exact hv)
  ·rename_i e;first|exact⟨hv.1,hv.2.1.imp (fO _ _) (aa _ _),hv.2.2⟩|(simp only[e];exact⟨hv.1,hv.2.1.imp (fO _ _) (aa _ _),hv.2.2⟩)
  ·rename_i u j i c e;obtain⟨g1,size,rows,n,s,g2,g3⟩:=hv;have g4:(σ.Z0 b 0 (.box cs)).ob u j= .arr true size rows:=by
    rw[ho];by_cases hh:u=b/\j=0
    ·obtain⟨rfl,rfl⟩:=hh;rw[c1]at g2;cases g2
    ·rw[if_neg hh];exact g2
   first|exact⟨g1,size,rows,n,s,g4,g3⟩|(simp only[e];exact⟨g1,size,rows,n,s,g4,g3⟩)
  ·exact hv.elim
 ·exact Bool.noConfusion h
theorem nb{x:Oper}(h:swapT PT bar x y=true)(hp:Mv PT σ)(gx:zH P ops bar x σ σ1)(hH:zH P ops bar y σ1 σ2):∃σ1',XU P ops y σ σ1'/\XU P ops x σ1' σ2:=by
 unfold swapT at h;simp only[Bool.and_eq_true,Bool.not_eq_true',Option.isNone_iff_eq_none]at h;obtain⟨⟨⟨⟨fB,gQ⟩,cy⟩,dD⟩,h⟩:=h;have gx:=gx.resolve_right (fun hh=>by rw[fB]at hh;cases hh.1)
 have hH:=hH.resolve_right (fun hh=>by rw[gQ]at hh;cases hh.1);split at h
 ·rename_i dx T tp q fp ec ig;simp only[Bool.and_eq_true,Bool.not_eq_true',List.any_eq_true,beq_iff_eq,bne_iff_ne,ne_eq]at h;obtain⟨⟨ij,hq⟩,p,hpm,eu,hv⟩:=h;have gf:xK dx (.tmp tp)=false:=by simp[xK,ij]
  unfold XU at gx hH;simp only[cy,fp]at gx;simp only[dD,ec,ig]at hH;obtain⟨v,eY,rfl⟩:=(Ml rfl hv).1 gx;unfold qi at hH;rw[XZ gf,XZ hq,qV]at hH;obtain⟨k1,k2,k3,k4,hH⟩:=hH;have eo:=hp p hpm
  rw[eu]at eo;rcases eo with eo|⟨c,eo⟩
  ·rw[eo]at hH;exact hH.elim
  ·rw[eo]at hH;obtain⟨cells,c1,c2,c3,rfl⟩:=hH;rw[St.Qz]at c1;refine⟨σ.Z0 p.2 0 (.box (place cells c (unc (look P σ T q)).cells)),?_,?_⟩
   ·unfold XU qi;simp only[dD,ec,ig];refine⟨k1,by rw[qV];exact k2,k3,k4,?_⟩;rw[qV,eo];exact⟨cells,c1,c2,c3,rfl⟩
   ·unfold XU;simp only[cy,fp];rw[xb];exact(Ml rfl hv).2 ⟨v,ur hv hp c1 eY,rfl⟩
 ·cases h
theorem Wp:∀(σ:St)(d:Nat),σ.put d (σ.get d)=σ
 |[],_=>rfl
 |e::σ,0=>by simp[St.put,St.get]
 |e::σ,d+1=>by have:=Wp σ d;simp only[St.put,St.get,List.getElem?_cons_succ]at this⊢;rw[this]
theorem I7:∀(σ:St)(d:Nat)(v v':V),(σ.put d v).put d v'=σ.put d v'
 |[],_,_,_=>rfl
 |e::σ,0,_,_=>rfl
 |e::σ,d+1,v,v'=>by simp[St.put,I7 σ d v v']
theorem Dm(h:∀u,σ'.get u=σ.get u){T:TypeId}:look P σ' T x=look P σ T x:=by
 cases x with
 |tmp u=>exact h u
 |const c=>rfl
 |global g=>rfl
 |func f=>rfl
theorem nh{x:Oper}(h:vt bar x y=true)(fp:x.dst=some d)(gM:XY σ d=true)(gx:zH P ops bar x σ σ1)(hH:zH P ops bar y σ1 σ2):∃σ1',zH P ops bar y σ σ1'/\XU P ops x σ1' σ2:=by
 unfold vt at h;simp only[fp,Bool.and_eq_true,Bool.not_eq_true',Option.isNone_iff_eq_none]at h;obtain⟨⟨⟨⟨⟨⟨fB,gQ⟩,cy⟩,gH,ei⟩,dD⟩,ec⟩,hv,hu⟩:=h;have gx:=gx.resolve_right (fun hh=>by rw[fB]at hh;cases hh.1)
 unfold XU at gx;simp only[cy,fp]at gx;have e1:∃v,Yj P σ x.op x.type v/\σ1=σ.put d v:=by unfold Step at gx;cases hx:x.op<;>rw[hx]at gx hv<;>first|exact gx|(exact Bool.noConfusion hv)
 obtain⟨v,eY,rfl⟩:=e1;have back:∀σ',(∀u,σ'.get u=σ.get u)->XU P ops x σ' (σ'.put d v):=by
  intro σ' hg;unfold XU;simp only[cy,fp];have:Yj P σ' x.op x.type v:=by cases hx:x.op<;>rw[hx]at hv eY<;>first|(exact Bool.noConfusion hv)|(simp only[Yj,Dm hg]at eY⊢;exact eY)
  unfold Step;cases hx:x.op<;>rw[hx]at hv this<;>first|exact⟨v,this,rfl⟩|(exact Bool.noConfusion hv)
 rcases hH with hH|⟨_,_,_,hk,_⟩
 · -- a plain store
  unfold SC at gH;split at gH
  ·rename_i T p q ig;simp only[TU,ig,Bool.and_eq_true,Bool.not_eq_true']at hu;unfold XU at hH;simp only[dD,ec,ig]at hH;unfold qi at hH;rw[XZ hu.1,XZ hu.2]at hH;obtain⟨k1,k2,k3,k4,hH⟩:=hH;split at hH
   ·rename_i t c hl;obtain⟨cells,c1,c2,c3,rfl⟩:=hH;rw[St.Qz]at c1;refine⟨σ.Z0 t 0 (.box (place cells c (unc (look P σ T q)).cells)),.inl ?_,?_⟩
    ·unfold XU qi;simp only[dD,ec,ig];refine⟨k1,k2,k3,k4,?_⟩;rw[hl];exact⟨cells,c1,c2,c3,rfl⟩
    ·rw[xb];exact back _ (fun u=>St.Xz _ _ _ _ _)
   ·rename_i t j i c hl;obtain⟨q',size,rows,ds,c1,c2,c3,c4,c5,c6,c7,rfl⟩:=hH;rw[St.Qz]at c1;rw[Mm]at c3;refine⟨σ.Z0 t j (.arr q' size (rows.set i (place (rows.getD i []) c ds))),.inl ?_,?_⟩
    ·unfold XU qi;simp only[dD,ec,ig];refine⟨k1,k2,k3,k4,?_⟩;rw[hl];exact⟨q',size,rows,ds,c1,c2,c3,c4,c5,c6,c7,rfl⟩
    ·rw[xb];exact back _ (fun u=>St.Xz _ _ _ _ _)
   ·exact hH.elim
  ·cases gH
 ·obtain⟨⟨dK,fA⟩,g5,hbx⟩:=(hk gH).resolve_right (fun e=>by rw[ei]at e;cases e.1);rw[St.Qv]at dK;have bA:Gt (σ.get d)=true:=by rw[jY]at gM;unfold St.get;rcases gM with e|⟨x',e⟩<;>rw[e]<;>rfl
  have hq:∀l:List (Nat×V),(σ.put d v).JA ((d,σ.get d)::l)=σ.JA l:=fun l=>by rw[St.JA,I7,Wp]
  have h0:=g5 [(d,σ.get d)] (fun p hp=>by cases List.mem_singleton.1 hp;exact⟨hu,bA⟩);rw[hq []]at h0;have hlen:d<σ.length:=by rw[jY]at gM;rcases gM with e|⟨x',e⟩<;>exact(List.getElem?_eq_some_iff.1 e).1
  have aE:∀u,(σ2.put d (σ.get d)).get u=σ.get u:=fun u=>by
   rw[St.zc];by_cases aZ:u=d/\d<σ2.length
   ·rw[if_pos aZ,aZ.1]
   ·rw[if_neg aZ,fA,St.zc];have hud2:¬u=d:=fun e=>aZ ⟨e,by rw[dK];exact hlen⟩
    rw[if_neg (fun hh=>hud2 hh.1)]
  refine⟨σ2.put d (σ.get d),.inr ⟨gQ,h0.1,h0.2,fun _=>.inl ⟨⟨by rw[St.Qv];exact dK,aE⟩,fun l hl=>?_,fun t cells hb=>by rw[St.Qz];exact hbx t cells (by rw[St.Qz];exact hb)⟩,fun hh=>(by rw[wm gH]at hh;cases hh),fun hh _=>(by rw[vj gH]at hh;cases hh)⟩,?_⟩
  ·have:=g5 ((d,σ.get d)::l) (fun p hp=>by
    rcases List.mem_cons.1 hp with rfl|hp
    ·exact⟨hu,bA⟩
    ·exact hl p hp)
   rw[hq l]at this;exact this
  ·have:=back _ aE;rw[I7]at this;have e:σ2.put d v=σ2:=by have g1:=fA d;rw[St.zc,if_pos ⟨rfl,hlen⟩]at g1;rw[<-g1];exact Wp σ2 d
   rw[e]at this;exact this
theorem nV{x:Oper}(h:vg PT NB bar x y=true)(hp:Mv PT σ)(hnb:DG NB σ)(fp:x.dst=some d)(gM:XY σ d=true)(gx:zH P ops bar x σ σ1)(hH:zH P ops bar y σ1 σ2):∃σ1',zH P ops bar y σ σ1'/\XU P ops x σ1' σ2:=by
 unfold vg at h;simp only[fp,Bool.and_eq_true,Bool.not_eq_true',Option.isNone_iff_eq_none]at h;obtain⟨⟨⟨⟨⟨⟨fB,gQ⟩,cy⟩,gH,ei⟩,dD⟩,ec⟩,h⟩:=h;have gx:=gx.resolve_right (fun hh=>by rw[fB]at hh;cases hh.1)
 split at h
 ·rename_i dx T tp q hdx' ig;cases hdx';simp only[Bool.and_eq_true,Bool.not_eq_true',bne_iff_ne,ne_eq,List.contains_iff_mem]at h;obtain⟨⟨⟨htp,ij⟩,hq⟩,hv⟩:=h;have gf:xK d (.tmp tp)=false:=by simp[xK,ij]
  have hu:TU y d=true:=by simp only[TU,ig,gf,hq];rfl
  unfold XU at gx;simp only[cy,fp]at gx;have e1:∃v,Yj P σ x.op x.type v/\σ1=σ.put d v:=by unfold Step at gx;cases hx:x.op<;>rw[hx]at gx hv<;>first|exact gx|(exact Bool.noConfusion hv)
  obtain⟨v,eY,rfl⟩:=e1;have back:∀σ',(∀u,σ'.get u=σ.get u)->(∀t cells,σ.ob t 0= .box cells->σ'.ob t 0= .box cells)->XU P ops x σ' (σ'.put d v):=by
   intro σ' hg hbx;unfold XU;simp only[cy,fp];have:Yj P σ' x.op x.type v:=by
    cases hx:x.op<;>rw[hx]at hv eY<;>try exact Bool.noConfusion hv
    case load T' z=>
     cases z with
     |tmp t=>
      simp only[List.any_eq_true,beq_iff_eq]at hv;obtain⟨p,hpm,eu⟩:=hv;simp only[Yj,Dm hg]at eY⊢;refine⟨eY.1,eY.2.1,?_⟩;have gn:=eY.2.2
      have eo:=hp p hpm;rw[eu]at eo;rw[qV]at gn⊢;rcases eo with e|⟨c,e⟩
      ·rw[e]at gn;exact gn.elim
      ·rw[e]at gn⊢;obtain⟨ce,k1,k2⟩:=gn;exact⟨ce,hbx _ _ k1,k2⟩
     |_=>exact Bool.noConfusion hv
    case fieldAddr T' z f=>
     cases z with
     |tmp t=>
      simp only[List.any_eq_true,beq_iff_eq]at hv;obtain⟨p,hpm,eu⟩:=hv;simp only[Yj,Dm hg]at eY⊢;refine⟨eY.1,eY.2.1,?_⟩;have gn:=eY.2.2
      have eo:=hp p hpm;rw[eu]at eo;rw[qV]at gn⊢;rcases eo with e|⟨c,e⟩
      ·rw[e]at gn;exact gn.elim
      ·rw[e]at gn⊢;obtain⟨⟨ce,k1⟩,k2⟩:=gn;exact⟨⟨ce,hbx _ _ k1⟩,k2⟩
     |_=>exact Bool.noConfusion hv
   unfold Step;cases hx:x.op<;>rw[hx]at hv this<;>first|exact⟨v,this,rfl⟩|(exact Bool.noConfusion hv)
  rcases hH with hH|⟨_,_,_,hk,_⟩
  ·unfold XU at hH;simp only[dD,ec,ig]at hH;unfold qi at hH;rw[XZ gf,XZ hq]at hH;obtain⟨k1,k2,k3,k4,hH⟩:=hH;split at hH
   ·rename_i t c hl;exact absurd hl (hnb tp htp t c)
   ·rename_i t j i c hl;obtain⟨q',size,rows,ds,c1,c2,c3,c4,c5,c6,c7,rfl⟩:=hH;rw[St.Qz]at c1;rw[Mm]at c3;refine⟨σ.Z0 t j (.arr q' size (rows.set i (place (rows.getD i []) c ds))),.inl ?_,?_⟩
    ·unfold XU qi;simp only[dD,ec,ig];refine⟨k1,k2,k3,k4,?_⟩;rw[hl];exact⟨q',size,rows,ds,c1,c2,c3,c4,c5,c6,c7,rfl⟩
    ·rw[xb];refine back _ (fun u=>St.Xz _ _ _ _ _) (fun b cells hb=>?_);have dq:σ.ob t j≠ .none:=by rw[c1];simp
     rw[St.Xh σ t j _ b 0 dq];split
     ·rename_i hc;rw[hc.1,hc.2]at hb;rw[c1]at hb;cases hb
     ·exact hb
   ·exact hH.elim
  ·obtain⟨⟨dK,fA⟩,g5,hbx⟩:=(hk gH).resolve_right (fun e=>by rw[ei]at e;cases e.1);rw[St.Qv]at dK;have bA:Gt (σ.get d)=true:=by rw[jY]at gM;unfold St.get;rcases gM with e|⟨x',e⟩<;>rw[e]<;>rfl
   have hqq:∀l:List (Nat×V),(σ.put d v).JA ((d,σ.get d)::l)=σ.JA l:=fun l=>by rw[St.JA,I7,Wp]
   have h0:=g5 [(d,σ.get d)] (fun p hp=>by cases List.mem_singleton.1 hp;exact⟨hu,bA⟩);rw[hqq []]at h0;have hlen:d<σ.length:=by rw[jY]at gM;rcases gM with e|⟨x',e⟩<;>exact(List.getElem?_eq_some_iff.1 e).1
   have aE:∀u,(σ2.put d (σ.get d)).get u=σ.get u:=fun u=>by
    rw[St.zc];by_cases aZ:u=d/\d<σ2.length
    ·rw[if_pos aZ,aZ.1]
    ·rw[if_neg aZ,fA,St.zc];have hud2:¬u=d:=fun e=>aZ ⟨e,by rw[dK];exact hlen⟩
     rw[if_neg (fun hh=>hud2 hh.1)]
   have hbx':∀t cells,σ.ob t 0= .box cells->(σ2.put d (σ.get d)).ob t 0= .box cells:=fun t cells hb=>by rw[St.Qz];exact hbx t cells (by rw[St.Qz];exact hb)
   refine⟨σ2.put d (σ.get d),.inr ⟨gQ,h0.1,h0.2,fun _=>.inl ⟨⟨by rw[St.Qv];exact dK,aE⟩,fun l hl=>?_,hbx'⟩,fun hh=>(by rw[wm gH]at hh;cases hh),fun hh _=>(by rw[vj gH]at hh;cases hh)⟩,?_⟩
   ·have:=g5 ((d,σ.get d)::l) (fun p hp=>by
     rcases List.mem_cons.1 hp with rfl|hp
     ·exact⟨hu,bA⟩
     ·exact hl p hp)
    rw[hqq l]at this;exact this
   ·have:=back _ aE hbx';rw[I7]at this;have e:σ2.put d v=σ2:=by have g1:=fA d;rw[St.zc,if_pos ⟨rfl,hlen⟩]at g1;rw[<-g1];exact Wp σ2 d
    rw[e]at this;exact this
 ·cases h
theorem my(fA:∀t,t≠d->σ1.get t=σ.get t/\(σ.get t).ref d=false)(ek:∀t j cells,t≠d->σ1.ob t j= .box cells->σ.ob t j= .box cells/\Yb d cells=false)
  (fO:∀t j q s rows,t≠d->σ1.ob t j= .arr q s rows->∃hO,σ.ob t j= .arr q s hO) (hp:Mv PT σ) {op:Op} {ty:TypeId} (cp:uf PT op=true) (dz:∀z∈op.operands.toList,z≠ .tmp d) (hv:Yj P σ1 op ty v):Yj P σ op ty v/\v.ref d=false:=by
 have hl:∀(z:Operand)(T:TypeId),z≠ .tmp d->look P σ1 T z=look P σ T z:=by
  intro z T hz;cases z with
  |tmp u=>exact(fA u (fun e=>hz (by rw[e]))).1
  |const c=>rfl
  |global g=>rfl
  |func f=>rfl
 have hr:∀(z:Operand)(T:TypeId),z≠ .tmp d->(look P σ T z).ref d=false:=by
  intro z T hz;cases z with
  |tmp u=>exact(fA u (fun e=>hz (by rw[e]))).2
  |const c=>exact Pp T c d
  |global g=>rfl
  |func f=>rfl
 have ij:∀(z:Operand)(T:TypeId)(x:At),z≠ .tmp d->unc (look P σ T z)= .one x->x.ref d=false:=by
  intro z T x hz hu;cases hx:x.ref d with
  |false=>rfl
  |true=>have:=QD hu hx;rw[hr z T hz]at this;cases this
 refine⟨?_,?_⟩
 ·cases op<;>simp only[uf]at cp<;>try exact Bool.noConfusion cp
  case move x=>simp only[Yj]at hv⊢;rw[hv,hl x ty (dz x zAg)]
  case load T x=>
   cases x with
   |tmp t=>
    have ht:Operand.tmp t≠ .tmp d:=dz _ zAg;simp only[List.any_eq_true,beq_iff_eq]at cp;obtain⟨p,hpm,eu⟩:=cp;simp only[Yj]at hv⊢;rw[hl _ 0 ht]at hv;refine⟨hv.1,hv.2.1,?_⟩;have gn:=hv.2.2;have eo:=hp p hpm;rw[eu]at eo;rw[qV]at gn⊢;rcases eo with e|⟨c,e⟩
    ·rw[e]at gn;exact gn.elim
    ·rw[e]at gn⊢;obtain⟨ce,e1,e2⟩:=gn;have hb:p.2≠d:=by have:=ij (.tmp t) 0 (.bptr p.2 c) ht (by rw[qV];exact e);simpa[At.ref]using this
     exact⟨ce,(ek _ _ _ hb e1).1,e2⟩
   |_=>exact Bool.noConfusion cp
  case fieldAddr T x f=>
   cases x with
   |tmp t=>
    have ht:Operand.tmp t≠ .tmp d:=dz _ zAg;simp only[Yj]at hv⊢;rw[hl _ 0 ht]at hv;refine⟨hv.1,hv.2.1,?_⟩;have gn:=hv.2.2;split at gn
    ·rename_i t' c e;have hb:t'≠d:=zBg
     obtain⟨⟨ce,e1⟩,e2⟩:=gn;first|exact⟨⟨ce,(ek _ _ _ hb e1).1⟩,e2⟩|(simp only[e];exact⟨⟨ce,(ek _ _ _ hb e1).1⟩,e2⟩)
    ·rename_i t' j i c e;have hb:t'≠d:=zBg
     obtain⟨⟨q,s,rows,e1⟩,e2⟩:=gn;obtain⟨hO,e3⟩:=fO _ _ _ _ _ hb e1;first|exact⟨⟨q,s,hO,e3⟩,e2⟩|(simp only[e];exact⟨⟨q,s,hO,e3⟩,e2⟩)
    ·rename_i rr c e;first|exact gn|(simp only[e];exact gn)
    ·rename_i t' j i c k e;have hb:t'≠d:=zBg
     obtain⟨⟨s,rows,e1⟩,e2⟩:=gn;obtain⟨hO,e3⟩:=fO _ _ _ _ _ hb e1;first|exact⟨⟨s,hO,e3⟩,e2⟩|(simp only[e];exact⟨⟨s,hO,e3⟩,e2⟩)
    ·exact gn.elim
   |_=>exact Bool.noConfusion cp
  case slice T x lo hi mx=>
   cases x with
   |tmp t=>
    cases mx with
    |some m=>exact Bool.noConfusion cp
    |none=>
     have ht:Operand.tmp t≠ .tmp d:=dz _ zAg;have aF:∀(df n:Nat)(z:Option Operand),(∀y,z=some y->y≠ .tmp d)->bnd P σ1 df z n->bnd P σ df z n:=by
      intro df n z hz h;cases z with
      |none=>exact h
      |some z=>simp only[bnd]at h⊢;rw[hl z 0 (hz z rfl)]at h;exact h
     have dQ:∀y,lo=some y->y≠ .tmp d:=fun y e=>dz y (by subst e;simp[Op.operands]);have bB:∀y,hi=some y->y≠ .tmp d:=fun y e=>dz y (by subst e;simp[Op.operands]);simp only[Yj]at hv⊢;rw[hl _ 0 ht]at hv;refine⟨hv.1,?_⟩;have gn:=hv.2;split at gn
     ·rename_i s e;obtain⟨h1,l,h,h2,h3,h4⟩:=gn;first|exact⟨h1,l,h,aF _ _ _ dQ h2,aF _ _ _ bB h3,h4⟩|(simp only[e];exact⟨h1,l,h,aF _ _ _ dQ h2,aF _ _ _ bB h3,h4⟩)
     ·rename_i s rows e;obtain⟨h1,h0,l,h,h2,h3,h4⟩:=gn;first|exact⟨h1,h0,l,h,aF _ _ _ dQ h2,aF _ _ _ bB h3,h4⟩|(simp only[e];exact⟨h1,h0,l,h,aF _ _ _ dQ h2,aF _ _ _ bB h3,h4⟩)
     ·rename_i t' j o len e;have hb:t'≠d:=zBg
      obtain⟨h1,⟨q,rows,e1⟩,l,h,h2,h3,h4⟩:=gn;obtain⟨hO,e3⟩:=fO _ _ _ _ _ hb e1;first|exact⟨h1,⟨q,hO,e3⟩,l,h,aF _ _ _ dQ h2,aF _ _ _ bB h3,h4⟩|(simp only[e];exact⟨h1,⟨q,hO,e3⟩,l,h,aF _ _ _ dQ h2,aF _ _ _ bB h3,h4⟩)
     ·exact gn.elim
   |_=>exact Bool.noConfusion cp
 ·cases hx:v.ref d with
  |false=>rfl
  |true=>
   obtain⟨z,hz,T,h1⟩:=G0 hv hx;rw[hl z T (dz z hz)]at h1;rcases h1 with h1|⟨t,cells,h1,h2,h3⟩
   ·rw[hr z T (dz z hz)]at h1;cases h1
   ·by_cases htd:t=d
    ·rw[htd,hr z T (dz z hz)]at h1;cases h1
    ·have:=(ek t 0 cells htd h2).2;rw[this]at h3;cases h3
theorem nU{x:Oper}(h:uA PT ops bar x y=true)(hp:Mv PT σ)(fp:x.dst=some d)(gM:XY σ d=true)(gx:zH P ops bar x σ σ1)(hH:zH P ops bar y σ1 σ2):∃σ1',zH P ops bar y σ σ1'/\zH P ops bar x σ1' σ2:=by
 unfold uA at h;simp only[Bool.and_eq_true,Bool.not_eq_true',Option.isNone_iff_eq_none]at h;obtain⟨⟨⟨⟨⟨⟨fB,gQ⟩,aX⟩,cy⟩,dD⟩,cp⟩,h⟩:=h;rw[fp]at h;cases ec:y.dst with
 |none=>rw[ec]at h;cases h
 |some dy=>
  rw[ec]at h;simp only[Bool.and_eq_true,Bool.not_eq_true',bne_iff_ne,ne_eq]at h;obtain⟨⟨ij,dk⟩,ba⟩:=h;have hxy':=Td dk
  have hyx':=Td ba;have hH:=hH.resolve_right (fun hh=>by rw[gQ]at hh;cases hh.1);rcases gx with gx|⟨_,hss,hck,_,hba,_⟩
  ·have gm:SR y=false:=by unfold SR;cases ig:y.op<;>rw[ig]at cp<;>first|rfl|(exact Bool.noConfusion cp)
   obtain⟨σ1',hy,hx⟩:=swap fp ec ij hxy' hyx' gm (.inl dD) gM gx hH;exact⟨σ1',.inl hy,.inl hx⟩
  ·obtain⟨d',hJ,hlen,fA,ek,fO,g5⟩:=hba aX;rw[fp]at hJ;cases hJ;have e2:∃v,Yj P σ1 y.op y.type v/\σ2=σ1.put dy v:=by unfold XU at hH;simp only[dD,ec]at hH;unfold Step at hH;cases ig:y.op<;>rw[ig]at hH cp<;>first|exact hH|(exact Bool.noConfusion cp)
   obtain⟨v,hv,rfl⟩:=e2;obtain⟨hv0,bd⟩:=my fA ek fO hp cp (fun z hz=>hxy' z (by simp only[xA,List.mem_append];exact .inl hz)) hv;have hun:LO x dy=true:=by
    simp only[LO,Bool.not_eq_true'];refine List.any_eq_false.2 (fun z hz=>?_);have:=hyx' z (by simp only[xA,List.mem_append];exact .inl hz)
    cases z<;>simp[xK]at this⊢;exact this
   have gF:∀p∈[(dy,v)],p.1≠d/\LO x p.1=true/\p.2.ref d=false:=fun p hp=>by cases List.mem_singleton.1 hp;exact⟨fun e=>ij e.symm,hun,bd⟩
   have h0:=g5 [(dy,v)] gF;refine⟨σ.put dy v,.inl ?_,.inr ⟨fB,h0.1,h0.2,fun hh=>(by rw[wm hh]at aX;cases aX),fun _=>⟨d,fp,by rw[St.Qv,St.Qv];exact hlen,fun t ht=>?_,fun t j cells ht hb=>?_,fun t j q s rows ht hb=>?_,fun l hl=>?_⟩,fun hh _=>(by rw[rq aX]at hh;cases hh)⟩⟩
   ·unfold XU;simp only[dD,ec];unfold Step;cases ig:y.op<;>rw[ig]at hv0 cp<;>first|exact⟨v,hv0,rfl⟩|(exact Bool.noConfusion cp)
   ·have h1:=fA t ht;rw[St.zc,St.zc,hlen];by_cases hc:t=dy/\dy<σ.length
    ·simp only[if_pos hc];exact⟨trivial,bd⟩
    ·simp only[if_neg hc];exact h1
   ·rw[St.Qz]at hb⊢;exact ek t j cells ht hb
   ·rw[St.Qz]at hb⊢;exact fO t j q s rows ht hb
   ·exact g5 ((dy,v)::l) (fun p hp=>by
     rcases List.mem_cons.1 hp with rfl|hp
     ·exact gF _ zAE
     ·exact hl p hp)
theorem sn(hn:σ.ob t j≠ .none):σ.Z0 t j (σ.ob t j)=σ:=by
 apply List.ext_getElem?;intro u;rw[Qn];by_cases hu:u=t
 ·subst hu;obtain⟨e,he,ho⟩:=NR (σ:=σ) (t:=u) (j:=j) rfl hn;rw[if_pos rfl,he,Option.map_some];have:e.2.set j (σ.ob u j)=e.2:=by
   rw[<-ho];apply List.ext_getElem?;intro k;rw[List.getElem?_set];by_cases hk:j=k
   ·subst hk;rw[if_pos rfl];split
    ·rename_i hD;unfold Yr;rw[List.getElem?_eq_getElem hD]
    ·rename_i hD;exact(List.getElem?_eq_none zAC).symm
   ·rw[if_neg hk]
  rw[this]
 ·rw[if_neg hu]
theorem uV(σ:St)(t j:Nat)(o o':Ob):(σ.Z0 t j o).Z0 t j o'=σ.Z0 t j o':=by
 apply List.ext_getElem?;intro u;rw[Qn,Qn,Qn];by_cases hu:u=t
 ·simp only[if_pos hu];cases σ[u]?<;>simp
 ·simp only[if_neg hu]
section
variable{cells:List At}{os:Option (List Ob)}
theorem MX:(yk t d cs v os σ).length=σ.length:=by cases os<;>simp[yk,St.Qv,St.Vw,St.XR]
theorem wN(h:u≠d):(yk t d cs v os σ).get u=σ.get u:=by cases os<;>simp[yk,St.zc,St.TD,St.Xz,h]
theorem mA(hb:σ.ob t 0= .box cells)(hu:os≠none->u≠d):(yk t d cs v os σ).ob u j=if u=t/\j=0 then .box cs else σ.ob u j:=by
 have hn:σ.ob t 0≠ .none:=by rw[hb];simp
 cases os with
 |none=>simp only[yk,St.Qz];exact St.Xh σ t 0 _ u j hn
 |some l=>have:=hu zAE;simp only[yk,St.JN,this,false_and,if_false];exact St.Xh σ t 0 _ u j hn
theorem GC:(yk t d cs v os σ)[u]?=if u=d then(σ[u]?).map (fun e=>(v,match os with|some l=>l|none=>if u=t then e.2.set 0 (.box cs)else e.2))else if u=t then(σ[u]?).map (fun e=>(e.1,e.2.set 0 (.box cs)))else σ[u]?:=by cases os<;>simp only[yk,W1,xI,Qn]<;>by_cases h1:u=d<;>by_cases h2:u=t<;>simp[h1,h2]<;>(try subst h1)<;>(try subst h2)<;>(try simp_all)<;>(first|(cases σ[u]?<;>rfl)|(cases σ[t]?<;>rfl)|(cases σ[d]?<;>rfl))
theorem E5(gm:∀a j w l,e≠ .drop a j w l)(h1:dx≠d)(h2:(∀w,e≠ .put w)->t≠dx):e.ap dx (yk t d cs v os σ)=yk t d cs v os (e.ap dx σ):=by
 apply List.ext_getElem?;intro u;rw[GC];cases e with
 |put w=>
  simp only[Eff.ap,W1,GC];by_cases e1:u=dx
  ·subst e1;simp only[if_true,if_neg h1];by_cases e2:u=t<;>simp[e2]<;>(first|(cases σ[u]?<;>rfl)|(cases σ[t]?<;>rfl)|rfl)
  ·simp only[if_neg e1]
 |new w l=>
  have h3:=h2 (by intro w h;cases h);simp only[Eff.ap,xI,GC];by_cases e1:u=dx
  ·subst e1;simp only[if_true,if_neg h1,if_neg (Ne.symm h3)]
  ·simp only[if_neg e1]
 |drop a j w l=>exact absurd rfl (gm a j w l)
theorem su(h:σ.fresh u=true)(eT:Yb u cs=false)(hv:v.ref u=false/\∀l,os=some l->XB u l=false):(yk t d cs v os σ).fresh u=true:=by
 have hf:=QY.1 h;refine QY.2 ⟨by rw[MX];exact hf.1,fun k e he hk=>?_⟩;rw[GC]at he;have hset:∀os0,XB u os0=false->XB u (os0.set 0 (.box cs))=false:=by
  intro os0 h0;cases os0 with
  |nil=>exact h0
  |cons o os0=>simp only[List.set_cons_zero];cases o<;>simp_all[XB]
 by_cases h1:k=d
 ·rw[if_pos h1]at he;simp only[Option.map_eq_some_iff]at he;obtain⟨e0,cA,rfl⟩:=he;refine⟨hv.1,?_⟩;cases os with
  |some l=>exact hv.2 l rfl
  |none=>
   have:=(hf.2 k e0 cA hk).2;simp only;split
   ·exact hset _ this
   ·exact this
 ·rw[if_neg h1]at he;split at he
  ·simp only[Option.map_eq_some_iff]at he;obtain⟨e0,cA,rfl⟩:=he;exact⟨(hf.2 k e0 cA hk).1,hset _ (hf.2 k e0 cA hk).2⟩
  ·exact hf.2 k e he hk
theorem vE(hb:σ.ob t 0= .box cells)(h:(yk t d cs v os σ).fresh u=true)(gM:XY σ d=true)(hce:Yb u cells=false):σ.fresh u=true:=by
 have hf:=QY.1 h;refine QY.2 ⟨by rw[<-MX (σ:=σ)];exact hf.1,fun k e he hk=>?_⟩;by_cases h1:k=d
 ·rw[h1]at he;exact Ho gM he u
 ·by_cases h2:k=t
  ·have:=hf.2 k (e.1,e.2.set 0 (.box cs)) (by rw[GC,if_neg h1,if_pos h2,he];rfl) hk;refine⟨this.1,?_⟩;have h3:=this.2;rw[h2]at he;rw[Ch he]at hb;cases hos:e.2 with
   |nil=>rfl
   |cons o os0=>
    rw[hos]at hb h3;have hb:o= .box cells:=hb
    subst hb;simp only[List.set_cons_zero,XB,Bool.or_eq_false_iff]at h3⊢;exact⟨hce,h3.2⟩
  ·exact hf.2 k e (by rw[GC,if_neg h1,if_neg h2];exact he) hk
theorem uK{x:Oper}(hg:x.guard=none)(fp:x.dst=some dx)(ij:dx≠d)(hxd:∀z∈xA ops x,z≠ .tmp d)(hb:σ.ob t 0= .box cells)(gj:os≠none->(σ.Z0 t 0 (.box cs)).fresh d=true)
  (eu:Mv PT σ) (ek:∀b,vB PT y=some b->b=t) (gi:Gr PT y x=true) (hA:A=σ\/A=yk t d cs v os σ) (hs:XU P ops x A σ2):
  ∃e:Eff,σ2=e.ap dx A/\(∀a j w l,e≠ .drop a j w l)/\e.ok dx A/\∀B,(B=σ\/B=yk t d cs v os σ)->e.ok dx B->XU P ops x B (e.ap dx B)/\∀u,u≠dx->e.ref u=true->HR P (xA ops x) B u:=by
 have ig:xA ops x=x.op.operands.toList:=by simp[xA,hg]
 simp only[Gr,Bool.or_eq_true,Bool.and_eq_true,Bool.not_eq_true']at gi;have hlenA:A.length=σ.length:=by rcases hA with rfl|rfl<;>simp[MX]
 rcases gi with⟨hc,gm⟩|hf
 ·obtain⟨e,rfl,gF,hdr,_,aV,hfrm⟩:=VJ fp hs;refine⟨e,rfl,(fun a j w l h=>by have:=(hdr a j w l h).1;rw[gm]at this;cases this),gF,fun B hB hokB=>?_⟩;have hlenB:B.length=σ.length:=by rcases hB with rfl|rfl<;>simp[MX]
  have hk:∀z∈xA ops x,∃c,z= .const c:=by
   intro z hz;rw[ig]at hz;have:=List.all_eq_true.1 hc z hz
   cases z<;>first|exact⟨_,rfl⟩|cases this
  have gV:Sub P (xA ops x) A B:=⟨by rw[hlenA,hlenB],fun z hz ty=>by obtain⟨c,rfl⟩:=hk z hz;rfl,fun z hz ty u hr=>by obtain⟨c,rfl⟩:=hk z hz;have h0:=Pp (P:=P) ty c u;simp only[look]at hr;rw[h0]at hr;cases hr⟩;have bC:∀u,¬HR P (xA ops x) A u:=by rintro u ⟨z,hz,ty,h|⟨_,_,h,_,_⟩⟩<;>(obtain⟨c,rfl⟩:=hk z hz;have h0:=Pp (P:=P) ty c;simp only[look]at h;rw[h0]at h;cases h)
  exact⟨hfrm B gV hokB,fun u hu hr=>absurd (aV hg u hu hr) (bC u)⟩
 ·split at hf
  ·rename_i b hcb;have hbt:=ek b hcb
   subst hbt;have hsA:Step P x dx A σ2:=by unfold XU at hs;simp only[hg,fp]at hs;exact hs
   obtain⟨w,hw,rfl⟩:=(Ml rfl hf).1 hsA;refine⟨.put w,rfl,(fun a j w' l h=>by cases h),trivial,fun B hB _=>?_⟩;have hloo:∀z∈x.op.operands.toList,∀ty,look P (yk b d cs v os σ) ty z=look P (σ.Z0 b 0 (.box cs)) ty z:=fun z hz ty=>by rw[zo];exact look_eq (fun u hu=>wN hu) (hxd z (by rw[ig];exact hz)) ty
   have bC:os≠none->∀z∈x.op.operands.toList,∀ty,(look P (σ.Z0 b 0 (.box cs)) ty z).ref d=false:=fun hn z hz ty=>
    zp (fun t' e he ht'=>((QY.1 (gj hn)).2 t' e he ht').1) (hxd z (by rw[ig];exact hz)) ty
   have hobe:∀u,(os≠none->u≠d)->∀j,(yk b d cs v os σ).ob u j=(σ.Z0 b 0 (.box cs)).ob u j:=fun u hu j=>by rw[mA hb hu,St.Xh _ _ _ _ _ _ (by rw[hb];simp)]
   have fw:Yj P (σ.Z0 b 0 (.box cs)) x.op x.type w->Yj P (yk b d cs v os σ) x.op x.type w:=fun hv=>UC hv
    ⟨by rw[MX,St.XR],fun z hz ty=>(hloo z hz ty).symm,fun z hz ty u hr j _=>hobe u (fun hn e=>by subst e;rw[bC hn z hz ty]at hr;cases hr) j⟩
   have bw:Yj P (yk b d cs v os σ) x.op x.type w->Yj P (σ.Z0 b 0 (.box cs)) x.op x.type w:=fun hv=>UC hv
    ⟨by rw[MX,St.XR],fun z hz ty=>hloo z hz ty,fun z hz ty u hr j _=>(hobe u (fun hn e=>by subst e;rw[hloo z hz ty,bC hn z hz ty]at hr;cases hr) j).symm⟩
   have hpt2:Mv PT (σ.Z0 b 0 (.box cs)):=fun p hp=>by rw[St.Xz];exact eu p hp
   have gQ:(σ.Z0 b 0 (.box cs)).ob b 0= .box cs:=by rw[St.Xh _ _ _ _ _ _ (by rw[hb];simp),if_pos ⟨rfl,rfl⟩]
   have dr:(σ.Z0 b 0 (.box cs)).Z0 b 0 (.box cells)=σ:=by rw[uV,<-hb];exact sn (by rw[hb];simp)
   have hσ:Yj P σ x.op x.type w:=by
    rcases hA with rfl|rfl
    ·exact hw
    ·have:=ur (cs:=cells) hf hpt2 gQ (bw hw);rw[dr]at this;exact this
   have hB':Yj P B x.op x.type w:=by
    rcases hB with rfl|rfl
    ·exact hσ
    ·exact fw (ur hf eu hb hσ)
   refine⟨?_,fun u hu hr=>?_⟩
   ·unfold XU;simp only[hg,fp];exact(Ml rfl hf).2 ⟨w,hB',rfl⟩
   ·rw[ig];exact G0 hB' hr
  ·cases hf
end
theorem IP(h:KF P o=true):SC o=false/\VF o=false:=by
 unfold KF at h;split at h
 ·rename_i ig;simp[SC,VF,ig]
 ·cases h
theorem tg(eu:Mv PT σ)(h:∃z r,(∃f ts,y.op= .call ⟨.value (.func f),⟨z::r⟩,ts⟩)/\∃ty,unc (look P σ ty z)= .one (.bptr t 0)):∀b,vB PT y=some b->b=t:=by
 obtain⟨z,r,⟨f,ts,ig⟩,ty,hz⟩:=h;intro b hb;unfold vB at hb;rw[ig]at hb;cases z with
 |tmp k=>
  simp only[Option.map_eq_some_iff]at hb;obtain⟨p,hp,rfl⟩:=hb;have hk:p.1=k:=by simpa using List.find?_some hp
  have hm:=List.mem_of_find?_eq_some hp;rw[qV]at hz;rcases eu p hm with e|⟨c,e⟩<;>rw[hk]at e<;>rw[e]at hz<;>simp[unc]at hz;exact hz.1
 |_=>cases hb
theorem tF(h:KF P o=true):SR o=false:=by
 unfold KF at h;split at h
 ·rename_i ig;simp[SR,ig]
 ·cases h
theorem FK{x:Oper}(h:Gr PT y x=true):SR x=false:=by
 simp only[Gr,Bool.or_eq_true,Bool.and_eq_true,Bool.not_eq_true']at h;rcases h with⟨_,h⟩|h
 ·exact h
 ·split at h
  ·rename_i b _;have key:∀op,N9 PT b op=true->(match op with|.call ⟨.builtin .append,⟨.const _::_⟩,_⟩=>false|.call ⟨.builtin .append,_,_⟩=>true|_=>false)=false:=by intro op h;unfold N9 at h;split at h<;>first|rfl|(exact Bool.noConfusion h)
   exact key _ h
  ·cases h
theorem nY{x:Oper}(h:vu P PT ops bar x y=true)(hp:Mv PT σ)(hp1:Mv PT σ1)(fp:x.dst=some d)(gM:XY σ d=true)(gx:zH P ops bar x σ σ1)(hH:zH P ops bar y σ1 σ2):∃σ1',zH P ops bar y σ σ1'/\zH P ops bar x σ1' σ2:=by
 unfold vu at h;simp only[fp,Bool.and_eq_true,Option.isNone_iff_eq_none]at h;obtain⟨⟨⟨⟨cy,dD⟩,ho1⟩,ed⟩,h⟩:=h;cases ec:y.dst with
 |none=>rw[ec]at h;cases h
 |some dy=>
  rw[ec]at h;simp only[Bool.and_eq_true,Bool.or_eq_true,Bool.not_eq_true',bne_iff_ne,ne_eq]at h;obtain⟨⟨⟨ij,dk⟩,ba⟩,h⟩:=h;have dk:=Td dk
  have ba:=Td ba;have bg:xA ops y=y.op.operands.toList:=by simp[xA,dD]
  have bh:xA ops x=x.op.operands.toList:=by simp[xA,cy]
  have hclo:∀j,σ.ob d j= .none:=fun j=>by rw[jY]at gM;unfold St.ob;rcases gM with e|⟨_,e⟩<;>rw[e]<;>simp[Yr]
  rcases h with⟨⟨⟨fB,gQ⟩,dn⟩,gi⟩|⟨⟨⟨fB,dn⟩,gQ⟩,gi⟩
  ·have gx:=gx.resolve_right (fun hh=>by rw[fB]at hh;cases hh.1);rcases hH with hH|⟨_,_,_,_,_,hbc⟩
   ·obtain⟨σ1',hy,hx⟩:=swap fp ec ij dk ba (tF dn) (.inl dD) gM gx hH;exact⟨σ1',.inl hy,.inl hx⟩
   ·obtain⟨d',t,cells,cs,v,os,hJ,hb,hz,dC,bd,gj,rfl,g5⟩:=hbc dn ed;rw[ec]at hJ;cases hJ;obtain⟨ex,rfl,cq,bQ,_⟩:=VJ fp gx;have hnd0:∀a j w l,ex≠ .drop a j w l:=fun a j w l hh=>by have:=(bQ a j w l hh).1;rw[FK gi]at this;cases this
    have cU:∀z∈xA ops y,∀ty,look P (ex.ap d σ) ty z=look P σ ty z:=fun z hz ty=>look_eq (fun u hu=>Hz ex hu) (dk z hz) ty;have hnr:∀z∈xA ops y,∀ty u,(look P (ex.ap d σ) ty z).ref u=true->(∀w,ex≠ .put w)->u≠d:=fun z hz ty u hr eN e=>by rw[e,cU z hz,zp (Wa cq eN) (dk z hz)]at hr;cases hr
    have cr:=hz;obtain⟨z,r,⟨f,ts,ig⟩,ty,hzt⟩:=hz;have hzm:z∈xA ops y:=by rw[bg,ig];exact zw (c:=⟨.value (.func f),⟨z::r⟩,ts⟩) zAE
    have htd':(∀w,ex≠ .put w)->t≠d:=hnr z hzm ty t (QD hzt zBC);have hbσ:σ.ob t 0= .box cells:=by rw[sF cq htd' (by rw[hb];simp),hb]
    have htd:t≠d:=fun e=>by rw[e,hclo]at hbσ;cases hbσ
    have hfrσ:os≠none->(σ.Z0 t 0 (.box cs)).fresh dy=true:=fun hn=>by
     have hf:=QY.1 (gj hn);refine QY.2 ⟨by have:=hf.1;rw[St.XR]at this⊢;rwa[yO]at this,fun k e he hk=>?_⟩;by_cases hkd:k=d
     ·rw[hkd,Qn,if_neg htd.symm]at he;rw[hkd]at*;exact Ho gM he dy
     ·refine hf.2 k e ?_ hk;rw[Qn]at he⊢;have:(ex.ap d σ)[k]?=σ[k]?:=by
       cases ex with
       |put w=>simp only[Eff.ap,W1,if_neg hkd]
       |new w l=>simp only[Eff.ap,xI,if_neg hkd]
       |drop a j w l=>exact absurd rfl (hnd0 a j w l)
      rw[this];exact he
    obtain⟨e,heq,gm,gF,hB⟩:=uK (v:=v) cy fp ij ba hbσ hfrσ hp (tg hp1 cr) gi (.inl rfl) gx;rw[heq]at hb cr gj g5 cU hnr⊢;have fH:∀z∈xA ops y,∀ty u,(look P (e.ap d σ) ty z).ref u=true->∀j,(e.ap d σ).ob u j≠ .none->σ.ob u j=(e.ap d σ).ob u j:=fun z hz ty u hr j hn=>
     sF gF (fun eN hu=>by rw[hu,cU z hz,zp (Wa gF eN) (dk z hz)]at hr;cases hr) hn
    have h0:=g5 σ (yO e) (fun z hz ty=>cU z zCT ty) (fun z hz ty u hr j hn=>fH z zCT ty u hr j hn) hfrσ;refine⟨yk t dy cs v os σ,.inr ⟨gQ,h0.1,h0.2,fun hh=>(by rw[(IP dn).1]at hh;cases hh),fun hh=>(by rw[(IP dn).2]at hh;cases hh),fun _ _=>?_⟩,.inl ?_⟩
    ·refine⟨dy,t,cells,cs,v,os,ec,hbσ,⟨z,r,⟨f,ts,ig⟩,ty,by rw[<-cU z hzm,<-heq];exact hzt⟩,dC,bd,hfrσ,rfl,fun σ3 hl3 hlk3 hob3 hf3=>?_⟩;refine g5 σ3 (by rw[yO];exact hl3) (fun z hz ty=>by rw[cU z zCT,hlk3 z hz]) (fun z hz ty u hr j hn=>?_) hf3;have h1:=fH z zCT ty u hr j hn
     rw[<-h1];exact hob3 z hz ty u (by rw[<-cU z zCT];exact hr) j (by rw[h1];exact hn)
    ·rw[<-E5 gm ij (fun _=>htd)];refine(hB _ (.inr rfl) ?_).1;cases e with
     |put w=>trivial
     |new w l=>exact su gF (dC d).2 (bd d (.inr ij))
     |drop a j w l=>exact absurd rfl (gm a j w l)
  ·have hH:=hH.resolve_right (fun hh=>by rw[gQ]at hh;cases hh.1);rcases gx with gx|⟨_,_,_,_,_,hbc⟩
   ·obtain⟨σ1',hy,hx⟩:=swap fp ec ij dk ba (FK gi) (.inl dD) gM gx hH;exact⟨σ1',.inl hy,.inl hx⟩
   ·obtain⟨d',t,cells,cs,v,os,hJ,hb,hz,dC,bd,gj,rfl,g5⟩:=hbc dn ho1;rw[fp]at hJ;cases hJ;have cr:=hz
    obtain⟨z,r,⟨f,ts,ig⟩,ty,hzt⟩:=hz;have hzm:z∈xA ops x:=by rw[bh,ig];exact zw (c:=⟨.value (.func f),⟨z::r⟩,ts⟩) zAE
    obtain⟨e,rfl,gm,gF,hB⟩:=uK dD ec (Ne.symm ij) dk hb gj hp (tg hp cr) gi (.inr rfl) hH;have hokσ:e.ok dy σ:=by
     cases e with
     |put w=>trivial
     |new w l=>exact vE hb gF gM (dC dy).1
     |drop a j w l=>exact absurd rfl (gm a j w l)
    have cU:∀z∈xA ops x,∀ty,look P (e.ap dy σ) ty z=look P σ ty z:=fun z hz ty=>look_eq (fun u hu=>Hz e hu) (ba z hz) ty;have hnr:∀z∈xA ops x,∀ty u,(look P σ ty z).ref u=true->(∀w,e≠ .put w)->u≠dy:=fun z hz ty u hr eN he=>by rw[he,zp (Wa hokσ eN) (ba z hz)]at hr;cases hr
    have ej:(∀w,e≠ .put w)->t≠dy:=hnr z hzm ty t (QD hzt zBC);have hZ:∀z∈xA ops x,∀ty u,(look P σ ty z).ref u=true->∀j,(e.ap dy σ).ob u j=σ.ob u j:=fun z hz ty u hr j=>Hb gm (hnr z hz ty u hr);have cV:=hB σ (.inl rfl) hokσ;have hfr':os≠none->((e.ap dy σ).Z0 t 0 (.box cs)).fresh d=true:=fun hn=>by
     have hf:=QY.1 (gj hn);have her:e.ref d=false:=by
      cases hr:e.ref d with
      |false=>rfl
      |true=>
       obtain⟨z',ev,ty',h1|⟨t',iy,h1,h2,h3⟩⟩:=cV.2 d ij hr
       ·rw[<-zo (t:=t) (j:=0) (o:=.box cs),zp (fun k e0 he hk=>(hf.2 k e0 he hk).1) (dk z' ev)]at h1;cases h1
       ·by_cases htt:t'=t
        ·subst htt;rw[hb]at h2;cases h2;rw[(dC d).1]at h3;cases h3
        ·have htd:t'≠d:=fun e0=>by rw[e0,hclo]at h2;cases h2
         obtain⟨en,hen,hoe⟩:=NR h2 zAE;have:=(hf.2 t' en (by rw[Qn,if_neg htt];exact hen) htd).2
         rw[IC hoe h3]at this;cases this
     refine QY.2 ⟨by have:=hf.1;rw[St.XR]at this⊢;rwa[yO],fun k en he hk=>?_⟩;cases e with
     |put w=>
      simp only[Eff.ap,xb,W1]at he;split at he
      ·simp only[Option.map_eq_some_iff]at he;obtain⟨e0,cA,rfl⟩:=he;exact⟨her,(hf.2 k e0 cA hk).2⟩
      ·exact hf.2 k en he hk
     |new w l=>
      have ht:=ej (by intro w h;cases h);simp only[Eff.ap,Qn,xI]at he;by_cases hkt:k=t
      ·subst hkt;simp only[if_true,if_neg ht]at he;exact hf.2 k en (by rw[Qn,if_pos rfl];exact he) hk
      ·simp only[if_neg hkt]at he;split at he
       ·simp only[Option.map_eq_some_iff]at he;obtain⟨e0,cA,rfl⟩:=he;simp only[Eff.ref,Bool.or_eq_false_iff]at her;exact her
       ·exact hf.2 k en (by rw[Qn,if_neg hkt];exact he) hk
     |drop a j w l=>exact absurd rfl (gm a j w l)
    have h0:=g5 (e.ap dy σ) (yO e).symm (fun z hz ty=>(cU z zCU ty).symm) (fun z hz ty u hr j _=>hZ z zCU ty u hr j) hfr';have hcomm:e.ap dy (yk t d cs v os σ)=yk t d cs v os (e.ap dy σ):=by
     cases e with
     |put w=>exact E5 gm (Ne.symm ij) (fun hh=>absurd rfl (hh w))
     |new w l=>exact E5 gm (Ne.symm ij) ej
     |drop a j w l=>exact absurd rfl (gm a j w l)
    refine⟨e.ap dy σ,.inl cV.1,.inr ?_⟩;rw[hcomm];refine⟨fB,h0.1,h0.2,fun hh=>(by rw[(IP dn).1]at hh;cases hh),fun hh=>(by rw[(IP dn).2]at hh;cases hh),fun _ _=>?_⟩;refine⟨d,t,cells,cs,v,os,fp,?_,⟨z,r,⟨f,ts,ig⟩,ty,by rw[cU z hzm];exact hzt⟩,dC,bd,hfr',rfl,fun σ3 hl3 hlk3 hob3 hf3=>?_⟩
    ·rw[hZ z hzm ty t (QD hzt zBC) 0];exact hb
    ·refine g5 σ3 (by rw[<-hl3,yO]) (fun z hz ty=>by rw[<-hlk3 z hz,cU z zCU]) (fun z hz ty u hr j hn=>?_) hf3;have h1:=hZ z zCU ty u hr j
     rw[<-h1];exact hob3 z hz ty u (by rw[cU z zCU];exact hr) j (by rw[h1];exact hn)
theorem ru(h:ptB PT σ=true):Mv PT σ:=by
 intro p hp;have:=List.all_eq_true.1 h p hp
 split at this
 ·rename_i e;exact .inl e
 ·split at this
  ·rename_i b c e;have hb:b=p.2:=by simpa using this
   subst hb;exact .inr ⟨c,e⟩
  ·cases this
def tb(P:Program)(ops:Array Oper)(bar:Oper->Bool):List Nat->St->(St->Prop)->Prop
 |[],σ,Q=>Q σ
 |i::rem,σ,Q=>∃o σ',ops[i]?=some o/\zH P ops bar o σ σ'/\tb P ops bar rem σ' Q
theorem Dx(hs:XU P ops o σ σ')(hd:o.dst≠some d)(h:XY σ d=true):XY σ' d=true:=by
 cases hdo:o.dst with
 |some d'=>
  have ij:d≠d':=fun e=>hd (by rw[hdo,e]);obtain⟨e,rfl,_⟩:=VJ hdo hs;cases e with
  |put v=>unfold XY at*;simp only[Eff.ap,W1,if_neg ij];exact h
  |new v os=>unfold XY at*;simp only[Eff.ap,xI,if_neg ij];exact h
  |drop a j v os=>have:=QO (a:=a) (j:=j) (o:=.none) h;unfold XY at*;simp only[Eff.ap,xI,if_neg ij];exact this
 |none=>
  unfold XU at hs;split at hs
  ·simp only[hdo]at hs;split at hs
   ·unfold qi at hs;obtain⟨_,_,_,_,hs⟩:=hs;split at hs
    ·obtain⟨_,_,_,_,rfl⟩:=hs;exact QO h
    ·obtain⟨_,_,_,_,_,_,_,_,_,_,_,rfl⟩:=hs;exact QO h
    ·exact hs.elim
   ·exact hs.elim
  ·obtain⟨_,_,_,_,_,_,hJ,_⟩:=hs;rw[hdo]at hJ;cases hJ
theorem sN(hpc:HA ops PT=true)(hi:ops[i]?=some o)(hs:XU P ops o σ σ')(h:Mv PT σ):Mv PT σ':=by
 have hc:=List.all_eq_true.1 hpc o (by rw[Array.mem_toList_iff];exact Array.mem_of_getElem? hi);cases hdo:o.dst with
 |none=>
  have:∃t j ob,σ'=σ.Z0 t j ob:=by
   unfold XU at hs;split at hs
   ·simp only[hdo]at hs;split at hs
    ·unfold qi at hs;obtain⟨_,_,_,_,hs⟩:=hs;split at hs
     ·obtain⟨_,_,_,_,rfl⟩:=hs;exact⟨_,_,_,rfl⟩
     ·obtain⟨_,_,_,_,_,_,_,_,_,_,_,rfl⟩:=hs;exact⟨_,_,_,rfl⟩
     ·exact hs.elim
    ·exact hs.elim
   ·obtain⟨_,_,_,_,_,_,hJ,_⟩:=hs;rw[hdo]at hJ;cases hJ
  obtain⟨t,j,ob,rfl⟩:=this;intro p hp;rw[St.Xz];exact h p hp
 |some d=>
  intro p hp;rw[hdo]at hc;have hc:=List.all_eq_true.1 hc p hp
  by_cases bj:p.1=d
  ·simp only[bj,bne_self_eq_false,Bool.false_or,Bool.and_eq_true,Option.isNone_iff_eq_none]at hc;obtain⟨hg,hc⟩:=hc;split at hc
   ·rename_i T r f ig;have hr:=h (r,p.2) zBc
    unfold XU at hs;simp only[hg,hdo]at hs;unfold Step at hs;rw[ig]at hs;obtain⟨v,hv,rfl⟩:=hs;simp only[Yj]at hv;have hv:=hv.2.2
    rw[qV]at hv;rcases hr with e|⟨c,e⟩
    ·rw[e]at hv;exact hv.elim
    ·rw[e]at hv;rw[St.zc,bj];by_cases hl:d<σ.length
     ·rw[if_pos ⟨rfl,hl⟩];exact .inr ⟨_,by rw[hv.2];rfl⟩
     ·rw[if_neg (fun hh=>hl hh.2)];have:=h p hp;rw[bj]at this;exact this
   ·rename_i r ig;have hr:=h (r,p.2) zBc
    unfold XU at hs;simp only[hg,hdo]at hs;unfold Step at hs;rw[ig]at hs;obtain⟨v,hv,rfl⟩:=hs;simp only[Yj]at hv;rw[qV]at hv;rw[St.zc,bj];by_cases hl:d<σ.length
    ·rw[if_pos ⟨rfl,hl⟩,hv];exact hr
    ·rw[if_neg (fun hh=>hl hh.2)];have:=h p hp;rw[bj]at this;exact this
   ·cases hc
  ·obtain⟨e,rfl,_⟩:=VJ hdo hs;have hg:∀σ0:St,σ0.get p.1=σ.get p.1->(σ0.get p.1= .any\/∃c,unc (σ0.get p.1)= .one (.bptr p.2 c)):=fun σ0 e=>by rw[e];exact h p hp
   cases e with
   |put v=>exact hg _ (by simp only[Eff.ap];rw[St.zc,if_neg (fun hh=>bj hh.1)])
   |new v os=>exact hg _ (by simp only[Eff.ap];rw[St.TD,if_neg (fun hh=>bj hh.1)])
   |drop a j v os=>exact hg _ (by simp only[Eff.ap];rw[St.TD,if_neg (fun hh=>bj hh.1),St.Xz])
theorem Ek:C2 [] [] σ:=⟨fun _ hp=>absurd hp List.not_mem_nil,fun _ hp=>absurd hp List.not_mem_nil⟩
theorem pC(h:DG NB σ)(hd:d∈NB->∀b c,unc v≠ .one (.bptr b c)):DG NB (σ.put d v):=by
 intro t ht b c;rw[St.zc];split
 ·rename_i hc;exact hd (hc.1▸ht) b c
 ·exact h t ht b c
theorem rf(h:DG NB σ)(hd:d∉NB):DG NB (σ.new d v os):=by
 intro t ht b c;have ij:¬(t=d/\d<σ.length):=fun hc=>hd (by rw[<-hc.1];exact ht)
 rw[St.TD,if_neg ij];exact h t ht b c
theorem oE(eW:D5 P ops NB=true)(hi:ops[i]?=some o)(hs:XU P ops o σ σ')(h:DG NB σ):DG NB σ':=by
 have hc:=List.all_eq_true.1 eW o (by rw[Array.mem_toList_iff];exact Array.mem_of_getElem? hi);cases hdo:o.dst with
 |none=>
  have:∃t j ob,σ'=σ.Z0 t j ob:=by
   unfold XU at hs;split at hs
   ·simp only[hdo]at hs;split at hs
    ·unfold qi at hs;obtain⟨_,_,_,_,hs⟩:=hs;split at hs
     ·obtain⟨_,_,_,_,rfl⟩:=hs;exact⟨_,_,_,rfl⟩
     ·obtain⟨_,_,_,_,_,_,_,_,_,_,_,rfl⟩:=hs;exact⟨_,_,_,rfl⟩
     ·exact hs.elim
    ·exact hs.elim
   ·obtain⟨_,_,_,_,_,_,hJ,_⟩:=hs;rw[hdo]at hJ;cases hJ
  obtain⟨t,j,ob,rfl⟩:=this;intro p hp;rw[St.Xz];exact h p hp
 |some d=>
  rw[hdo]at hc;by_cases hd:d∈NB
  ·have hc:=List.all_eq_true.1 hc d hd;simp only[bne_self_eq_false,Bool.false_or,Bool.and_eq_true,Option.isNone_iff_eq_none]at hc;obtain⟨hg,hc⟩:=hc;split at hc
   ·rename_i T r ix ig;unfold XU at hs;simp only[hg,hdo]at hs;unfold Step at hs;rw[ig]at hs;obtain⟨v,hv,rfl⟩:=hs;refine pC h (fun _ b c=>?_);simp only[Yj]at hv;obtain⟨_,_,_,_,_,hv⟩:=hv;split at hv
    ·obtain⟨_,_,_,_,rfl⟩:=hv;intro e;cases e
    ·obtain⟨_,_,_,_,rfl⟩:=hv;intro e;cases e
    ·obtain⟨_,⟨n,ha,_⟩,_⟩:=hv;unfold XS at hc;unfold EZ at ha;split at hc
     ·rename_i e he;rw[he]at ha;cases ha
     ·cases hc
    ·obtain⟨_,_,_,rfl⟩:=hv;intro e;cases e
    ·exact hv.elim
   ·cases hc
  ·obtain⟨e,rfl,_⟩:=VJ hdo hs;cases e with
   |put v=>exact pC h (fun hh=>absurd hh hd)
   |new v os=>exact rf h hd
   |drop a j v os=>refine rf (σ:=σ.Z0 a j .none) (fun t ht b c=>?_) hd;rw[St.Xz];exact h t ht b c
theorem nq(h:nbB NB σ=true):DG NB σ:=by
 intro t ht b c e;have:=List.all_eq_true.1 h t ht
 rw[e]at this;cases this
def wP(ops:Array Oper)(pos:Nat->Nat)(rem:List Nat)(σ:St):Prop:=
 ∀j∈rem,Nz ops pos j=true->sA ops j=true/\∃o d,ops[j]?=some o/\o.dst=some d/\XY σ d=true
theorem oY{k:Nat}{oj ok:Oper}(h:sA ops j=true)(hj:ops[j]?=some oj)(hd:oj.dst=some d)(hk:ops[k]?=some ok)(ij:k≠j):ok.dst≠some d:=by
 unfold sA at h;simp only[hj,hd]at h;have hD:k<ops.size:=(Array.getElem?_eq_some_iff.1 hk).1
 have:=List.all_eq_true.1 h k (List.mem_range.2 hD);simp only[hk,Bool.or_eq_true,beq_iff_eq,bne_iff_ne,ne_eq]at this;exact this.resolve_left ij
theorem uQ(hs:zH P ops bar o σ σ')(hd:o.dst≠some d)(h:XY σ d=true):XY σ' d=true:=by
 rcases hs with hs|hs
 ·exact Dx hs hd h
 ·exact hs.2.2.1 d hd h
theorem G9{rem rem':List Nat}(hi:ops[i]?=some o)(hs:zH P ops bar o σ σ')(hni:i∉rem')(gV:∀j∈rem',j∈rem)(h:wP ops pos rem σ):wP ops pos rem' σ':=by intro j hj hl;obtain⟨hsole,oj,d,h1,h2,h3⟩:=h j (gV j hj) hl;exact⟨hsole,oj,d,h1,h2,uQ hs (oY hsole h1 h2 hi (fun e=>hni (e▸hj))) h3⟩
theorem pull{pos:Nat->Nat}{bar:Oper->Bool}{PT:List (Nat×Nat)}{NB:List Nat}(eo:∀(i:Nat)(o:Oper)(σ σ':St),ops[i]?=some o->zH P ops bar o σ σ'->C2 PT NB σ->C2 PT NB σ'){i:Nat}{post:List Nat}{Q:St->Prop}{oi:Oper}(hi:ops[i]?=some oi):∀{pre:List Nat}{σ:St},(pre++i::post).Nodup->(∀j∈pre,Nz ops pos j=true/\∃oj,ops[j]?=some oj/\(ve ops bar oj oi=true\/vY bar oj oi=true\/swapT PT bar oj oi=true\/vt bar oj oi=true\/uA PT ops bar oj oi=true\/vg PT NB bar oj oi=true\/vu P PT ops bar oj oi=true))->wP ops pos (pre++i::post) σ->C2 PT NB σ->
  tb P ops bar (pre++i::post) σ Q->∃σ',zH P ops bar oi σ σ'/\tb P ops bar (pre++post) σ' Q
 |[],σ,_,_,_,_,h=>by obtain⟨o,σ',ho,hs,hr⟩:=h;rw[hi]at ho;cases ho;exact⟨σ',hs,hr⟩
 |j::pre,σ,gm,hsw,gM,eu,h=>by
  obtain⟨oj,σ1,hj,gx,hr⟩:=h;have hnd':=List.nodup_cons.1 gm
  obtain⟨σ2,hH,aC⟩:=pull eo hi (pre:=pre) hnd'.2 (fun k hk=>hsw k (by simp[hk])) (G9 (rem:=(j::pre)++i::post) hj gx hnd'.1 (fun k hk=>by simp only[List.cons_append,List.mem_cons];exact .inr hk) gM) (eo j oj σ σ1 hj gx eu) hr;obtain⟨hl,oj',dL,cz⟩:=hsw j zAE;rw[hj]at dL;cases dL;rcases cz with cz|cz|cz|cz|cz|cz|cz
  rotate_left
  ·obtain⟨σ1',hy,hx⟩:=oJ cz gx hH;exact⟨σ1',.inl hy,oj,σ2,hj,.inl hx,aC⟩
  ·obtain⟨σ1',hy,hx⟩:=nb cz eu.1 gx hH;exact⟨σ1',.inl hy,oj,σ2,hj,.inl hx,aC⟩
  ·obtain⟨_,o',d',gG,hJ,ga⟩:=gM j zAE hl;rw[hj]at gG;cases gG;obtain⟨σ1',hy,hx⟩:=nh cz hJ ga gx hH;exact⟨σ1',hy,oj,σ2,hj,.inl hx,aC⟩
  ·obtain⟨_,o',d',gG,hJ,ga⟩:=gM j zAE hl;rw[hj]at gG;cases gG;obtain⟨σ1',hy,hx⟩:=nU cz eu.1 hJ ga gx hH;exact⟨σ1',hy,oj,σ2,hj,hx,aC⟩
  ·obtain⟨_,o',d',gG,hJ,ga⟩:=gM j zAE hl;rw[hj]at gG;cases gG;obtain⟨σ1',hy,hx⟩:=nV cz eu.1 eu.2 hJ ga gx hH;exact⟨σ1',hy,oj,σ2,hj,.inl hx,aC⟩
  ·obtain⟨_,o',d',gG,hJ,ga⟩:=gM j zAE hl;rw[hj]at gG;cases gG;obtain⟨σ1',hy,hx⟩:=nY cz eu.1 (eo j oj σ σ1 hj gx eu).1 hJ ga gx hH;exact⟨σ1',hy,oj,σ2,hj,hx,aC⟩
  obtain⟨fB,gQ,dx,dy,h1,h2,h3,h4,h5,h6,h7⟩:=tD cz;have gx:=gx.resolve_right (fun hh=>by rw[fB]at hh;cases hh.1)
  have hH:=hH.resolve_right (fun hh=>by rw[gQ]at hh;cases hh.1);obtain⟨_,o',d',gG,hJ,ga⟩:=gM j zAE hl;rw[hj]at gG;cases gG;rw[h1]at hJ;cases hJ;obtain⟨σ1',hy,hx⟩:=swap h1 h2 h3 h4 h5 h6 h7 ga gx hH;exact⟨σ1',.inl hy,oj,σ2,hj,.inl hx,aC⟩
open Go.RowKit
variable{gY:Array Bool}{Qa:St->Prop}{T0:CS}
theorem HM(h1:gY.getD j true=false)(h2:gY.getD j false=true):False:=by
 rw[Array.getD_eq_getD_getElem?]at h1 h2;cases h:gY[j]? with
 |none=>rw[h]at h1;simp at h1
 |some b=>rw[h]at h1 h2;simp at h1 h2;rw[h1]at h2;cases h2
theorem AA(eo:∀(i:Nat)(o:Oper)(σ σ':St),ops[i]?=some o->zH P ops bar o σ σ'->C2 PT NB σ->C2 PT NB σ')(hdr:vv P ops pos bar PT NB (LM ops.toList [])=true){Q:Exit->Act->World->Prop}(hK:∀σ a w,Qa σ->JV T0 B σ a w->XL B w0 w->Q .normal a w):
  ∀(fuel:Nat)(rem:List Nat)(gY:Array Bool)(σ:St)(a:Act)(w:World),rem.length=fuel->gY.size=ops.size->rem.Pairwise (fun i j=>pos i<pos j)->(∀i,i∈rem↔gY.getD i true=false)->(∀i∈rem,i<ops.size)->(∀m om,ops[m]?=some om->m∉rem->∀j,HS om j=true->j∉rem)->
   wP ops pos rem σ->C2 PT NB σ->tb P ops bar rem σ Qa->JV T0 B σ a w->XL B w0 w->wpAny P .any ops Q fuel gY a w:=by
 have g5:=List.all_eq_true.1 hdr;have first:∀(rem:List Nat)(gY:Array Bool),gY.size=ops.size->rem.Pairwise (fun i j=>pos i<pos j)->(∀i,i∈rem↔gY.getD i true=false)->(∀i∈rem,i<ops.size)->Region.ready .any ops gY=[]->rem=[]:=by
  intro rem gY g7 hso fF hD hre;cases rem with
  |nil=>rfl
  |cons i rem=>
   exfalso;have hi:=hD i zAE
   have hb:=g5 i (List.mem_range.2 hi);simp only[Bool.and_eq_true]at hb;have dr:=hb.1.1;unfold nH at dr;rw[Array.getElem?_eq_getElem hi]at dr;simp only[Array.all_eq_true_iff_forall_mem,decide_eq_true_eq,Bool.and_eq_true,Bool.or_eq_true,Bool.not_eq_true']at dr;have:i∈Region.ready .any ops gY:=by
    refine mem_ready.2 ⟨(fF i).1 zAE,ops[i],Array.getElem?_eq_getElem hi,fun e he hbi=>?_⟩;have ab:=(dr e he).resolve_left (by rw[hbi];simp)
    have bD:=ab.1;have hlt2:=ab.2;have dV:e.on∉i::rem:=by
     intro hm;rcases List.mem_cons.1 hm with h|h
     ·rw[h]at bD;omega
     ·have:=(List.pairwise_cons.1 hso).1 _ h;omega
    have ij:gY.getD e.on true≠false:=fun h=>dV ((fF _).2 h);have hin:e.on<gY.size:=by rw[g7];omega
    rw[Array.getD_eq_getD_getElem?,Array.getElem?_eq_getElem hin]at ij⊢;simpa using ij
   rw[hre]at this;cases this
 intro fuel;induction fuel with
 |zero=>
  intro rem gY σ a w hl g7 hso fF hD hdn gM eu gA fj hb;have dW:rem=[]:=List.eq_nil_of_length_eq_zero hl
  subst dW;refine⟨?_,hK σ a w gA fj hb⟩;cases hre:Region.ready .any ops gY with
  |nil=>rfl
  |cons i l=>
   have hi:i∈Region.ready .any ops gY:=by rw[hre];simp
   have:=(fF i).2 (mem_ready.1 hi).1;cases this
 |succ fuel ih=>
  intro rem gY σ a w hl g7 hso fF hD hdn gM eu gA fj hb;refine⟨fun hre=>?_,fun i hi=>?_⟩
  ·have:=first rem gY g7 hso fF hD hre
   subst this;simp at hl
  ·obtain⟨h0,oi,hoi,aY⟩:=mem_ready.1 hi;obtain⟨pre,post,rfl⟩:=List.append_of_mem ((fF i).2 h0);have gm:(pre++i::post).Nodup:=hso.imp (fun h e=>by rw[e]at h;omega)
   have eF:∀j∈pre,pos j<pos i:=fun j hj=>(List.pairwise_append.1 hso).2.2 j hj i zAE;have e7:i<ops.size:=hD i zAE;have hdone:∀e∈oi.after,Region.binds .any e=true->e.on∉pre++i::post:=by intro e he hbi hm;exact HM ((fF e.on).1 hm) (aY e he hbi)
   have hnp0:∀j,j∈pre++i::post->HS oi j=false:=by
    intro j hj;cases hp:HS oi j with
    |false=>rfl
    |true=>unfold HS at hp;rw[<-Array.any_toList]at hp;obtain⟨e,he,gQ⟩:=List.any_eq_true.1 hp;rw[Array.mem_toList_iff]at he;simp only[Bool.and_eq_true,beq_iff_eq]at gQ;exact(HM ((fF j).1 hj) (by rw[<-gQ.1];exact aY e he gQ.2)).elim
   have bj:∀m j,Pre ops m j->(∀om,ops[m]?=some om->∀k,HS om k=true->k∉pre++i::post)->j∉pre++i::post:=by
    intro m j hp;induction hp with
    |one ho hp=>intro h;exact h _ ho _ hp
    |more ho hp _ ih=>intro h;exact ih (fun om aB k hk=>hdn _ om aB (h _ ho _ hp) k hk)
   have eN:∀j∈pre,vK ops i j=false:=by
    intro j hj;have hjr:j∈pre++i::post:=by simp[hj]
    cases hq:vK ops i j with
    |false=>rfl
    |true=>
     refine absurd hjr (bj i j (s3 hq) (fun om aB k hk hkr=>?_));rw[hoi]at aB;cases aB;have:=hnp0 k hkr
     rw[hk]at this;cases this
   have hsw:∀j∈pre,Nz ops pos j=true/\∃oj,ops[j]?=some oj/\(ve ops bar oj oi=true\/vY bar oj oi=true\/swapT PT bar oj oi=true\/vt bar oj oi=true\/uA PT ops bar oj oi=true\/vg PT NB bar oj oi=true\/vu P PT ops bar oj oi=true):=by
    intro j hj;have hji:=eF j hj
    have hjsz:j<ops.size:=hD j (by simp[hj]);refine⟨?_,ops[j],Array.getElem?_eq_getElem hjsz,?_⟩
    ·unfold Nz Ad;refine List.any_eq_true.2 ⟨i,List.mem_range.2 e7,?_⟩;have:=eN j hj
     unfold vK at this;simp only[this,Bool.not_false,Bool.and_true,decide_eq_true_eq];exact hji
    ·have:=g5 i (List.mem_range.2 e7);simp only[Bool.and_eq_true]at this;have hp:=List.all_eq_true.1 this.1.2 j (List.mem_range.2 hjsz);simp only[hji,decide_true,Bool.not_true,Bool.false_or]at hp;unfold nM at hp;rw[hoi,Array.getElem?_eq_getElem hjsz]at hp;have:=eN j hj;unfold vK at this;simpa[this,or_assoc]using hp
   obtain⟨σ',hs,hr⟩:=pull eo hoi gm hsw gM eu gA;have hni:i∉pre++post:=by
    have:=List.nodup_append.1 gm;intro hm;rcases List.mem_append.1 hm with h|h
    ·exact Nat.lt_irrefl _ (eF i h)
    ·exact(List.nodup_cons.1 this.2.1).1 h
   have bT:∀j∈pre++post,j∈pre++i::post:=by
    intro j hj;rcases List.mem_append.1 hj with h|h
    ·simp[h]
    ·simp[h]
   have key:∀a' w',JV T0 B σ' a' w'->XL B w w'->wpAny P .any ops Q fuel (gY.setIfInBounds i true) a' w':=by
    intro a' w' hrel' hR;refine ih (pre++post) _ σ' a' w' zCI (by simp[g7]) ?_ (fun j=>?_) (fun j hj=>hD j (bT j hj)) ?_ (G9 hoi hs hni bT gM) (eo i oi σ σ' hoi hs eu) hr hrel' (hb.trans hR)
    ·exact hso.sublist (List.Sublist.append (List.Sublist.refl pre) (List.sublist_cons_self i post))
    ·by_cases aA:i=j
     ·subst aA;constructor
      ·intro hm;exact absurd hm hni
      ·intro hm;rw[Array.getD_eq_getD_getElem?]at hm;simp[g7,e7]at hm
     ·rw[getD_set_ne true aA,<-fF j];simp only[List.mem_append,List.mem_cons];constructor
      ·rintro(h|h)
       ·exact .inl h
       ·exact .inr (.inr h)
      ·rintro(h|h|h)
       ·exact .inl h
       ·exact absurd h.symm aA
       ·exact .inr h
    ·intro m om aB hm j hpj hj;by_cases hmi:m=i
     ·subst hmi;rw[hoi]at aB;cases aB;have:=hnp0 j (bT j hj)
      rw[hpj]at this;cases this
     ·have hmr:m∉pre++i::post:=by
       intro h;rcases List.mem_append.1 h with h|h
       ·exact hm (by simp[h])
       ·rcases List.mem_cons.1 h with h|h
        ·exact hmi h
        ·exact hm (by simp[h])
      exact hdn m om aB hmr j hpj (bT j hj)
   have gH:=MS hs T0 B a w (wpAny P .any ops Q fuel (gY.setIfInBounds i true)) Q fj key;unfold wpOp;simp only[hoi];split
   ·rename_i hw;rw[if_pos hw]at gH;exact .inl gH
   ·rename_i hw;rw[if_neg hw]at gH;exact gH
theorem AX(h:JV T0 B σ a w):JV T0 B σ a {w with drawn:=w.drawn+1}:=by obtain⟨X,hh,r⟩:=h;exact⟨X,hh,r.grow (w':={w with drawn:=w.drawn+1}) ⟨rfl,rfl,rfl,Nat.le_refl _,fun _ _ _=>rfl⟩ (fun _ hb=>hb) (fun _ hb=>.inl hb)⟩
theorem tv{bar:Oper->Bool}{Q:St->Prop}:∀{n k:Nat}{σ:St},k+n=ops.size->wJ P ops bar (ops.toList.drop k) σ Q->tb P ops bar (List.range' k n) σ Q
 |0,k,σ,hk,h=>by rw[List.drop_eq_nil_of_le zAk]at h;exact h
 |n+1,k,σ,hk,h=>by have hD:k<ops.toList.length:=zAk;rw[List.drop_eq_getElem_cons hD]at h;obtain⟨σ',hs,hr⟩:=h;rw[List.range'_succ];exact⟨ops.toList[k],σ',by rw[<-Array.getElem?_toList];exact List.getElem?_eq_getElem hD,hs,tv zAC hr⟩
theorem Hq(eo:∀(i:Nat)(o:Oper)(σ σ':St),ops[i]?=some o->zH P ops bar o σ σ'->C2 PT NB σ->C2 PT NB σ')(eu:C2 PT NB σ)(hm:P.follows .mixedOrders=true)(hdr:vv P ops (fun i=>i) bar PT NB (LM ops.toList [])=true)(gM:xS ops (fun i=>i) σ=true)(h:wJ P ops bar ops.toList σ (Q .normal)):AWP P (.region id ops true) Q σ:=by
 intro T0 B a w fj;refine wp_region_any hm ?_;have g5:=List.all_eq_true.1 hdr
 refine AA (T0:=T0) (B:=B) (w0:=w) eo hdr (Qa:=Q .normal) (fun σ' a' w' hq hr hb=>⟨σ',hq,hr,hb⟩) ops.size (List.range' 0 ops.size) _ σ a _ zAE zAE ?_ (fun i=>?_) (fun i hi=>by simp[List.mem_range']at hi;omega) (fun m om aB hm=>absurd (by simp only[List.mem_range'_1];have:=(Array.getElem?_eq_some_iff.1 aB).1;omega) hm) ?_ eu (tv zAC zCF) (AX fj) ⟨rfl,rfl,rfl,Nat.le_refl _,fun _ _=>rfl⟩
 ·exact List.pairwise_lt_range'
 ·rw[Array.getD_eq_getD_getElem?,Array.getElem?_replicate];simp only[List.mem_range'_1];constructor
  ·intro hh;rw[if_pos zAC];rfl
  ·intro hh;split at hh
   ·omega
   ·cases hh
 ·intro j hj hl;simp only[List.mem_range'_1]at hj;have hb:=g5 j (List.mem_range.2 zAC)
  simp only[Bool.and_eq_true,Bool.or_eq_true,Bool.not_eq_true']at hb;refine⟨hb.2.resolve_left (by unfold Nz at hl;rw[hl];simp),?_⟩;have hc:=List.all_eq_true.1 gM j (List.mem_range.2 zAC)
  unfold Nz at hl;simp only[hl,Bool.not_true,Bool.false_or]at hc;have hD:j<ops.size:=zAC
  rw[Array.getElem?_eq_getElem hD]at hc;simp only[Option.bind_some]at hc;cases hd:ops[j].dst with
  |none=>rw[hd]at hc;cases hc
  |some d=>rw[hd]at hc;exact⟨_,d,Array.getElem?_eq_getElem hD,hd,hc⟩
theorem vI(hm:P.follows .mixedOrders=true)(hdr:Ih P ops (fun i=>i) bar=true)(gM:xS ops (fun i=>i) σ=true)(h:wJ P ops bar ops.toList σ (Q .normal)):AWP P (.region id ops true) Q σ:=
 Hq (PT:=[]) (NB:=[]) (fun _ _ _ _ _ _ _=>Ek) Ek hm hdr gM h
theorem pX(PT:List (Nat×Nat))(hm:P.follows .mixedOrders=true)(hdr:vv P ⟨l⟩ (fun i=>i) (fun _=>false) PT [] (LM l [])=true)(gM:xS ⟨l⟩ (fun i=>i) σ=true)(hpc:HA ⟨l⟩ PT=true)(hp:ptB PT σ=true)(h:@EI P σ ⟨⟨l⟩,fun _=>false⟩ ⟨l⟩ k):@DI P id σ ⟨⟨l⟩,br⟩ k:=
 Hq (bar:=fun _=>false) (PT:=PT) (NB:=[]) (fun _ _ _ _ hi hs hq=>⟨sN hpc hi (hs.resolve_right (fun hh=>by cases hh.1)) hq.1,fun p hp=>by cases hp⟩) ⟨ru hp,fun p hp=>by cases hp⟩ hm hdr gM (Qu h)
theorem rT(hm:P.follows .mixedOrders=true)(hdr:Ih P ⟨l⟩ (fun i=>i) (fun _=>false)=true)(gM:xS ⟨l⟩ (fun i=>i) σ=true)(h:@EI P σ ⟨⟨l⟩,fun _=>false⟩ ⟨l⟩ k):@DI P id σ ⟨⟨l⟩,br⟩ k:=
 vI hm hdr gM (Qu h)
def Ie(bs:List Nat)(o:Oper):Bool:=match o.dst with|some d=>bs.contains d|none=>!bs.contains 3000001
theorem nT(hpc:HA ops PT=true)(hba:(ops.toList.all fun o=>!bar o||SC o||VF o||(KF P o&&La bar o))=true)(hi:ops[i]?=some o)(hs:zH P ops bar o σ σ')(h:Mv PT σ):Mv PT σ':=by
 rcases hs with hs|⟨hb,_,_,hk1,aD,hk3⟩
 ·exact sN hpc hi hs h
 ·have fF:o∈ops.toList:=by rw[Array.mem_toList_iff];exact Array.mem_of_getElem? hi
  have h1:=List.all_eq_true.1 hba o fF;simp only[hb,Bool.not_true,Bool.false_or,Bool.or_eq_true,Bool.and_eq_true]at h1;rcases h1 with(h1|h1)|⟨h1,h1o⟩
  ·rcases hk1 h1 with⟨⟨_,hg⟩,_⟩|⟨_,hg⟩
   ·intro p hp;rw[hg];exact h p hp
   ·intro p hp;rcases hg p.1 with e|e
    ·rw[e];exact h p hp
    ·exact .inl e
  ·obtain⟨d,hd,_,hg,_⟩:=aD h1;intro p hp;have ij:p.1≠d:=by
    intro e;have hc:=List.all_eq_true.1 hpc o fF
    rw[hd]at hc;have hc:=List.all_eq_true.1 hc p hp
    simp only[e,bne_self_eq_false,Bool.false_or,Bool.and_eq_true]at hc;have hc:=hc.2
    unfold VF at h1;cases ig:o.op<;>rw[ig]at h1 hc<;>first|(exact Bool.noConfusion h1)|(exact Bool.noConfusion hc)
   rw[(hg p.1 ij).1];exact h p hp
  ·obtain⟨d,t,cells,cs,v,os,hd,_,_,_,_,_,rfl,_⟩:=hk3 h1 h1o;intro p hp;have ij:p.1≠d:=by
    intro e;have hc:=List.all_eq_true.1 hpc o fF
    rw[hd]at hc;have hc:=List.all_eq_true.1 hc p hp
    simp only[e,bne_self_eq_false,Bool.false_or,Bool.and_eq_true]at hc;have hc:=hc.2
    unfold KF at h1;cases ig:o.op<;>rw[ig]at h1 hc<;>first|(exact Bool.noConfusion h1)|(exact Bool.noConfusion hc)
   rw[wN ij];exact h p hp
theorem nz(eW:D5 P ops NB=true)(hba:(ops.toList.all fun o=>!bar o||SC o||VF o||(KF P o&&La bar o))=true)(hi:ops[i]?=some o)(hs:zH P ops bar o σ σ')(h:DG NB σ):DG NB σ':=by
 rcases hs with hs|⟨hb,_,_,hk1,aD,hk3⟩
 ·exact oE eW hi hs h
 ·have fF:o∈ops.toList:=by rw[Array.mem_toList_iff];exact Array.mem_of_getElem? hi
  have h1:=List.all_eq_true.1 hba o fF;simp only[hb,Bool.not_true,Bool.false_or,Bool.or_eq_true,Bool.and_eq_true]at h1;rcases h1 with(h1|h1)|⟨h1,h1o⟩
  ·rcases hk1 h1 with⟨⟨_,hg⟩,_⟩|⟨_,hg⟩
   ·intro p hp;rw[hg];exact h p hp
   ·intro p hp;rcases hg p with e|e
    ·rw[e];exact h p hp
    ·rw[e];intro b c hh;cases hh
  ·obtain⟨d,hd,_,hg,_⟩:=aD h1;intro p hp;have ij:p≠d:=by
    intro e;have hc:=List.all_eq_true.1 eW o fF
    rw[hd]at hc;have hc:=List.all_eq_true.1 hc p hp
    simp only[e,bne_self_eq_false,Bool.false_or,Bool.and_eq_true]at hc;have hc:=hc.2
    unfold VF at h1;cases ig:o.op<;>rw[ig]at h1 hc<;>first|(exact Bool.noConfusion h1)|(exact Bool.noConfusion hc)
   rw[(hg p ij).1];exact h p hp
  ·obtain⟨d,t,cells,cs,v,os,hd,_,_,_,_,_,rfl,_⟩:=hk3 h1 h1o;intro p hp;have ij:p≠d:=by
    intro e;have hc:=List.all_eq_true.1 eW o fF
    rw[hd]at hc;have hc:=List.all_eq_true.1 hc p hp
    simp only[e,bne_self_eq_false,Bool.false_or,Bool.and_eq_true]at hc;have hc:=hc.2
    unfold KF at h1;cases ig:o.op<;>rw[ig]at h1 hc<;>first|(exact Bool.noConfusion h1)|(exact Bool.noConfusion hc)
   rw[wN ij];exact h p hp
theorem sL(PT:List (Nat×Nat))(NB bs:List Nat)(hm:P.follows .mixedOrders=true)(hdr:vv P ⟨l⟩ (fun i=>i) (Ie bs) PT NB (LM l [])=true)(gM:xS ⟨l⟩ (fun i=>i) σ=true)(hpc:HA ⟨l⟩ PT=true)(hp:ptB PT σ=true)(eW:D5 P ⟨l⟩ NB=true)(hnb:nbB NB σ=true)(hba:(l.all fun o=>!Ie bs o||SC o||VF o||(KF P o&&La (Ie bs) o))=true)(h:@EI P σ ⟨⟨l⟩,Ie bs⟩ ⟨l⟩ k):@DI P id σ ⟨⟨l⟩,br⟩ k:=
 Hq (bar:=Ie bs) (PT:=PT) (NB:=NB) (fun _ _ _ _ hi hs hq=>⟨nT hpc hba hi hs hq.1,nz eW hba hi hs hq.2⟩) ⟨ru hp,nq hnb⟩ hm hdr gM (Qu h)
theorem mH(bs:List Nat)(hm:P.follows .mixedOrders=true)(hdr:Vm.Ih P ⟨l⟩ (fun i=>i) (Ie bs)=true)(gM:xS ⟨l⟩ (fun i=>i) σ=true)(h:@EI P σ ⟨⟨l⟩,Ie bs⟩ ⟨l⟩ k):@DI P id σ ⟨⟨l⟩,br⟩ k:=
 vI hm hdr gM (Qu h)
def pwB(pos:Nat->Nat):List Nat->Bool
 |[]=>true
 |i::r=>r.all (fun j=>decide (pos i<pos j))&&pwB pos r
theorem pR{pos:Nat->Nat}:∀{l:List Nat},pwB pos l=true->l.Pairwise (fun i j=>pos i<pos j)
 |[],_=>.nil
 |i::r,h=>by simp only[pwB,Bool.and_eq_true,List.all_eq_true,decide_eq_true_eq]at h;exact .cons h.1 (pR h.2)
def posOf:List Nat->Nat->Nat
 |[],_=>0
 |i::r,k=>if i==k then 0 else posOf r k+1
def o0(n:Nat)(ord:List Nat):Bool:=ord.length==n&&pwB (posOf ord) ord&&ord.all (fun i=>decide (i<n))&&(List.range n).all (fun i=>ord.contains i)
@[reducible] def n9:List Oper->Nat->Oper->Oper
 |[],_,d=>d
 |o::_,0,_=>o
 |_::l,i+1,d=>n9 l i d
@[reducible] def pQ(l:List Oper)(d:Oper):List Nat->List Oper
 |[]=>[]
 |i::r=>n9 l i d::pQ l d r
theorem uR{d:Oper}:∀{l:List Oper}{i:Nat},i<l.length->l[i]?=some (n9 l i d)
 |[],i,h=>by simp at h
 |o::l,0,_=>rfl
 |o::l,i+1,h=>by simpa using uR (l:=l) (i:=i) zCF
theorem AD{bar:Oper->Bool}{Q:St->Prop}{l:List Oper}{d:Oper}:∀{ord:List Nat}{σ:St},(∀i∈ord,i<l.length)->wJ P l.toArray bar (pQ l d ord) σ Q->tb P l.toArray bar ord σ Q
 |[],σ,_,h=>h
 |i::r,σ,hi,h=>by obtain⟨σ',hs,hr⟩:=h;exact⟨_,σ',by rw[List.getElem?_toArray];exact uR (hi i zAE),hs,AD (fun j hj=>hi j (by simp[hj])) hr⟩
theorem s5(hm:P.follows .mixedOrders=true)(ho:o0 ops.size ord=true)(hdr:Ih P ops (posOf ord) bar=true)(gM:xS ops (posOf ord) σ=true)(h:tb P ops bar ord σ (Q .normal)):AWP P (.region id ops true) Q σ:=by
 intro T0 B a w fj;refine wp_region_any hm ?_;have g5:=List.all_eq_true.1 hdr
 simp only[o0,Bool.and_eq_true,beq_iff_eq,List.all_eq_true,decide_eq_true_eq,List.mem_range,List.contains_iff_mem]at ho;obtain⟨⟨⟨o1,o2⟩,o3⟩,o4⟩:=ho;refine AA (T0:=T0) (B:=B) (w0:=w) (PT:=[]) (NB:=[]) (fun _ _ _ _ _ _ _=>Ek) hdr (Qa:=Q .normal) (fun σ' a' w' hq hr hb=>⟨σ',hq,hr,hb⟩) ops.size ord _ σ a _ o1 zAE (pR o2) (fun i=>?_) o3 (fun m om aB hm=>absurd (o4 m (Array.getElem?_eq_some_iff.1 aB).1) hm) ?_ Ek h (AX fj) ⟨rfl,rfl,rfl,Nat.le_refl _,fun _ _=>rfl⟩
 ·rw[Array.getD_eq_getD_getElem?,Array.getElem?_replicate];constructor
  ·intro hh;rw[if_pos (o3 i hh)];rfl
  ·intro hh;split at hh
   ·rename_i hD;exact o4 i hD
   ·cases hh
 ·intro j hj hl;have hjs:=o3 j hj
  have hb:=g5 j (List.mem_range.2 hjs);simp only[Bool.and_eq_true,Bool.or_eq_true,Bool.not_eq_true']at hb;refine⟨hb.2.resolve_left (by unfold Nz at hl;rw[hl];simp),?_⟩;have hc:=List.all_eq_true.1 gM j (List.mem_range.2 hjs);unfold Nz at hl;simp only[hl,Bool.not_true,Bool.false_or]at hc;rw[Array.getElem?_eq_getElem hjs]at hc;simp only[Option.bind_some]at hc;cases hd:ops[j].dst with
  |none=>rw[hd]at hc;cases hc
  |some d=>rw[hd]at hc;exact⟨_,d,Array.getElem?_eq_getElem hjs,hd,hc⟩
theorem DB(ord:List Nat)(hm:P.follows .mixedOrders=true)(ho:o0 (o::l).length ord=true)(hdr:Ih P ⟨o::l⟩ (posOf ord) (fun _=>false)=true)(gM:xS ⟨o::l⟩ (posOf ord) σ=true)
  (h:@EI P σ ⟨⟨o::l⟩,fun _=>false⟩ ⟨pQ (o::l) o ord⟩ k):@DI P id σ ⟨⟨o::l⟩,br⟩ k:=by
 have h2:∀i∈ord,i<(o::l).length:=by simp only[o0,Bool.and_eq_true,List.all_eq_true,decide_eq_true_eq]at ho;exact ho.1.2
 exact s5 hm ho hdr gM (AD h2 (Qu h))
end Go.Vm
