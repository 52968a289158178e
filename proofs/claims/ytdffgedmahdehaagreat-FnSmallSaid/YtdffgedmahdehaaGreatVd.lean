/- An abstract machine Uw the model of Go, by value, and that it is sound: part Vd. No condition. -/
import Derived.Test.YtdffgedmahdehaaGreatVc
import Derived.Orders
set_option linter.unusedVariables false
set_option linter.unusedSimpArgs false
namespace Go.Vm
open Go.RowKit
variable{σ σ1 σ' σ2 A:St}{P:Program}{d u id t i j size b dx dy:Nat}{v:V}{o y oi:Oper}{x z:Operand}{l:List Oper}{op:BinOp}{k:Fr}{c:Call}{q:Bool}{f:FuncId}{n:Int}{a:Act}
structure Sub(P:Program)(xs:List Operand)(σ1 σ:St):Prop where
 len:σ1.length=σ.length
 look:∀x∈xs,∀ty,look P σ1 ty x=look P σ ty x
 ob:∀x∈xs,∀ty u,(Vm.look P σ1 ty x).ref u=true->∀j,σ1.ob u j≠ .none->σ.ob u j=σ1.ob u j
theorem YS{x:At}(h:unc v= .one x)(hx:x.ref u=true):v.ref u=true:=by
 cases v with
 |cnd g y=>simp only[unc]at h;subst h;simp only[V.ref,V.Wr,Bool.or_eq_true];exact .inl hx
 |one y=>simp only[unc]at h;cases h;exact hx
 |any=>simp[unc]at h
 |agg xs=>simp[unc]at h
 |tup xs=>simp[unc]at h
 |fix g y=>simp only[unc]at h;subst h;simp only[V.ref,V.Wr,Bool.or_eq_true];exact .inl hx
theorem kx{xs:List At}(h:unc v= .agg xs)(hx:Zd u xs=true):v.ref u=true:=by
 cases v with
 |cnd g y=>simp only[unc]at h;subst h;simp only[V.ref,V.Wr,Bool.or_eq_true];exact .inl hx
 |agg y=>simp only[unc]at h;cases h;exact hx
 |any=>simp[unc]at h
 |one xs=>simp[unc]at h
 |tup xs=>simp[unc]at h
 |fix g y=>simp only[unc]at h;subst h;simp only[V.ref,V.Wr,Bool.or_eq_true];exact .inl hx
theorem yF(hx:Zd u (unc v).cells=true):v.ref u=true:=by
 cases h:unc v with
 |one x=>rw[h]at hx;simp[V.cells,Zd]at hx;exact YS h hx
 |agg xs=>rw[h]at hx;exact kx h hx
 |any=>rw[h]at hx;simp[V.cells,Zd]at hx
 |tup xs=>rw[h]at hx;simp[V.cells,Zd]at hx
 |cnd g x=>rw[h]at hx;simp[V.cells,Zd]at hx
 |fix u x=>rw[h]at hx;simp[V.cells,Zd]at hx
theorem Sub.same{xs:List Operand}{ty:TypeId}{a:At}{o:Ob}(h:Sub P xs σ1 σ)(hx:x∈xs)(hv:unc (Vm.look P σ ty x)= .one a)(ha:a.ref u=true)(ho:σ1.ob u j=o)(hn:o≠ .none):σ.ob u j=o:=by rw[<-ho];refine h.ob x hx ty u ?_ j (by rw[ho];exact hn);rw[h.look x hx ty];exact YS hv ha
theorem Jd{xs:List Operand}{k:IntKind}(h:Sub P xs σ1 σ)(hx:x∈xs)(hl:yo P σ1 x k n):yo P σ x k n:=by unfold yo at*;rw[<-h.look x hx];exact hl
theorem Sw{xs:List Operand}{df n:Nat}{x:Option Operand}(h:Sub P xs σ1 σ)(hx:∀y,x=some y->y∈xs)(hl:bnd P σ1 df x n):bnd P σ df x n:=by
 cases x with
 |none=>exact hl
 |some x=>simp only[bnd]at*;rw[<-h.look x (hx x rfl)];exact hl
theorem WG{T:TypeId}:∀{ps:List (Nat×Operand)}{z out:List At},Sub P (ps.map (·.2)) σ1 σ->xX P σ1 T ps z out->xX P σ T ps z out
 |[],_,_,_,h=>h
 |(i,x)::ps,z,out,hs,h=>by have e:=hs.look x fM;simp only[xX]at h⊢;rw[<-e];refine⟨h.1,h.2.1,h.2.2.1,h.2.2.2.1,h.2.2.2.2.1,WG ⟨hs.len,fun y hy=>hs.look y eA,fun y hy=>hs.ob y eA⟩ h.2.2.2.2.2⟩
theorem zh{op:Op}{ty:TypeId}(hs:Zj P σ1 op ty v)(h:Sub P op.operands.toList σ1 σ):Zj P σ op ty v:=by
 cases op<;>simp only[Zj]at hs⊢;case move x=>rw[<-h.look x fV];exact hs
 case assign x=>rw[<-h.look x fV];exact hs
 case pick c a b=>rw[<-h.look c fV,<-h.look a fV,<-h.look b fV];exact hs
 case load T x=>
  rw[h.look x fV]at hs;refine⟨hs.1,hs.2.1,?_⟩;have wJ:=hs.2.2
  split at wJ
  ·rename_i t c hx;obtain⟨cells,ho,hr⟩:=wJ;exact⟨cells,h.same fV hx fb ho fM,hr⟩
  ·rename_i t j i c hx;obtain⟨q,size,rows,ho,hr⟩:=wJ;exact⟨q,size,rows,h.same fV hx fb ho fM,hr⟩
  ·exact wJ
  ·rename_i t j i c k hx;obtain⟨size,rows,s,ho,hr⟩:=wJ;exact⟨size,rows,s,h.same fV hx fb ho fM,hr⟩
  ·exact wJ.elim
 case nilCheck x=>
  rw[h.look x fV]at hs;refine⟨hs.1,?_⟩;have wJ:=hs.2
  split at wJ
  ·rename_i t c hx;obtain⟨⟨cells,ho⟩,hr⟩:=wJ;exact⟨⟨cells,h.same fV hx fb ho fM⟩,hr⟩
  ·exact wJ.elim
 case fieldAddr T x f=>
  rw[h.look x fV]at hs;refine⟨hs.1,hs.2.1,?_⟩;have wJ:=hs.2.2
  split at wJ
  ·rename_i t c hx;obtain⟨⟨cells,ho⟩,hr⟩:=wJ;exact⟨⟨cells,h.same fV hx fb ho fM⟩,hr⟩
  ·rename_i t j i c hx;obtain⟨⟨q,size,rows,ho⟩,hr⟩:=wJ;exact⟨⟨q,size,rows,h.same fV hx fb ho fM⟩,hr⟩
  ·exact wJ
  ·rename_i t j i c k hx;obtain⟨⟨size,rows,ho⟩,hr⟩:=wJ;exact⟨⟨size,rows,h.same fV hx fb ho fM⟩,hr⟩
  ·exact wJ.elim
 case indexAddr T x ix=>
  obtain⟨k,i,hk,h0,hg,wJ⟩:=hs;rw[h.look x fV]at hg wJ;refine⟨k,i,Jd h fV hk,h0,hg,?_⟩;split at wJ
  ·exact wJ
  ·rename_i t j lo len hx;obtain⟨h1,h2,⟨q,rows,ho⟩,hr⟩:=wJ;exact⟨h1,h2,⟨q,rows,h.same fV hx fb ho fM⟩,hr⟩
  ·rename_i t c hx;obtain⟨⟨cells,ho⟩,hr⟩:=wJ;exact⟨⟨cells,h.same fV hx fb ho fM⟩,hr⟩
  ·rename_i t j m c hx;obtain⟨h1,h2,⟨size,rows,s,ho,hr⟩,hv⟩:=wJ;exact⟨h1,h2,⟨size,rows,s,h.same fV hx fb ho fM,hr⟩,hv⟩
  ·exact wJ.elim
 case index T x ix=>obtain⟨k,i,hk,h0,hg,wJ⟩:=hs;rw[h.look x fV]at hg wJ;exact⟨k,i,Jd h fV hk,h0,hg,wJ⟩
 case slice T x lo hi mx=>
  cases mx with
  |some m=>exact hs.elim
  |none=>
   simp only at hs⊢;rw[h.look x fV]at hs;refine⟨hs.1,?_⟩;have wJ:=hs.2
   have b1:∀df n,bnd P σ1 df lo n->bnd P σ df lo n:=fun df n=>Sw h (fun y hy=>by subst hy;simp[Op.operands]);have b2:∀df n,bnd P σ1 df hi n->bnd P σ df hi n:=fun df n=>Sw h (fun y hy=>by subst hy;simp[Op.operands]);split at wJ
   ·obtain⟨h1,l,hh,h2,h3,hr⟩:=wJ;exact⟨h1,l,hh,b1 _ _ h2,b2 _ _ h3,hr⟩
   ·obtain⟨h1,iQ,l,hh,h2,h3,hr⟩:=wJ;exact⟨h1,iQ,l,hh,b1 _ _ h2,b2 _ _ h3,hr⟩
   ·rename_i t j o len hx;obtain⟨h1,⟨q,rows,ho⟩,l,hh,h2,h3,hr⟩:=wJ;exact⟨h1,⟨q,rows,h.same fV hx fb ho fM⟩,l,hh,b1 _ _ h2,b2 _ _ h3,hr⟩
   ·exact wJ.elim
 case binOp op T x y yt=>rw[<-h.look x fV,<-h.look y fV];exact hs
 case unOp op T x=>rw[<-h.look x fV];exact hs
 case convert S T x=>rw[<-h.look x fV];exact hs
 case extract x i=>rw[<-h.look x fV];exact hs
 case field T x f=>rw[<-h.look x fV];exact hs
 case build T parts=>obtain⟨h1,h2,z,out,h3,h4,h5⟩:=hs;refine⟨h1,h2,z,out,h3,WG ?_ h4,h5⟩;simpa[Op.operands]using h
 case call c=>
  obtain⟨nn,args,mG⟩:=c;have hm:∀x∈args.toList,x∈(Op.operands (.call ⟨nn,args,mG⟩)).toList:=by intro x hx;simp only[Op.operands,Call.operands];cases nn<;>simp at hx⊢<;>simp[hx]
  split at hs
  ·rename_i x t hc ha ht;rw[h.look x (hm x eJ)]at hs;try simp only[hc,ha,ht]
   refine⟨hs.1,?_⟩;have wJ:=hs.2
   split at wJ
   ·exact wJ
   ·exact wJ
   ·exact wJ
   ·rename_i u j lo len hx;obtain⟨h1,⟨q,size,rows,ho⟩|⟨size,rows,ho⟩,hr⟩:=wJ
    ·exact⟨h1,.inl ⟨q,size,rows,h.same (hm x eJ) hx fb ho fM⟩,hr⟩
    ·exact⟨h1,.inr ⟨size,rows,h.same (hm x eJ) hx fb ho fM⟩,hr⟩
   ·rename_i u j i c hx;obtain⟨h1,size,rows,n,s,ho,hr⟩:=wJ;exact⟨h1,size,rows,n,s,h.same (hm x eJ) hx fb ho fM,hr⟩
   ·exact wJ.elim
  ·rename_i x y hc ha;try simp only[hc,ha]
   obtain⟨k,m,n,h1,h2,h3⟩:=hs;exact⟨k,m,n,Jd h (hm x eJ) h1,Jd h (hm y eJ) h2,h3⟩
  ·rename_i x y hc ha;try simp only[hc,ha]
   obtain⟨k,m,n,h1,h2,h3⟩:=hs;exact⟨k,m,n,Jd h (hm x eJ) h1,Jd h (hm y eJ) h2,h3⟩
  ·exact hs.elim
open Go.RowKit
variable{ys:List Operand}{news res r:List (List D)}
def WN(P:Program)(xs:List Operand)(σ:St)(u:Nat):Prop:=
 ∃x∈xs,∃ty,(look P σ ty x).ref u=true\/∃t cells,(look P σ ty x).ref t=true/\σ.ob t 0= .box cells/\Zd u cells=true
theorem QW{u:Nat}:∀{xs:List At},Zd u xs=true↔∃x∈xs,x.ref u=true
 |[]=>by simp[Zd]
 |x::xs=>by simp[Zd,QW]
theorem NH{xs ys:List At}(h:∀x∈xs,x∈ys)(hx:Zd u xs=true):Zd u ys=true:=by obtain⟨x,h1,h2⟩:=QW.1 hx;exact QW.2 ⟨x,h x h1,h2⟩
theorem kh{a:Nat}{xs:List At}(hx:Zd u (cut xs a b)=true):Zd u xs=true:=
 NH (fun _ h=>List.mem_of_mem_drop (List.mem_of_mem_take h)) hx
theorem yp(xs:List D):Zd u (xs.map .d)=false:=by
 induction xs with
 |nil=>rfl
 |cons x xs ih=>simp[Zd,At.ref,ih]
theorem jt{T:TypeId}{xs:List At}(h:(ldV P T xs).ref u=true):Zd u xs=true:=by
 unfold ldV at h;split at h
 ·exact h
 ·split at h
  ·simpa[V.ref,Zd]using h
  ·simp[V.ref]at h
theorem Ms{o:Nat}{r xs:List At}(h:Zd u (place r o xs)=true):Zd u r=true\/Zd u xs=true:=by
 obtain⟨x,h1,h2⟩:=QW.1 h;simp only[place,List.mem_append]at h1;rcases h1 with(h1|h1)|h1
 ·exact .inl (QW.2 ⟨x,List.mem_of_mem_take h1,h2⟩)
 ·exact .inr (QW.2 ⟨x,h1,h2⟩)
 ·exact .inl (QW.2 ⟨x,List.mem_of_mem_drop h1,h2⟩)
theorem IQ(h:(unc v).ref u=true)(hc:∀g x,unc v≠ .cnd g x)(hf:∀g x,unc v≠ .fix g x):v.ref u=true:=by
 cases v with
 |cnd g x=>
  simp only[unc]at h hc hf;simp only[V.ref,Bool.or_eq_true];cases x with
  |tup xs=>exact .inr h
  |cnd g y=>exact absurd rfl (hc g y)
  |fix g y=>exact absurd rfl (hf g y)
  |one x=>exact .inl h
  |agg x=>exact .inl h
  |any=>exact .inl h
 |fix g x=>
  simp only[unc]at h hc hf;simp only[V.ref,Bool.or_eq_true];cases x with
  |tup xs=>exact .inr h
  |cnd g y=>exact absurd rfl (hc g y)
  |fix g y=>exact absurd rfl (hf g y)
  |one x=>exact .inl h
  |agg x=>exact .inl h
  |any=>exact .inl h
 |_=>exact h
theorem U7{u t j i:Nat}:∀{c:Nat}{xs:List D},Zd u (zq t j i c xs)=true->u=t
 |_,[],h=>by simp[zq,Zd]at h
 |c,x::xs,h=>by
  simp only[zq,Zd,Bool.or_eq_true]at h;rcases h with h|h
  ·cases x<;>simp[At.ref]at h;exact h.symm
  ·exact U7 h
theorem Ng{c:Nat}{xs:List D}(h:Zd u (qM q t j i c xs)=true):u=t:=by
 cases q with
 |true=>exact U7 h
 |false=>simp only[qM]at h;rw[yp]at h;cases h
theorem OJ{k:IntKind}{x y:Int}(h:TL op k x y v)(u:Nat):v.ref u=false:=by cases op<;>simp only[TL]at h<;>first|(subst h;rfl)|(obtain⟨_,rfl⟩:=h;rfl)|exact h.elim
theorem OE{x y:ByteArray}(h:TJ op x y v)(u:Nat):v.ref u=false:=by cases op<;>simp only[TJ]at h<;>first|(subst h;rfl)|(obtain⟨_,rfl⟩:=h;rfl)|exact h.elim
theorem RR{x y:Bool}(h:Wf op x y v)(u:Nat):v.ref u=false:=by cases op<;>simp only[Wf]at h<;>first|(subst h;rfl)|(obtain⟨_,rfl⟩:=h;rfl)|exact h.elim
theorem Ni{T:TypeId}{x y:V}(h:OO P op T x y v)(u:Nat):v.ref u=false:=by
 unfold OO at h;split at h
 ·exact OJ h.2 u
 ·exact OE h u
 ·exact RR h.2 u
 ·obtain⟨_,q,_,⟨_,rfl⟩|⟨_,rfl⟩⟩:=h<;>rfl
 ·exact h.elim
theorem Sj{u:Nat}:∀{xs:List V}{i:Nat}{v:V},xs[i]?=some v->v.Wr u=true->xl u xs=true
 |[],_,_,h,_=>by simp at h
 |x::xs,0,v,h,hr=>by simp at h;subst h;simp[xl,hr]
 |x::xs,i+1,v,h,hr=>by simp only[xl,Bool.or_eq_true];exact .inr (Sj eS hr)
theorem Sp(hf:v.flat=true)(u:Nat):v.ref u=v.Wr u:=by cases v<;>first|rfl|(simp[V.flat]at hf)
theorem Tr{P:Program}{σ:St}{T:TypeId}{u:Nat}:∀{ps:List (Nat×Operand)}{z out:List At},xX P σ T ps z out->Zd u out=true->
  Zd u z=true\/∃x∈ps.map (·.2),∃ty,(look P σ ty x).ref u=true
 |[],z,out,h,hr=>by simp only[xX]at h;subst h;exact .inl hr
 |(i,x)::ps,z,out,h,hr=>by
  simp only[xX]at h;rcases Tr h.2.2.2.2.2 hr with h1|⟨y,hy,ty,h1⟩
  ·rcases Ms h1 with h1|h1
   ·exact .inl h1
   ·exact .inr ⟨x,fM,_,yF h1⟩
  ·exact .inr ⟨y,by simp at hy⊢;exact .inr hy,ty,h1⟩
theorem VX{op:Op}{ty:TypeId}(hs:Zj P σ op ty v)(hr:v.ref u=true):WN P op.operands.toList σ u:=by
 have gu:∀{x:D},v= .one (.d x)->False:=by intro x e;rw[e]at hr;cases hr
 cases op<;>simp only[Zj]at hs;case move x=>subst hs;exact⟨x,by simp[Op.operands],ty,.inl hr⟩
 case assign x=>subst hs;exact⟨x,by simp[Op.operands],ty,.inl hr⟩
 case pick c a b=>obtain⟨bc,p,q,_,_,_,_,_,_,rfl⟩:=hs;cases hr
 case load T x=>
  have wJ:=hs.2.2;split at wJ
  ·rename_i t c hx;obtain⟨cells,ho,_,rfl⟩:=wJ;exact⟨x,by simp[Op.operands],0,.inr ⟨t,cells,YS hx fb,ho,kh (jt hr)⟩⟩
  ·rename_i t j i c hx;obtain⟨q,size,rows,_,_,_,rfl⟩:=wJ;have:=Ng (jt hr)
   exact⟨x,by simp[Op.operands],0,.inl (YS hx (by simp[At.ref,this]))⟩
  ·obtain⟨_,rfl⟩:=wJ;have:=jt hr;rw[yp]at this;cases this
  ·obtain⟨_,_,_,_,_,_,_,_,_,rfl⟩:=wJ;have:=jt hr;rw[yp]at this;cases this
  ·exact wJ.elim
 case nilCheck x=>
  have wJ:=hs.2;split at wJ
  ·rename_i t c hx;obtain⟨_,rfl⟩:=wJ;exact⟨x,by simp[Op.operands],0,.inl (YS hx hr)⟩
  ·exact wJ.elim
 case fieldAddr T x f=>
  have wJ:=hs.2.2;split at wJ
  ·rename_i t c hx;obtain⟨_,rfl⟩:=wJ;exact⟨x,by simp[Op.operands],0,.inl (YS hx hr)⟩
  ·rename_i t j i c hx;obtain⟨_,rfl⟩:=wJ;exact⟨x,by simp[Op.operands],0,.inl (YS hx hr)⟩
  ·subst wJ;cases hr
  ·rename_i t j i c k hx;obtain⟨_,rfl⟩:=wJ;exact⟨x,by simp[Op.operands],0,.inl (YS hx hr)⟩
  ·exact wJ.elim
 case indexAddr T x ix=>
  obtain⟨k,i,_,_,_,wJ⟩:=hs;split at wJ
  ·obtain⟨_,_,_,_,rfl⟩:=wJ;cases hr
  ·rename_i t j lo len hx;obtain⟨_,_,_,_,rfl⟩:=wJ;exact⟨x,by simp[Op.operands],0,.inl (YS hx hr)⟩
  ·rename_i t c hx;obtain⟨_,_,rfl⟩:=wJ;exact⟨x,by simp[Op.operands],0,.inl (YS hx hr)⟩
  ·rename_i t j m c hx;obtain⟨_,_,_,rfl⟩:=wJ;exact⟨x,by simp[Op.operands],0,.inl (YS hx hr)⟩
  ·exact wJ.elim
 case index T x ix=>
  obtain⟨k,i,_,_,_,wJ⟩:=hs;split at wJ
  ·obtain⟨_,_,rfl⟩:=wJ;cases hr
  ·rename_i xs hx;obtain⟨_,_,_,rfl⟩:=wJ;exact⟨x,by simp[Op.operands],0,.inl (kx hx (kh (jt hr)))⟩
  ·exact wJ.elim
 case slice T x lo hi mx=>
  cases mx with
  |some m=>exact hs.elim
  |none=>
   simp only at hs;have wJ:=hs.2
   split at wJ
   ·obtain⟨_,_,_,_,_,_,_,rfl⟩:=wJ;cases hr
   ·obtain⟨_,_,_,_,_,_,_,_,rfl⟩:=wJ;cases hr
   ·rename_i t j o len hx;obtain⟨_,_,_,_,_,_,_,_,rfl⟩:=wJ;exact⟨x,by simp[Op.operands],0,.inl (YS hx hr)⟩
   ·exact wJ.elim
 case binOp op T x y yt=>rw[Ni hs.2.2 u]at hr;cases hr
 case unOp op T x=>
  have wJ:=hs.2;split at wJ
  ·subst wJ;cases hr
  ·subst wJ;cases hr
  ·exact wJ.elim
 case convert S T x=>
  have wJ:=hs.2.2;split at wJ
  ·obtain⟨_,_,rfl⟩:=wJ;cases hr
  ·exact wJ.elim
 case extract x i=>
  have wJ:=hs.2;split at wJ
  ·rename_i xs hx;refine⟨x,by simp[Op.operands],0,.inl (IQ ?_ (by rw[hx];simp) (by rw[hx];simp))⟩;rw[hx];rw[Sp wJ.2]at hr;exact Sj wJ.1 hr
  ·exact wJ.elim
 case field T x f=>
  have wJ:=hs.2.2.2;split at wJ
  ·rename_i xs hx;obtain⟨_,rfl⟩:=wJ;exact⟨x,by simp[Op.operands],0,.inl (kx hx (kh (jt hr)))⟩
  ·exact wJ.elim
 case build T parts=>
  obtain⟨_,_,z,out,h3,h4,rfl⟩:=hs;rcases Tr h4 hr with h1|⟨x,hx,lg,h1⟩
  ·rw[kq u _ _ _ h3]at h1;cases h1
  ·exact⟨x,by simpa[Op.operands]using hx,lg,.inl h1⟩
 case call c=>
  split at hs
  ·have wJ:=hs.2;split at wJ
   ·obtain⟨_,rfl⟩:=wJ;cases hr
   ·obtain⟨_,rfl⟩:=wJ;cases hr
   ·obtain⟨_,rfl⟩:=wJ;cases hr
   ·obtain⟨_,_,rfl⟩:=wJ;cases hr
   ·obtain⟨_,_,_,_,_,_,_,_,rfl⟩:=wJ;cases hr
   ·exact wJ.elim
  ·obtain⟨_,_,_,_,_,rfl⟩:=hs;cases hr
  ·obtain⟨_,_,_,_,_,rfl⟩:=hs;cases hr
  ·exact hs.elim
open Go.RowKit
inductive Eff where
 |put (v:V)
 |new (v:V) (os:List Ob)
 |drop (t j:Nat) (v:V) (os:List Ob)
variable{e:Eff}
def Eff.ap(d:Nat):Eff->St->St
 |.put v,σ=>σ.put d v
 |.new v os,σ=>σ.new d v os
 |.drop t j v os,σ=>(σ.ZT t j .none).new d v os
def Eff.ok(d:Nat):Eff->St->Prop
 |.put _,_=>True
 |.new _ _,σ=>σ.fresh d=true
 |.drop t j _ _,σ=>(∃q s r,σ.ob t j= .arr q s r)/\(σ.ZT t j .none).fresh d=true
def Eff.ref(u:Nat):Eff->Bool
 |.put v=>v.ref u
 |.new v os=>v.ref u||Zu u os
 |.drop _ _ v os=>v.ref u||Zu u os
def yv(o:Oper):Bool:=
 match o.op with
 |.call ⟨.builtin .append,⟨.const _::_⟩,_⟩=>false
 |.call ⟨.builtin .append,_,_⟩=>true
 |_=>false
def QL(o:Oper):Bool:=
 match o.op with
 |.alloc _=>false
 |.box _ _=>false
 |.buildSlice _ _ _=>false
 |.makeSlice _ _ _=>false
 |.call ⟨.builtin .append,_,_⟩=>false
 |.call ⟨.value _,_,_⟩=>false
 |_=>true
def Qz(ops:Array Oper)(o:Oper):List Operand:=
 o.op.operands.toList++(match o.guard with|some (j,_)=>(match(ops[j]?).bind (·.dst)with|some dj=>[.tmp dj]|none=>[])|none=>[])
theorem Sub.left{xs:List Operand}(h:Sub P (xs++ys) σ1 σ):Sub P xs σ1 σ:=⟨h.len,fun x hx=>h.look x (by simp[hx]),fun x hx=>h.ob x (by simp[hx])⟩
theorem RL{x:At}{d:D}(h:∀u,x.ref u=true->∀j,σ1.ob u j≠ .none->σ.ob u j=σ1.ob u j)(hd:Qn σ1 x=some d):Qn σ x=some d:=by
 cases x with
 |sref t j lo len=>
  simp only[Qn]at hd⊢;split at hd
  ·rename_i q size rows ho;rw[h t fb j fi,ho];exact hd
  ·cases hd
 |_=>exact hd
theorem zd:∀{xs:List At}{r:List D},(∀u,Zd u xs=true->∀j,σ1.ob u j≠ .none->σ.ob u j=σ1.ob u j)->rowOf σ1 xs=some r->rowOf σ xs=some r
 |[],_,_,h=>h
 |x::xs,r,h,hr=>by
  simp only[rowOf]at hr⊢;split at hr
  ·rename_i d ds h1 h2;rw[RL (fun u hu=>h u (by rw[Zd,hu];rfl)) h1,zd (fun u hu=>h u (by rw[Zd,hu,Bool.or_true])) h2];exact hr
  ·cases hr
theorem SN{r:List D}(h:∀u,Zd u v.cells=true->∀j,σ1.ob u j≠ .none->σ.ob u j=σ1.ob u j)(hr:v.X3 σ1=some r):v.X3 σ=some r:=by
 cases v with
 |one x=>exact zd h hr
 |agg xs=>
  match xs,h,hr with
  |[],h,hr=>exact zd h hr
  |[_],_,hr=>simp[V.X3]at hr
  |x::y::xs,h,hr=>exact zd h hr
 |any=>simp[V.X3]at hr
 |tup xs=>simp[V.X3]at hr
 |cnd g x=>simp[V.X3]at hr
 |fix u x=>simp[V.X3]at hr
theorem Sub.cells{xs:List Operand}(h:Sub P xs σ1 σ)(hx:x∈xs)(ty:TypeId):∀u,Zd u (unc (Vm.look P σ1 ty x)).cells=true->∀j,σ1.ob u j≠ .none->σ.ob u j=σ1.ob u j:=
 fun u hu j hn=>h.ob x hx ty u (yF hu) j hn
theorem zS:∀{xs:List Operand}{ts:List TypeId}{rs:List (List D)},Sub P xs σ1 σ->Yq P σ1 xs ts rs->Yq P σ xs ts rs
 |[],_,_,_,h=>h
 |x::xs,[],_,_,h=>h.elim
 |x::xs,t::ts,rs,hs,h=>by
  obtain⟨hg,r,rest,h1,h2,h3⟩:=h;have e:=hs.look x fM t
  refine⟨by rw[<-e];exact hg,r,rest,?_,zS ⟨hs.len,fun y hy=>hs.look y (by simp[hy]),fun y hy=>hs.ob y (by simp[hy])⟩ h2,h3⟩;rw[<-e];exact SN (hs.cells fM t) h1
theorem zH:∀{xs:List Operand}{ts:List TypeId},Sub P xs σ1 σ->Zl P σ xs ts=Zl P σ1 xs ts
 |[],_,_=>by simp[Zl]
 |x::xs,[],_=>by simp[Zl]
 |x::xs,t::ts,hs=>by simp only[Zl];rw[hs.look x fM t,zH ⟨hs.len,fun y hy=>hs.look y (by simp[hy]),fun y hy=>hs.ob y (by simp[hy])⟩]
theorem jE{own:Bool}(hs:Sub P c.args.toList σ1 σ)(h:PM P σ1 c f own res):PM P σ c f own res:=by obtain⟨rows,h1,h2,h3⟩:=h;exact⟨rows,zS hs h1,h2,by rw[zH hs];exact h3⟩
theorem je{T:TypeId}{size:Nat}:∀{ps:List (Nat×Operand)}{k:Nat}{rs:List (List D)},Sub P (ps.map (·.2)) σ1 σ->WL P σ1 T size ps k rs->WL P σ T size ps k rs
 |[],_,_,_,h=>h
 |(i,x)::ps,k,rs,hs,h=>by have e:=hs.look x fM T;obtain⟨h1,h2,h3,h4,r,rest,h5,h6,h7,h8⟩:=h;refine⟨h1,by rw[<-e];exact h2,by rw[<-e];exact h3,by rw[<-e];exact h4,r,rest,?_,h6,je ⟨hs.len,fun y hy=>hs.look y eA,fun y hy=>hs.ob y eA⟩ h7,h8⟩;rw[<-e];exact zd (hs.cells fM T) h5
theorem V2{T:TypeId}{size:Nat}:∀{ps:List (Nat×Operand)}{k:Nat}{rs:List (List At)},Sub P (ps.map (·.2)) σ1 σ->Wq P σ1 T size ps k rs->Wq P σ T size ps k rs
 |[],_,_,_,h=>h
 |(i,x)::ps,k,rs,hs,h=>by
  obtain⟨h1,h2,h3,h4,rest,h5,h6⟩:=h;have e:=hs.look x fM T
  rw[e]at h2 h3 h4 h6;exact⟨h1,h2,h3,h4,rest,V2 ⟨hs.len,fun y hy=>hs.look y eA,fun y hy=>hs.ob y eA⟩ h5,h6⟩
theorem S0{T:TypeId}{size u:Nat}:∀{ps:List (Nat×Operand)}{k:Nat}{rs:List (List At)},Wq P σ T size ps k rs->Zd u rs.flatten=true->∃x∈ps.map (·.2),(Vm.look P σ T x).ref u=true
 |[],_,_,h,hr=>by simp only[Wq]at h;subst h;simp[Zd]at hr
 |(i,x)::ps,k,rs,h,hr=>by
  obtain⟨h1,h2,h3,h4,rest,h5,rfl⟩:=h;rw[List.flatten_cons]at hr;obtain⟨z,hz,uG⟩:=QW.1 hr;rcases List.mem_append.1 hz with hz|hz
  ·exact⟨x,fM,yF (QW.2 ⟨z,hz,uG⟩)⟩
  ·obtain⟨y,hy,iS⟩:=S0 h5 (QW.2 ⟨z,hz,uG⟩);exact⟨y,by simp at hy⊢;exact .inr hy,iS⟩
theorem Qx(u:Nat):∀(qs:List Bool)(ds:List D),Zu u (Zr qs ds)=false
 |qs,[]=>by cases qs<;>rfl
 |q::qs,.sl size rows::ds=>by simp[Zr,Zu,Qx u qs ds]
 |[],.sl size rows::ds=>by simp[Zr,Zu,Qx u [] ds]
 |qs,.int _ _::ds=>eK
 |qs,.bool _::ds=>eK
 |qs,.str _::ds=>eK
 |qs,.unk::ds=>eK
theorem xO{xs:List Operand}{ty:TypeId}(hs:Sub P xs σ1 σ)(hx:x∈xs)(h:zY σ1 (unc (Vm.look P σ1 ty x)) size news):zY σ (unc (Vm.look P σ ty x)) size news:=by
 rw[hs.look x hx]at h;unfold zY at h⊢;split at h
 ·exact h
 ·exact h
 ·rename_i t j lo len hv;obtain⟨rows,ho,hr⟩:=h;exact⟨rows,hs.same hx hv fb ho fM,hr⟩
 ·exact h.elim
theorem MW(u:Nat)(r:List D):(vOf (r.map At.d)).ref u=false:=by
 have:=yp (u:=u) r;match r,this with
 |[],_=>rfl
 |[x],_=>rfl
 |x::y::r,h=>exact h
theorem NL(u:Nat)(r:List D):(vOf (r.map At.d)).Wr u=false:=by
 have:=yp (u:=u) r;match r,this with
 |[],_=>rfl
 |[x],_=>rfl
 |x::y::r,h=>exact h
theorem RJ(u:Nat)(res:List (List D)):(Ki res).ref u=false:=by
 have tl:∀rs:List (List D),xl u (rs.map fun r=>vOf (r.map At.d))=false:=by
  intro rs;induction rs with
  |nil=>rfl
  |cons r rs ih=>simp only[List.map_cons,xl,NL,ih,Bool.or_false]
 match res with
 |[]=>rfl
 |[r]=>exact MW u r
 |r::r'::rs=>exact tl (r::r'::rs)
theorem kd{u d:Nat}(hu:u≠d):∀(k:Nat)(r:List D),Zd u (yV d k r)=false
 |_,[]=>rfl
 |k,x::r=>by cases x<;>simp[yV,Zd,At.ref,kd hu,Ne.symm hu]
theorem P5{xs:List At}(h:Zd u xs=false):(vOf xs).Wr u=false:=by
 match xs,h with
 |[],_=>rfl
 |[x],h=>simpa[vOf,V.Wr,Zd]using h
 |x::y::xs,h=>exact h
theorem Tc(hu:u≠d)(res:List (List D)):(Kp d res).ref u=false:=by
 have tl:∀(k:Nat)(rs:List (List D)),xl u (Si d k rs)=false:=by
  intro k rs;induction rs generalizing k with
  |nil=>rfl
  |cons r rs ih=>simp only[Si,xl,P5 (kd hu _ _),ih,Bool.or_false]
 match res with
 |[]=>exact tl 0 []
 |[r]=>
  have h1:(vOf (yV d 0 r)).flat=true:=by
   match yV d 0 r with
   |[]=>rfl
   |[x]=>rfl
   |x::y::xs=>rfl
  have:=P5 (kd hu 0 r);rw[<-Sp h1]at this;exact this
 |r::r'::rs=>exact tl 0 (r::r'::rs)
theorem TX(u:Nat):∀(ds:List D),Zu u (JV ds)=false
 |[]=>rfl
 |x::ds=>by cases x<;>simp[JV,Zu,TX u ds]
theorem xa(ty:TypeId)(v:Value)(u:Nat):(cst P ty v).ref u=false:=by
 unfold cst;split<;>first|rfl|skip
 all_goals(repeat' split)<;>first|rfl|skip
open Go.RowKit
variable{ops:Array Oper}{os:List Ob}
def TP(P:Program)(ops:Array Oper)(o:Oper)(d:Nat)(σ1:St)(e:Eff):Prop:=
 e.ok d σ1/\(∀t j v os,e= .drop t j v os->yv o=true/\∃x∈Qz ops o,∃ty,(look P σ1 ty x).ref t=true)/\
 (QL o=true\/o.guard.isSome=true->∃v,e= .put v)/\
 (o.guard=none->∀u,u≠d->e.ref u=true->WN P (Qz ops o) σ1 u)/\
 ∀σ,Sub P (Qz ops o) σ1 σ->e.ok d σ->Z1 P ops o σ (e.ap d σ)
theorem ko{xs:List Operand}(h:WN P xs σ1 u):WN P (xs++ys) σ1 u:=by obtain⟨x,hx,r⟩:=h;exact⟨x,by simp[hx],r⟩
theorem xT(hg:o.guard=none)(hd:o.dst=some d)(h:Step P o d σ σ'):Z1 P ops o σ σ':=by unfold Z1;simp only[hg,hd];exact h
theorem WD(hg:o.guard=none)(hd:o.dst=some d)(sw:∀u,u≠d->v.ref u=true->WN P o.op.operands.toList σ1 u)
  (w8:∀σ,Sub P o.op.operands.toList σ1 σ->Step P o d σ (σ.put d v)):TP P ops o d σ1 (.put v):=
 ⟨trivial,(fun t j v os h=>by cases h),fun _=>⟨v,rfl⟩,fun _ u hu hr=>ko (sw u hu hr),fun σ hs _=>xT hg hd (w8 σ hs.left)⟩
theorem xG(hg:o.guard=none)(hd:o.dst=some d)(hp:QL o=false)(wT:σ1.fresh d=true)(sw:∀u,u≠d->(v.ref u||Zu u os)=true->WN P o.op.operands.toList σ1 u)
  (w8:∀σ,Sub P o.op.operands.toList σ1 σ->σ.fresh d=true->Step P o d σ (σ.new d v os)):TP P ops o d σ1 (.new v os):=
 ⟨wT,(fun t j v os h=>by cases h),(fun h=>h.elim (fun h=>by rw[hp]at h;cases h) (fun h=>by rw[hg]at h;cases h)),fun _ u hu hr=>ko (sw u hu hr),fun σ hs hf=>xT hg hd (w8 σ hs.left hf)⟩
theorem QX(hx:x∈c.args.toList):x∈(Op.operands (.call c)).toList:=by obtain⟨nn,args,mG⟩:=c;simp only[Op.operands,Call.operands];cases nn<;>simp at hx⊢<;>simp[hx]
theorem WO(h:Sub P (Op.operands (.call c)).toList σ1 σ):Sub P c.args.toList σ1 σ:=
 ⟨h.len,fun x hx=>h.look x (QX hx),fun x hx=>h.ob x (QX hx)⟩
theorem LD(hg:o.guard=none)(hd:o.dst=some d)(hs:Step P o d σ1 σ2):∃e:Eff,σ2=e.ap d σ1/\TP P ops o d σ1 e:=by
 have vT:(∃v,Zj P σ1 o.op o.type v/\σ2=σ1.put d v)->(∀σ v,Zj P σ o.op o.type v->Step P o d σ (σ.put d v))->∃e:Eff,σ2=e.ap d σ1/\TP P ops o d σ1 e:=by rintro⟨v,hv,rfl⟩ wY;exact⟨.put v,rfl,WD hg hd (fun u _ hr=>VX hv hr) (fun σ we=>wY σ v (zh hv we))⟩
 have gv:=hs;unfold Step at hs;split at hs
 ·rename_i T wA;obtain⟨hf,hz,row,wg,rfl⟩:=hs;refine⟨.new _ _,rfl,xG hg hd (by simp[QL,wA]) hf (fun u hu hr=>?_) (fun σ we tK=>?_)⟩
  ·simp only[V.ref,At.ref,Zu,kq u _ _ _ wg,Bool.or_false,beq_iff_eq]at hr;exact absurd hr.symm hu
  ·unfold Step;rw[wA];exact⟨tK,hz,row,wg,rfl⟩
 ·rename_i T x wA;obtain⟨hf,h1,h2,h3,rfl⟩:=hs;refine⟨.new _ _,rfl,xG hg hd (by simp[QL,wA]) hf (fun u hu hr=>?_) (fun σ we tK=>?_)⟩
  ·simp only[V.ref,At.ref,Zu,Bool.or_false,Bool.or_eq_true,beq_iff_eq]at hr;rcases hr with hr|hr
   ·exact absurd hr.symm hu
   ·exact⟨x,by simp[wA,Op.operands],T,.inl (yF hr)⟩
  ·have e:=we.look x (by simp[wA,Op.operands]) T;unfold Step;rw[wA];simp only;rw[<-e];exact⟨tK,h1,h2,h3,rfl⟩
 ·rename_i T n parts wA;rcases hs with⟨hf,h1,h2,h3,h4,h5,⟨rows,h6,rfl⟩|⟨rows,h6,h7,rfl⟩⟩|⟨h1,rows,h6,rfl⟩
  ·refine⟨.new _ _,rfl,xG hg hd (by simp[QL,wA]) hf (fun u hu hr=>?_) (fun σ we tK=>?_)⟩
   ·simp only[V.ref,At.ref,Zu,Bool.or_false,beq_iff_eq]at hr;exact absurd hr.symm hu
   ·unfold Step;rw[wA];refine .inl ⟨tK,h1,h2,h3,h4,h5,.inl ⟨rows,je ?_ h6,rfl⟩⟩;rw[wA]at we;simpa[Op.operands]using we
  ·refine⟨.new _ _,rfl,xG hg hd (by simp[QL,wA]) hf (fun u hu hr=>?_) (fun σ we tK=>?_)⟩
   ·simp only[V.ref,At.ref,Zu,Bool.or_false,Bool.or_eq_true,beq_iff_eq]at hr;rcases hr with hr|hr
    ·exact absurd hr.symm hu
    ·obtain⟨x,hx,iT⟩:=S0 h6 hr;exact⟨x,by simpa[wA,Op.operands]using hx,_,.inl iT⟩
   ·unfold Step;rw[wA];refine .inl ⟨tK,h1,h2,h3,h4,h5,.inr ⟨rows,V2 ?_ h6,h7,rfl⟩⟩;rw[wA]at we;simpa[Op.operands]using we
  ·refine⟨.put _,rfl,WD hg hd (fun u _ hr=>by cases hr) (fun σ we=>?_)⟩;unfold Step;rw[wA];refine .inr ⟨h1,rows,je ?_ h6,rfl⟩;rw[wA]at we;simpa[Op.operands]using we
 ·rename_i T x y wA;obtain⟨rfl,hf,h1,h2,h3,q,z,zr,k,n,hq,h4,h5,h6,h7,h8,rfl⟩:=hs;refine⟨.new _ _,rfl,xG hg hd (by simp[QL,wA]) hf (fun u hu hr=>?_) (fun σ we tK=>?_)⟩
  ·simp only[V.ref,At.ref,Zu,Bool.or_false,beq_iff_eq]at hr;exact absurd hr.symm hu
  ·unfold Step;rw[wA];exact⟨rfl,tK,h1,h2,h3,q,z,zr,k,n,hq,h4,h5,Jd we (by simp[wA,Op.operands]) h6,h7,h8,rfl⟩
 ·rename_i c wA;split at hs
  ·rename_i hc;obtain⟨x,y,t,ha,uz,h1,h2,h3,h4,h5,wD,news,σd,h6,h7,h8,h9,pH,rfl⟩:=hs;have hx:x∈o.op.operands.toList:=by rw[wA];exact QX eJ
   have hy:y∈o.op.operands.toList:=by rw[wA];exact QX eJ
   have tL:QL o=false:=by obtain⟨cc,ca,ct⟩:=c;simp only at hc;subst hc;simp[QL,wA]
   have refs:∀u,u≠d->(V.ref u (.one (.sref d 0 0 (wD.length+news.length)))||Zu u [.arr false (P.cellsOf (ZD P t)) (wD++news)])=true->WN P o.op.operands.toList σ1 u:=by intro u hu hr;simp only[V.ref,At.ref,Zu,Bool.or_false,beq_iff_eq]at hr;exact absurd hr.symm hu
   have gw:=h6;unfold qB at h6;split at h6
   ·rename_i s heq;obtain⟨rfl,rfl⟩:=h6;refine⟨.new _ _,rfl,xG hg hd tL h8 refs (fun σ we tK=>?_)⟩;unfold Step;rw[wA];simp only[hc];refine⟨x,y,t,ha,uz,?_,?_,h3,h4,h5,[],news,σ,?_,xO we hy h7,tK,h9,pH,rfl⟩
    ·rw[<-we.look x hx];exact h1
    ·rw[<-we.look y hy];exact h2
    ·rw[<-we.look x hx];unfold qB;rw[heq];exact⟨rfl,rfl⟩
   ·rename_i tt j lo len heq;obtain⟨rows,ho,ud,hlen,holds,rfl⟩:=h6;have mP:(look P σ1 t x).ref tt=true:=YS heq fb
    refine⟨.drop tt j _ _,rfl,⟨⟨_,_,_,ho⟩,h8⟩,?_,(fun hh=>hh.elim (fun hh=>by rw[tL]at hh;cases hh) (fun hh=>by rw[hg]at hh;cases hh)),fun _ u hu hr=>ko (refs u hu hr),fun σ we tK=>xT hg hd ?_⟩
    ·intro t' j' v os he;cases he;refine⟨?_,x,by simp only[Qz,List.mem_append];exact .inl hx,t,mP⟩;obtain⟨cc,ca,ct⟩:=c;simp only at hc ha;subst hc ha;cases x with
     |const v=>rw[Vm.look,xa]at mP;cases mP
     |_=>simp[yv,wA]
    ·have tM:=we.left;unfold Step;rw[wA];simp only[hc];have ui:unc (look P σ t x)= .one (.sref tt j lo len):=by rw[<-tM.look x hx];exact heq
     refine⟨x,y,t,ha,uz,?_,?_,h3,h4,h5,wD,news,_,?_,xO tM hy h7,tK.2,h9,pH,rfl⟩
     ·rw[<-tM.look x hx];exact h1
     ·rw[<-tM.look y hy];exact h2
     ·unfold qB;rw[ui];exact⟨rows,tM.same hx ui fb ho fM,ud,hlen,holds,rfl⟩
   ·exact h6.elim
  ·rename_i f hc;have tL:QL o=false:=by obtain⟨cc,ca,ct⟩:=c;simp only at hc;subst hc;simp[QL,wA]
   rcases hs with⟨own,res,og,rfl⟩|⟨res,og,hf,rfl⟩|⟨rows,res,qs,ha,ia,hq,hf,rfl⟩
   ·refine⟨.put _,rfl,WD hg hd (fun u _ hr=>by rw[RJ]at hr;cases hr) (fun σ we=>?_)⟩;rw[wA]at we;unfold Step;rw[wA];simp only[hc];exact .inl ⟨own,res,jE (WO we) og,rfl⟩
   ·refine⟨.new _ _,rfl,xG hg hd tL hf (fun u hu hr=>?_) (fun σ we tK=>?_)⟩
    ·rw[Tc hu,TX]at hr;cases hr
    ·rw[wA]at we;unfold Step;rw[wA];simp only[hc];exact .inr (.inl ⟨res,jE (WO we) og,tK,rfl⟩)
   ·refine⟨.new _ _,rfl,xG hg hd tL hf (fun u hu hr=>?_) (fun σ we tK=>?_)⟩
    ·rw[Tc hu,Qx]at hr;cases hr
    ·rw[wA]at we;unfold Step;rw[wA];simp only[hc];exact .inr (.inr ⟨rows,res,qs,zS (WO we) ha,ia,hq,tK,rfl⟩)
  ·rename_i h1 h2;refine vT hs (fun σ v hv=>?_);unfold Step;rw[wA];simp only;exact⟨v,by rw[wA]at hv;exact hv,rfl⟩
 ·rename_i S T x wA;rcases hs with hs|⟨l,h1,h2,h3,h4,rfl⟩|⟨s,h1,h2,h3,h4,h5,rfl⟩
  ·refine vT hs (fun σ v hv=>?_);unfold Step;rw[wA];exact .inl ⟨v,by rw[wA]at hv;exact hv,rfl⟩
  ·refine⟨.put _,rfl,WD hg hd (fun u _ hr=>by cases hr) (fun σ we=>?_)⟩;have hx:x∈o.op.operands.toList:=by simp[wA,Op.operands]
   unfold Step;rw[wA];exact .inr (.inl ⟨l,by rw[<-we.look x hx];exact h1,h2,h3,xO we hx h4,rfl⟩)
  ·refine⟨.put _,rfl,WD hg hd (fun u _ hr=>by cases hr) (fun σ we=>?_)⟩;have hx:x∈o.op.operands.toList:=by simp[wA,Op.operands]
   unfold Step;rw[wA];exact .inr (.inr ⟨s,by rw[<-we.look x hx];exact h1,h2,h3,by rw[<-we.look x hx];exact h4,h5,rfl⟩)
 ·rename_i n1 n2 n3 n4 n5 n6;refine vT hs (fun σ v hv=>?_);unfold Step;split
  ·rename_i T wA;exact absurd wA (n1 T)
  ·rename_i T x wA;exact absurd wA (n2 T x)
  ·rename_i T n ps wA;exact absurd wA (n3 T n ps)
  ·rename_i T x y wA;exact absurd wA (n4 T x y)
  ·rename_i c wA;exact absurd wA (n5 c)
  ·rename_i S T x wA;exact absurd wA (n6 S T x)
  ·exact⟨v,hv,rfl⟩
open Go.RowKit
theorem Yd:σ.fresh d=true↔d<σ.length/\∀t e,σ[t]?=some e->t≠d->e.1.ref d=false/\Zu d e.2=false:=by
 unfold St.fresh;rw[Bool.and_eq_true,decide_eq_true_eq];refine and_congr_right fun _=>⟨fun h t e he wC=>JS h t e he fJ,fun h=>?_⟩;have:∀(σ:St)(k:Nat),(∀t e,σ[t]?=some e->k+t≠d->e.1.ref d=false/\Zu d e.2=false)->Qo d k σ=true:=by
  intro σ;induction σ with
  |nil=>intro k _;rfl
  |cons e σ ih=>
   intro k hk;simp only[Qo,Bool.and_eq_true,Bool.or_eq_true,beq_iff_eq,Bool.not_eq_true'];refine⟨?_,ih (k+1) fun t e' he wC=>hk (t+1) e' (by simpa using he) fJ⟩;by_cases h0:k=d
   ·exact .inl h0
   ·exact .inr (hk 0 e fM fJ)
 exact this σ 0 (fun t e he wC=>h t e he fJ)
theorem TT{e:Ent}(h:σ[t]?=some e)(j:Nat):σ.ob t j=Zq e.2 j:=by unfold St.ob;rw[h]
theorem jg{o:Ob}(h:σ.ob t j=o)(hn:o≠ .none):∃e,σ[t]?=some e/\Zq e.2 j=o:=by
 unfold St.ob at h;split at h
 ·rename_i e he;exact⟨e,he,h⟩
 ·exact absurd h.symm hn
theorem kz{u:Nat}:∀{os:List Ob}{j:Nat}{cells:List At},Zq os j= .box cells->Zd u cells=true->Zu u os=true
 |[],_,_,h,_=>by simp[Zq]at h
 |o::os,0,cells,h,hr=>by have:o= .box cells:=h;subst this;simp[Zu,hr]
 |o::os,j+1,cells,h,hr=>by have h':Zq os j= .box cells:=ec;have:=kz h' hr;cases o<;>simp[Zu,this]
theorem Jj{u s:Nat}{q:Bool}{r:List (List D)}:∀{os:List Ob}{j:Nat},Zq os j= .arr q s r->Zu u (os.set j .none)=Zu u os
 |[],_,h=>by simp[Zq]at h
 |o::os,0,h=>by have:o= .arr q s r:=h;subst this;simp[Zu]
 |o::os,j+1,h=>by have h':Zq os j= .arr q s r:=ec;have:=Jj (u:=u) h';cases o<;>simp[Zu,this]
theorem W9(h:YG σ d=true){e:Ent}(he:σ[d]?=some e)(u:Nat):e.1.ref u=false/\Zu u e.2=false:=by
 unfold YG at h;split at h
 ·rename_i h1;rw[he]at h1;cases h1;exact⟨rfl,rfl⟩
 ·rename_i h1;rw[he]at h1;cases h1;exact⟨rfl,rfl⟩
 ·cases h
section
variable{x:Oper}
theorem zJ(hd:o.dst=some d)(hs:Z1 P ops o σ1 σ2):∃e:Eff,σ2=e.ap d σ1/\TP P ops o d σ1 e:=by
 unfold Z1 at hs;split at hs
 ·rename_i hg;simp only[hd]at hs;exact LD hg hd hs
 ·rename_i j want hg;obtain⟨dj,d',g,v,vk,wO,wL,vz,hv,rfl⟩:=hs;rw[hd]at wL;cases wL;refine⟨.put (.cnd g v),rfl,trivial,(fun t j v os h=>by cases h),fun _=>⟨_,rfl⟩,(fun h=>by rw[hg]at h;cases h),fun σ we _=>?_⟩;have vE:Operand.tmp dj∈Qz ops o:=by simp[Qz,hg,vk]
  have vD:σ.get dj=σ1.get dj:=(we.look _ vE 0).symm;unfold Z1;simp only[hg];refine⟨dj,d,g,v,vk,by rw[<-we.len];exact wO,hd,by rw[vD];exact vz,fun rn=>?_,rfl⟩;have v3:=hv rn;have sI:=we.left;unfold VK at v3⊢;split at v3
  ·rename_i c wA;split at v3
   ·rename_i f hc;obtain⟨own,res,og,rfl⟩:=v3;rw[wA]at sI;exact⟨own,res,jE (WO sI) og,rfl⟩
   ·obtain⟨v0,h1,h2⟩:=v3;exact⟨v0,zh h1 sI,h2⟩
  ·obtain⟨v0,h1,h2⟩:=v3;exact⟨v0,zh h1 sI,h2⟩
theorem Qh(e:Eff):(e.ap d σ).length=σ.length:=by cases e<;>simp[Eff.ap,St.YY,St.yj,St.YD]
theorem VI(e:Eff)(wC:t≠d):(e.ap d σ).get t=σ.get t:=by
 cases e with
 |put v=>simp[Eff.ap,St.Xm,wC]
 |new v os=>simp[Eff.ap,St.y6,wC]
 |drop a j v os=>simp[Eff.ap,St.y6,St.Yf,wC]
theorem MS(h:(σ.get t).ref u=true):∃e,σ[t]?=some e/\e.1.ref u=true:=by
 unfold St.get at h;split at h
 ·rename_i e he;exact⟨e,he,h⟩
 ·cases h
end
open Go.RowKit
variable{en:Ent}
section
variable{x:Oper}
theorem QV(hf:∀t e,σ[t]?=some e->t≠d->e.1.ref d=false)(hz:z≠ .tmp d)(ty:TypeId):(look P σ ty z).ref d=false:=by
 cases z with
 |tmp t=>
  have wC:t≠d:=fun h=>hz (by rw[h]);cases hr:(look P σ ty (.tmp t)).ref d with
  |false=>rfl
  |true=>obtain⟨e,he,vU⟩:=MS (σ:=σ) (t:=t) hr;rw[hf t e he wC]at vU;cases vU
 |const v=>exact xa ty v d
 |global g=>rfl
 |func f=>rfl
theorem look_eq(hg:∀t,t≠d->σ1.get t=σ.get t)(hz:z≠ .tmp d)(ty:TypeId):look P σ1 ty z=look P σ ty z:=by
 cases z with
 |tmp t=>exact hg t (fun h=>hz (by rw[h]))
 |const v=>rfl
 |global g=>rfl
 |func f=>rfl
theorem Ku(h:e.ok d σ)(wC:∀v,e≠ .put v):∀t en,σ[t]?=some en->t≠d->en.1.ref d=false:=by
 intro t en he ht;cases e with
 |put v=>exact absurd rfl (wC v)
 |new v os=>exact((Yd.1 h).2 t en he ht).1
 |drop a j v os=>
  have:=(Yd.1 h.2).2 t;rw[Yn]at this;by_cases sP:t=a
  ·rw[if_pos sP,he]at this;exact(this _ rfl ht).1
  ·rw[if_neg sP]at this;exact(this en he ht).1
theorem kr(h:e.ok d σ)(wC:∀v,e≠ .put v):∀t en,σ[t]?=some en->t≠d->Zu d en.2=false:=by
 intro t en he ht;cases e with
 |put v=>exact absurd rfl (wC v)
 |new v os=>exact((Yd.1 h).2 t en he ht).2
 |drop a j v os=>
  obtain⟨⟨q,s,r,ho⟩,hf⟩:=h;have:=(Yd.1 hf).2 t
  rw[Yn]at this;by_cases sP:t=a
  ·rw[if_pos sP,he]at this;have h2:=(this _ rfl ht).2
   subst sP;rw[TT he]at ho;rw[Jj ho]at h2;exact h2
  ·rw[if_neg sP]at this;exact(this en he ht).2
theorem I4(h:e.ok d σ)(wC:∀v,e≠ .put v):d<σ.length:=by
 cases e with
 |put v=>exact absurd rfl (wC v)
 |new v os=>exact(Yd.1 h).1
 |drop a j v os=>have:=(Yd.1 h.2).1;rwa[St.YD]at this
theorem Nv(h:e.ok d σ)(hu:(∀v,e≠ .put v)->u≠d)(hn:(e.ap d σ).ob u j≠ .none):σ.ob u j=(e.ap d σ).ob u j:=by
 cases e with
 |put v=>simp only[Eff.ap,St.YV]
 |new v os=>have:=hu (by intro v h;cases h);simp only[Eff.ap,St.Xj,this,false_and,if_false]
 |drop a k v os=>
  have s6:=hu (by intro v h;cases h);obtain⟨⟨q,s,r,ho⟩,_⟩:=h;simp only[Eff.ap,St.Xj,s6,false_and,if_false]at hn⊢;rw[St.YU σ a k _ u j fi]at hn⊢;split at hn
  ·exact absurd rfl hn
  ·rename_i hh;rw[if_neg hh]
theorem WQ(vA:∀t j v os,e≠ .drop t j v os)(hu:(∀v,e≠ .put v)->u≠d):(e.ap d σ).ob u j=σ.ob u j:=by
 cases e with
 |put v=>simp only[Eff.ap,St.YV]
 |new v os=>have:=hu (by intro v h;cases h);simp only[Eff.ap,St.Xj,this,false_and,if_false]
 |drop a k v os=>exact absurd rfl (vA a k v os)
theorem Ld(wT:e.ok d σ)(ht:t≠d)(he:(e.ap d σ)[t]?=some en):∃mZ,σ[t]?=some mZ/\mZ.1=en.1/\∀u,Zu u mZ.2=Zu u en.2:=by
 cases e with
 |put v=>simp only[Eff.ap,K5,if_neg ht]at he;exact⟨en,he,rfl,fun _=>rfl⟩
 |new v os=>simp only[Eff.ap,JB,if_neg ht]at he;exact⟨en,he,rfl,fun _=>rfl⟩
 |drop a j v os=>
  simp only[Eff.ap,JB,if_neg ht,Yn]at he;split at he
  ·rename_i sP;subst sP;obtain⟨⟨q,s,r,ho⟩,_⟩:=wT;obtain⟨e0,u9,vB⟩:=jg ho fM;rw[u9]at he;simp at he;subst he;exact⟨e0,u9,rfl,fun u=>(Jj vB).symm⟩
  ·exact⟨en,he,rfl,fun _=>rfl⟩
theorem swap(vZ:x.dst=some dx)(vw:y.dst=some dy)(wC:dx≠dy)(uy:∀z∈Qz ops y,z≠ .tmp dx)(sO:∀z∈Qz ops x,z≠ .tmp dy)(vA:yv y=false)(nj:y.guard=none\/QL x=true\/x.guard.isSome=true)
  (wb:YG σ dx=true) (h1:Z1 P ops x σ σ1) (h2:Z1 P ops y σ1 σ2):∃σ1',Z1 P ops y σ σ1'/\Z1 P ops x σ1' σ2:=by
 obtain⟨ex,rfl,tY,sH,oh,_,iU⟩:=zJ vZ h1;obtain⟨ey,rfl,iV,oo,_,mH,iW⟩:=zJ vw h2;have oM:∀t j v os,ey≠ .drop t j v os:=by
  intro t j v os h;have:=(oo t j v os h).1
  rw[vA]at this;cases this
 have mQ:Sub P (Qz ops y) (ex.ap dx σ) σ:=by refine⟨Qh ex,fun z hz ty=>look_eq (fun t ht=>VI ex ht) (uy z hz) ty,fun z hz ty u hr j hn=>?_⟩;refine Nv tY (fun vy hu=>?_) hn;subst hu;rw[look_eq (fun t ht=>VI ex ht) (uy z hz) ty,QV (Ku tY vy) (uy z hz)]at hr;cases hr
 have rq:ey.ok dy σ:=by
  cases ey with
  |put v=>trivial
  |drop a j v os=>exact absurd rfl (oM a j v os)
  |new v os=>
   have hf:=Yd.1 iV;refine Yd.2 ⟨by rw[<-Qh ex (d:=dx)];exact hf.1,fun t e he ht=>?_⟩;by_cases pJ:t=dx
   ·subst pJ;exact W9 wb he dy
   ·cases ex with
    |put v'=>exact hf.2 t e (by simp only[Eff.ap,K5,if_neg pJ];exact he) ht
    |new v' re=>exact hf.2 t e (by simp only[Eff.ap,JB,if_neg pJ];exact he) ht
    |drop a j v' re=>
     obtain⟨⟨q,s,r,ho⟩,_⟩:=tY;by_cases sP:t=a
     ·subst sP;have:=hf.2 t (e.1,e.2.set j .none) (by simp only[Eff.ap,JB,if_neg pJ,Yn,if_true,he,Option.map_some]) ht
      rw[TT he]at ho;rw[Jj ho]at this;exact this
     ·exact hf.2 t e (by simp only[Eff.ap,JB,if_neg pJ,Yn,if_neg sP];exact he) ht
 have oq:=iW σ mQ rq;have ot:Sub P (Qz ops x) σ (ey.ap dy σ):=by refine⟨(Qh ey).symm,fun z hz ty=>(look_eq (fun t ht=>VI ey ht) (sO z hz) ty).symm,fun z hz ty u hr j hn=>?_⟩;refine WQ oM (fun vy hu=>?_);subst hu;rw[QV (Ku rq vy) (sO z hz)]at hr;cases hr
 have mR:(∀v,ex≠ .put v)->ey.ref dx=false:=by
  intro vy;have hg:y.guard=none:=by
   rcases nj with h|h
   ·exact h
   ·obtain⟨v,hv⟩:=oh h;exact absurd hv (vy v)
  cases hr:ey.ref dx with
  |false=>rfl
  |true=>
   obtain⟨z,hz,ty,w5⟩:=mH hg dx wC hr;have hl:look P (ex.ap dx σ) ty z=look P σ ty z:=look_eq (fun t ht=>VI ex ht) (uy z hz) ty
   rw[hl]at w5;rcases w5 with w5|⟨t',cells,nm,ho,hc⟩
   ·rw[QV (Ku tY vy) (uy z hz)]at w5;cases w5
   ·have pJ:t'≠dx:=by intro h;subst h;rw[QV (Ku tY vy) (uy z hz)]at nm;cases nm
    have wV:σ.ob t' 0= .box cells:=by rw[Nv tY (fun _=>pJ) fi,ho]
    obtain⟨en,mI,mJ⟩:=jg wV fM;have:=kr tY vy t' en mI pJ
    rw[kz mJ hc]at this;cases this
 have entries:(∀v,ex≠ .put v)->∀t e,(ey.ap dy σ)[t]?=some e->t≠dx->e.1.ref dx=false/\Zu dx e.2=false:=by
  intro vy t e he ht;have hy:=mR vy
  by_cases uA:t=dy
  ·subst uA;cases ey with
   |put v=>simp only[Eff.ap,K5,if_true,Option.map_eq_some_iff]at he;obtain⟨e0,u9,rfl⟩:=he;exact⟨hy,kr tY vy t e0 u9 ht⟩
   |new v os=>simp only[Eff.ap,JB,if_true,Option.map_eq_some_iff]at he;obtain⟨e0,u9,rfl⟩:=he;simp only[Eff.ref,Bool.or_eq_false_iff]at hy;exact hy
   |drop a j v os=>exact absurd rfl (oM a j v os)
  ·obtain⟨e0,u9,h1,h2⟩:=Ld rq uA he;rw[<-h1,<-h2];exact⟨Ku tY vy t e0 u9 ht,kr tY vy t e0 u9 ht⟩
 have mS:ex.ok dx (ey.ap dy σ):=by
  cases ex with
  |put v=>trivial
  |new v os=>
   have vy:∀v',Eff.new v os≠ .put v':=by intro v' h;cases h
   exact Yd.2 ⟨by rw[Qh];exact I4 tY vy,entries vy⟩
  |drop a j v os=>
   have vy:∀v',Eff.drop a j v os≠ .put v':=by intro v' h;cases h
   obtain⟨z,hz,ty,hr⟩:=(sH a j v os rfl).2;obtain⟨q,s,r,ho⟩:=tY.1;have wV:(ey.ap dy σ).ob a j= .arr q s r:=by rw[<-ho];exact ot.ob z hz ty a hr j fi
   refine⟨⟨q,s,r,wV⟩,Yd.2 ⟨by rw[St.YD,Qh];exact I4 tY vy,fun t e he ht=>?_⟩⟩;rw[Yn]at he;split at he
   ·rename_i sP;subst sP;obtain⟨e0,u9,vB⟩:=jg wV fM;rw[u9]at he;simp at he;subst he;have:=entries vy t e0 u9 ht
    exact⟨this.1,by rw[Jj vB];exact this.2⟩
   ·exact entries vy t e he ht
 refine⟨_,oq,?_⟩;have:=iU _ ot mS
 have heq:ex.ap dx (ey.ap dy σ)=ey.ap dy (ex.ap dx σ):=by
  apply List.ext_getElem?;intro t;have lh:=wC
  cases ex with
  |put v=>
   cases ey with
   |put v'=>simp only[Eff.ap,K5];by_cases h1:t=dx<;>by_cases h2:t=dy<;>simp_all
   |new v' re=>simp only[Eff.ap,K5,JB];by_cases h1:t=dx<;>by_cases h2:t=dy<;>simp_all
   |drop a j v' re=>exact absurd rfl (oM a j v' re)
  |new v os=>
   cases ey with
   |put v'=>simp only[Eff.ap,K5,JB];by_cases h1:t=dx<;>by_cases h2:t=dy<;>simp_all
   |new v' re=>simp only[Eff.ap,JB];by_cases h1:t=dx<;>by_cases h2:t=dy<;>simp_all
   |drop a j v' re=>exact absurd rfl (oM a j v' re)
  |drop a j v os=>
   obtain⟨z,hz,ty,hr⟩:=(sH a j v os rfl).2;cases ey with
   |put v'=>simp only[Eff.ap,K5,JB,Yn];by_cases h1:t=dx<;>by_cases h2:t=dy<;>by_cases h3:t=a<;>simp_all;all_goals(first|(cases σ[dy]?<;>rfl)|(cases σ[t]?<;>rfl)|(cases σ[a]?<;>rfl))
   |new v' re=>
    have gx:a≠dy:=by intro h;subst h;rw[QV (Ku rq (by intro v h;cases h)) (sO z hz)]at hr;cases hr
    simp only[Eff.ap,JB,Yn];by_cases h1:t=dx<;>by_cases h2:t=dy<;>by_cases h3:t=a<;>simp_all
   |drop a' j' v' re=>exact absurd rfl (oM a' j' v' re)
 rw[<-heq];exact this
end
open Go.RowKit
variable{PT:List (Nat×Nat)}{bar br:Oper->Bool}{NB post ord:List Nat}{pos:Nat->Nat}{Q:Exit->St->Prop}{cs:List At}{B:Nat->Prop}{w0 w:World}
def Ol(ops:Array Oper)(bar:Oper->Bool)(x y:Oper):Bool:=!bar x&&!bar y&&
 (match x.dst,y.dst with
 |some dx,some dy=>dx !=dy&&!(Qz ops y).any (JH dx)&&!(Qz ops x).any (JH dy)&&!yv y&&(y.guard.isNone||QL x||x.guard.isSome)
 |_,_=>false)
def OM(bar:Oper->Bool)(x y:Oper):Bool:=!bar x&&!bar y&&x.guard.isNone&&y.guard.isNone&&
 (match x.dst,y.dst,y.op with
 |some dx,none,.store _ p q=>(match x.op with|.move _=>true|.assign _=>true|.extract _ _=>true|_=>false)&&!JH dx p&&!JH dx q
 |_,_,_=>false)
def OG(bar:Oper->Bool)(x y:Oper):Bool:=!bar x&&bar y&&x.guard.isNone&&(xM y&&!Oh bar y)&&y.guard.isNone&&y.dst.isNone&&
 (match x.dst with
 |some dx=>(match x.op with|.move _=>true|.assign _=>true|.extract _ _=>true|_=>false)&&yG y dx
 |none=>false)
def jz(PT:List (Nat×Nat))(σ:St):Prop:=∀p∈PT,σ.get p.1= .any\/∃c,unc (σ.get p.1)= .one (.bptr p.2 c)
def ptB(PT:List (Nat×Nat))(σ:St):Bool:=PT.all fun p=>match σ.get p.1 with|.any=>true|v=>(match unc v with|.one (.bptr b _)=>b==p.2|_=>false)
def qu(ops:Array Oper)(PT:List (Nat×Nat)):Bool:=ops.toList.all fun o=>match o.dst with
 |none=>true
 |some d=>PT.all fun p=>p.1 !=d||(o.guard.isNone&&(match o.op with|.fieldAddr _ (.tmp r) _=>PT.contains (r,p.2)|.move (.tmp r)=>PT.contains (r,p.2)|_=>false))
def qw(PT:List (Nat×Nat))(b:Nat):Op->Bool
 |.load _ (.tmp t)=>PT.any fun r=>r.1==t&&r.2 !=b
 |.fieldAddr _ _ _=>true
 |.move _=>true
 |.assign _=>true
 |.extract _ _=>true
 |.binOp _ _ _ _ _=>true
 |.call ⟨.builtin .len,⟨[_]⟩,⟨[_]⟩⟩=>true
 |_=>false
def swapT(PT:List (Nat×Nat))(bar:Oper->Bool)(x y:Oper):Bool:=!bar x&&!bar y&&x.guard.isNone&&y.guard.isNone&&
 (match x.dst,y.dst,y.op with
 |some dx,none,.store _ (.tmp tp) q=>tp !=dx&&!JH dx q&&PT.any fun p=>p.1==tp&&qw PT p.2 x.op
 |_,_,_=>false)
def U8(NB:List Nat)(σ:St):Prop:=∀t∈NB,∀b c,unc (σ.get t)≠ .one (.bptr b c)
def nbB(NB:List Nat)(σ:St):Bool:=NB.all fun t=>match unc (σ.get t)with|.one (.bptr _ _)=>false|_=>true
def WE(P:Program)(ops:Array Oper)(NB:List Nat):Bool:=ops.toList.all fun o=>match o.dst with
 |none=>true
 |some d=>NB.all fun t=>t !=d||(o.guard.isNone&&(match o.op with|.indexAddr T _ _=>Zy P T|_=>false))
def VC(PT:List (Nat×Nat))(NB:List Nat)(σ:St):Prop:=jz PT σ/\U8 NB σ
def Po(PT:List (Nat×Nat))(NB:List Nat)(bar:Oper->Bool)(x y:Oper):Bool:=!bar x&&bar y&&x.guard.isNone&&(xM y&&!Oh bar y)&&y.guard.isNone&&y.dst.isNone&&
 (match x.dst,y.op with
 |some dx,.store _ (.tmp tp) q=>NB.contains tp&&tp !=dx&&!JH dx q&&(match x.op with|.load _ (.tmp t)=>PT.any fun r=>r.1==t|.fieldAddr _ (.tmp t) _=>PT.any fun r=>r.1==t|_=>false)
 |_,_=>false)
def NS(PT:List (Nat×Nat)):Op->Bool
 |.move _=>true
 |.load _ (.tmp t)=>PT.any fun r=>r.1==t
 |.fieldAddr _ (.tmp _) _=>true
 |.slice _ (.tmp _) _ _ none=>true
 |_=>false
def PX(PT:List (Nat×Nat))(ops:Array Oper)(bar:Oper->Bool)(x y:Oper):Bool:=bar x&&!bar y&&z6 x&&x.guard.isNone&&y.guard.isNone&&NS PT y.op&&
 (match x.dst,y.dst with
 |some dx,some dy=>dx !=dy&&!(Qz ops y).any (JH dx)&&!(Qz ops x).any (JH dy)
 |_,_=>false)
def RZ(PT:List (Nat×Nat))(o:Oper):Option Nat:=match o.op with|.call ⟨.value (.func _),⟨.tmp z::_⟩,_⟩=>(PT.find? (fun p=>p.1==z)).map (·.2)|_=>none
def GF:Operand->Bool
 |.const _=>true
 |_=>false
def W8(PT:List (Nat×Nat))(y x:Oper):Bool:=(x.op.operands.toList.all GF&&!yv x)||(match RZ PT y with|some b=>qw PT b x.op|none=>false)
def OD(P:Program)(PT:List (Nat×Nat))(ops:Array Oper)(bar:Oper->Bool)(x y:Oper):Bool:=x.guard.isNone&&y.guard.isNone&&jA bar x&&jA bar y&&(match x.dst,y.dst with
 |some dx,some dy=>dx !=dy&&!(Qz ops y).any (JH dx)&&!(Qz ops x).any (JH dy)&&((!bar x&&bar y&&QJ P y&&W8 PT y x)||(bar x&&QJ P x&&!bar y&&W8 PT x y))
 |_,_=>false)
def Wn(o:Oper)(j:Nat):Bool:=o.after.any fun e=>e.on==j&&Region.binds .any e
def qX:List Oper->List Nat->List Nat
 |[],acc=>acc
 |o::rest,acc=>qX rest (acc++[o.after.toList.foldl (fun m e=>if Region.binds .any e then m|||(1<<<e.on)|||acc.getD e.on 0 else m) 0])
def Nn(ms:List Nat)(i j:Nat):Bool:=(ms.getD i 0).testBit j
inductive Pre(ops:Array Oper):Nat->Nat->Prop
 |one {i j:Nat} {o:Oper} (ho:ops[i]?=some o) (hp:Wn o j=true):Pre ops i j
 |more {i m j:Nat} {o:Oper} (ho:ops[i]?=some o) (hp:Wn o m=true) (h:Pre ops m j):Pre ops i j
theorem S3{ops:Array Oper}:∀{l:List Oper}{acc:List Nat},(∀k o,l[k]?=some o->ops[acc.length+k]?=some o)->(∀i j,(acc.getD i 0).testBit j=true->Pre ops i j)->∀i j,Nn (qX l acc) i j=true->Pre ops i j
 |[],acc,_,ha,i,j,h=>ha i j h
 |o::rest,acc,hl,ha,i,j,h=>by
  refine S3 (l:=rest) (fun k o' hk=>?_) (fun i j sX=>?_) i j h
  ·have:=hl (k+1) o' (by simpa using hk);rw[List.length_append,List.length_singleton,Nat.add_assoc,Nat.add_comm 1 k];exact this
  ·rw[List.getD_eq_getElem?_getD]at sX;rcases Nat.lt_trichotomy i acc.length with wO|heq|rn
   ·rw[List.getElem?_append_left wO,<-List.getD_eq_getElem?_getD]at sX;exact ha i j sX
   ·subst heq;rw[List.getElem?_append_right (Nat.le_refl _)]at sX;simp only[Nat.sub_self,List.getElem?_cons_zero,Option.getD_some]at sX;have ho:=hl 0 o fM
    rw[Nat.add_zero]at ho;have key:∀(es:List Edge)(m:Nat),(∀e∈es,e∈o.after)->(∀j,m.testBit j=true->Pre ops acc.length j)->∀j,(es.foldl (fun m e=>if Region.binds .any e then m|||(1<<<e.on)|||acc.getD e.on 0 else m) m).testBit j=true->Pre ops acc.length j:=by
     intro es;induction es with
     |nil=>intro m _ hm j hj;exact hm j hj
     |cons e es ih=>
      intro m ld hm j hj;refine ih _ (fun e' oc=>ld e' (by simp[oc])) (fun j hj=>?_) j hj;by_cases hb:Region.binds .any e=true
      ·simp only[hb,if_true]at hj;have hp:Wn o e.on=true:=by unfold Wn;rw[<-Array.any_toList];exact List.any_eq_true.2 ⟨e,by simpa using ld e fM,by simp[hb]⟩
       rw[Nat.testBit_or,Nat.testBit_or,Bool.or_eq_true,Bool.or_eq_true]at hj;rcases hj with(hj|hj)|hj
       ·exact hm j hj
       ·rw[Nat.testBit_shiftLeft]at hj;simp only[Bool.and_eq_true,decide_eq_true_eq]at hj;have h1:j-e.on=0:=by
         have:=hj.2;rw[show(1:Nat)=2^0 from rfl,Nat.testBit_two_pow]at this;have h3:0=j-e.on:=by simpa using this
         omega
        have:j=e.on:=fJ;subst this;exact .one ho hp
       ·exact .more ho hp (ha e.on j hj)
      ·simp only[hb,Bool.false_eq_true,if_false]at hj;exact hm j hj
    exact key o.after.toList 0 (fun e he=>by simpa using he) (fun j hj=>by simp at hj) j sX
   ·rw[List.getElem?_eq_none fc]at sX;simp at sX
def Pj(ops:Array Oper)(i j:Nat):Bool:=Nn (qX ops.toList []) i j
theorem Mn(h:Pj ops i j=true):Pre ops i j:=
 S3 (l:=ops.toList) (acc:=[]) (fun k o hk=>by simpa using hk) (fun i j h=>by simp at h) i j h
def HD(P:Program)(ops:Array Oper)(bar:Oper->Bool)(PT:List (Nat×Nat))(NB ms:List Nat)(i j:Nat):Bool:=match ops[i]?,ops[j]? with|some oi,some oj=>Nn ms i j||Ol ops bar oj oi||OM bar oj oi||swapT PT bar oj oi||OG bar oj oi||PX PT ops bar oj oi||Po PT NB bar oj oi||OD P PT ops bar oj oi|_,_=>false
def HA(ops:Array Oper)(pos:Nat->Nat)(i:Nat):Bool:=match ops[i]? with|some o=>o.after.all fun e=>!Region.binds .any e||(decide (pos e.on<pos i)&&decide (e.on<ops.size))|none=>false
def MD(ops:Array Oper)(j:Nat):Bool:=match ops[j]? with
 |some o=>(match o.dst with|some d=>(List.range ops.size).all fun k=>k==j||(match ops[k]? with|some q=>q.dst !=some d|none=>true)|none=>false)
 |none=>false
def R7(ops:Array Oper)(pos:Nat->Nat)(ms:List Nat)(j:Nat):Bool:=(List.range ops.size).any fun i=>decide (pos j<pos i)&&!Nn ms i j
def xS(ops:Array Oper)(pos:Nat->Nat)(j:Nat):Bool:=R7 ops pos (qX ops.toList []) j
def Te(P:Program)(ops:Array Oper)(pos:Nat->Nat)(bar:Oper->Bool)(PT:List (Nat×Nat))(NB ms:List Nat):Bool:=
 (List.range ops.size).all fun i=>HA ops pos i&&((List.range ops.size).all fun j=>!decide (pos j<pos i)||HD P ops bar PT NB ms i j)&&(!R7 ops pos ms i||MD ops i)
def Vv(P:Program)(ops:Array Oper)(pos:Nat->Nat)(bar:Oper->Bool):Bool:=Te P ops pos bar [] [] (qX ops.toList [])
def Qi(ops:Array Oper)(pos:Nat->Nat)(σ:St):Bool:=
 let ms:=qX ops.toList []
 (List.range ops.size).all fun j=>!R7 ops pos ms j||(match(ops[j]?).bind (·.dst)with|some d=>YG σ d|none=>false)
theorem yL{xs:List Operand}(h:xs.any (JH d)=false):∀z∈xs,z≠ .tmp d:=by
 intro z hz he;subst he;have:=List.any_eq_false.1 h _ hz
 simp[JH]at this
theorem Nj{x:Oper}(h:Ol ops bar x y=true):bar x=false/\bar y=false/\∃dx dy,x.dst=some dx/\y.dst=some dy/\dx≠dy/\(∀z∈Qz ops y,z≠ .tmp dx)/\(∀z∈Qz ops x,z≠ .tmp dy)/\yv y=false/\(y.guard=none\/QL x=true\/x.guard.isSome=true):=by
 unfold Ol at h;rw[Bool.and_eq_true,Bool.and_eq_true]at h;obtain⟨⟨vP,wo⟩,h⟩:=h;refine⟨by simpa using vP,by simpa using wo,?_⟩;split at h
 ·rename_i dx dy h1 h2;simp only[Bool.and_eq_true,bne_iff_ne,ne_eq,Bool.not_eq_true',Bool.or_eq_true,Option.isNone_iff_eq_none]at h;exact⟨dx,dy,h1,h2,h.1.1.1.1,yL h.1.1.1.2,yL h.1.1.2,h.1.2,or_assoc.1 h.2⟩
 ·cases h
theorem QP{o:Ob}{T:TypeId}:look P (σ.ZT t j o) T x=look P σ T x:=by
 cases x with
 |tmp u=>simp[look,St.Yf]
 |const c=>rfl
 |global g=>rfl
 |func f=>rfl
theorem jr{σ:St}{d:Nat}{v:V}:∀(xs:List At),rowOf (σ.put d v) xs=rowOf σ xs
 |[]=>rfl
 |x::xs=>by
  have:Qn (σ.put d v) x=Qn σ x:=by cases x<;>simp[Qn,St.YV]
  simp only[rowOf,this,jr xs]
theorem IN{x:Oper}(h:OM bar x y=true)(wy:X1 P ops bar x σ σ1)(wJ:X1 P ops bar y σ1 σ2):∃σ1',Z1 P ops y σ σ1'/\Z1 P ops x σ1' σ2:=by
 unfold OM at h;simp only[Bool.and_eq_true,Bool.not_eq_true',Option.isNone_iff_eq_none]at h;obtain⟨⟨⟨⟨vP,wo⟩,tj⟩,uH⟩,h⟩:=h;have wy:=wy.resolve_right (fun hh=>by rw[vP]at hh;cases hh.1)
 have wJ:=wJ.resolve_right (fun hh=>by rw[wo]at hh;cases hh.1);split at h
 ·rename_i dx T p q vZ vw wA;simp only[Bool.and_eq_true,Bool.not_eq_true']at h;obtain⟨⟨hv,hp⟩,hq⟩:=h;unfold Z1 at wy wJ;simp only[tj,vZ]at wy;simp only[uH,vw,wA]at wJ;have e1:∃v,Zj P σ x.op x.type v/\σ1=σ.put dx v:=by unfold Step at wy;cases hx:x.op<;>rw[hx]at wy hv<;>first|exact wy|(exact Bool.noConfusion hv)
  obtain⟨v,v3,rfl⟩:=e1;have vF:∀(t j:Nat)(o:Ob),Zj P (σ.ZT t j o) x.op x.type v:=by intro t j o;cases hx:x.op<;>rw[hx]at hv v3<;>first|(exact Bool.noConfusion hv)|(simp only[Zj,QP]at v3⊢;exact v3)
  have ou:∀(t j:Nat)(o:Ob),Z1 P ops x (σ.ZT t j o) ((σ.put dx v).ZT t j o):=by
   intro t j o;unfold Z1;simp only[tj,vZ];have:=vF t j o
   rw[JL];unfold Step;cases hx:x.op<;>rw[hx]at hv this<;>first|exact⟨v,this,rfl⟩|(exact Bool.noConfusion hv)
  unfold Jh at wJ;rw[Z5 hp,Z5 hq]at wJ;obtain⟨k1,k2,k3,k4,wJ⟩:=wJ;split at wJ
  ·rename_i t c hl;obtain⟨cells,c1,c2,c3,rfl⟩:=wJ;rw[St.YV]at c1;refine⟨_,?_,ou _ _ _⟩;unfold Z1 Jh;simp only[uH,vw,wA];refine⟨k1,k2,k3,k4,?_⟩;rw[hl];exact⟨cells,c1,c2,c3,rfl⟩
  ·rename_i t j i c hl;obtain⟨q',size,rows,ds,c1,c2,c3,c4,c5,c6,c7,rfl⟩:=wJ;rw[St.YV]at c1;rw[jr]at c3;refine⟨_,?_,ou _ _ _⟩;unfold Z1 Jh;simp only[uH,vw,wA];refine⟨k1,k2,k3,k4,?_⟩;rw[hl];exact⟨q',size,rows,ds,c1,c2,c3,c4,c5,c6,c7,rfl⟩
  ·exact wJ.elim
 ·cases h
theorem JZ{T:TypeId}:look P σ T (.tmp t)=σ.get t:=rfl
theorem jl{op:Op}(ho:o.op=op)(h:qw PT b op=true):Step P o d σ σ'↔∃v,Zj P σ op o.type v/\σ'=σ.put d v:=by unfold Step;rw[ho];unfold qw at h;split at h<;>first|exact Iff.rfl|(exact Bool.noConfusion h)
theorem NT{op:Op}{ty:TypeId}{cells:List At}(h:qw PT b op=true)(hp:jz PT σ)(c1:σ.ob b 0= .box cells)(hv:Zj P σ op ty v):Zj P (σ.ZT b 0 (.box cs)) op ty v:=by
 have wC:σ.ob b 0≠ .none:=by rw[c1];intro e;cases e
 have ho:=fun u i=>St.YU σ b 0 (.box cs) u i wC;have vQ:∀t j,(∃q size rows,σ.ob t j= .arr q size rows)->∃q size rows,(σ.ZT b 0 (.box cs)).ob t j= .arr q size rows:=by
  rintro t j ⟨q,size,rows,e⟩;by_cases hh:t=b/\j=0
  ·obtain⟨rfl,rfl⟩:=hh;rw[c1]at e;cases e
  ·exact⟨q,size,rows,by rw[ho,if_neg hh];exact e⟩
 have tN:∀t j,(∃size rows,σ.ob t j= .lit size rows)->∃size rows,(σ.ZT b 0 (.box cs)).ob t j= .lit size rows:=by
  rintro t j ⟨size,rows,e⟩;by_cases hh:t=b/\j=0
  ·obtain⟨rfl,rfl⟩:=hh;rw[c1]at e;cases e
  ·exact⟨size,rows,by rw[ho,if_neg hh];exact e⟩
 have rp:∀t,(∃cells,σ.ob t 0= .box cells)->∃cells,(σ.ZT b 0 (.box cs)).ob t 0= .box cells:=by
  rintro t ⟨ce,e⟩;by_cases hh:t=b
  ·subst hh;exact⟨cs,by rw[ho,if_pos ⟨rfl,rfl⟩]⟩
  ·exact⟨ce,by rw[ho,if_neg (fun iN=>hh iN.1)];exact e⟩
 unfold qw at h;split at h
 ·rename_i T t;simp only[List.any_eq_true,Bool.and_eq_true,beq_iff_eq,bne_iff_ne,ne_eq]at h;obtain⟨r,iX,rfl,mK⟩:=h;simp only[Zj,QP]at hv⊢;refine⟨hv.1,hv.2.1,?_⟩;have hv:=hv.2.2
  rw[JZ]at hv⊢;rcases hp r iX with e|⟨c,e⟩
  ·rw[e]at hv;exact hv.elim
  ·rw[e]at hv⊢;obtain⟨ce,e1,e2,e3⟩:=hv;exact⟨ce,by rw[ho,if_neg (fun hh=>mK hh.1)];exact e1,e2,e3⟩
 ·simp only[Zj,QP]at hv⊢;refine⟨hv.1,hv.2.1,?_⟩;have hv:=hv.2.2
  split at hv
  ·rename_i e;first|exact⟨rp _ hv.1,hv.2⟩|(simp only[e];exact⟨rp _ hv.1,hv.2⟩)
  ·rename_i e;first|exact⟨vQ _ _ hv.1,hv.2⟩|(simp only[e];exact⟨vQ _ _ hv.1,hv.2⟩)
  ·rename_i e;first|exact hv|(simp only[e];exact hv)
  ·rename_i e;have hq:∀t j,(∃size rows,σ.ob t j= .arr true size rows)->∃size rows,(σ.ZT b 0 (.box cs)).ob t j= .arr true size rows:=by
    rintro t j ⟨size,rows,e⟩;by_cases hh:t=b/\j=0
    ·obtain⟨rfl,rfl⟩:=hh;rw[c1]at e;cases e
    ·exact⟨size,rows,by rw[ho,if_neg hh];exact e⟩
   first|exact⟨hq _ _ hv.1,hv.2⟩|(simp only[e];exact⟨hq _ _ hv.1,hv.2⟩)
  ·exact hv.elim
 ·simp only[Zj,QP]at hv⊢;exact hv
 ·simp only[Zj,QP]at hv⊢;exact hv
 ·simp only[Zj,QP]at hv⊢;exact hv
 ·simp only[Zj,QP]at hv⊢;exact hv
 ·simp only[Zj,QP]at hv⊢;refine⟨hv.1,?_⟩;have hv:=hv.2
  split at hv
  ·rename_i e;first|exact hv|(simp only[e];exact hv)
  ·rename_i e;first|exact hv|(simp only[e];exact hv)
  ·rename_i e;first|exact hv|(simp only[e];exact hv)
  ·rename_i e;first|exact⟨hv.1,hv.2.1.imp (vQ _ _) (tN _ _),hv.2.2⟩|(simp only[e];exact⟨hv.1,hv.2.1.imp (vQ _ _) (tN _ _),hv.2.2⟩)
  ·rename_i u j i c e;obtain⟨g1,size,rows,n,s,g2,g3⟩:=hv;have g4:(σ.ZT b 0 (.box cs)).ob u j= .arr true size rows:=by
    rw[ho];by_cases hh:u=b/\j=0
    ·obtain⟨rfl,rfl⟩:=hh;rw[c1]at g2;cases g2
    ·rw[if_neg hh];exact g2
   first|exact⟨g1,size,rows,n,s,g4,g3⟩|(simp only[e];exact⟨g1,size,rows,n,s,g4,g3⟩)
  ·exact hv.elim
 ·exact Bool.noConfusion h
theorem Hg{x:Oper}(h:swapT PT bar x y=true)(hp:jz PT σ)(wy:X1 P ops bar x σ σ1)(wJ:X1 P ops bar y σ1 σ2):∃σ1',Z1 P ops y σ σ1'/\Z1 P ops x σ1' σ2:=by
 unfold swapT at h;simp only[Bool.and_eq_true,Bool.not_eq_true',Option.isNone_iff_eq_none]at h;obtain⟨⟨⟨⟨vP,wo⟩,tj⟩,uH⟩,h⟩:=h;have wy:=wy.resolve_right (fun hh=>by rw[vP]at hh;cases hh.1)
 have wJ:=wJ.resolve_right (fun hh=>by rw[wo]at hh;cases hh.1);split at h
 ·rename_i dx T tp q vZ vw wA;simp only[Bool.and_eq_true,Bool.not_eq_true',List.any_eq_true,beq_iff_eq,bne_iff_ne,ne_eq]at h;obtain⟨⟨wC,hq⟩,p,pd,v9,hv⟩:=h;have wq:JH dx (.tmp tp)=false:=by simp[JH,wC]
  unfold Z1 at wy wJ;simp only[tj,vZ]at wy;simp only[uH,vw,wA]at wJ;obtain⟨v,v3,rfl⟩:=(jl rfl hv).1 wy;unfold Jh at wJ;rw[Z5 wq,Z5 hq,JZ]at wJ;obtain⟨k1,k2,k3,k4,wJ⟩:=wJ;have vx:=hp p pd
  rw[v9]at vx;rcases vx with vx|⟨c,vx⟩
  ·rw[vx]at wJ;exact wJ.elim
  ·rw[vx]at wJ;obtain⟨cells,c1,c2,c3,rfl⟩:=wJ;rw[St.YV]at c1;refine⟨σ.ZT p.2 0 (.box (place cells c (unc (look P σ T q)).cells)),?_,?_⟩
   ·unfold Z1 Jh;simp only[uH,vw,wA];refine⟨k1,by rw[JZ];exact k2,k3,k4,?_⟩;rw[JZ,vx];exact⟨cells,c1,c2,c3,rfl⟩
   ·unfold Z1;simp only[tj,vZ];rw[JL];exact(jl rfl hv).2 ⟨v,NT hv hp c1 v3,rfl⟩
 ·cases h
theorem K1:∀(σ:St)(d:Nat),σ.put d (σ.get d)=σ
 |[],_=>rfl
 |e::σ,0=>by simp[St.put,St.get]
 |e::σ,d+1=>by have:=K1 σ d;simp only[St.put,St.get,List.getElem?_cons_succ]at this⊢;rw[this]
theorem WR:∀(σ:St)(d:Nat)(v v':V),(σ.put d v).put d v'=σ.put d v'
 |[],_,_,_=>rfl
 |e::σ,0,_,_=>rfl
 |e::σ,d+1,v,v'=>by simp[St.put,WR σ d v v']
theorem Tk(h:∀u,σ'.get u=σ.get u){T:TypeId}:look P σ' T x=look P σ T x:=by
 cases x with
 |tmp u=>exact h u
 |const c=>rfl
 |global g=>rfl
 |func f=>rfl
theorem Ht{x:Oper}(h:OG bar x y=true)(vZ:x.dst=some d)(wb:YG σ d=true)(wy:X1 P ops bar x σ σ1)(wJ:X1 P ops bar y σ1 σ2):∃σ1',X1 P ops bar y σ σ1'/\Z1 P ops x σ1' σ2:=by
 unfold OG at h;simp only[vZ,Bool.and_eq_true,Bool.not_eq_true',Option.isNone_iff_eq_none]at h;obtain⟨⟨⟨⟨⟨⟨vP,wo⟩,tj⟩,wY,vm⟩,uH⟩,vw⟩,hv,hu⟩:=h;have wy:=wy.resolve_right (fun hh=>by rw[vP]at hh;cases hh.1)
 unfold Z1 at wy;simp only[tj,vZ]at wy;have e1:∃v,Zj P σ x.op x.type v/\σ1=σ.put d v:=by unfold Step at wy;cases hx:x.op<;>rw[hx]at wy hv<;>first|exact wy|(exact Bool.noConfusion hv)
 obtain⟨v,v3,rfl⟩:=e1;have back:∀σ',(∀u,σ'.get u=σ.get u)->Z1 P ops x σ' (σ'.put d v):=by
  intro σ' hg;unfold Z1;simp only[tj,vZ];have:Zj P σ' x.op x.type v:=by cases hx:x.op<;>rw[hx]at hv v3<;>first|(exact Bool.noConfusion hv)|(simp only[Zj,Tk hg]at v3⊢;exact v3)
  unfold Step;cases hx:x.op<;>rw[hx]at hv this<;>first|exact⟨v,this,rfl⟩|(exact Bool.noConfusion hv)
 rcases wJ with wJ|⟨_,_,_,hk,_⟩
 · -- a plain store
  unfold xM at wY;split at wY
  ·rename_i T p q wA;simp only[yG,wA,Bool.and_eq_true,Bool.not_eq_true']at hu;unfold Z1 at wJ;simp only[uH,vw,wA]at wJ;unfold Jh at wJ;rw[Z5 hu.1,Z5 hu.2]at wJ;obtain⟨k1,k2,k3,k4,wJ⟩:=wJ;split at wJ
   ·rename_i t c hl;obtain⟨cells,c1,c2,c3,rfl⟩:=wJ;rw[St.YV]at c1;refine⟨σ.ZT t 0 (.box (place cells c (unc (look P σ T q)).cells)),.inl ?_,?_⟩
    ·unfold Z1 Jh;simp only[uH,vw,wA];refine⟨k1,k2,k3,k4,?_⟩;rw[hl];exact⟨cells,c1,c2,c3,rfl⟩
    ·rw[JL];exact back _ (fun u=>St.Yf _ _ _ _ _)
   ·rename_i t j i c hl;obtain⟨q',size,rows,ds,c1,c2,c3,c4,c5,c6,c7,rfl⟩:=wJ;rw[St.YV]at c1;rw[jr]at c3;refine⟨σ.ZT t j (.arr q' size (rows.set i (place (rows.getD i []) c ds))),.inl ?_,?_⟩
    ·unfold Z1 Jh;simp only[uH,vw,wA];refine⟨k1,k2,k3,k4,?_⟩;rw[hl];exact⟨q',size,rows,ds,c1,c2,c3,c4,c5,c6,c7,rfl⟩
    ·rw[JL];exact back _ (fun u=>St.Yf _ _ _ _ _)
   ·exact wJ.elim
  ·cases wY
 ·obtain⟨⟨uT,vD⟩,wx,rp⟩:=(hk wY).resolve_right (fun e=>by rw[vm]at e;cases e.1);rw[St.YY]at uT;have tq:VY (σ.get d)=true:=by rw[JJ]at wb;unfold St.get;rcases wb with e|⟨x',e⟩<;>rw[e]<;>rfl
  have hq:∀l:List (Nat×V),(σ.put d v).XK ((d,σ.get d)::l)=σ.XK l:=fun l=>by rw[St.XK,WR,K1]
  have h0:=wx [(d,σ.get d)] (fun p hp=>by cases List.mem_singleton.1 hp;exact⟨hu,tq⟩);rw[hq []]at h0;have hlen:d<σ.length:=by rw[JJ]at wb;rcases wb with e|⟨x',e⟩<;>exact(List.getElem?_eq_some_iff.1 e).1
  have sZ:∀u,(σ2.put d (σ.get d)).get u=σ.get u:=fun u=>by
   rw[St.Xm];by_cases s6:u=d/\d<σ2.length
   ·rw[if_pos s6,s6.1]
   ·rw[if_neg s6,vD,St.Xm];have pg:¬u=d:=fun e=>s6 ⟨e,by rw[uT];exact hlen⟩
    rw[if_neg (fun hh=>pg hh.1)]
  refine⟨σ2.put d (σ.get d),.inr ⟨wo,h0.1,h0.2,fun _=>.inl ⟨⟨by rw[St.YY];exact uT,sZ⟩,fun l hl=>?_,fun t cells hb=>by rw[St.YV];exact rp t cells (by rw[St.YV];exact hb)⟩,fun hh=>(by rw[Rn wY]at hh;cases hh),fun hh _=>(by rw[Pe wY]at hh;cases hh)⟩,?_⟩
  ·have:=wx ((d,σ.get d)::l) (fun p hp=>by
    rcases List.mem_cons.1 hp with rfl|hp
    ·exact⟨hu,tq⟩
    ·exact hl p hp)
   rw[hq l]at this;exact this
  ·have:=back _ sZ;rw[WR]at this;have e:σ2.put d v=σ2:=by have g1:=vD d;rw[St.Xm,if_pos ⟨rfl,hlen⟩]at g1;rw[<-g1];exact K1 σ2 d
   rw[e]at this;exact this
theorem Hb{x:Oper}(h:Po PT NB bar x y=true)(hp:jz PT σ)(oa:U8 NB σ)(vZ:x.dst=some d)(wb:YG σ d=true)(wy:X1 P ops bar x σ σ1)(wJ:X1 P ops bar y σ1 σ2):∃σ1',X1 P ops bar y σ σ1'/\Z1 P ops x σ1' σ2:=by
 unfold Po at h;simp only[vZ,Bool.and_eq_true,Bool.not_eq_true',Option.isNone_iff_eq_none]at h;obtain⟨⟨⟨⟨⟨⟨vP,wo⟩,tj⟩,wY,vm⟩,uH⟩,vw⟩,h⟩:=h;have wy:=wy.resolve_right (fun hh=>by rw[vP]at hh;cases hh.1)
 split at h
 ·rename_i dx T tp q mE wA;cases mE;simp only[Bool.and_eq_true,Bool.not_eq_true',bne_iff_ne,ne_eq,List.contains_iff_mem]at h;obtain⟨⟨⟨iY,wC⟩,hq⟩,hv⟩:=h;have wq:JH d (.tmp tp)=false:=by simp[JH,wC]
  have hu:yG y d=true:=by simp only[yG,wA,wq,hq];rfl
  unfold Z1 at wy;simp only[tj,vZ]at wy;have e1:∃v,Zj P σ x.op x.type v/\σ1=σ.put d v:=by unfold Step at wy;cases hx:x.op<;>rw[hx]at wy hv<;>first|exact wy|(exact Bool.noConfusion hv)
  obtain⟨v,v3,rfl⟩:=e1;have back:∀σ',(∀u,σ'.get u=σ.get u)->(∀t cells,σ.ob t 0= .box cells->σ'.ob t 0= .box cells)->Z1 P ops x σ' (σ'.put d v):=by
   intro σ' hg rp;unfold Z1;simp only[tj,vZ];have:Zj P σ' x.op x.type v:=by
    cases hx:x.op<;>rw[hx]at hv v3<;>try exact Bool.noConfusion hv
    case load T' z=>
     cases z with
     |tmp t=>
      simp only[List.any_eq_true,beq_iff_eq]at hv;obtain⟨p,pd,v9⟩:=hv;simp only[Zj,Tk hg]at v3⊢;refine⟨v3.1,v3.2.1,?_⟩;have vF:=v3.2.2
      have vx:=hp p pd;rw[v9]at vx;rw[JZ]at vF⊢;rcases vx with e|⟨c,e⟩
      ·rw[e]at vF;exact vF.elim
      ·rw[e]at vF⊢;obtain⟨ce,k1,k2⟩:=vF;exact⟨ce,rp _ _ k1,k2⟩
     |_=>exact Bool.noConfusion hv
    case fieldAddr T' z f=>
     cases z with
     |tmp t=>
      simp only[List.any_eq_true,beq_iff_eq]at hv;obtain⟨p,pd,v9⟩:=hv;simp only[Zj,Tk hg]at v3⊢;refine⟨v3.1,v3.2.1,?_⟩;have vF:=v3.2.2
      have vx:=hp p pd;rw[v9]at vx;rw[JZ]at vF⊢;rcases vx with e|⟨c,e⟩
      ·rw[e]at vF;exact vF.elim
      ·rw[e]at vF⊢;obtain⟨⟨ce,k1⟩,k2⟩:=vF;exact⟨⟨ce,rp _ _ k1⟩,k2⟩
     |_=>exact Bool.noConfusion hv
   unfold Step;cases hx:x.op<;>rw[hx]at hv this<;>first|exact⟨v,this,rfl⟩|(exact Bool.noConfusion hv)
  rcases wJ with wJ|⟨_,_,_,hk,_⟩
  ·unfold Z1 at wJ;simp only[uH,vw,wA]at wJ;unfold Jh at wJ;rw[Z5 wq,Z5 hq]at wJ;obtain⟨k1,k2,k3,k4,wJ⟩:=wJ;split at wJ
   ·rename_i t c hl;exact absurd hl (oa tp iY t c)
   ·rename_i t j i c hl;obtain⟨q',size,rows,ds,c1,c2,c3,c4,c5,c6,c7,rfl⟩:=wJ;rw[St.YV]at c1;rw[jr]at c3;refine⟨σ.ZT t j (.arr q' size (rows.set i (place (rows.getD i []) c ds))),.inl ?_,?_⟩
    ·unfold Z1 Jh;simp only[uH,vw,wA];refine⟨k1,k2,k3,k4,?_⟩;rw[hl];exact⟨q',size,rows,ds,c1,c2,c3,c4,c5,c6,c7,rfl⟩
    ·rw[JL];refine back _ (fun u=>St.Yf _ _ _ _ _) (fun b cells hb=>?_);have sQ:σ.ob t j≠ .none:=by rw[c1];simp
     rw[St.YU σ t j _ b 0 sQ];split
     ·rename_i hc;rw[hc.1,hc.2]at hb;rw[c1]at hb;cases hb
     ·exact hb
   ·exact wJ.elim
  ·obtain⟨⟨uT,vD⟩,wx,rp⟩:=(hk wY).resolve_right (fun e=>by rw[vm]at e;cases e.1);rw[St.YY]at uT;have tq:VY (σ.get d)=true:=by rw[JJ]at wb;unfold St.get;rcases wb with e|⟨x',e⟩<;>rw[e]<;>rfl
   have lj:∀l:List (Nat×V),(σ.put d v).XK ((d,σ.get d)::l)=σ.XK l:=fun l=>by rw[St.XK,WR,K1]
   have h0:=wx [(d,σ.get d)] (fun p hp=>by cases List.mem_singleton.1 hp;exact⟨hu,tq⟩);rw[lj []]at h0;have hlen:d<σ.length:=by rw[JJ]at wb;rcases wb with e|⟨x',e⟩<;>exact(List.getElem?_eq_some_iff.1 e).1
   have sZ:∀u,(σ2.put d (σ.get d)).get u=σ.get u:=fun u=>by
    rw[St.Xm];by_cases s6:u=d/\d<σ2.length
    ·rw[if_pos s6,s6.1]
    ·rw[if_neg s6,vD,St.Xm];have pg:¬u=d:=fun e=>s6 ⟨e,by rw[uT];exact hlen⟩
     rw[if_neg (fun hh=>pg hh.1)]
   have ov:∀t cells,σ.ob t 0= .box cells->(σ2.put d (σ.get d)).ob t 0= .box cells:=fun t cells hb=>by rw[St.YV];exact rp t cells (by rw[St.YV];exact hb)
   refine⟨σ2.put d (σ.get d),.inr ⟨wo,h0.1,h0.2,fun _=>.inl ⟨⟨by rw[St.YY];exact uT,sZ⟩,fun l hl=>?_,ov⟩,fun hh=>(by rw[Rn wY]at hh;cases hh),fun hh _=>(by rw[Pe wY]at hh;cases hh)⟩,?_⟩
   ·have:=wx ((d,σ.get d)::l) (fun p hp=>by
     rcases List.mem_cons.1 hp with rfl|hp
     ·exact⟨hu,tq⟩
     ·exact hl p hp)
    rw[lj l]at this;exact this
   ·have:=back _ sZ ov;rw[WR]at this;have e:σ2.put d v=σ2:=by have g1:=vD d;rw[St.Xm,if_pos ⟨rfl,hlen⟩]at g1;rw[<-g1];exact K1 σ2 d
    rw[e]at this;exact this
 ·cases h
theorem Gn(vD:∀t,t≠d->σ1.get t=σ.get t/\(σ.get t).ref d=false)(uB:∀t j cells,t≠d->σ1.ob t j= .box cells->σ.ob t j= .box cells/\Zd d cells=false)
  (vQ:∀t j q s rows,t≠d->σ1.ob t j= .arr q s rows->∃wQ,σ.ob t j= .arr q s wQ) (hp:jz PT σ) {op:Op} {ty:TypeId} (tX:NS PT op=true) (u7:∀z∈op.operands.toList,z≠ .tmp d) (hv:Zj P σ1 op ty v):Zj P σ op ty v/\v.ref d=false:=by
 have hl:∀(z:Operand)(T:TypeId),z≠ .tmp d->look P σ1 T z=look P σ T z:=by
  intro z T hz;cases z with
  |tmp u=>exact(vD u (fun e=>hz (by rw[e]))).1
  |const c=>rfl
  |global g=>rfl
  |func f=>rfl
 have hr:∀(z:Operand)(T:TypeId),z≠ .tmp d->(look P σ T z).ref d=false:=by
  intro z T hz;cases z with
  |tmp u=>exact(vD u (fun e=>hz (by rw[e]))).2
  |const c=>exact xa T c d
  |global g=>rfl
  |func f=>rfl
 have wC:∀(z:Operand)(T:TypeId)(x:At),z≠ .tmp d->unc (look P σ T z)= .one x->x.ref d=false:=by
  intro z T x hz hu;cases hx:x.ref d with
  |false=>rfl
  |true=>have:=YS hu hx;rw[hr z T hz]at this;cases this
 refine⟨?_,?_⟩
 ·cases op<;>simp only[NS]at tX<;>try exact Bool.noConfusion tX
  case move x=>simp only[Zj]at hv⊢;rw[hv,hl x ty (u7 x fV)]
  case load T x=>
   cases x with
   |tmp t=>
    have ht:Operand.tmp t≠ .tmp d:=u7 _ fV;simp only[List.any_eq_true,beq_iff_eq]at tX;obtain⟨p,pd,v9⟩:=tX;simp only[Zj]at hv⊢;rw[hl _ 0 ht]at hv;refine⟨hv.1,hv.2.1,?_⟩;have vF:=hv.2.2;have vx:=hp p pd;rw[v9]at vx;rw[JZ]at vF⊢;rcases vx with e|⟨c,e⟩
    ·rw[e]at vF;exact vF.elim
    ·rw[e]at vF⊢;obtain⟨ce,e1,e2⟩:=vF;have hb:p.2≠d:=by have:=wC (.tmp t) 0 (.bptr p.2 c) ht (by rw[JZ];exact e);simpa[At.ref]using this
     exact⟨ce,(uB _ _ _ hb e1).1,e2⟩
   |_=>exact Bool.noConfusion tX
  case fieldAddr T x f=>
   cases x with
   |tmp t=>
    have ht:Operand.tmp t≠ .tmp d:=u7 _ fV;simp only[Zj]at hv⊢;rw[hl _ 0 ht]at hv;refine⟨hv.1,hv.2.1,?_⟩;have vF:=hv.2.2;split at vF
    ·rename_i t' c e;have hb:t'≠d:=fx
     obtain⟨⟨ce,e1⟩,e2⟩:=vF;first|exact⟨⟨ce,(uB _ _ _ hb e1).1⟩,e2⟩|(simp only[e];exact⟨⟨ce,(uB _ _ _ hb e1).1⟩,e2⟩)
    ·rename_i t' j i c e;have hb:t'≠d:=fx
     obtain⟨⟨q,s,rows,e1⟩,e2⟩:=vF;obtain⟨wQ,e3⟩:=vQ _ _ _ _ _ hb e1;first|exact⟨⟨q,s,wQ,e3⟩,e2⟩|(simp only[e];exact⟨⟨q,s,wQ,e3⟩,e2⟩)
    ·rename_i rr c e;first|exact vF|(simp only[e];exact vF)
    ·rename_i t' j i c k e;have hb:t'≠d:=fx
     obtain⟨⟨s,rows,e1⟩,e2⟩:=vF;obtain⟨wQ,e3⟩:=vQ _ _ _ _ _ hb e1;first|exact⟨⟨s,wQ,e3⟩,e2⟩|(simp only[e];exact⟨⟨s,wQ,e3⟩,e2⟩)
    ·exact vF.elim
   |_=>exact Bool.noConfusion tX
  case slice T x lo hi mx=>
   cases x with
   |tmp t=>
    cases mx with
    |some m=>exact Bool.noConfusion tX
    |none=>
     have ht:Operand.tmp t≠ .tmp d:=u7 _ fV;have sa:∀(df n:Nat)(z:Option Operand),(∀y,z=some y->y≠ .tmp d)->bnd P σ1 df z n->bnd P σ df z n:=by
      intro df n z hz h;cases z with
      |none=>exact h
      |some z=>simp only[bnd]at h⊢;rw[hl z 0 (hz z rfl)]at h;exact h
     have ud:∀y,lo=some y->y≠ .tmp d:=fun y e=>u7 y (by subst e;simp[Op.operands]);have tr:∀y,hi=some y->y≠ .tmp d:=fun y e=>u7 y (by subst e;simp[Op.operands]);simp only[Zj]at hv⊢;rw[hl _ 0 ht]at hv;refine⟨hv.1,?_⟩;have vF:=hv.2;split at vF
     ·rename_i s e;obtain⟨h1,l,h,h2,h3,h4⟩:=vF;first|exact⟨h1,l,h,sa _ _ _ ud h2,sa _ _ _ tr h3,h4⟩|(simp only[e];exact⟨h1,l,h,sa _ _ _ ud h2,sa _ _ _ tr h3,h4⟩)
     ·rename_i s rows e;obtain⟨h1,h0,l,h,h2,h3,h4⟩:=vF;first|exact⟨h1,h0,l,h,sa _ _ _ ud h2,sa _ _ _ tr h3,h4⟩|(simp only[e];exact⟨h1,h0,l,h,sa _ _ _ ud h2,sa _ _ _ tr h3,h4⟩)
     ·rename_i t' j o len e;have hb:t'≠d:=fx
      obtain⟨h1,⟨q,rows,e1⟩,l,h,h2,h3,h4⟩:=vF;obtain⟨wQ,e3⟩:=vQ _ _ _ _ _ hb e1;first|exact⟨h1,⟨q,wQ,e3⟩,l,h,sa _ _ _ ud h2,sa _ _ _ tr h3,h4⟩|(simp only[e];exact⟨h1,⟨q,wQ,e3⟩,l,h,sa _ _ _ ud h2,sa _ _ _ tr h3,h4⟩)
     ·exact vF.elim
   |_=>exact Bool.noConfusion tX
 ·cases hx:v.ref d with
  |false=>rfl
  |true=>
   obtain⟨z,hz,T,h1⟩:=VX hv hx;rw[hl z T (u7 z hz)]at h1;rcases h1 with h1|⟨t,cells,h1,h2,h3⟩
   ·rw[hr z T (u7 z hz)]at h1;cases h1
   ·by_cases pj:t=d
    ·rw[pj,hr z T (u7 z hz)]at h1;cases h1
    ·have:=(uB t 0 cells pj h2).2;rw[this]at h3;cases h3
theorem HX{x:Oper}(h:PX PT ops bar x y=true)(hp:jz PT σ)(vZ:x.dst=some d)(wb:YG σ d=true)(wy:X1 P ops bar x σ σ1)(wJ:X1 P ops bar y σ1 σ2):∃σ1',X1 P ops bar y σ σ1'/\X1 P ops bar x σ1' σ2:=by
 unfold PX at h;simp only[Bool.and_eq_true,Bool.not_eq_true',Option.isNone_iff_eq_none]at h;obtain⟨⟨⟨⟨⟨⟨vP,wo⟩,s4⟩,tj⟩,uH⟩,tX⟩,h⟩:=h;rw[vZ]at h;cases vw:y.dst with
 |none=>rw[vw]at h;cases h
 |some dy=>
  rw[vw]at h;simp only[Bool.and_eq_true,Bool.not_eq_true',bne_iff_ne,ne_eq]at h;obtain⟨⟨wC,uy⟩,sO⟩:=h;have ow:=yL uy
  have ox:=yL sO;have wJ:=wJ.resolve_right (fun hh=>by rw[wo]at hh;cases hh.1);rcases wy with wy|⟨_,gq,gr,_,s3,_⟩
  ·have vA:yv y=false:=by unfold yv;cases wA:y.op<;>rw[wA]at tX<;>first|rfl|(exact Bool.noConfusion tX)
   obtain⟨σ1',hy,hx⟩:=swap vZ vw wC ow ox vA (.inl uH) wb wy wJ;exact⟨σ1',.inl hy,.inl hx⟩
  ·obtain⟨d',wL,hlen,vD,uB,vQ,wx⟩:=s3 s4;rw[vZ]at wL;cases wL;have e2:∃v,Zj P σ1 y.op y.type v/\σ2=σ1.put dy v:=by unfold Z1 at wJ;simp only[uH,vw]at wJ;unfold Step at wJ;cases wA:y.op<;>rw[wA]at wJ tX<;>first|exact wJ|(exact Bool.noConfusion tX)
   obtain⟨v,hv,rfl⟩:=e2;obtain⟨ra,pe⟩:=Gn vD uB vQ hp tX (fun z hz=>ow z (by simp only[Qz,List.mem_append];exact .inl hz)) hv;have ib:Ws x dy=true:=by
    simp only[Ws,Bool.not_eq_true'];refine List.any_eq_false.2 (fun z hz=>?_);have:=ox z (by simp only[Qz,List.mem_append];exact .inl hz)
    cases z<;>simp[JH]at this⊢;exact this
   have wT:∀p∈[(dy,v)],p.1≠d/\Ws x p.1=true/\p.2.ref d=false:=fun p hp=>by cases List.mem_singleton.1 hp;exact⟨fun e=>wC e.symm,ib,pe⟩
   have h0:=wx [(dy,v)] wT;refine⟨σ.put dy v,.inl ?_,.inr ⟨vP,h0.1,h0.2,fun hh=>(by rw[Rn hh]at s4;cases s4),fun _=>⟨d,vZ,by rw[St.YY,St.YY];exact hlen,fun t ht=>?_,fun t j cells ht hb=>?_,fun t j q s rows ht hb=>?_,fun l hl=>?_⟩,fun hh _=>(by rw[LW s4]at hh;cases hh)⟩⟩
   ·unfold Z1;simp only[uH,vw];unfold Step;cases wA:y.op<;>rw[wA]at ra tX<;>first|exact⟨v,ra,rfl⟩|(exact Bool.noConfusion tX)
   ·have h1:=vD t ht;rw[St.Xm,St.Xm,hlen];by_cases hc:t=dy/\dy<σ.length
    ·simp only[if_pos hc];exact⟨trivial,pe⟩
    ·simp only[if_neg hc];exact h1
   ·rw[St.YV]at hb⊢;exact uB t j cells ht hb
   ·rw[St.YV]at hb⊢;exact vQ t j q s rows ht hb
   ·exact wx ((dy,v)::l) (fun p hp=>by
     rcases List.mem_cons.1 hp with rfl|hp
     ·exact wT _ fM
     ·exact hl p hp)
theorem Mj(hn:σ.ob t j≠ .none):σ.ZT t j (σ.ob t j)=σ:=by
 apply List.ext_getElem?;intro u;rw[Yn];by_cases hu:u=t
 ·subst hu;obtain⟨e,he,ho⟩:=jg (σ:=σ) (t:=u) (j:=j) rfl hn;rw[if_pos rfl,he,Option.map_some];have:e.2.set j (σ.ob u j)=e.2:=by
   rw[<-ho];apply List.ext_getElem?;intro k;rw[List.getElem?_set];by_cases hk:j=k
   ·subst hk;rw[if_pos rfl];split
    ·rename_i wO;unfold Zq;rw[List.getElem?_eq_getElem wO]
    ·rename_i wO;exact(List.getElem?_eq_none fJ).symm
   ·rw[if_neg hk]
  rw[this]
 ·rw[if_neg hu]
theorem Oo(σ:St)(t j:Nat)(o o':Ob):(σ.ZT t j o).ZT t j o'=σ.ZT t j o':=by
 apply List.ext_getElem?;intro u;rw[Yn,Yn,Yn];by_cases hu:u=t
 ·simp only[if_pos hu];cases σ[u]?<;>simp
 ·simp only[if_neg hu]
section
variable{cells:List At}{os:Option (List Ob)}
theorem ju:(Qy t d cs v os σ).length=σ.length:=by cases os<;>simp[Qy,St.YY,St.yj,St.YD]
theorem Rz(h:u≠d):(Qy t d cs v os σ).get u=σ.get u:=by cases os<;>simp[Qy,St.Xm,St.y6,St.Yf,h]
theorem HZ(hb:σ.ob t 0= .box cells)(hu:os≠none->u≠d):(Qy t d cs v os σ).ob u j=if u=t/\j=0 then .box cs else σ.ob u j:=by
 have hn:σ.ob t 0≠ .none:=by rw[hb];simp
 cases os with
 |none=>simp only[Qy,St.YV];exact St.YU σ t 0 _ u j hn
 |some l=>have:=hu fM;simp only[Qy,St.Xj,this,false_and,if_false];exact St.YU σ t 0 _ u j hn
theorem W2:(Qy t d cs v os σ)[u]?=if u=d then(σ[u]?).map (fun e=>(v,match os with|some l=>l|none=>if u=t then e.2.set 0 (.box cs)else e.2))else if u=t then(σ[u]?).map (fun e=>(e.1,e.2.set 0 (.box cs)))else σ[u]?:=by cases os<;>simp only[Qy,K5,JB,Yn]<;>by_cases h1:u=d<;>by_cases h2:u=t<;>simp[h1,h2]<;>(try subst h1)<;>(try subst h2)<;>(try simp_all)<;>(first|(cases σ[u]?<;>rfl)|(cases σ[t]?<;>rfl)|(cases σ[d]?<;>rfl))
theorem U2(vA:∀a j w l,e≠ .drop a j w l)(h1:dx≠d)(h2:(∀w,e≠ .put w)->t≠dx):e.ap dx (Qy t d cs v os σ)=Qy t d cs v os (e.ap dx σ):=by
 apply List.ext_getElem?;intro u;rw[W2];cases e with
 |put w=>
  simp only[Eff.ap,K5,W2];by_cases e1:u=dx
  ·subst e1;simp only[if_true,if_neg h1];by_cases e2:u=t<;>simp[e2]<;>(first|(cases σ[u]?<;>rfl)|(cases σ[t]?<;>rfl)|rfl)
  ·simp only[if_neg e1]
 |new w l=>
  have h3:=h2 (by intro w h;cases h);simp only[Eff.ap,JB,W2];by_cases e1:u=dx
  ·subst e1;simp only[if_true,if_neg h1,if_neg (Ne.symm h3)]
  ·simp only[if_neg e1]
 |drop a j w l=>exact absurd rfl (vA a j w l)
theorem Mp(h:σ.fresh u=true)(uM:Zd u cs=false)(hv:v.ref u=false/\∀l,os=some l->Zu u l=false):(Qy t d cs v os σ).fresh u=true:=by
 have hf:=Yd.1 h;refine Yd.2 ⟨by rw[ju];exact hf.1,fun k e he hk=>?_⟩;rw[W2]at he;have oy:∀oK,Zu u oK=false->Zu u (oK.set 0 (.box cs))=false:=by
  intro oK h0;cases oK with
  |nil=>exact h0
  |cons o oK=>simp only[List.set_cons_zero];cases o<;>simp_all[Zu]
 by_cases h1:k=d
 ·rw[if_pos h1]at he;simp only[Option.map_eq_some_iff]at he;obtain⟨e0,u9,rfl⟩:=he;refine⟨hv.1,?_⟩;cases os with
  |some l=>exact hv.2 l rfl
  |none=>
   have:=(hf.2 k e0 u9 hk).2;simp only;split
   ·exact oy _ this
   ·exact this
 ·rw[if_neg h1]at he;split at he
  ·simp only[Option.map_eq_some_iff]at he;obtain⟨e0,u9,rfl⟩:=he;exact⟨(hf.2 k e0 u9 hk).1,oy _ (hf.2 k e0 u9 hk).2⟩
  ·exact hf.2 k e he hk
theorem Pz(hb:σ.ob t 0= .box cells)(h:(Qy t d cs v os σ).fresh u=true)(wb:YG σ d=true)(iL:Zd u cells=false):σ.fresh u=true:=by
 have hf:=Yd.1 h;refine Yd.2 ⟨by rw[<-ju (σ:=σ)];exact hf.1,fun k e he hk=>?_⟩;by_cases h1:k=d
 ·rw[h1]at he;exact W9 wb he u
 ·by_cases h2:k=t
  ·have:=hf.2 k (e.1,e.2.set 0 (.box cs)) (by rw[W2,if_neg h1,if_pos h2,he];rfl) hk;refine⟨this.1,?_⟩;have h3:=this.2;rw[h2]at he;rw[TT he]at hb;cases nX:e.2 with
   |nil=>rfl
   |cons o oK=>
    rw[nX]at hb h3;have hb:o= .box cells:=hb
    subst hb;simp only[List.set_cons_zero,Zu,Bool.or_eq_false_iff]at h3⊢;exact⟨iL,h3.2⟩
  ·exact hf.2 k e (by rw[W2,if_neg h1,if_neg h2];exact he) hk
theorem P3{x:Oper}(hg:x.guard=none)(vZ:x.dst=some dx)(wC:dx≠d)(pG:∀z∈Qz ops x,z≠ .tmp d)(hb:σ.ob t 0= .box cells)(w8:os≠none->(σ.ZT t 0 (.box cs)).fresh d=true)
  (v9:jz PT σ) (uB:∀b,RZ PT y=some b->b=t) (vJ:W8 PT y x=true) (hA:A=σ\/A=Qy t d cs v os σ) (hs:Z1 P ops x A σ2):
  ∃e:Eff,σ2=e.ap dx A/\(∀a j w l,e≠ .drop a j w l)/\e.ok dx A/\∀B,(B=σ\/B=Qy t d cs v os σ)->e.ok dx B->Z1 P ops x B (e.ap dx B)/\∀u,u≠dx->e.ref u=true->WN P (Qz ops x) B u:=by
 have wA:Qz ops x=x.op.operands.toList:=by simp[Qz,hg]
 simp only[W8,Bool.or_eq_true,Bool.and_eq_true,Bool.not_eq_true']at vJ;have oz:A.length=σ.length:=by rcases hA with rfl|rfl<;>simp[ju]
 rcases vJ with⟨hc,vA⟩|hf
 ·obtain⟨e,rfl,wT,hdr,_,sw,mL⟩:=zJ vZ hs;refine⟨e,rfl,(fun a j w l h=>by have:=(hdr a j w l h).1;rw[vA]at this;cases this),wT,fun B hB mA=>?_⟩;have o0:B.length=σ.length:=by rcases hB with rfl|rfl<;>simp[ju]
  have hk:∀z∈Qz ops x,∃c,z= .const c:=by
   intro z hz;rw[wA]at hz;have:=List.all_eq_true.1 hc z hz
   cases z<;>first|exact⟨_,rfl⟩|cases this
  have we:Sub P (Qz ops x) A B:=⟨by rw[oz,o0],fun z hz ty=>by obtain⟨c,rfl⟩:=hk z hz;rfl,fun z hz ty u hr=>by obtain⟨c,rfl⟩:=hk z hz;have h0:=xa (P:=P) ty c u;simp only[look]at hr;rw[h0]at hr;cases hr⟩;have tu:∀u,¬WN P (Qz ops x) A u:=by rintro u ⟨z,hz,ty,h|⟨_,_,h,_,_⟩⟩<;>(obtain⟨c,rfl⟩:=hk z hz;have h0:=xa (P:=P) ty c;simp only[look]at h;rw[h0]at h;cases h)
  exact⟨mL B we mA,fun u hu hr=>absurd (sw hg u hu hr) (tu u)⟩
 ·split at hf
  ·rename_i b iP;have mT:=uB b iP
   subst mT;have ic:Step P x dx A σ2:=by unfold Z1 at hs;simp only[hg,vZ]at hs;exact hs
   obtain⟨w,hw,rfl⟩:=(jl rfl hf).1 ic;refine⟨.put w,rfl,(fun a j w' l h=>by cases h),trivial,fun B hB _=>?_⟩;have ph:∀z∈x.op.operands.toList,∀ty,look P (Qy b d cs v os σ) ty z=look P (σ.ZT b 0 (.box cs)) ty z:=fun z hz ty=>by rw[QP];exact look_eq (fun u hu=>Rz hu) (pG z (by rw[wA];exact hz)) ty
   have tu:os≠none->∀z∈x.op.operands.toList,∀ty,(look P (σ.ZT b 0 (.box cs)) ty z).ref d=false:=fun hn z hz ty=>
    QV (fun t' e he nm=>((Yd.1 (w8 hn)).2 t' e he nm).1) (pG z (by rw[wA];exact hz)) ty
   have o5:∀u,(os≠none->u≠d)->∀j,(Qy b d cs v os σ).ob u j=(σ.ZT b 0 (.box cs)).ob u j:=fun u hu j=>by rw[HZ hb hu,St.YU _ _ _ _ _ _ (by rw[hb];simp)]
   have fw:Zj P (σ.ZT b 0 (.box cs)) x.op x.type w->Zj P (Qy b d cs v os σ) x.op x.type w:=fun hv=>zh hv
    ⟨by rw[ju,St.YD],fun z hz ty=>(ph z hz ty).symm,fun z hz ty u hr j _=>o5 u (fun hn e=>by subst e;rw[tu hn z hz ty]at hr;cases hr) j⟩
   have bw:Zj P (Qy b d cs v os σ) x.op x.type w->Zj P (σ.ZT b 0 (.box cs)) x.op x.type w:=fun hv=>zh hv
    ⟨by rw[ju,St.YD],fun z hz ty=>ph z hz ty,fun z hz ty u hr j _=>(o5 u (fun hn e=>by subst e;rw[ph z hz ty,tu hn z hz ty]at hr;cases hr) j).symm⟩
   have mU:jz PT (σ.ZT b 0 (.box cs)):=fun p hp=>by rw[St.Yf];exact v9 p hp
   have wo:(σ.ZT b 0 (.box cs)).ob b 0= .box cs:=by rw[St.YU _ _ _ _ _ _ (by rw[hb];simp),if_pos ⟨rfl,rfl⟩]
   have u5:(σ.ZT b 0 (.box cs)).ZT b 0 (.box cells)=σ:=by rw[Oo,<-hb];exact Mj (by rw[hb];simp)
   have hσ:Zj P σ x.op x.type w:=by
    rcases hA with rfl|rfl
    ·exact hw
    ·have:=NT (cs:=cells) hf mU wo (bw hw);rw[u5]at this;exact this
   have lk:Zj P B x.op x.type w:=by
    rcases hB with rfl|rfl
    ·exact hσ
    ·exact fw (NT hf v9 hb hσ)
   refine⟨?_,fun u hu hr=>?_⟩
   ·unfold Z1;simp only[hg,vZ];exact(jl rfl hf).2 ⟨w,lk,rfl⟩
   ·rw[wA];exact VX lk hr
  ·cases hf
end
theorem WM(h:QJ P o=true):xM o=false/\z6 o=false:=by
 unfold QJ at h;split at h
 ·rename_i wA;simp[xM,z6,wA]
 ·cases h
theorem MF(v9:jz PT σ)(h:∃z r,(∃f ts,y.op= .call ⟨.value (.func f),⟨z::r⟩,ts⟩)/\∃ty,unc (look P σ ty z)= .one (.bptr t 0)):∀b,RZ PT y=some b->b=t:=by
 obtain⟨z,r,⟨f,ts,wA⟩,ty,hz⟩:=h;intro b hb;unfold RZ at hb;rw[wA]at hb;cases z with
 |tmp k=>
  simp only[Option.map_eq_some_iff]at hb;obtain⟨p,hp,rfl⟩:=hb;have hk:p.1=k:=by simpa using List.find?_some hp
  have hm:=List.mem_of_find?_eq_some hp;rw[JZ]at hz;rcases v9 p hm with e|⟨c,e⟩<;>rw[hk]at e<;>rw[e]at hz<;>simp[unc]at hz;exact hz.1
 |_=>cases hb
theorem Ow(h:QJ P o=true):yv o=false:=by
 unfold QJ at h;split at h
 ·rename_i wA;simp[yv,wA]
 ·cases h
theorem V9{x:Oper}(h:W8 PT y x=true):yv x=false:=by
 simp only[W8,Bool.or_eq_true,Bool.and_eq_true,Bool.not_eq_true']at h;rcases h with⟨_,h⟩|h
 ·exact h
 ·split at h
  ·rename_i b _;have key:∀op,qw PT b op=true->(match op with|.call ⟨.builtin .append,⟨.const _::_⟩,_⟩=>false|.call ⟨.builtin .append,_,_⟩=>true|_=>false)=false:=by intro op h;unfold qw at h;split at h<;>first|rfl|(exact Bool.noConfusion h)
   exact key _ h
  ·cases h
theorem Ha{x:Oper}(h:OD P PT ops bar x y=true)(hp:jz PT σ)(iM:jz PT σ1)(vZ:x.dst=some d)(wb:YG σ d=true)(wy:X1 P ops bar x σ σ1)(wJ:X1 P ops bar y σ1 σ2):∃σ1',X1 P ops bar y σ σ1'/\X1 P ops bar x σ1' σ2:=by
 unfold OD at h;simp only[vZ,Bool.and_eq_true,Option.isNone_iff_eq_none]at h;obtain⟨⟨⟨⟨tj,uH⟩,iZ⟩,ug⟩,h⟩:=h;cases vw:y.dst with
 |none=>rw[vw]at h;cases h
 |some dy=>
  rw[vw]at h;simp only[Bool.and_eq_true,Bool.or_eq_true,Bool.not_eq_true',bne_iff_ne,ne_eq]at h;obtain⟨⟨⟨wC,uy⟩,sO⟩,h⟩:=h;have uy:=yL uy
  have sO:=yL sO;have sS:Qz ops y=y.op.operands.toList:=by simp[Qz,uH]
  have sT:Qz ops x=x.op.operands.toList:=by simp[Qz,tj]
  have o6:∀j,σ.ob d j= .none:=fun j=>by rw[JJ]at wb;unfold St.ob;rcases wb with e|⟨_,e⟩<;>rw[e]<;>simp[Zq]
  rcases h with⟨⟨⟨vP,wo⟩,u4⟩,vJ⟩|⟨⟨⟨vP,u4⟩,wo⟩,vJ⟩
  ·have wy:=wy.resolve_right (fun hh=>by rw[vP]at hh;cases hh.1);rcases wJ with wJ|⟨_,_,_,_,_,mM⟩
   ·obtain⟨σ1',hy,hx⟩:=swap vZ vw wC uy sO (Ow u4) (.inl uH) wb wy wJ;exact⟨σ1',.inl hy,.inl hx⟩
   ·obtain⟨d',t,cells,cs,v,os,wL,hb,hz,uz,pe,w8,rfl,wx⟩:=mM u4 ug;rw[vw]at wL;cases wL;obtain⟨ex,rfl,tY,sH,_⟩:=zJ vZ wy;have mV:∀a j w l,ex≠ .drop a j w l:=fun a j w l hh=>by have:=(sH a j w l hh).1;rw[V9 vJ]at this;cases this
    have tZ:∀z∈Qz ops y,∀ty,look P (ex.ap d σ) ty z=look P σ ty z:=fun z hz ty=>look_eq (fun u hu=>VI ex hu) (uy z hz) ty;have pK:∀z∈Qz ops y,∀ty u,(look P (ex.ap d σ) ty z).ref u=true->(∀w,ex≠ .put w)->u≠d:=fun z hz ty u hr vy e=>by rw[e,tZ z hz,QV (Ku tY vy) (uy z hz)]at hr;cases hr
    have ta:=hz;obtain⟨z,r,⟨f,ts,wA⟩,ty,oL⟩:=hz;have oN:z∈Qz ops y:=by rw[sS,wA];exact QX (c:=⟨.value (.func f),⟨z::r⟩,ts⟩) fM
    have mW:(∀w,ex≠ .put w)->t≠d:=pK z oN ty t (YS oL fb);have np:σ.ob t 0= .box cells:=by rw[Nv tY mW (by rw[hb];simp),hb]
    have pj:t≠d:=fun e=>by rw[e,o6]at np;cases np
    have pk:os≠none->(σ.ZT t 0 (.box cs)).fresh dy=true:=fun hn=>by
     have hf:=Yd.1 (w8 hn);refine Yd.2 ⟨by have:=hf.1;rw[St.YD]at this⊢;rwa[Qh]at this,fun k e he hk=>?_⟩;by_cases hkd:k=d
     ·rw[hkd,Yn,if_neg pj.symm]at he;rw[hkd]at*;exact W9 wb he dy
     ·refine hf.2 k e ?_ hk;rw[Yn]at he⊢;have:(ex.ap d σ)[k]?=σ[k]?:=by
       cases ex with
       |put w=>simp only[Eff.ap,K5,if_neg hkd]
       |new w l=>simp only[Eff.ap,JB,if_neg hkd]
       |drop a j w l=>exact absurd rfl (mV a j w l)
      rw[this];exact he
    obtain⟨e,heq,vA,wT,hB⟩:=P3 (v:=v) tj vZ wC sO np pk hp (MF iM ta) vJ (.inl rfl) wy;rw[heq]at hb ta w8 wx tZ pK⊢;have vG:∀z∈Qz ops y,∀ty u,(look P (e.ap d σ) ty z).ref u=true->∀j,(e.ap d σ).ob u j≠ .none->σ.ob u j=(e.ap d σ).ob u j:=fun z hz ty u hr j hn=>
     Nv wT (fun vy hu=>by rw[hu,tZ z hz,QV (Ku wT vy) (uy z hz)]at hr;cases hr) hn
    have h0:=wx σ (Qh e) (fun z hz ty=>tZ z eZ ty) (fun z hz ty u hr j hn=>vG z eZ ty u hr j hn) pk;refine⟨Qy t dy cs v os σ,.inr ⟨wo,h0.1,h0.2,fun hh=>(by rw[(WM u4).1]at hh;cases hh),fun hh=>(by rw[(WM u4).2]at hh;cases hh),fun _ _=>?_⟩,.inl ?_⟩
    ·refine⟨dy,t,cells,cs,v,os,vw,np,⟨z,r,⟨f,ts,wA⟩,ty,by rw[<-tZ z oN,<-heq];exact oL⟩,uz,pe,pk,rfl,fun σ3 mB pa pb mC=>?_⟩;refine wx σ3 (by rw[Qh];exact mB) (fun z hz ty=>by rw[tZ z eZ,pa z hz]) (fun z hz ty u hr j hn=>?_) mC;have h1:=vG z eZ ty u hr j hn
     rw[<-h1];exact pb z hz ty u (by rw[<-tZ z eZ];exact hr) j (by rw[h1];exact hn)
    ·rw[<-U2 vA wC (fun _=>pj)];refine(hB _ (.inr rfl) ?_).1;cases e with
     |put w=>trivial
     |new w l=>exact Mp wT (uz d).2 (pe d (.inr wC))
     |drop a j w l=>exact absurd rfl (vA a j w l)
  ·have wJ:=wJ.resolve_right (fun hh=>by rw[wo]at hh;cases hh.1);rcases wy with wy|⟨_,_,_,_,_,mM⟩
   ·obtain⟨σ1',hy,hx⟩:=swap vZ vw wC uy sO (V9 vJ) (.inl uH) wb wy wJ;exact⟨σ1',.inl hy,.inl hx⟩
   ·obtain⟨d',t,cells,cs,v,os,wL,hb,hz,uz,pe,w8,rfl,wx⟩:=mM u4 iZ;rw[vZ]at wL;cases wL;have ta:=hz
    obtain⟨z,r,⟨f,ts,wA⟩,ty,oL⟩:=hz;have oN:z∈Qz ops x:=by rw[sT,wA];exact QX (c:=⟨.value (.func f),⟨z::r⟩,ts⟩) fM
    obtain⟨e,rfl,vA,wT,hB⟩:=P3 uH vw (Ne.symm wC) uy hb w8 hp (MF hp ta) vJ (.inr rfl) wJ;have o7:e.ok dy σ:=by
     cases e with
     |put w=>trivial
     |new w l=>exact Pz hb wT wb (uz dy).1
     |drop a j w l=>exact absurd rfl (vA a j w l)
    have tZ:∀z∈Qz ops x,∀ty,look P (e.ap dy σ) ty z=look P σ ty z:=fun z hz ty=>look_eq (fun u hu=>VI e hu) (sO z hz) ty;have pK:∀z∈Qz ops x,∀ty u,(look P σ ty z).ref u=true->(∀w,e≠ .put w)->u≠dy:=fun z hz ty u hr vy he=>by rw[he,QV (Ku o7 vy) (sO z hz)]at hr;cases hr
    have uA:(∀w,e≠ .put w)->t≠dy:=pK z oN ty t (YS oL fb);have wW:∀z∈Qz ops x,∀ty u,(look P σ ty z).ref u=true->∀j,(e.ap dy σ).ob u j=σ.ob u j:=fun z hz ty u hr j=>WQ vA (pK z hz ty u hr);have tO:=hB σ (.inl rfl) o7;have o8:os≠none->((e.ap dy σ).ZT t 0 (.box cs)).fresh d=true:=fun hn=>by
     have hf:=Yd.1 (w8 hn);have mX:e.ref d=false:=by
      cases hr:e.ref d with
      |false=>rfl
      |true=>
       obtain⟨z',ue,lg,h1|⟨t',wG,h1,h2,h3⟩⟩:=tO.2 d wC hr
       ·rw[<-QP (t:=t) (j:=0) (o:=.box cs),QV (fun k e0 he hk=>(hf.2 k e0 he hk).1) (uy z' ue)]at h1;cases h1
       ·by_cases htt:t'=t
        ·subst htt;rw[hb]at h2;cases h2;rw[(uz d).1]at h3;cases h3
        ·have pj:t'≠d:=fun e0=>by rw[e0,o6]at h2;cases h2
         obtain⟨en,mI,mJ⟩:=jg h2 fM;have:=(hf.2 t' en (by rw[Yn,if_neg htt];exact mI) pj).2
         rw[kz mJ h3]at this;cases this
     refine Yd.2 ⟨by have:=hf.1;rw[St.YD]at this⊢;rwa[Qh],fun k en he hk=>?_⟩;cases e with
     |put w=>
      simp only[Eff.ap,JL,K5]at he;split at he
      ·simp only[Option.map_eq_some_iff]at he;obtain⟨e0,u9,rfl⟩:=he;exact⟨mX,(hf.2 k e0 u9 hk).2⟩
      ·exact hf.2 k en he hk
     |new w l=>
      have ht:=uA (by intro w h;cases h);simp only[Eff.ap,Yn,JB]at he;by_cases hkt:k=t
      ·subst hkt;simp only[if_true,if_neg ht]at he;exact hf.2 k en (by rw[Yn,if_pos rfl];exact he) hk
      ·simp only[if_neg hkt]at he;split at he
       ·simp only[Option.map_eq_some_iff]at he;obtain⟨e0,u9,rfl⟩:=he;simp only[Eff.ref,Bool.or_eq_false_iff]at mX;exact mX
       ·exact hf.2 k en (by rw[Yn,if_neg hkt];exact he) hk
     |drop a j w l=>exact absurd rfl (vA a j w l)
    have h0:=wx (e.ap dy σ) (Qh e).symm (fun z hz ty=>(tZ z ea ty).symm) (fun z hz ty u hr j _=>wW z ea ty u hr j) o8;have o9:e.ap dy (Qy t d cs v os σ)=Qy t d cs v os (e.ap dy σ):=by
     cases e with
     |put w=>exact U2 vA (Ne.symm wC) (fun hh=>absurd rfl (hh w))
     |new w l=>exact U2 vA (Ne.symm wC) uA
     |drop a j w l=>exact absurd rfl (vA a j w l)
    refine⟨e.ap dy σ,.inl tO.1,.inr ?_⟩;rw[o9];refine⟨vP,h0.1,h0.2,fun hh=>(by rw[(WM u4).1]at hh;cases hh),fun hh=>(by rw[(WM u4).2]at hh;cases hh),fun _ _=>?_⟩;refine⟨d,t,cells,cs,v,os,vZ,?_,⟨z,r,⟨f,ts,wA⟩,ty,by rw[tZ z oN];exact oL⟩,uz,pe,o8,rfl,fun σ3 mB pa pb mC=>?_⟩
    ·rw[wW z oN ty t (YS oL fb) 0];exact hb
    ·refine wx σ3 (by rw[<-mB,Qh]) (fun z hz ty=>by rw[<-pa z hz,tZ z ea]) (fun z hz ty u hr j hn=>?_) mC;have h1:=wW z ea ty u hr j
     rw[<-h1];exact pb z hz ty u (by rw[tZ z ea];exact hr) j (by rw[h1];exact hn)
theorem NY(h:ptB PT σ=true):jz PT σ:=by
 intro p hp;have:=List.all_eq_true.1 h p hp
 split at this
 ·rename_i e;exact .inl e
 ·split at this
  ·rename_i b c e;have hb:b=p.2:=by simpa using this
   subst hb;exact .inr ⟨c,e⟩
  ·cases this
def OH(P:Program)(ops:Array Oper)(bar:Oper->Bool):List Nat->St->(St->Prop)->Prop
 |[],σ,Q=>Q σ
 |i::rem,σ,Q=>∃o σ',ops[i]?=some o/\X1 P ops bar o σ σ'/\OH P ops bar rem σ' Q
theorem Uv(hs:Z1 P ops o σ σ')(hd:o.dst≠some d)(h:YG σ d=true):YG σ' d=true:=by
 cases hdo:o.dst with
 |some d'=>
  have wC:d≠d':=fun e=>hd (by rw[hdo,e]);obtain⟨e,rfl,_⟩:=zJ hdo hs;cases e with
  |put v=>unfold YG at*;simp only[Eff.ap,K5,if_neg wC];exact h
  |new v os=>unfold YG at*;simp only[Eff.ap,JB,if_neg wC];exact h
  |drop a j v os=>have:=XV (a:=a) (j:=j) (o:=.none) h;unfold YG at*;simp only[Eff.ap,JB,if_neg wC];exact this
 |none=>
  unfold Z1 at hs;split at hs
  ·simp only[hdo]at hs;split at hs
   ·unfold Jh at hs;obtain⟨_,_,_,_,hs⟩:=hs;split at hs
    ·obtain⟨_,_,_,_,rfl⟩:=hs;exact XV h
    ·obtain⟨_,_,_,_,_,_,_,_,_,_,_,rfl⟩:=hs;exact XV h
    ·exact hs.elim
   ·exact hs.elim
  ·obtain⟨_,_,_,_,_,_,wL,_⟩:=hs;rw[hdo]at wL;cases wL
theorem N6(sy:qu ops PT=true)(hi:ops[i]?=some o)(hs:Z1 P ops o σ σ')(h:jz PT σ):jz PT σ':=by
 have hc:=List.all_eq_true.1 sy o (by rw[Array.mem_toList_iff];exact Array.mem_of_getElem? hi);cases hdo:o.dst with
 |none=>
  have:∃t j ob,σ'=σ.ZT t j ob:=by
   unfold Z1 at hs;split at hs
   ·simp only[hdo]at hs;split at hs
    ·unfold Jh at hs;obtain⟨_,_,_,_,hs⟩:=hs;split at hs
     ·obtain⟨_,_,_,_,rfl⟩:=hs;exact⟨_,_,_,rfl⟩
     ·obtain⟨_,_,_,_,_,_,_,_,_,_,_,rfl⟩:=hs;exact⟨_,_,_,rfl⟩
     ·exact hs.elim
    ·exact hs.elim
   ·obtain⟨_,_,_,_,_,_,wL,_⟩:=hs;rw[hdo]at wL;cases wL
  obtain⟨t,j,ob,rfl⟩:=this;intro p hp;rw[St.Yf];exact h p hp
 |some d=>
  intro p hp;rw[hdo]at hc;have hc:=List.all_eq_true.1 hc p hp
  by_cases sU:p.1=d
  ·simp only[sU,bne_self_eq_false,Bool.false_or,Bool.and_eq_true,Option.isNone_iff_eq_none]at hc;obtain⟨hg,hc⟩:=hc;split at hc
   ·rename_i T r f wA;have hr:=h (r,p.2) (by simpa using hc)
    unfold Z1 at hs;simp only[hg,hdo]at hs;unfold Step at hs;rw[wA]at hs;obtain⟨v,hv,rfl⟩:=hs;simp only[Zj]at hv;have hv:=hv.2.2
    rw[JZ]at hv;rcases hr with e|⟨c,e⟩
    ·rw[e]at hv;exact hv.elim
    ·rw[e]at hv;rw[St.Xm,sU];by_cases hl:d<σ.length
     ·rw[if_pos ⟨rfl,hl⟩];exact .inr ⟨_,by rw[hv.2];rfl⟩
     ·rw[if_neg (fun hh=>hl hh.2)];have:=h p hp;rw[sU]at this;exact this
   ·rename_i r wA;have hr:=h (r,p.2) (by simpa using hc)
    unfold Z1 at hs;simp only[hg,hdo]at hs;unfold Step at hs;rw[wA]at hs;obtain⟨v,hv,rfl⟩:=hs;simp only[Zj]at hv;rw[JZ]at hv;rw[St.Xm,sU];by_cases hl:d<σ.length
    ·rw[if_pos ⟨rfl,hl⟩,hv];exact hr
    ·rw[if_neg (fun hh=>hl hh.2)];have:=h p hp;rw[sU]at this;exact this
   ·cases hc
  ·obtain⟨e,rfl,_⟩:=zJ hdo hs;have hg:∀σ0:St,σ0.get p.1=σ.get p.1->(σ0.get p.1= .any\/∃c,unc (σ0.get p.1)= .one (.bptr p.2 c)):=fun σ0 e=>by rw[e];exact h p hp
   cases e with
   |put v=>exact hg _ (by simp only[Eff.ap];rw[St.Xm,if_neg (fun hh=>sU hh.1)])
   |new v os=>exact hg _ (by simp only[Eff.ap];rw[St.y6,if_neg (fun hh=>sU hh.1)])
   |drop a j v os=>exact hg _ (by simp only[Eff.ap];rw[St.y6,if_neg (fun hh=>sU hh.1),St.Yf])
theorem Um:VC [] [] σ:=⟨fun _ hp=>absurd hp List.not_mem_nil,fun _ hp=>absurd hp List.not_mem_nil⟩
theorem Lc(h:U8 NB σ)(hd:d∈NB->∀b c,unc v≠ .one (.bptr b c)):U8 NB (σ.put d v):=by
 intro t ht b c;rw[St.Xm];split
 ·rename_i hc;exact hd (hc.1▸ht) b c
 ·exact h t ht b c
theorem LY(h:U8 NB σ)(hd:d∉NB):U8 NB (σ.new d v os):=by
 intro t ht b c;have wC:¬(t=d/\d<σ.length):=fun hc=>hd (by rw[<-hc.1];exact ht)
 rw[St.y6,if_neg wC];exact h t ht b c
theorem Ie(vr:WE P ops NB=true)(hi:ops[i]?=some o)(hs:Z1 P ops o σ σ')(h:U8 NB σ):U8 NB σ':=by
 have hc:=List.all_eq_true.1 vr o (by rw[Array.mem_toList_iff];exact Array.mem_of_getElem? hi);cases hdo:o.dst with
 |none=>
  have:∃t j ob,σ'=σ.ZT t j ob:=by
   unfold Z1 at hs;split at hs
   ·simp only[hdo]at hs;split at hs
    ·unfold Jh at hs;obtain⟨_,_,_,_,hs⟩:=hs;split at hs
     ·obtain⟨_,_,_,_,rfl⟩:=hs;exact⟨_,_,_,rfl⟩
     ·obtain⟨_,_,_,_,_,_,_,_,_,_,_,rfl⟩:=hs;exact⟨_,_,_,rfl⟩
     ·exact hs.elim
    ·exact hs.elim
   ·obtain⟨_,_,_,_,_,_,wL,_⟩:=hs;rw[hdo]at wL;cases wL
  obtain⟨t,j,ob,rfl⟩:=this;intro p hp;rw[St.Yf];exact h p hp
 |some d=>
  rw[hdo]at hc;by_cases hd:d∈NB
  ·have hc:=List.all_eq_true.1 hc d hd;simp only[bne_self_eq_false,Bool.false_or,Bool.and_eq_true,Option.isNone_iff_eq_none]at hc;obtain⟨hg,hc⟩:=hc;split at hc
   ·rename_i T r ix wA;unfold Z1 at hs;simp only[hg,hdo]at hs;unfold Step at hs;rw[wA]at hs;obtain⟨v,hv,rfl⟩:=hs;refine Lc h (fun _ b c=>?_);simp only[Zj]at hv;obtain⟨_,_,_,_,_,hv⟩:=hv;split at hv
    ·obtain⟨_,_,_,_,rfl⟩:=hv;intro e;cases e
    ·obtain⟨_,_,_,_,rfl⟩:=hv;intro e;cases e
    ·obtain⟨_,⟨n,ha,_⟩,_⟩:=hv;unfold Zy at hc;unfold UK at ha;split at hc
     ·rename_i e he;rw[he]at ha;cases ha
     ·cases hc
    ·obtain⟨_,_,_,rfl⟩:=hv;intro e;cases e
    ·exact hv.elim
   ·cases hc
  ·obtain⟨e,rfl,_⟩:=zJ hdo hs;cases e with
   |put v=>exact Lc h (fun hh=>absurd hh hd)
   |new v os=>exact LY h hd
   |drop a j v os=>refine LY (σ:=σ.ZT a j .none) (fun t ht b c=>?_) hd;rw[St.Yf];exact h t ht b c
theorem II(h:nbB NB σ=true):U8 NB σ:=by
 intro t ht b c e;have:=List.all_eq_true.1 h t ht
 rw[e]at this;cases this
def Rk(ops:Array Oper)(pos:Nat->Nat)(rem:List Nat)(σ:St):Prop:=
 ∀j∈rem,xS ops pos j=true->MD ops j=true/\∃o d,ops[j]?=some o/\o.dst=some d/\YG σ d=true
theorem Ij{k:Nat}{oj ok:Oper}(h:MD ops j=true)(hj:ops[j]?=some oj)(hd:oj.dst=some d)(hk:ops[k]?=some ok)(wC:k≠j):ok.dst≠some d:=by
 unfold MD at h;simp only[hj,hd]at h;have wO:k<ops.size:=(Array.getElem?_eq_some_iff.1 hk).1
 have:=List.all_eq_true.1 h k (List.mem_range.2 wO);simp only[hk,Bool.or_eq_true,beq_iff_eq,bne_iff_ne,ne_eq]at this;exact this.resolve_left wC
theorem OY(hs:X1 P ops bar o σ σ')(hd:o.dst≠some d)(h:YG σ d=true):YG σ' d=true:=by
 rcases hs with hs|hs
 ·exact Uv hs hd h
 ·exact hs.2.2.1 d hd h
theorem Vr{rem pZ:List Nat}(hi:ops[i]?=some o)(hs:X1 P ops bar o σ σ')(nk:i∉pZ)(we:∀j∈pZ,j∈rem)(h:Rk ops pos rem σ):Rk ops pos pZ σ':=by intro j hj hl;obtain⟨pI,oj,d,h1,h2,h3⟩:=h j (we j hj) hl;exact⟨pI,oj,d,h1,h2,OY hs (Ij pI h1 h2 hi (fun e=>nk (e▸hj))) h3⟩
theorem pull{pos:Nat->Nat}{bar:Oper->Bool}{PT:List (Nat×Nat)}{NB:List Nat}(vx:∀(i:Nat)(o:Oper)(σ σ':St),ops[i]?=some o->X1 P ops bar o σ σ'->VC PT NB σ->VC PT NB σ'){i:Nat}{post:List Nat}{Q:St->Prop}{oi:Oper}(hi:ops[i]?=some oi):∀{pre:List Nat}{σ:St},(pre++i::post).Nodup->(∀j∈pre,xS ops pos j=true/\∃oj,ops[j]?=some oj/\(Ol ops bar oj oi=true\/OM bar oj oi=true\/swapT PT bar oj oi=true\/OG bar oj oi=true\/PX PT ops bar oj oi=true\/Po PT NB bar oj oi=true\/OD P PT ops bar oj oi=true))->Rk ops pos (pre++i::post) σ->VC PT NB σ->
  OH P ops bar (pre++i::post) σ Q->∃σ',X1 P ops bar oi σ σ'/\OH P ops bar (pre++post) σ' Q
 |[],σ,_,_,_,_,h=>by obtain⟨o,σ',ho,hs,hr⟩:=h;rw[hi]at ho;cases ho;exact⟨σ',hs,hr⟩
 |j::pre,σ,vA,nq,wb,v9,h=>by
  obtain⟨oj,σ1,hj,wy,hr⟩:=h;have nA:=List.nodup_cons.1 vA
  obtain⟨σ2,wJ,sY⟩:=pull vx hi (pre:=pre) nA.2 (fun k hk=>nq k (by simp[hk])) (Vr (rem:=(j::pre)++i::post) hj wy nA.1 (fun k hk=>by simp only[List.cons_append,List.mem_cons];exact .inr hk) wb) (vx j oj σ σ1 hj wy v9) hr;obtain⟨hl,gp,uh,tk⟩:=nq j fM;rw[hj]at uh;cases uh;rcases tk with tk|tk|tk|tk|tk|tk|tk
  rotate_left
  ·obtain⟨σ1',hy,hx⟩:=IN tk wy wJ;exact⟨σ1',.inl hy,oj,σ2,hj,.inl hx,sY⟩
  ·obtain⟨σ1',hy,hx⟩:=Hg tk v9.1 wy wJ;exact⟨σ1',.inl hy,oj,σ2,hj,.inl hx,sY⟩
  ·obtain⟨_,o',d',wV,wL,wk⟩:=wb j fM hl;rw[hj]at wV;cases wV;obtain⟨σ1',hy,hx⟩:=Ht tk wL wk wy wJ;exact⟨σ1',hy,oj,σ2,hj,.inl hx,sY⟩
  ·obtain⟨_,o',d',wV,wL,wk⟩:=wb j fM hl;rw[hj]at wV;cases wV;obtain⟨σ1',hy,hx⟩:=HX tk v9.1 wL wk wy wJ;exact⟨σ1',hy,oj,σ2,hj,hx,sY⟩
  ·obtain⟨_,o',d',wV,wL,wk⟩:=wb j fM hl;rw[hj]at wV;cases wV;obtain⟨σ1',hy,hx⟩:=Hb tk v9.1 v9.2 wL wk wy wJ;exact⟨σ1',hy,oj,σ2,hj,.inl hx,sY⟩
  ·obtain⟨_,o',d',wV,wL,wk⟩:=wb j fM hl;rw[hj]at wV;cases wV;obtain⟨σ1',hy,hx⟩:=Ha tk v9.1 (vx j oj σ σ1 hj wy v9).1 wL wk wy wJ;exact⟨σ1',hy,oj,σ2,hj,hx,sY⟩
  obtain⟨vP,wo,dx,dy,h1,h2,h3,h4,h5,h6,h7⟩:=Nj tk;have wy:=wy.resolve_right (fun hh=>by rw[vP]at hh;cases hh.1)
  have wJ:=wJ.resolve_right (fun hh=>by rw[wo]at hh;cases hh.1);obtain⟨_,o',d',wV,wL,wk⟩:=wb j fM hl;rw[hj]at wV;cases wV;rw[h1]at wL;cases wL;obtain⟨σ1',hy,hx⟩:=swap h1 h2 h3 h4 h5 h6 h7 wk wy wJ;exact⟨σ1',.inl hy,oj,σ2,hj,.inl hx,sY⟩
open Go.RowKit
variable{wh:Array Bool}{Qa:St->Prop}{T0:CS}
theorem Wo(h1:wh.getD j true=false)(h2:wh.getD j false=true):False:=by
 rw[Array.getD_eq_getD_getElem?]at h1 h2;cases h:wh[j]? with
 |none=>rw[h]at h1;simp at h1
 |some b=>rw[h]at h1 h2;simp at h1 h2;rw[h1]at h2;cases h2
theorem VM(vx:∀(i:Nat)(o:Oper)(σ σ':St),ops[i]?=some o->X1 P ops bar o σ σ'->VC PT NB σ->VC PT NB σ')(hdr:Te P ops pos bar PT NB (qX ops.toList [])=true){Q:Exit->Act->World->Prop}(hK:∀σ a w,Qa σ->Xx T0 B σ a w->YL B w0 w->Q .normal a w):
  ∀(fuel:Nat)(rem:List Nat)(wh:Array Bool)(σ:St)(a:Act)(w:World),rem.length=fuel->wh.size=ops.size->rem.Pairwise (fun i j=>pos i<pos j)->(∀i,i∈rem↔wh.getD i true=false)->(∀i∈rem,i<ops.size)->(∀m om,ops[m]?=some om->m∉rem->∀j,Wn om j=true->j∉rem)->
   Rk ops pos rem σ->VC PT NB σ->OH P ops bar rem σ Qa->Xx T0 B σ a w->YL B w0 w->wpAny P .any ops Q fuel wh a w:=by
 have wx:=List.all_eq_true.1 hdr;have first:∀(rem:List Nat)(wh:Array Bool),wh.size=ops.size->rem.Pairwise (fun i j=>pos i<pos j)->(∀i,i∈rem↔wh.getD i true=false)->(∀i∈rem,i<ops.size)->Region.ready .any ops wh=[]->rem=[]:=by
  intro rem wh vK pc vE wO od;cases rem with
  |nil=>rfl
  |cons i rem=>
   exfalso;have hi:=wO i fM
   have hb:=wx i (List.mem_range.2 hi);simp only[Bool.and_eq_true]at hb;have u5:=hb.1.1;unfold HA at u5;rw[Array.getElem?_eq_getElem hi]at u5;simp only[Array.all_eq_true_iff_forall_mem,decide_eq_true_eq,Bool.and_eq_true,Bool.or_eq_true,Bool.not_eq_true']at u5;have:i∈Region.ready .any ops wh:=by
    refine mem_ready.2 ⟨(vE i).1 fM,ops[i],Array.getElem?_eq_getElem hi,fun e he mD=>?_⟩;have s7:=(u5 e he).resolve_left (by rw[mD];simp)
    have s8:=s7.1;have mY:=s7.2;have uN:e.on∉i::rem:=by
     intro hm;rcases List.mem_cons.1 hm with h|h
     ·rw[h]at s8;omega
     ·have:=(List.pairwise_cons.1 pc).1 _ h;omega
    have wC:wh.getD e.on true≠false:=fun h=>uN ((vE _).2 h);have rb:e.on<wh.size:=by rw[vK];omega
    rw[Array.getD_eq_getD_getElem?,Array.getElem?_eq_getElem rb]at wC⊢;simpa using wC
   rw[od]at this;cases this
 intro fuel;induction fuel with
 |zero=>
  intro rem wh σ a w hl vK pc vE wO mF wb v9 wU vN hb;have uj:rem=[]:=List.eq_nil_of_length_eq_zero hl
  subst uj;refine⟨?_,hK σ a w wU vN hb⟩;cases od:Region.ready .any ops wh with
  |nil=>rfl
  |cons i l=>
   have hi:i∈Region.ready .any ops wh:=by rw[od];simp
   have:=(vE i).2 (mem_ready.1 hi).1;cases this
 |succ fuel ih=>
  intro rem wh σ a w hl vK pc vE wO mF wb v9 wU vN hb;refine⟨fun od=>?_,fun i hi=>?_⟩
  ·have:=first rem wh vK pc vE wO od
   subst this;simp at hl
  ·obtain⟨h0,oi,pf,s5⟩:=mem_ready.1 hi;obtain⟨pre,post,rfl⟩:=List.append_of_mem ((vE i).2 h0);have vA:(pre++i::post).Nodup:=pc.imp (fun h e=>by rw[e]at h;omega)
   have tA:∀j∈pre,pos j<pos i:=fun j hj=>(List.pairwise_append.1 pc).2.2 j hj i fM;have uU:i<ops.size:=wO i fM;have ll:∀e∈oi.after,Region.binds .any e=true->e.on∉pre++i::post:=by intro e he mD hm;exact Wo ((vE e.on).1 hm) (s5 e he mD)
   have nB:∀j,j∈pre++i::post->Wn oi j=false:=by
    intro j hj;cases hp:Wn oi j with
    |false=>rfl
    |true=>unfold Wn at hp;rw[<-Array.any_toList]at hp;obtain⟨e,he,wo⟩:=List.any_eq_true.1 hp;rw[Array.mem_toList_iff]at he;simp only[Bool.and_eq_true,beq_iff_eq]at wo;exact(Wo ((vE j).1 hj) (by rw[<-wo.1];exact s5 e he wo.2)).elim
   have sU:∀m j,Pre ops m j->(∀om,ops[m]?=some om->∀k,Wn om k=true->k∉pre++i::post)->j∉pre++i::post:=by
    intro m j hp;induction hp with
    |one ho hp=>intro h;exact h _ ho _ hp
    |more ho hp _ ih=>intro h;exact ih (fun om sG k hk=>mF _ om sG (h _ ho _ hp) k hk)
   have vy:∀j∈pre,Pj ops i j=false:=by
    intro j hj;have ig:j∈pre++i::post:=by simp[hj]
    cases hq:Pj ops i j with
    |false=>rfl
    |true=>
     refine absurd ig (sU i j (Mn hq) (fun om sG k hk iO=>?_));rw[pf]at sG;cases sG;have:=nB k iO
     rw[hk]at this;cases this
   have nq:∀j∈pre,xS ops pos j=true/\∃oj,ops[j]?=some oj/\(Ol ops bar oj oi=true\/OM bar oj oi=true\/swapT PT bar oj oi=true\/OG bar oj oi=true\/PX PT ops bar oj oi=true\/Po PT NB bar oj oi=true\/OD P PT ops bar oj oi=true):=by
    intro j hj;have ln:=tA j hj
    have pn:j<ops.size:=wO j (by simp[hj]);refine⟨?_,ops[j],Array.getElem?_eq_getElem pn,?_⟩
    ·unfold xS R7;refine List.any_eq_true.2 ⟨i,List.mem_range.2 uU,?_⟩;have:=vy j hj
     unfold Pj at this;simp only[this,Bool.not_false,Bool.and_true,decide_eq_true_eq];exact ln
    ·have:=wx i (List.mem_range.2 uU);simp only[Bool.and_eq_true]at this;have hp:=List.all_eq_true.1 this.1.2 j (List.mem_range.2 pn);simp only[ln,decide_true,Bool.not_true,Bool.false_or]at hp;unfold HD at hp;rw[pf,Array.getElem?_eq_getElem pn]at hp;have:=vy j hj;unfold Pj at this;simpa[this,or_assoc]using hp
   obtain⟨σ',hs,hr⟩:=pull vx pf vA nq wb v9 wU;have nk:i∉pre++post:=by
    have:=List.nodup_append.1 vA;intro hm;rcases List.mem_append.1 hm with h|h
    ·exact Nat.lt_irrefl _ (tA i h)
    ·exact(List.nodup_cons.1 this.2.1).1 h
   have sJ:∀j∈pre++post,j∈pre++i::post:=by
    intro j hj;rcases List.mem_append.1 hj with h|h
    ·simp[h]
    ·simp[h]
   have key:∀a' w',Xx T0 B σ' a' w'->YL B w w'->wpAny P .any ops Q fuel (wh.setIfInBounds i true) a' w':=by
    intro a' w' oe wP;refine ih (pre++post) _ σ' a' w' eU (by simp[vK]) ?_ (fun j=>?_) (fun j hj=>wO j (sJ j hj)) ?_ (Vr pf hs nk sJ wb) (vx i oi σ σ' pf hs v9) hr oe (hb.trans wP)
    ·exact pc.sublist (List.Sublist.append (List.Sublist.refl pre) (List.sublist_cons_self i post))
    ·by_cases sX:i=j
     ·subst sX;constructor
      ·intro hm;exact absurd hm nk
      ·intro hm;rw[Array.getD_eq_getD_getElem?]at hm;simp[vK,uU]at hm
     ·rw[getD_set_ne true sX,<-vE j];simp only[List.mem_append,List.mem_cons];constructor
      ·rintro(h|h)
       ·exact .inl h
       ·exact .inr (.inr h)
      ·rintro(h|h|h)
       ·exact .inl h
       ·exact absurd h.symm sX
       ·exact .inr h
    ·intro m om sG hm j lf hj;by_cases hmi:m=i
     ·subst hmi;rw[pf]at sG;cases sG;have:=nB j (sJ j hj)
      rw[lf]at this;cases this
     ·have ij:m∉pre++i::post:=by
       intro h;rcases List.mem_append.1 h with h|h
       ·exact hm (by simp[h])
       ·rcases List.mem_cons.1 h with h|h
        ·exact hmi h
        ·exact hm (by simp[h])
      exact mF m om sG ij j lf (sJ j hj)
   have wY:=qf hs T0 B a w (wpAny P .any ops Q fuel (wh.setIfInBounds i true)) Q vN key;unfold wpOp;simp only[pf];split
   ·rename_i hw;rw[if_pos hw]at wY;exact .inl wY
   ·rename_i hw;rw[if_neg hw]at wY;exact wY
theorem Vg(h:Xx T0 B σ a w):Xx T0 B σ a {w with drawn:=w.drawn+1}:=by obtain⟨X,hh,r⟩:=h;exact⟨X,hh,r.grow (w':={w with drawn:=w.drawn+1}) ⟨rfl,rfl,rfl,Nat.le_refl _,fun _ _ _=>rfl⟩ (fun _ hb=>hb) (fun _ hb=>.inl hb)⟩
theorem N0{bar:Oper->Bool}{Q:St->Prop}:∀{n k:Nat}{σ:St},k+n=ops.size->RV P ops bar (ops.toList.drop k) σ Q->OH P ops bar (List.range' k n) σ Q
 |0,k,σ,hk,h=>by rw[List.drop_eq_nil_of_le fc]at h;exact h
 |n+1,k,σ,hk,h=>by have wO:k<ops.toList.length:=fc;rw[List.drop_eq_getElem_cons wO]at h;obtain⟨σ',hs,hr⟩:=h;rw[List.range'_succ];exact⟨ops.toList[k],σ',by rw[<-Array.getElem?_toList];exact List.getElem?_eq_getElem wO,hs,N0 fJ hr⟩
theorem VF(vx:∀(i:Nat)(o:Oper)(σ σ':St),ops[i]?=some o->X1 P ops bar o σ σ'->VC PT NB σ->VC PT NB σ')(v9:VC PT NB σ)(hm:P.follows .mixedOrders=true)(hdr:Te P ops (fun i=>i) bar PT NB (qX ops.toList [])=true)(wb:Qi ops (fun i=>i) σ=true)(h:RV P ops bar ops.toList σ (Q .normal)):AWP P (.region id ops true) Q σ:=by
 intro T0 B a w vN;refine wp_region_any hm ?_;have wx:=List.all_eq_true.1 hdr
 refine VM (T0:=T0) (B:=B) (w0:=w) vx hdr (Qa:=Q .normal) (fun σ' a' w' hq hr hb=>⟨σ',hq,hr,hb⟩) ops.size (List.range' 0 ops.size) _ σ a _ fM fM ?_ (fun i=>?_) (fun i hi=>by simp[List.mem_range']at hi;omega) (fun m om sG hm=>absurd (by simp only[List.mem_range'_1];have:=(Array.getElem?_eq_some_iff.1 sG).1;omega) hm) ?_ v9 (N0 fJ eS) (Vg vN) ⟨rfl,rfl,rfl,Nat.le_refl _,fun _ _=>rfl⟩
 ·exact List.pairwise_lt_range'
 ·rw[Array.getD_eq_getD_getElem?,Array.getElem?_replicate];simp only[List.mem_range'_1];constructor
  ·intro hh;rw[if_pos fJ];rfl
  ·intro hh;split at hh
   ·omega
   ·cases hh
 ·intro j hj hl;simp only[List.mem_range'_1]at hj;have hb:=wx j (List.mem_range.2 fJ)
  simp only[Bool.and_eq_true,Bool.or_eq_true,Bool.not_eq_true']at hb;refine⟨hb.2.resolve_left eY,?_⟩;have hc:=List.all_eq_true.1 wb j (List.mem_range.2 fJ)
  unfold xS at hl;simp only[hl,Bool.not_true,Bool.false_or]at hc;have wO:j<ops.size:=fJ
  rw[Array.getElem?_eq_getElem wO]at hc;simp only[Option.bind_some]at hc;cases hd:ops[j].dst with
  |none=>rw[hd]at hc;cases hc
  |some d=>rw[hd]at hc;exact⟨_,d,Array.getElem?_eq_getElem wO,hd,hc⟩
theorem Pn(hm:P.follows .mixedOrders=true)(hdr:Vv P ops (fun i=>i) bar=true)(wb:Qi ops (fun i=>i) σ=true)(h:RV P ops bar ops.toList σ (Q .normal)):AWP P (.region id ops true) Q σ:=
 VF (PT:=[]) (NB:=[]) (fun _ _ _ _ _ _ _=>Um) Um hm hdr wb h
theorem Se(PT:List (Nat×Nat))(hm:P.follows .mixedOrders=true)(hdr:Te P ⟨l⟩ (fun i=>i) (fun _=>false) PT [] (qX l [])=true)(wb:Qi ⟨l⟩ (fun i=>i) σ=true)(sy:qu ⟨l⟩ PT=true)(hp:ptB PT σ=true)(h:@EI P σ ⟨⟨l⟩,fun _=>false⟩ ⟨l⟩ k):@DI P id σ ⟨⟨l⟩,br⟩ k:=
 VF (bar:=fun _=>false) (PT:=PT) (NB:=[]) (fun _ _ _ _ hi hs hq=>⟨N6 sy hi (hs.resolve_right (fun hh=>by cases hh.1)) hq.1,fun p hp=>by cases hp⟩) ⟨NY hp,fun p hp=>by cases hp⟩ hm hdr wb (XI h)
theorem HE(hm:P.follows .mixedOrders=true)(hdr:Vv P ⟨l⟩ (fun i=>i) (fun _=>false)=true)(wb:Qi ⟨l⟩ (fun i=>i) σ=true)(h:@EI P σ ⟨⟨l⟩,fun _=>false⟩ ⟨l⟩ k):@DI P id σ ⟨⟨l⟩,br⟩ k:=
 Pn hm hdr wb (XI h)
def xF(bs:List Nat)(o:Oper):Bool:=match o.dst with|some d=>bs.contains d|none=>!bs.contains 3000001
theorem Lu(sy:qu ops PT=true)(s3:(ops.toList.all fun o=>!bar o||xM o||z6 o||(QJ P o&&jA bar o))=true)(hi:ops[i]?=some o)(hs:X1 P ops bar o σ σ')(h:jz PT σ):jz PT σ':=by
 rcases hs with hs|⟨hb,_,_,mN,tn,mO⟩
 ·exact N6 sy hi hs h
 ·have vE:o∈ops.toList:=by rw[Array.mem_toList_iff];exact Array.mem_of_getElem? hi
  have h1:=List.all_eq_true.1 s3 o vE;simp only[hb,Bool.not_true,Bool.false_or,Bool.or_eq_true,Bool.and_eq_true]at h1;rcases h1 with(h1|h1)|⟨h1,h1o⟩
  ·rcases mN h1 with⟨⟨_,hg⟩,_⟩|⟨_,hg⟩
   ·intro p hp;rw[hg];exact h p hp
   ·intro p hp;rcases hg p.1 with e|e
    ·rw[e];exact h p hp
    ·exact .inl e
  ·obtain⟨d,hd,_,hg,_⟩:=tn h1;intro p hp;have wC:p.1≠d:=by
    intro e;have hc:=List.all_eq_true.1 sy o vE
    rw[hd]at hc;have hc:=List.all_eq_true.1 hc p hp
    simp only[e,bne_self_eq_false,Bool.false_or,Bool.and_eq_true]at hc;have hc:=hc.2
    unfold z6 at h1;cases wA:o.op<;>rw[wA]at h1 hc<;>first|(exact Bool.noConfusion h1)|(exact Bool.noConfusion hc)
   rw[(hg p.1 wC).1];exact h p hp
  ·obtain⟨d,t,cells,cs,v,os,hd,_,_,_,_,_,rfl,_⟩:=mO h1 h1o;intro p hp;have wC:p.1≠d:=by
    intro e;have hc:=List.all_eq_true.1 sy o vE
    rw[hd]at hc;have hc:=List.all_eq_true.1 hc p hp
    simp only[e,bne_self_eq_false,Bool.false_or,Bool.and_eq_true]at hc;have hc:=hc.2
    unfold QJ at h1;cases wA:o.op<;>rw[wA]at h1 hc<;>first|(exact Bool.noConfusion h1)|(exact Bool.noConfusion hc)
   rw[Rz wC];exact h p hp
theorem LO(vr:WE P ops NB=true)(s3:(ops.toList.all fun o=>!bar o||xM o||z6 o||(QJ P o&&jA bar o))=true)(hi:ops[i]?=some o)(hs:X1 P ops bar o σ σ')(h:U8 NB σ):U8 NB σ':=by
 rcases hs with hs|⟨hb,_,_,mN,tn,mO⟩
 ·exact Ie vr hi hs h
 ·have vE:o∈ops.toList:=by rw[Array.mem_toList_iff];exact Array.mem_of_getElem? hi
  have h1:=List.all_eq_true.1 s3 o vE;simp only[hb,Bool.not_true,Bool.false_or,Bool.or_eq_true,Bool.and_eq_true]at h1;rcases h1 with(h1|h1)|⟨h1,h1o⟩
  ·rcases mN h1 with⟨⟨_,hg⟩,_⟩|⟨_,hg⟩
   ·intro p hp;rw[hg];exact h p hp
   ·intro p hp;rcases hg p with e|e
    ·rw[e];exact h p hp
    ·rw[e];intro b c hh;cases hh
  ·obtain⟨d,hd,_,hg,_⟩:=tn h1;intro p hp;have wC:p≠d:=by
    intro e;have hc:=List.all_eq_true.1 vr o vE
    rw[hd]at hc;have hc:=List.all_eq_true.1 hc p hp
    simp only[e,bne_self_eq_false,Bool.false_or,Bool.and_eq_true]at hc;have hc:=hc.2
    unfold z6 at h1;cases wA:o.op<;>rw[wA]at h1 hc<;>first|(exact Bool.noConfusion h1)|(exact Bool.noConfusion hc)
   rw[(hg p wC).1];exact h p hp
  ·obtain⟨d,t,cells,cs,v,os,hd,_,_,_,_,_,rfl,_⟩:=mO h1 h1o;intro p hp;have wC:p≠d:=by
    intro e;have hc:=List.all_eq_true.1 vr o vE
    rw[hd]at hc;have hc:=List.all_eq_true.1 hc p hp
    simp only[e,bne_self_eq_false,Bool.false_or,Bool.and_eq_true]at hc;have hc:=hc.2
    unfold QJ at h1;cases wA:o.op<;>rw[wA]at h1 hc<;>first|(exact Bool.noConfusion h1)|(exact Bool.noConfusion hc)
   rw[Rz wC];exact h p hp
theorem j6(PT:List (Nat×Nat))(NB bs:List Nat)(hm:P.follows .mixedOrders=true)(hdr:Te P ⟨l⟩ (fun i=>i) (xF bs) PT NB (qX l [])=true)(wb:Qi ⟨l⟩ (fun i=>i) σ=true)(sy:qu ⟨l⟩ PT=true)(hp:ptB PT σ=true)(vr:WE P ⟨l⟩ NB=true)(oa:nbB NB σ=true)(s3:(l.all fun o=>!xF bs o||xM o||z6 o||(QJ P o&&jA (xF bs) o))=true)(h:@EI P σ ⟨⟨l⟩,xF bs⟩ ⟨l⟩ k):@DI P id σ ⟨⟨l⟩,br⟩ k:=
 VF (bar:=xF bs) (PT:=PT) (NB:=NB) (fun _ _ _ _ hi hs hq=>⟨Lu sy s3 hi hs hq.1,LO vr s3 hi hs hq.2⟩) ⟨NY hp,II oa⟩ hm hdr wb (XI h)
theorem GP(bs:List Nat)(hm:P.follows .mixedOrders=true)(hdr:Vm.Vv P ⟨l⟩ (fun i=>i) (xF bs)=true)(wb:Qi ⟨l⟩ (fun i=>i) σ=true)(h:@EI P σ ⟨⟨l⟩,xF bs⟩ ⟨l⟩ k):@DI P id σ ⟨⟨l⟩,br⟩ k:=
 Pn hm hdr wb (XI h)
def pwB(pos:Nat->Nat):List Nat->Bool
 |[]=>true
 |i::r=>r.all (fun j=>decide (pos i<pos j))&&pwB pos r
theorem Nc{pos:Nat->Nat}:∀{l:List Nat},pwB pos l=true->l.Pairwise (fun i j=>pos i<pos j)
 |[],_=>.nil
 |i::r,h=>by simp only[pwB,Bool.and_eq_true,List.all_eq_true,decide_eq_true_eq]at h;exact .cons h.1 (Nc h.2)
def posOf:List Nat->Nat->Nat
 |[],_=>0
 |i::r,k=>if i==k then 0 else posOf r k+1
def P9(n:Nat)(ord:List Nat):Bool:=ord.length==n&&pwB (posOf ord) ord&&ord.all (fun i=>decide (i<n))&&(List.range n).all (fun i=>ord.contains i)
@[reducible] def Hk:List Oper->Nat->Oper->Oper
 |[],_,d=>d
 |o::_,0,_=>o
 |_::l,i+1,d=>Hk l i d
@[reducible] def Nw(l:List Oper)(d:Oper):List Nat->List Oper
 |[]=>[]
 |i::r=>Hk l i d::Nw l d r
theorem PN{d:Oper}:∀{l:List Oper}{i:Nat},i<l.length->l[i]?=some (Hk l i d)
 |[],i,h=>by simp at h
 |o::l,0,_=>rfl
 |o::l,i+1,h=>by simpa using PN (l:=l) (i:=i) eS
theorem VZ{bar:Oper->Bool}{Q:St->Prop}{l:List Oper}{d:Oper}:∀{ord:List Nat}{σ:St},(∀i∈ord,i<l.length)->RV P l.toArray bar (Nw l d ord) σ Q->OH P l.toArray bar ord σ Q
 |[],σ,_,h=>h
 |i::r,σ,hi,h=>by obtain⟨σ',hs,hr⟩:=h;exact⟨_,σ',by rw[List.getElem?_toArray];exact PN (hi i fM),hs,VZ (fun j hj=>hi j (by simp[hj])) hr⟩
theorem Mz(hm:P.follows .mixedOrders=true)(ho:P9 ops.size ord=true)(hdr:Vv P ops (posOf ord) bar=true)(wb:Qi ops (posOf ord) σ=true)(h:OH P ops bar ord σ (Q .normal)):AWP P (.region id ops true) Q σ:=by
 intro T0 B a w vN;refine wp_region_any hm ?_;have wx:=List.all_eq_true.1 hdr
 simp only[P9,Bool.and_eq_true,beq_iff_eq,List.all_eq_true,decide_eq_true_eq,List.mem_range,List.contains_iff_mem]at ho;obtain⟨⟨⟨o1,o2⟩,o3⟩,o4⟩:=ho;refine VM (T0:=T0) (B:=B) (w0:=w) (PT:=[]) (NB:=[]) (fun _ _ _ _ _ _ _=>Um) hdr (Qa:=Q .normal) (fun σ' a' w' hq hr hb=>⟨σ',hq,hr,hb⟩) ops.size ord _ σ a _ o1 fM (Nc o2) (fun i=>?_) o3 (fun m om sG hm=>absurd (o4 m (Array.getElem?_eq_some_iff.1 sG).1) hm) ?_ Um h (Vg vN) ⟨rfl,rfl,rfl,Nat.le_refl _,fun _ _=>rfl⟩
 ·rw[Array.getD_eq_getD_getElem?,Array.getElem?_replicate];constructor
  ·intro hh;rw[if_pos (o3 i hh)];rfl
  ·intro hh;split at hh
   ·rename_i wO;exact o4 i wO
   ·cases hh
 ·intro j hj hl;have ru:=o3 j hj
  have hb:=wx j (List.mem_range.2 ru);simp only[Bool.and_eq_true,Bool.or_eq_true,Bool.not_eq_true']at hb;refine⟨hb.2.resolve_left eY,?_⟩;have hc:=List.all_eq_true.1 wb j (List.mem_range.2 ru);unfold xS at hl;simp only[hl,Bool.not_true,Bool.false_or]at hc;rw[Array.getElem?_eq_getElem ru]at hc;simp only[Option.bind_some]at hc;cases hd:ops[j].dst with
  |none=>rw[hd]at hc;cases hc
  |some d=>rw[hd]at hc;exact⟨_,d,Array.getElem?_eq_getElem ru,hd,hc⟩
theorem Oi(ord:List Nat)(hm:P.follows .mixedOrders=true)(ho:P9 (o::l).length ord=true)(hdr:Vv P ⟨o::l⟩ (posOf ord) (fun _=>false)=true)(wb:Qi ⟨o::l⟩ (posOf ord) σ=true)
  (h:@EI P σ ⟨⟨o::l⟩,fun _=>false⟩ ⟨Nw (o::l) o ord⟩ k):@DI P id σ ⟨⟨o::l⟩,br⟩ k:=by
 have h2:∀i∈ord,i<(o::l).length:=by simp only[P9,Bool.and_eq_true,List.all_eq_true,decide_eq_true_eq]at ho;exact ho.1.2
 exact Mz hm ho hdr wb (VZ h2 (XI h))
end Go.Vm
