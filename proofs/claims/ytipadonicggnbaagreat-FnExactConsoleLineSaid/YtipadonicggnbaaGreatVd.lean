/- An abstract machine Hb the model of Go, by value, and that it is sound: part Vd. No condition. -/
import Derived.Test.YtipadonicggnbaaGreatVc
import Derived.Orders
set_option linter.unusedVariables false
set_option linter.unusedSimpArgs false
namespace Go.Vm
open Go.RowKit
variable{σ σ' σ1 σ2:U}{P:Program}{d u ri i t j Q b K dy:Nat}{v:V}{o y F:Oper}{x z:Operand}{op:BinOp}{k:Fr}{c:Call}{f:FuncId}{n:Int}{a:Act}
structure Sub(P:Program)(xs:List Operand)(σ1 σ:U):Prop where
 len:σ1.length=σ.length
 look:∀x∈xs,∀A,look P σ1 A x=look P σ A x
 ob:∀x∈xs,∀A u,(Vm.look P σ1 A x).ref u=true->∀j,σ1.ob u j≠ .none->σ.ob u j=σ1.ob u j
theorem zE{x:At}(h:unc v= .one x)(O:x.ref u=true):v.ref u=true:=by
 cases v with
 |O g y=>simp only[unc]at h;subst h;simp only[V.ref,V.Ft,Bool.or_eq_true];exact .inl O
 |one y=>simp only[unc]at h;cases h;exact O
 |any=>simp[unc]at h
 |agg xs=>simp[unc]at h
 |Z xs=>simp[unc]at h
 |fix g y=>simp only[unc]at h;subst h;simp only[V.ref,V.Ft,Bool.or_eq_true];exact .inl O
theorem Gn{xs:List At}(h:unc v= .agg xs)(O:Y6 u xs=true):v.ref u=true:=by
 cases v with
 |O g y=>simp only[unc]at h;subst h;simp only[V.ref,V.Ft,Bool.or_eq_true];exact .inl O
 |agg y=>simp only[unc]at h;cases h;exact O
 |any=>simp[unc]at h
 |one xs=>simp[unc]at h
 |Z xs=>simp[unc]at h
 |fix g y=>simp only[unc]at h;subst h;simp only[V.ref,V.Ft,Bool.or_eq_true];exact .inl O
theorem Ra(O:Y6 u (unc v).cells=true):v.ref u=true:=by
 cases h:unc v with
 |one x=>rw[h]at O;simp[V.cells,Y6]at O;exact zE h O
 |agg xs=>rw[h]at O;exact Gn h O
 |any=>rw[h]at O;simp[V.cells,Y6]at O
 |Z xs=>rw[h]at O;simp[V.cells,Y6]at O
 |O g x=>rw[h]at O;simp[V.cells,Y6]at O
 |fix u x=>rw[h]at O;simp[V.cells,Y6]at O
theorem Sub.same{xs:List Operand}{A:TypeId}{a:At}{o:Ob}(h:Sub P xs σ1 σ)(O:x∈xs)(hv:unc (Vm.look P σ A x)= .one a)(ha:a.ref u=true)(ho:σ1.ob u j=o)(hn:o≠ .none):σ.ob u j=o:=by rw[<-ho];refine h.ob x O A u ?_ j (by rw[ho];exact hn);rw[h.look x O A];exact zE hv ha
theorem WD{xs:List Operand}{k:IntKind}(h:Sub P xs σ1 σ)(O:x∈xs)(hl:Pk P σ1 x k n):Pk P σ x k n:=by unfold Pk at*;rw[<-h.look x O];exact hl
theorem pw{xs:List Operand}{w n:Nat}{x:Option Operand}(h:Sub P xs σ1 σ)(O:∀y,x=some y->y∈xs)(hl:bm P σ1 w x n):bm P σ w x n:=by
 cases x with
 |none=>exact hl
 |some x=>simp only[bm]at*;rw[<-h.look x (O x rfl)];exact hl
theorem Ee{T:TypeId}:∀{K:List (Nat×Operand)}{z d:List At},Sub P (K.map (·.2)) σ1 σ->Ou P σ1 T K z d->Ou P σ T K z d
 |[],_,_,_,h=>h
 |(i,x)::K,z,d,hs,h=>by have e:=hs.look x ab;simp only[Ou]at h⊢;rw[<-e];refine⟨h.1,h.2.1,h.2.2.1,h.2.2.2.1,h.2.2.2.2.1,Ee ⟨hs.len,fun y hy=>hs.look y dk,fun y hy=>hs.ob y dk⟩ h.2.2.2.2.2⟩
theorem IM{op:Op}{A:TypeId}(hs:Xa P σ1 op A v)(h:Sub P op.operands.toList σ1 σ):Xa P σ op A v:=by
 cases op<;>simp only[Xa]at hs⊢;case move x=>rw[<-h.look x a4];exact hs
 case assign x=>rw[<-h.look x a4];exact hs
 case pick c a b=>rw[<-h.look c a4,<-h.look a a4,<-h.look b a4];exact hs
 case load T x=>
  rw[h.look x a4]at hs;refine⟨hs.1,hs.2.1,?_⟩;have ac:=hs.2.2
  split at ac
  ·rename_i t c O;obtain⟨G,ho,hr⟩:=ac;exact⟨G,h.same a4 O bs ho ab,hr⟩
  ·rename_i t j i c O;obtain⟨q,Q,M,ho,hr⟩:=ac;exact⟨q,Q,M,h.same a4 O bs ho ab,hr⟩
  ·exact ac
  ·rename_i t j i c k O;obtain⟨Q,M,s,ho,hr⟩:=ac;exact⟨Q,M,s,h.same a4 O bs ho ab,hr⟩
  ·exact ac.elim
 case nilCheck x=>
  rw[h.look x a4]at hs;refine⟨hs.1,?_⟩;have ac:=hs.2
  split at ac
  ·rename_i t c O;obtain⟨⟨G,ho⟩,hr⟩:=ac;exact⟨⟨G,h.same a4 O bs ho ab⟩,hr⟩
  ·exact ac.elim
 case fieldAddr T x f=>
  rw[h.look x a4]at hs;refine⟨hs.1,hs.2.1,?_⟩;have ac:=hs.2.2
  split at ac
  ·rename_i t c O;obtain⟨⟨G,ho⟩,hr⟩:=ac;exact⟨⟨G,h.same a4 O bs ho ab⟩,hr⟩
  ·rename_i t j i c O;obtain⟨⟨q,Q,M,ho⟩,hr⟩:=ac;exact⟨⟨q,Q,M,h.same a4 O bs ho ab⟩,hr⟩
  ·exact ac
  ·rename_i t j i c k O;obtain⟨⟨Q,M,ho⟩,hr⟩:=ac;exact⟨⟨Q,M,h.same a4 O bs ho ab⟩,hr⟩
  ·exact ac.elim
 case indexAddr T x ix=>
  obtain⟨k,i,hk,h0,hg,ac⟩:=hs;rw[h.look x a4]at hg ac;refine⟨k,i,WD h a4 hk,h0,hg,?_⟩;split at ac
  ·exact ac
  ·rename_i t j lo ae O;obtain⟨I,X,⟨q,M,ho⟩,hr⟩:=ac;exact⟨I,X,⟨q,M,h.same a4 O bs ho ab⟩,hr⟩
  ·rename_i t c O;obtain⟨⟨G,ho⟩,hr⟩:=ac;exact⟨⟨G,h.same a4 O bs ho ab⟩,hr⟩
  ·rename_i t j m c O;obtain⟨I,X,⟨Q,M,s,ho,hr⟩,hv⟩:=ac;exact⟨I,X,⟨Q,M,s,h.same a4 O bs ho ab,hr⟩,hv⟩
  ·exact ac.elim
 case index T x ix=>obtain⟨k,i,hk,h0,hg,ac⟩:=hs;rw[h.look x a4]at hg ac;exact⟨k,i,WD h a4 hk,h0,hg,ac⟩
 case slice T x lo hi mx=>
  cases mx with
  |some m=>exact hs.elim
  |none=>
   simp only at hs⊢;rw[h.look x a4]at hs;refine⟨hs.1,?_⟩;have ac:=hs.2
   have b1:∀w n,bm P σ1 w lo n->bm P σ w lo n:=fun w n=>pw h (fun y hy=>by subst hy;simp[Op.operands]);have b2:∀w n,bm P σ1 w hi n->bm P σ w hi n:=fun w n=>pw h (fun y hy=>by subst hy;simp[Op.operands]);split at ac
   ·obtain⟨I,l,hh,X,h3,hr⟩:=ac;exact⟨I,l,hh,b1 _ _ X,b2 _ _ h3,hr⟩
   ·obtain⟨I,g,l,hh,X,h3,hr⟩:=ac;exact⟨I,g,l,hh,b1 _ _ X,b2 _ _ h3,hr⟩
   ·rename_i t j o ae O;obtain⟨I,⟨q,M,ho⟩,l,hh,X,h3,hr⟩:=ac;exact⟨I,⟨q,M,h.same a4 O bs ho ab⟩,l,hh,b1 _ _ X,b2 _ _ h3,hr⟩
   ·exact ac.elim
 case binOp op T x y yt=>rw[<-h.look x a4,<-h.look y a4];exact hs
 case unOp op T x=>rw[<-h.look x a4];exact hs
 case convert S T x=>rw[<-h.look x a4];exact hs
 case extract x i=>rw[<-h.look x a4];exact hs
 case field T x f=>rw[<-h.look x a4];exact hs
 case build T parts=>obtain⟨I,X,z,d,h3,h4,h5⟩:=hs;refine⟨I,X,z,d,h3,Ee ?_ h4,h5⟩;simpa[Op.operands]using h
 case call c=>
  obtain⟨e,ax,aK⟩:=c;have hm:∀x∈ax.toList,x∈(Op.operands (.call ⟨e,ax,aK⟩)).toList:=by intro x O;simp only[Op.operands,Call.operands];cases e<;>simp at O⊢<;>simp[O]
  split at hs
  ·rename_i x t Z ha ht;rw[h.look x (hm x cl)]at hs;try simp only[Z,ha,ht]
   refine⟨hs.1,?_⟩;have ac:=hs.2
   split at ac
   ·exact ac
   ·exact ac
   ·exact ac
   ·rename_i u j lo ae O;obtain⟨I,⟨q,Q,M,ho⟩|⟨Q,M,ho⟩,hr⟩:=ac
    ·exact⟨I,.inl ⟨q,Q,M,h.same (hm x cl) O bs ho ab⟩,hr⟩
    ·exact⟨I,.inr ⟨Q,M,h.same (hm x cl) O bs ho ab⟩,hr⟩
   ·rename_i u j i c O;obtain⟨I,Q,M,n,s,ho,hr⟩:=ac;exact⟨I,Q,M,n,s,h.same (hm x cl) O bs ho ab,hr⟩
   ·exact ac.elim
  ·rename_i x y Z ha;try simp only[Z,ha]
   obtain⟨k,m,n,I,X,h3⟩:=hs;exact⟨k,m,n,WD h (hm x cl) I,WD h (hm y cl) X,h3⟩
  ·rename_i x y Z ha;try simp only[Z,ha]
   obtain⟨k,m,n,I,X,h3⟩:=hs;exact⟨k,m,n,WD h (hm x cl) I,WD h (hm y cl) X,h3⟩
  ·exact hs.elim
open Go.RowKit
variable{ys:List Operand}{al H r:List (List D)}
def vn(P:Program)(xs:List Operand)(σ:U)(u:Nat):Prop:=
 ∃x∈xs,∃A,(look P σ A x).ref u=true\/∃t G,(look P σ A x).ref t=true/\σ.ob t 0= .box G/\Y6 u G=true
theorem qJ{u:Nat}:∀{xs:List At},Y6 u xs=true↔∃x∈xs,x.ref u=true
 |[]=>by simp[Y6]
 |x::xs=>by simp[Y6,qJ]
theorem n5{xs ys:List At}(h:∀x∈xs,x∈ys)(O:Y6 u xs=true):Y6 u ys=true:=by obtain⟨x,I,X⟩:=qJ.1 O;exact qJ.2 ⟨x,h x I,X⟩
theorem Gx{a:Nat}{xs:List At}(O:Y6 u (cut xs a b)=true):Y6 u xs=true:=
 n5 (fun _ h=>List.mem_of_mem_drop (List.mem_of_mem_take h)) O
theorem IC(xs:List D):Y6 u (xs.map .d)=false:=by
 induction xs with
 |nil=>rfl
 |cons x xs ih=>simp[Y6,At.ref,ih]
theorem HN{T:TypeId}{xs:List At}(h:(bt P T xs).ref u=true):Y6 u xs=true:=by
 unfold bt at h;split at h
 ·exact h
 ·split at h
  ·simpa[V.ref,Y6]using h
  ·simp[V.ref]at h
theorem py{o:Nat}{r xs:List At}(h:Y6 u (place r o xs)=true):Y6 u r=true\/Y6 u xs=true:=by
 obtain⟨x,I,X⟩:=qJ.1 h;simp only[place,List.mem_append]at I;rcases I with(I|I)|I
 ·exact .inl (qJ.2 ⟨x,List.mem_of_mem_take I,X⟩)
 ·exact .inr (qJ.2 ⟨x,I,X⟩)
 ·exact .inl (qJ.2 ⟨x,List.mem_of_mem_drop I,X⟩)
theorem k0(h:(unc v).ref u=true)(Z:∀g x,unc v≠ .O g x)(hf:∀g x,unc v≠ .fix g x):v.ref u=true:=by
 cases v with
 |O g x=>
  simp only[unc]at h Z hf;simp only[V.ref,Bool.or_eq_true];cases x with
  |Z xs=>exact .inr h
  |O g y=>exact absurd rfl (Z g y)
  |fix g y=>exact absurd rfl (hf g y)
  |one x=>exact .inl h
  |agg x=>exact .inl h
  |any=>exact .inl h
 |fix g x=>
  simp only[unc]at h Z hf;simp only[V.ref,Bool.or_eq_true];cases x with
  |Z xs=>exact .inr h
  |O g y=>exact absurd rfl (Z g y)
  |fix g y=>exact absurd rfl (hf g y)
  |one x=>exact .inl h
  |agg x=>exact .inl h
  |any=>exact .inl h
 |_=>exact h
theorem uI{u t j i:Nat}:∀{c:Nat}{xs:List D},Y6 u (PJ t j i c xs)=true->u=t
 |_,[],h=>by simp[PJ,Y6]at h
 |c,x::xs,h=>by
  simp only[PJ,Y6,Bool.or_eq_true]at h;rcases h with h|h
  ·cases x<;>simp[At.ref]at h;exact h.symm
  ·exact uI h
theorem v6{c:Nat}{q:Bool}{xs:List D}(h:Y6 u (HC q t j i c xs)=true):u=t:=by
 cases q with
 |true=>exact uI h
 |false=>simp only[HC]at h;rw[IC]at h;cases h
theorem tc{k:IntKind}{x y:Int}(h:vv op k x y v)(u:Nat):v.ref u=false:=by cases op<;>simp only[vv]at h<;>first|(subst h;rfl)|(obtain⟨_,rfl⟩:=h;rfl)|exact h.elim
theorem nB{x y:ByteArray}(h:uO op x y v)(u:Nat):v.ref u=false:=by cases op<;>simp only[uO]at h<;>first|(subst h;rfl)|(obtain⟨_,rfl⟩:=h;rfl)|exact h.elim
theorem HQ{x y:Bool}(h:EM op x y v)(u:Nat):v.ref u=false:=by cases op<;>simp only[EM]at h<;>first|(subst h;rfl)|(obtain⟨_,rfl⟩:=h;rfl)|exact h.elim
theorem u3{T:TypeId}{x y:V}(h:iM P op T x y v)(u:Nat):v.ref u=false:=by
 unfold iM at h;split at h
 ·exact tc h.2 u
 ·exact nB h u
 ·exact HQ h.2 u
 ·obtain⟨_,q,_,⟨_,rfl⟩|⟨_,rfl⟩⟩:=h<;>rfl
 ·exact h.elim
theorem pK{u:Nat}:∀{xs:List V}{i:Nat}{v:V},xs[i]?=some v->v.Ft u=true->N9 u xs=true
 |[],_,_,h,_=>cz
 |x::xs,0,v,h,hr=>by simp at h;subst h;simp[N9,hr]
 |x::xs,i+1,v,h,hr=>by simp only[N9,Bool.or_eq_true];exact .inr (pK c3 hr)
theorem oF(hf:v.flat=true)(u:Nat):v.ref u=v.Ft u:=by cases v<;>first|rfl|(simp[V.flat]at hf)
theorem ug{P:Program}{σ:U}{T:TypeId}{u:Nat}:∀{K:List (Nat×Operand)}{z d:List At},Ou P σ T K z d->Y6 u d=true->
  Y6 u z=true\/∃x∈K.map (·.2),∃A,(look P σ A x).ref u=true
 |[],z,d,h,hr=>by simp only[Ou]at h;subst h;exact .inl hr
 |(i,x)::K,z,d,h,hr=>by
  simp only[Ou]at h;rcases ug h.2.2.2.2.2 hr with I|⟨y,hy,A,I⟩
  ·rcases py I with I|I
   ·exact .inl I
   ·exact .inr ⟨x,ab,_,Ra I⟩
  ·exact .inr ⟨y,by simp at hy⊢;exact .inr hy,A,I⟩
theorem oG{op:Op}{A:TypeId}(hs:Xa P σ op A v)(hr:v.ref u=true):vn P op.operands.toList σ u:=by
 have l:∀{x:D},v= .one (.d x)->False:=by intro x e;rw[e]at hr;cases hr
 cases op<;>simp only[Xa]at hs;case move x=>subst hs;exact⟨x,by simp[Op.operands],A,.inl hr⟩
 case assign x=>subst hs;exact⟨x,by simp[Op.operands],A,.inl hr⟩
 case pick c a b=>obtain⟨g,p,q,_,_,_,_,_,_,rfl⟩:=hs;cases hr
 case load T x=>
  have ac:=hs.2.2;split at ac
  ·rename_i t c O;obtain⟨G,ho,_,rfl⟩:=ac;exact⟨x,by simp[Op.operands],0,.inr ⟨t,G,zE O bs,ho,Gx (HN hr)⟩⟩
  ·rename_i t j i c O;obtain⟨q,Q,M,_,_,_,rfl⟩:=ac;have:=v6 (HN hr)
   exact⟨x,by simp[Op.operands],0,.inl (zE O (by simp[At.ref,this]))⟩
  ·obtain⟨_,rfl⟩:=ac;have:=HN hr;rw[IC]at this;cases this
  ·obtain⟨_,_,_,_,_,_,_,_,_,rfl⟩:=ac;have:=HN hr;rw[IC]at this;cases this
  ·exact ac.elim
 case nilCheck x=>
  have ac:=hs.2;split at ac
  ·rename_i t c O;obtain⟨_,rfl⟩:=ac;exact⟨x,by simp[Op.operands],0,.inl (zE O hr)⟩
  ·exact ac.elim
 case fieldAddr T x f=>
  have ac:=hs.2.2;split at ac
  ·rename_i t c O;obtain⟨_,rfl⟩:=ac;exact⟨x,by simp[Op.operands],0,.inl (zE O hr)⟩
  ·rename_i t j i c O;obtain⟨_,rfl⟩:=ac;exact⟨x,by simp[Op.operands],0,.inl (zE O hr)⟩
  ·subst ac;cases hr
  ·rename_i t j i c k O;obtain⟨_,rfl⟩:=ac;exact⟨x,by simp[Op.operands],0,.inl (zE O hr)⟩
  ·exact ac.elim
 case indexAddr T x ix=>
  obtain⟨k,i,_,_,_,ac⟩:=hs;split at ac
  ·obtain⟨_,_,_,_,rfl⟩:=ac;cases hr
  ·rename_i t j lo ae O;obtain⟨_,_,_,_,rfl⟩:=ac;exact⟨x,by simp[Op.operands],0,.inl (zE O hr)⟩
  ·rename_i t c O;obtain⟨_,_,rfl⟩:=ac;exact⟨x,by simp[Op.operands],0,.inl (zE O hr)⟩
  ·rename_i t j m c O;obtain⟨_,_,_,rfl⟩:=ac;exact⟨x,by simp[Op.operands],0,.inl (zE O hr)⟩
  ·exact ac.elim
 case index T x ix=>
  obtain⟨k,i,_,_,_,ac⟩:=hs;split at ac
  ·obtain⟨_,_,rfl⟩:=ac;cases hr
  ·rename_i xs O;obtain⟨_,_,_,rfl⟩:=ac;exact⟨x,by simp[Op.operands],0,.inl (Gn O (Gx (HN hr)))⟩
  ·exact ac.elim
 case slice T x lo hi mx=>
  cases mx with
  |some m=>exact hs.elim
  |none=>
   simp only at hs;have ac:=hs.2
   split at ac
   ·obtain⟨_,_,_,_,_,_,_,rfl⟩:=ac;cases hr
   ·obtain⟨_,_,_,_,_,_,_,_,rfl⟩:=ac;cases hr
   ·rename_i t j o ae O;obtain⟨_,_,_,_,_,_,_,_,rfl⟩:=ac;exact⟨x,by simp[Op.operands],0,.inl (zE O hr)⟩
   ·exact ac.elim
 case binOp op T x y yt=>rw[u3 hs.2.2 u]at hr;cases hr
 case unOp op T x=>
  have ac:=hs.2;split at ac
  ·subst ac;cases hr
  ·subst ac;cases hr
  ·exact ac.elim
 case convert S T x=>
  have ac:=hs.2.2;split at ac
  ·obtain⟨_,_,rfl⟩:=ac;cases hr
  ·exact ac.elim
 case extract x i=>
  have ac:=hs.2;split at ac
  ·rename_i xs O;refine⟨x,by simp[Op.operands],0,.inl (k0 ?_ (by rw[O];simp) (by rw[O];simp))⟩;rw[O];rw[oF ac.2]at hr;exact pK ac.1 hr
  ·exact ac.elim
 case field T x f=>
  have ac:=hs.2.2.2;split at ac
  ·rename_i xs O;obtain⟨_,rfl⟩:=ac;exact⟨x,by simp[Op.operands],0,.inl (Gn O (Gx (HN hr)))⟩
  ·exact ac.elim
 case build T parts=>
  obtain⟨_,_,z,d,h3,h4,rfl⟩:=hs;rcases ug h4 hr with I|⟨x,O,h,I⟩
  ·rw[Gr u _ _ _ h3]at I;cases I
  ·exact⟨x,by simpa[Op.operands]using O,h,.inl I⟩
 case call c=>
  split at hs
  ·have ac:=hs.2;split at ac
   ·obtain⟨_,rfl⟩:=ac;cases hr
   ·obtain⟨_,rfl⟩:=ac;cases hr
   ·obtain⟨_,rfl⟩:=ac;cases hr
   ·obtain⟨_,_,rfl⟩:=ac;cases hr
   ·obtain⟨_,_,_,_,_,_,_,_,rfl⟩:=ac;cases hr
   ·exact ac.elim
  ·obtain⟨_,_,_,_,_,rfl⟩:=hs;cases hr
  ·obtain⟨_,_,_,_,_,rfl⟩:=hs;cases hr
  ·exact hs.elim
open Go.RowKit
inductive ax where
 |put (v:V)
 |new (v:V) (aa:List Ob)
 |drop (t j:Nat) (v:V) (aa:List Ob)
variable{e:ax}
def ax.ap(d:Nat):ax->U->U
 |.put v,σ=>σ.put d v
 |.new v aa,σ=>σ.new d v aa
 |.drop t j v aa,σ=>(σ.Yj t j .none).new d v aa
def ax.ok(d:Nat):ax->U->Prop
 |.put _,_=>True
 |.new _ _,σ=>σ.fresh d=true
 |.drop t j _ _,σ=>(∃q s r,σ.ob t j= .arr q s r)/\(σ.Yj t j .none).fresh d=true
def ax.ref(u:Nat):ax->Bool
 |.put v=>v.ref u
 |.new v aa=>v.ref u||Xi u aa
 |.drop _ _ v aa=>v.ref u||Xi u aa
def Gs(o:Oper):Bool:=
 match o.op with
 |.call ⟨.builtin .append,⟨.const _::_⟩,_⟩=>false
 |.call ⟨.builtin .append,_,_⟩=>true
 |_=>false
def xh(o:Oper):Bool:=
 match o.op with
 |.alloc _=>false
 |.box _ _=>false
 |.buildSlice _ _ _=>false
 |.makeSlice _ _ _=>false
 |.call ⟨.builtin .append,_,_⟩=>false
 |.call ⟨.value _,_,_⟩=>false
 |_=>true
def Lq(N:Array Oper)(o:Oper):List Operand:=
 o.op.operands.toList++(match o.guard with|some (j,_)=>(match(N[j]?).bind (·.dst)with|some G=>[.tmp G]|none=>[])|none=>[])
theorem Sub.left{xs:List Operand}(h:Sub P (xs++ys) σ1 σ):Sub P xs σ1 σ:=⟨h.len,fun x O=>h.look x (by simp[O]),fun x O=>h.ob x (by simp[O])⟩
theorem nr{x:At}{d:D}(h:∀u,x.ref u=true->∀j,σ1.ob u j≠ .none->σ.ob u j=σ1.ob u j)(hd:qn σ1 x=some d):qn σ x=some d:=by
 cases x with
 |O t j lo ae=>
  simp only[qn]at hd⊢;split at hd
  ·rename_i q Q M ho;rw[h t bs j bv,ho];exact hd
  ·cases hd
 |_=>exact hd
theorem SD:∀{xs:List At}{r:List D},(∀u,Y6 u xs=true->∀j,σ1.ob u j≠ .none->σ.ob u j=σ1.ob u j)->rowOf σ1 xs=some r->rowOf σ xs=some r
 |[],_,_,h=>h
 |x::xs,r,h,hr=>by
  simp only[rowOf]at hr⊢;split at hr
  ·rename_i d ds I X;rw[nr (fun u F=>h u (by rw[Y6,F];rfl)) I,SD (fun u F=>h u (by rw[Y6,F,Bool.or_true])) X];exact hr
  ·cases hr
theorem sO{r:List D}(h:∀u,Y6 u v.cells=true->∀j,σ1.ob u j≠ .none->σ.ob u j=σ1.ob u j)(hr:v.xJ σ1=some r):v.xJ σ=some r:=by
 cases v with
 |one x=>exact SD h hr
 |agg xs=>
  match xs,h,hr with
  |[],h,hr=>exact SD h hr
  |[_],_,hr=>simp[V.xJ]at hr
  |x::y::xs,h,hr=>exact SD h hr
 |any=>simp[V.xJ]at hr
 |Z xs=>simp[V.xJ]at hr
 |O g x=>simp[V.xJ]at hr
 |fix u x=>simp[V.xJ]at hr
theorem Sub.cells{xs:List Operand}(h:Sub P xs σ1 σ)(O:x∈xs)(A:TypeId):∀u,Y6 u (unc (Vm.look P σ1 A x)).cells=true->∀j,σ1.ob u j≠ .none->σ.ob u j=σ1.ob u j:=
 fun u F j hn=>h.ob x O A u (Ra F) j hn
theorem Ov:∀{xs:List Operand}{ts:List TypeId}{rs:List (List D)},Sub P xs σ1 σ->JD P σ1 xs ts rs->JD P σ xs ts rs
 |[],_,_,_,h=>h
 |x::xs,[],_,_,h=>h.elim
 |x::xs,t::ts,rs,hs,h=>by
  obtain⟨hg,r,ap,I,X,h3⟩:=h;have e:=hs.look x ab t
  refine⟨by rw[<-e];exact hg,r,ap,?_,Ov ⟨hs.len,fun y hy=>hs.look y (by simp[hy]),fun y hy=>hs.ob y (by simp[hy])⟩ X,h3⟩;rw[<-e];exact sO (hs.cells ab t) I
theorem Nf:∀{xs:List Operand}{ts:List TypeId},Sub P xs σ1 σ->Yz P σ xs ts=Yz P σ1 xs ts
 |[],_,_=>by simp[Yz]
 |x::xs,[],_=>by simp[Yz]
 |x::xs,t::ts,hs=>by simp only[Yz];rw[hs.look x ab t,Nf ⟨hs.len,fun y hy=>hs.look y (by simp[hy]),fun y hy=>hs.ob y (by simp[hy])⟩]
theorem IH{own:Bool}(hs:Sub P c.args.toList σ1 σ)(h:iY P σ1 c f own H):iY P σ c f own H:=by obtain⟨M,I,X,h3⟩:=h;exact⟨M,Ov hs I,X,by rw[Nf hs];exact h3⟩
theorem Lt{T:TypeId}{Q:Nat}:∀{K:List (Nat×Operand)}{k:Nat}{rs:List (List D)},Sub P (K.map (·.2)) σ1 σ->Ed P σ1 T Q K k rs->Ed P σ T Q K k rs
 |[],_,_,_,h=>h
 |(i,x)::K,k,rs,hs,h=>by have e:=hs.look x ab T;obtain⟨I,X,h3,h4,r,ap,h5,h6,h7,h8⟩:=h;refine⟨I,by rw[<-e];exact X,by rw[<-e];exact h3,by rw[<-e];exact h4,r,ap,?_,h6,Lt ⟨hs.len,fun y hy=>hs.look y dk,fun y hy=>hs.ob y dk⟩ h7,h8⟩;rw[<-e];exact SD (hs.cells ab T) h5
theorem Cq{T:TypeId}{Q:Nat}:∀{K:List (Nat×Operand)}{k:Nat}{rs:List (List At)},Sub P (K.map (·.2)) σ1 σ->F1 P σ1 T Q K k rs->F1 P σ T Q K k rs
 |[],_,_,_,h=>h
 |(i,x)::K,k,rs,hs,h=>by
  obtain⟨I,X,h3,h4,ap,h5,h6⟩:=h;have e:=hs.look x ab T
  rw[e]at X h3 h4 h6;exact⟨I,X,h3,h4,ap,Cq ⟨hs.len,fun y hy=>hs.look y dk,fun y hy=>hs.ob y dk⟩ h5,h6⟩
theorem po{T:TypeId}{Q u:Nat}:∀{K:List (Nat×Operand)}{k:Nat}{rs:List (List At)},F1 P σ T Q K k rs->Y6 u rs.flatten=true->∃x∈K.map (·.2),(Vm.look P σ T x).ref u=true
 |[],_,_,h,hr=>by simp only[F1]at h;subst h;simp[Y6]at hr
 |(i,x)::K,k,rs,h,hr=>by
  obtain⟨I,X,h3,h4,ap,h5,rfl⟩:=h;rw[List.flatten_cons]at hr;obtain⟨z,hz,D⟩:=qJ.1 hr;rcases List.mem_append.1 hz with hz|hz
  ·exact⟨x,ab,Ra (qJ.2 ⟨z,hz,D⟩)⟩
  ·obtain⟨y,hy,a⟩:=po h5 (qJ.2 ⟨z,hz,D⟩);exact⟨y,by simp at hy⊢;exact .inr hy,a⟩
theorem kY(u:Nat):∀(qs:List Bool)(ds:List D),Xi u (Yg qs ds)=false
 |qs,[]=>by cases qs<;>rfl
 |q::qs,.sl Q M::ds=>by simp[Yg,Xi,kY u qs ds]
 |[],.sl Q M::ds=>by simp[Yg,Xi,kY u [] ds]
 |qs,.int _ _::ds=>eR
 |qs,.bool _::ds=>eR
 |qs,.str _::ds=>eR
 |qs,.unk::ds=>eR
theorem NC{xs:List Operand}{A:TypeId}(hs:Sub P xs σ1 σ)(O:x∈xs)(h:yh σ1 (unc (Vm.look P σ1 A x)) Q al):yh σ (unc (Vm.look P σ A x)) Q al:=by
 rw[hs.look x O]at h;unfold yh at h⊢;split at h
 ·exact h
 ·exact h
 ·rename_i t j lo ae hv;obtain⟨M,ho,hr⟩:=h;exact⟨M,hs.same O hv bs ho ab,hr⟩
 ·exact h.elim
theorem j5(u:Nat)(r:List D):(a2 (r.map At.d)).ref u=false:=by
 have:=IC (u:=u) r;match r,this with
 |[],_=>rfl
 |[x],_=>rfl
 |x::y::r,h=>exact h
theorem R2(u:Nat)(r:List D):(a2 (r.map At.d)).Ft u=false:=by
 have:=IC (u:=u) r;match r,this with
 |[],_=>rfl
 |[x],_=>rfl
 |x::y::r,h=>exact h
theorem K9(u:Nat)(H:List (List D)):(VO H).ref u=false:=by
 have c:∀rs:List (List D),N9 u (rs.map fun r=>a2 (r.map At.d))=false:=by
  intro rs;induction rs with
  |nil=>rfl
  |cons r rs ih=>simp only[List.map_cons,N9,R2,ih,Bool.or_false]
 match H with
 |[]=>rfl
 |[r]=>exact j5 u r
 |r::r'::rs=>exact c (r::r'::rs)
theorem G4{u d:Nat}(F:u≠d):∀(k:Nat)(r:List D),Y6 u (Qt d k r)=false
 |_,[]=>rfl
 |k,x::r=>by cases x<;>simp[Qt,Y6,At.ref,G4 F,Ne.symm F]
theorem lY{xs:List At}(h:Y6 u xs=false):(a2 xs).Ft u=false:=by
 match xs,h with
 |[],_=>rfl
 |[x],h=>simpa[a2,V.Ft,Y6]using h
 |x::y::xs,h=>exact h
theorem lZ(F:u≠d)(H:List (List D)):(Px d H).ref u=false:=by
 have c:∀(k:Nat)(rs:List (List D)),N9 u (pN d k rs)=false:=by
  intro k rs;induction rs generalizing k with
  |nil=>rfl
  |cons r rs ih=>simp only[pN,N9,lY (G4 F _ _),ih,Bool.or_false]
 match H with
 |[]=>exact c 0 []
 |[r]=>
  have I:(a2 (Qt d 0 r)).flat=true:=by
   match Qt d 0 r with
   |[]=>rfl
   |[x]=>rfl
   |x::y::xs=>rfl
  have:=lY (G4 F 0 r);rw[<-oF I]at this;exact this
 |r::r'::rs=>exact c 0 (r::r'::rs)
theorem tI(u:Nat):∀(ds:List D),Xi u (kp ds)=false
 |[]=>rfl
 |x::ds=>by cases x<;>simp[kp,Xi,tI u ds]
theorem Dg(A:TypeId)(v:Value)(u:Nat):(dB P A v).ref u=false:=by
 unfold dB;split<;>first|rfl|skip
 all_goals(repeat' split)<;>first|rfl|skip
open Go.RowKit
variable{N:Array Oper}{aa:List Ob}
def tH(P:Program)(N:Array Oper)(o:Oper)(d:Nat)(σ1:U)(e:ax):Prop:=
 e.ok d σ1/\(∀t j v aa,e= .drop t j v aa->Gs o=true/\∃x∈Lq N o,∃A,(look P σ1 A x).ref t=true)/\
 (xh o=true\/o.guard.isSome=true->∃v,e= .put v)/\
 (o.guard=none->∀u,u≠d->e.ref u=true->vn P (Lq N o) σ1 u)/\
 ∀σ,Sub P (Lq N o) σ1 σ->e.ok d σ->X5 P N o σ (e.ap d σ)
theorem Gw{xs:List Operand}(h:vn P xs σ1 u):vn P (xs++ys) σ1 u:=by obtain⟨x,O,r⟩:=h;exact⟨x,by simp[O],r⟩
theorem O2(hg:o.guard=none)(hd:o.dst=some d)(h:aQ P o d σ σ'):X5 P N o σ σ':=by unfold X5;simp only[hg,hd];exact h
theorem FX(hg:o.guard=none)(hd:o.dst=some d)(a:∀u,u≠d->v.ref u=true->vn P o.op.operands.toList σ1 u)
  (aw:∀σ,Sub P o.op.operands.toList σ1 σ->aQ P o d σ (σ.put d v)):tH P N o d σ1 (.put v):=
 ⟨trivial,(fun t j v aa h=>by cases h),fun _=>⟨v,rfl⟩,fun _ u F hr=>Gw (a u F hr),fun σ hs _=>O2 hg hd (aw σ hs.left)⟩
theorem OF(hg:o.guard=none)(hd:o.dst=some d)(hp:xh o=false)(ap:σ1.fresh d=true)(a:∀u,u≠d->(v.ref u||Xi u aa)=true->vn P o.op.operands.toList σ1 u)
  (aw:∀σ,Sub P o.op.operands.toList σ1 σ->σ.fresh d=true->aQ P o d σ (σ.new d v aa)):tH P N o d σ1 (.new v aa):=
 ⟨ap,(fun t j v aa h=>by cases h),(fun h=>h.elim (fun h=>by rw[hp]at h;cases h) (fun h=>by rw[hg]at h;cases h)),fun _ u F hr=>Gw (a u F hr),fun σ hs hf=>O2 hg hd (aw σ hs.left hf)⟩
theorem Tw(O:x∈c.args.toList):x∈(Op.operands (.call c)).toList:=by obtain⟨e,ax,aK⟩:=c;simp only[Op.operands,Call.operands];cases e<;>simp at O⊢<;>simp[O]
theorem Fl(h:Sub P (Op.operands (.call c)).toList σ1 σ):Sub P c.args.toList σ1 σ:=
 ⟨h.len,fun x O=>h.look x (Tw O),fun x O=>h.ob x (Tw O)⟩
theorem pk(hg:o.guard=none)(hd:o.dst=some d)(hs:aQ P o d σ1 σ2):∃e:ax,σ2=e.ap d σ1/\tH P N o d σ1 e:=by
 have ai:(∃v,Xa P σ1 o.op o.type v/\σ2=σ1.put d v)->(∀σ v,Xa P σ o.op o.type v->aQ P o d σ (σ.put d v))->∃e:ax,σ2=e.ap d σ1/\tH P N o d σ1 e:=by rintro⟨v,hv,rfl⟩ au;exact⟨.put v,rfl,FX hg hd (fun u _ hr=>oG hv hr) (fun σ a=>au σ v (IM hv a))⟩
 have W:=hs;unfold aQ at hs;split at hs
 ·rename_i T A;obtain⟨hf,hz,ac,aA,rfl⟩:=hs;refine⟨.new _ _,rfl,OF hg hd dI hf (fun u F hr=>?_) (fun σ a g=>?_)⟩
  ·simp only[V.ref,At.ref,Xi,Gr u _ _ _ aA,Bool.or_false,beq_iff_eq]at hr;exact absurd hr.symm F
  ·unfold aQ;rw[A];exact⟨g,hz,ac,aA,rfl⟩
 ·rename_i T x A;obtain⟨hf,I,X,h3,rfl⟩:=hs;refine⟨.new _ _,rfl,OF hg hd dI hf (fun u F hr=>?_) (fun σ a g=>?_)⟩
  ·simp only[V.ref,At.ref,Xi,Bool.or_false,Bool.or_eq_true,beq_iff_eq]at hr;rcases hr with hr|hr
   ·exact absurd hr.symm F
   ·exact⟨x,by simp[A,Op.operands],T,.inl (Ra hr)⟩
  ·have e:=a.look x (by simp[A,Op.operands]) T;unfold aQ;rw[A];simp only;rw[<-e];exact⟨g,I,X,h3,rfl⟩
 ·rename_i T n parts A;rcases hs with⟨hf,I,X,h3,h4,h5,⟨M,h6,rfl⟩|⟨M,h6,h7,rfl⟩⟩|⟨I,M,h6,rfl⟩
  ·refine⟨.new _ _,rfl,OF hg hd dI hf (fun u F hr=>?_) (fun σ a g=>?_)⟩
   ·simp only[V.ref,At.ref,Xi,Bool.or_false,beq_iff_eq]at hr;exact absurd hr.symm F
   ·unfold aQ;rw[A];refine .inl ⟨g,I,X,h3,h4,h5,.inl ⟨M,Lt ?_ h6,rfl⟩⟩;rw[A]at a;simpa[Op.operands]using a
  ·refine⟨.new _ _,rfl,OF hg hd dI hf (fun u F hr=>?_) (fun σ a g=>?_)⟩
   ·simp only[V.ref,At.ref,Xi,Bool.or_false,Bool.or_eq_true,beq_iff_eq]at hr;rcases hr with hr|hr
    ·exact absurd hr.symm F
    ·obtain⟨x,O,R⟩:=po h6 hr;exact⟨x,by simpa[A,Op.operands]using O,_,.inl R⟩
   ·unfold aQ;rw[A];refine .inl ⟨g,I,X,h3,h4,h5,.inr ⟨M,Cq ?_ h6,h7,rfl⟩⟩;rw[A]at a;simpa[Op.operands]using a
  ·refine⟨.put _,rfl,FX hg hd (fun u _ hr=>by cases hr) (fun σ a=>?_)⟩;unfold aQ;rw[A];refine .inr ⟨I,M,Lt ?_ h6,rfl⟩;rw[A]at a;simpa[Op.operands]using a
 ·rename_i T x y A;obtain⟨rfl,hf,I,X,h3,q,z,zr,k,n,hq,h4,h5,h6,h7,h8,rfl⟩:=hs;refine⟨.new _ _,rfl,OF hg hd dI hf (fun u F hr=>?_) (fun σ a g=>?_)⟩
  ·simp only[V.ref,At.ref,Xi,Bool.or_false,beq_iff_eq]at hr;exact absurd hr.symm F
  ·unfold aQ;rw[A];exact⟨rfl,g,I,X,h3,q,z,zr,k,n,hq,h4,h5,WD a (by simp[A,Op.operands]) h6,h7,h8,rfl⟩
 ·rename_i c A;split at hs
  ·rename_i Z;obtain⟨x,y,t,ha,aw,I,X,h3,h4,h5,aq,al,σd,h6,h7,h8,h9,ak,rfl⟩:=hs;have O:x∈o.op.operands.toList:=by rw[A];exact Tw cl
   have hy:y∈o.op.operands.toList:=by rw[A];exact Tw cl
   have h:xh o=false:=by obtain⟨cc,L,J⟩:=c;simp only at Z;subst Z;simp[xh,A]
   have Q:∀u,u≠d->(V.ref u (.one (.O d 0 0 (aq.length+al.length)))||Xi u [.arr false (P.cellsOf (E P t)) (aq++al)])=true->vn P o.op.operands.toList σ1 u:=by intro u F hr;simp only[V.ref,At.ref,Xi,Bool.or_false,beq_iff_eq]at hr;exact absurd hr.symm F
   have ad:=h6;unfold MR at h6;split at h6
   ·rename_i s heq;obtain⟨rfl,rfl⟩:=h6;refine⟨.new _ _,rfl,OF hg hd h h8 Q (fun σ a g=>?_)⟩;unfold aQ;rw[A];simp only[Z];refine⟨x,y,t,ha,aw,?_,?_,h3,h4,h5,[],al,σ,?_,NC a hy h7,g,h9,ak,rfl⟩
    ·rw[<-a.look x O];exact I
    ·rw[<-a.look y hy];exact X
    ·rw[<-a.look x O];unfold MR;rw[heq];exact⟨rfl,rfl⟩
   ·rename_i m j lo ae heq;obtain⟨M,ho,C,aC,G,rfl⟩:=h6;have B:(look P σ1 t x).ref m=true:=zE heq bs
    refine⟨.drop m j _ _,rfl,⟨⟨_,_,_,ho⟩,h8⟩,?_,(fun hh=>hh.elim (fun hh=>by rw[h]at hh;cases hh) (fun hh=>by rw[hg]at hh;cases hh)),fun _ u F hr=>Gw (Q u F hr),fun σ a g=>O2 hg hd ?_⟩
    ·intro t' j' v aa he;cases he;refine⟨?_,x,by simp only[Lq,List.mem_append];exact .inl O,t,B⟩;obtain⟨cc,L,J⟩:=c;simp only at Z ha;subst Z ha;cases x with
     |const v=>rw[Vm.look,Dg]at B;cases B
     |_=>simp[Gs,A]
    ·have b:=a.left;unfold aQ;rw[A];simp only[Z];have i:unc (look P σ t x)= .one (.O m j lo ae):=by rw[<-b.look x O];exact heq
     refine⟨x,y,t,ha,aw,?_,?_,h3,h4,h5,aq,al,_,?_,NC b hy h7,g.2,h9,ak,rfl⟩
     ·rw[<-b.look x O];exact I
     ·rw[<-b.look y hy];exact X
     ·unfold MR;rw[i];exact⟨M,b.same O i bs ho ab,C,aC,G,rfl⟩
   ·exact h6.elim
  ·rename_i f Z;have h:xh o=false:=by obtain⟨cc,L,J⟩:=c;simp only at Z;subst Z;simp[xh,A]
   rcases hs with⟨own,H,r,rfl⟩|⟨H,r,hf,rfl⟩|⟨M,H,qs,ha,hsd,hq,hf,rfl⟩
   ·refine⟨.put _,rfl,FX hg hd (fun u _ hr=>by rw[K9]at hr;cases hr) (fun σ a=>?_)⟩;rw[A]at a;unfold aQ;rw[A];simp only[Z];exact .inl ⟨own,H,IH (Fl a) r,rfl⟩
   ·refine⟨.new _ _,rfl,OF hg hd h hf (fun u F hr=>?_) (fun σ a g=>?_)⟩
    ·rw[lZ F,tI]at hr;cases hr
    ·rw[A]at a;unfold aQ;rw[A];simp only[Z];exact .inr (.inl ⟨H,IH (Fl a) r,g,rfl⟩)
   ·refine⟨.new _ _,rfl,OF hg hd h hf (fun u F hr=>?_) (fun σ a g=>?_)⟩
    ·rw[lZ F,kY]at hr;cases hr
    ·rw[A]at a;unfold aQ;rw[A];simp only[Z];exact .inr (.inr ⟨M,H,qs,Ov (Fl a) ha,hsd,hq,g,rfl⟩)
  ·rename_i I X;refine ai hs (fun σ v hv=>?_);unfold aQ;rw[A];simp only;exact⟨v,by rw[A]at hv;exact hv,rfl⟩
 ·rename_i S T x A;rcases hs with hs|⟨l,I,X,h3,h4,rfl⟩|⟨s,I,X,h3,h4,h5,rfl⟩
  ·refine ai hs (fun σ v hv=>?_);unfold aQ;rw[A];exact .inl ⟨v,by rw[A]at hv;exact hv,rfl⟩
  ·refine⟨.put _,rfl,FX hg hd (fun u _ hr=>by cases hr) (fun σ a=>?_)⟩;have O:x∈o.op.operands.toList:=by simp[A,Op.operands]
   unfold aQ;rw[A];exact .inr (.inl ⟨l,by rw[<-a.look x O];exact I,X,h3,NC a O h4,rfl⟩)
  ·refine⟨.put _,rfl,FX hg hd (fun u _ hr=>by cases hr) (fun σ a=>?_)⟩;have O:x∈o.op.operands.toList:=by simp[A,Op.operands]
   unfold aQ;rw[A];exact .inr (.inr ⟨s,by rw[<-a.look x O];exact I,X,h3,by rw[<-a.look x O];exact h4,h5,rfl⟩)
 ·rename_i D n2 p Y w U;refine ai hs (fun σ v hv=>?_);unfold aQ;split
  ·rename_i T A;exact absurd A (D T)
  ·rename_i T x A;exact absurd A (n2 T x)
  ·rename_i T n K A;exact absurd A (p T n K)
  ·rename_i T x y A;exact absurd A (Y T x y)
  ·rename_i c A;exact absurd A (w c)
  ·rename_i S T x A;exact absurd A (U S T x)
  ·exact⟨v,hv,rfl⟩
open Go.RowKit
theorem kE:σ.fresh d=true↔d<σ.length/\∀t e,σ[t]?=some e->t≠d->e.1.ref d=false/\Xi d e.2=false:=by
 unfold U.fresh;rw[Bool.and_eq_true,decide_eq_true_eq];refine and_congr_right fun _=>⟨fun h t e he W=>kD h t e he Y,fun h=>?_⟩;have:∀(σ:U)(k:Nat),(∀t e,σ[t]?=some e->k+t≠d->e.1.ref d=false/\Xi d e.2=false)->qp d k σ=true:=by
  intro σ;induction σ with
  |nil=>intro k _;rfl
  |cons e σ ih=>
   intro k hk;simp only[qp,Bool.and_eq_true,Bool.or_eq_true,beq_iff_eq,Bool.not_eq_true'];refine⟨?_,ih (k+1) fun t e' he W=>hk (t+1) e' (by simpa using he) Y⟩;by_cases h0:k=d
   ·exact .inl h0
   ·exact .inr (hk 0 e ab Y)
 exact this σ 0 (fun t e he W=>h t e he Y)
theorem lf{e:bD}(h:σ[t]?=some e)(j:Nat):σ.ob t j=XG e.2 j:=by unfold U.ob;rw[h]
theorem wv{o:Ob}(h:σ.ob t j=o)(hn:o≠ .none):∃e,σ[t]?=some e/\XG e.2 j=o:=by
 unfold U.ob at h;split at h
 ·rename_i e he;exact⟨e,he,h⟩
 ·exact absurd h.symm hn
theorem ur{u:Nat}:∀{aa:List Ob}{j:Nat}{G:List At},XG aa j= .box G->Y6 u G=true->Xi u aa=true
 |[],_,_,h,_=>by simp[XG]at h
 |o::aa,0,G,h,hr=>by have:o= .box G:=h;subst this;simp[Xi,hr]
 |o::aa,j+1,G,h,hr=>by have h':XG aa j= .box G:=dU;have:=ur h' hr;cases o<;>simp[Xi,this]
theorem kx{u s:Nat}{q:Bool}{r:List (List D)}:∀{aa:List Ob}{j:Nat},XG aa j= .arr q s r->Xi u (aa.set j .none)=Xi u aa
 |[],_,h=>by simp[XG]at h
 |o::aa,0,h=>by have:o= .arr q s r:=h;subst this;simp[Xi]
 |o::aa,j+1,h=>by have h':XG aa j= .arr q s r:=dU;have:=kx (u:=u) h';cases o<;>simp[Xi,this]
theorem rK(h:Qg σ d=true){e:bD}(he:σ[d]?=some e)(u:Nat):e.1.ref u=false/\Xi u e.2=false:=by
 unfold Qg at h;split at h
 ·rename_i I;rw[he]at I;cases I;exact⟨rfl,rfl⟩
 ·rename_i I;rw[he]at I;cases I;exact⟨rfl,rfl⟩
 ·cases h
section
variable{x:Oper}
theorem N0(hd:o.dst=some d)(hs:X5 P N o σ1 σ2):∃e:ax,σ2=e.ap d σ1/\tH P N o d σ1 e:=by
 unfold X5 at hs;split at hs
 ·rename_i hg;simp only[hd]at hs;exact pk hg hd hs
 ·rename_i j aN hg;obtain⟨G,d',g,v,i,ag,m,C,hv,rfl⟩:=hs;rw[hd]at m;cases m;refine⟨.put (.O g v),rfl,trivial,(fun t j v aa h=>by cases h),fun _=>⟨_,rfl⟩,(fun h=>by rw[hg]at h;cases h),fun σ a _=>?_⟩;have n:Operand.tmp G∈Lq N o:=by simp[Lq,hg,i]
  have am:σ.get G=σ1.get G:=(a.look _ n 0).symm;unfold X5;simp only[hg];refine⟨G,d,g,v,i,by rw[<-a.len];exact ag,hd,by rw[am];exact C,fun b=>?_,rfl⟩;have B:=hv b;have q:=a.left;unfold D5 at B⊢;split at B
  ·rename_i c A;split at B
   ·rename_i f Z;obtain⟨own,H,r,rfl⟩:=B;rw[A]at q;exact⟨own,H,IH (Fl q) r,rfl⟩
   ·obtain⟨v0,I,X⟩:=B;exact⟨v0,IM I q,X⟩
  ·obtain⟨v0,I,X⟩:=B;exact⟨v0,IM I q,X⟩
theorem Nz(e:ax):(e.ap d σ).length=σ.length:=by cases e<;>simp[ax.ap,U.K9,U.Rz,U.Qs]
theorem nh(e:ax)(W:t≠d):(e.ap d σ).get t=σ.get t:=by
 cases e with
 |put v=>simp[ax.ap,U.qM,W]
 |new v aa=>simp[ax.ap,U.P7,W]
 |drop a j v aa=>simp[ax.ap,U.P7,U.JI,W]
theorem ow(h:(σ.get t).ref u=true):∃e,σ[t]?=some e/\e.1.ref u=true:=by
 unfold U.get at h;split at h
 ·rename_i e he;exact⟨e,he,h⟩
 ·cases h
end
open Go.RowKit
variable{J:bD}
section
variable{x:Oper}
theorem Ph(hf:∀t e,σ[t]?=some e->t≠d->e.1.ref d=false)(hz:z≠ .tmp d)(A:TypeId):(look P σ A z).ref d=false:=by
 cases z with
 |tmp t=>
  have W:t≠d:=fun h=>hz (by rw[h]);cases hr:(look P σ A (.tmp t)).ref d with
  |false=>rfl
  |true=>obtain⟨e,he,ax⟩:=ow (σ:=σ) (t:=t) hr;rw[hf t e he W]at ax;cases ax
 |const v=>exact Dg A v d
 |global g=>rfl
 |func f=>rfl
theorem dn(hg:∀t,t≠d->σ1.get t=σ.get t)(hz:z≠ .tmp d)(A:TypeId):look P σ1 A z=look P σ A z:=by
 cases z with
 |tmp t=>exact hg t (fun h=>hz (by rw[h]))
 |const v=>rfl
 |global g=>rfl
 |func f=>rfl
theorem NY(h:e.ok d σ)(W:∀v,e≠ .put v):∀t J,σ[t]?=some J->t≠d->J.1.ref d=false:=by
 intro t J he ht;cases e with
 |put v=>exact absurd rfl (W v)
 |new v aa=>exact((kE.1 h).2 t J he ht).1
 |drop a j v aa=>
  have:=(kE.1 h.2).2 t;rw[VH]at this;by_cases i:t=a
  ·rw[if_pos i,he]at this;exact(this _ rfl ht).1
  ·rw[if_neg i]at this;exact(this J he ht).1
theorem Gt(h:e.ok d σ)(W:∀v,e≠ .put v):∀t J,σ[t]?=some J->t≠d->Xi d J.2=false:=by
 intro t J he ht;cases e with
 |put v=>exact absurd rfl (W v)
 |new v aa=>exact((kE.1 h).2 t J he ht).2
 |drop a j v aa=>
  obtain⟨⟨q,s,r,ho⟩,hf⟩:=h;have:=(kE.1 hf).2 t
  rw[VH]at this;by_cases i:t=a
  ·rw[if_pos i,he]at this;have X:=(this _ rfl ht).2
   subst i;rw[lf he]at ho;rw[kx ho]at X;exact X
  ·rw[if_neg i]at this;exact(this J he ht).2
theorem gk(h:e.ok d σ)(W:∀v,e≠ .put v):d<σ.length:=by
 cases e with
 |put v=>exact absurd rfl (W v)
 |new v aa=>exact(kE.1 h).1
 |drop a j v aa=>have:=(kE.1 h.2).1;rwa[U.Qs]at this
theorem hk(h:e.ok d σ)(F:(∀v,e≠ .put v)->u≠d)(hn:(e.ap d σ).ob u j≠ .none):σ.ob u j=(e.ap d σ).ob u j:=by
 cases e with
 |put v=>simp only[ax.ap,U.Kr]
 |new v aa=>have:=F (by intro v h;cases h);simp only[ax.ap,U.xG,this,false_and,if_false]
 |drop a k v aa=>
  have o:=F (by intro v h;cases h);obtain⟨⟨q,s,r,ho⟩,_⟩:=h;simp only[ax.ap,U.xG,o,false_and,if_false]at hn⊢;rw[U.Kg σ a k _ u j bv]at hn⊢;split at hn
  ·exact absurd rfl hn
  ·rename_i hh;rw[if_neg hh]
theorem q6(aE:∀t j v aa,e≠ .drop t j v aa)(F:(∀v,e≠ .put v)->u≠d):(e.ap d σ).ob u j=σ.ob u j:=by
 cases e with
 |put v=>simp only[ax.ap,U.Kr]
 |new v aa=>have:=F (by intro v h;cases h);simp only[ax.ap,U.xG,this,false_and,if_false]
 |drop a k v aa=>exact absurd rfl (aE a k v aa)
theorem Sm(ap:e.ok d σ)(ht:t≠d)(he:(e.ap d σ)[t]?=some J):∃b,σ[t]?=some b/\b.1=J.1/\∀u,Xi u b.2=Xi u J.2:=by
 cases e with
 |put v=>simp only[ax.ap,On,if_neg ht]at he;exact⟨J,he,rfl,fun _=>rfl⟩
 |new v aa=>simp only[ax.ap,Vy,if_neg ht]at he;exact⟨J,he,rfl,fun _=>rfl⟩
 |drop a j v aa=>
  simp only[ax.ap,Vy,if_neg ht,VH]at he;split at he
  ·rename_i i;subst i;obtain⟨⟨q,s,r,ho⟩,_⟩:=ap;obtain⟨e0,l,af⟩:=wv ho ab;rw[l]at he;simp at he;subst he;exact⟨e0,l,rfl,fun u=>(kx af).symm⟩
  ·exact⟨J,he,rfl,fun _=>rfl⟩
theorem go(aM:x.dst=some K)(k:y.dst=some dy)(W:K≠dy)(o:∀z∈Lq N y,z≠ .tmp K)(H:∀z∈Lq N x,z≠ .tmp dy)(aE:Gs y=false)(D:y.guard=none\/xh x=true\/x.guard.isSome=true)
  (R:Qg σ K=true) (I:X5 P N x σ σ1) (X:X5 P N y σ1 σ2):∃g,X5 P N y σ g/\X5 P N x g σ2:=by
 obtain⟨b,rfl,f,O,ai,_,ak⟩:=N0 aM I;obtain⟨E,rfl,V,ag,_,ac,Y⟩:=N0 k X;have w:∀t j v aa,E≠ .drop t j v aa:=by
  intro t j v aa h;have:=(ag t j v aa h).1
  rw[aE]at this;cases this
 have ae:Sub P (Lq N y) (b.ap K σ) σ:=by refine⟨Nz b,fun z hz A=>dn (fun t ht=>nh b ht) (o z hz) A,fun z hz A u hr j hn=>?_⟩;refine hk f (fun c F=>?_) hn;subst F;rw[dn (fun t ht=>nh b ht) (o z hz) A,Ph (NY f c) (o z hz)]at hr;cases hr
 have C:E.ok dy σ:=by
  cases E with
  |put v=>trivial
  |drop a j v aa=>exact absurd rfl (w a j v aa)
  |new v aa=>
   have hf:=kE.1 V;refine kE.2 ⟨by rw[<-Nz b (d:=K)];exact hf.1,fun t e he ht=>?_⟩;by_cases p:t=K
   ·subst p;exact rK R he dy
   ·cases b with
    |put v'=>exact hf.2 t e (by simp only[ax.ap,On,if_neg p];exact he) ht
    |new v' n=>exact hf.2 t e (by simp only[ax.ap,Vy,if_neg p];exact he) ht
    |drop a j v' n=>
     obtain⟨⟨q,s,r,ho⟩,_⟩:=f;by_cases i:t=a
     ·subst i;have:=hf.2 t (e.1,e.2.set j .none) (by simp only[ax.ap,Vy,if_neg p,VH,if_true,he,Option.map_some]) ht
      rw[lf he]at ho;rw[kx ho]at this;exact this
     ·exact hf.2 t e (by simp only[ax.ap,Vy,if_neg p,VH,if_neg i];exact he) ht
 have T:=Y σ ae C;have Q:Sub P (Lq N x) σ (E.ap dy σ):=by refine⟨(Nz E).symm,fun z hz A=>(dn (fun t ht=>nh E ht) (H z hz) A).symm,fun z hz A u hr j hn=>?_⟩;refine q6 w (fun c F=>?_);subst F;rw[Ph (NY C c) (H z hz)]at hr;cases hr
 have S:(∀v,b≠ .put v)->E.ref K=false:=by
  intro c;have hg:y.guard=none:=by
   rcases D with h|h
   ·exact h
   ·obtain⟨v,hv⟩:=ai h;exact absurd hv (c v)
  cases hr:E.ref K with
  |false=>rfl
  |true=>
   obtain⟨z,hz,A,m⟩:=ac hg K W hr;have hl:look P (b.ap K σ) A z=look P σ A z:=dn (fun t ht=>nh b ht) (o z hz) A
   rw[hl]at m;rcases m with m|⟨t',G,B,ho,Z⟩
   ·rw[Ph (NY f c) (o z hz)]at m;cases m
   ·have p:t'≠K:=by intro h;subst h;rw[Ph (NY f c) (o z hz)]at B;cases B
    have L:σ.ob t' 0= .box G:=by rw[hk f (fun _=>p) bv,ho]
    obtain⟨J,al,ah⟩:=wv L ab;have:=Gt f c t' J al p
    rw[ur ah Z]at this;cases this
 have M:(∀v,b≠ .put v)->∀t e,(E.ap dy σ)[t]?=some e->t≠K->e.1.ref K=false/\Xi K e.2=false:=by
  intro c t e he ht;have hy:=S c
  by_cases aj:t=dy
  ·subst aj;cases E with
   |put v=>simp only[ax.ap,On,if_true,Option.map_eq_some_iff]at he;obtain⟨e0,l,rfl⟩:=he;exact⟨hy,Gt f c t e0 l ht⟩
   |new v aa=>simp only[ax.ap,Vy,if_true,Option.map_eq_some_iff]at he;obtain⟨e0,l,rfl⟩:=he;simp only[ax.ref,Bool.or_eq_false_iff]at hy;exact hy
   |drop a j v aa=>exact absurd rfl (w a j v aa)
  ·obtain⟨e0,l,I,X⟩:=Sm C aj he;rw[<-I,<-X];exact⟨NY f c t e0 l ht,Gt f c t e0 l ht⟩
 have ad:b.ok K (E.ap dy σ):=by
  cases b with
  |put v=>trivial
  |new v aa=>
   have c:∀v',ax.new v aa≠ .put v':=by intro v' h;cases h
   exact kE.2 ⟨by rw[Nz];exact gk f c,M c⟩
  |drop a j v aa=>
   have c:∀v',ax.drop a j v aa≠ .put v':=by intro v' h;cases h
   obtain⟨z,hz,A,hr⟩:=(O a j v aa rfl).2;obtain⟨q,s,r,ho⟩:=f.1;have L:(E.ap dy σ).ob a j= .arr q s r:=by rw[<-ho];exact Q.ob z hz A a hr j bv
   refine⟨⟨q,s,r,L⟩,kE.2 ⟨by rw[U.Qs,Nz];exact gk f c,fun t e he ht=>?_⟩⟩;rw[VH]at he;split at he
   ·rename_i i;subst i;obtain⟨e0,l,af⟩:=wv L ab;rw[l]at he;simp at he;subst he;have:=M c t e0 l ht
    exact⟨this.1,by rw[kx af];exact this.2⟩
   ·exact M c t e he ht
 refine⟨_,T,?_⟩;have:=ak _ Q ad
 have heq:b.ap K (E.ap dy σ)=E.ap dy (b.ap K σ):=by
  apply List.ext_getElem?;intro t;have am:=W
  cases b with
  |put v=>
   cases E with
   |put v'=>simp only[ax.ap,On];by_cases I:t=K<;>by_cases X:t=dy<;>simp_all
   |new v' n=>simp only[ax.ap,On,Vy];by_cases I:t=K<;>by_cases X:t=dy<;>simp_all
   |drop a j v' n=>exact absurd rfl (w a j v' n)
  |new v aa=>
   cases E with
   |put v'=>simp only[ax.ap,On,Vy];by_cases I:t=K<;>by_cases X:t=dy<;>simp_all
   |new v' n=>simp only[ax.ap,Vy];by_cases I:t=K<;>by_cases X:t=dy<;>simp_all
   |drop a j v' n=>exact absurd rfl (w a j v' n)
  |drop a j v aa=>
   obtain⟨z,hz,A,hr⟩:=(O a j v aa rfl).2;cases E with
   |put v'=>simp only[ax.ap,On,Vy,VH];by_cases I:t=K<;>by_cases X:t=dy<;>by_cases h3:t=a<;>simp_all;all_goals(first|(cases σ[dy]?<;>rfl)|(cases σ[t]?<;>rfl)|(cases σ[a]?<;>rfl))
   |new v' n=>
    have an:a≠dy:=by intro h;subst h;rw[Ph (NY C (by intro v h;cases h)) (H z hz)]at hr;cases hr
    simp only[ax.ap,Vy,VH];by_cases I:t=K<;>by_cases X:t=dy<;>by_cases h3:t=a<;>simp_all
   |drop a' j' v' n=>exact absurd rfl (w a' j' v' n)
 rw[<-heq];exact this
end
open Go.RowKit
variable{ah O:Oper->Bool}{D:List (Nat×Nat)}{E am I:List Nat}{A:Nat->Nat}{af:Exit->U->Prop}{C:List At}
def gA(N:Array Oper)(ah:Oper->Bool)(x y:Oper):Bool:=!ah x&&!ah y&&
 (match x.dst,y.dst with
 |some K,some dy=>K !=dy&&!(Lq N y).any (WK K)&&!(Lq N x).any (WK dy)&&!Gs y&&(y.guard.isNone||xh x||x.guard.isSome)
 |_,_=>false)
def lD(ah:Oper->Bool)(x y:Oper):Bool:=!ah x&&!ah y&&x.guard.isNone&&y.guard.isNone&&
 (match x.dst,y.dst,y.op with
 |some K,none,.store _ p q=>(match x.op with|.move _=>true|.assign _=>true|.extract _ _=>true|_=>false)&&!WK K p&&!WK K q
 |_,_,_=>false)
def iK(ah:Oper->Bool)(x y:Oper):Bool:=!ah x&&ah y&&x.guard.isNone&&(NS y&&!fh ah y)&&y.guard.isNone&&y.dst.isNone&&
 (match x.dst with
 |some K=>(match x.op with|.move _=>true|.assign _=>true|.extract _ _=>true|_=>false)&&RZ y K
 |none=>false)
def uK(D:List (Nat×Nat))(σ:U):Prop:=∀p∈D,σ.get p.1= .any\/∃c,unc (σ.get p.1)= .one (.Z p.2 c)
def gj(D:List (Nat×Nat))(σ:U):Bool:=D.all fun p=>match σ.get p.1 with|.any=>true|v=>(match unc v with|.one (.Z b _)=>b==p.2|_=>false)
def Ej(N:Array Oper)(D:List (Nat×Nat)):Bool:=N.toList.all fun o=>match o.dst with
 |none=>true
 |some d=>D.all fun p=>p.1 !=d||(o.guard.isNone&&(match o.op with|.fieldAddr _ (.tmp r) _=>D.contains (r,p.2)|.move (.tmp r)=>D.contains (r,p.2)|_=>false))
def wj(D:List (Nat×Nat))(b:Nat):Op->Bool
 |.load _ (.tmp t)=>D.any fun r=>r.1==t&&r.2 !=b
 |.fieldAddr _ _ _=>true
 |.move _=>true
 |.assign _=>true
 |.extract _ _=>true
 |.binOp _ _ _ _ _=>true
 |.call ⟨.builtin .len,⟨[_]⟩,⟨[_]⟩⟩=>true
 |_=>false
def dT(D:List (Nat×Nat))(ah:Oper->Bool)(x y:Oper):Bool:=!ah x&&!ah y&&x.guard.isNone&&y.guard.isNone&&
 (match x.dst,y.dst,y.op with
 |some K,none,.store _ (.tmp a) q=>a !=K&&!WK K q&&D.any fun p=>p.1==a&&wj D p.2 x.op
 |_,_,_=>false)
def ux(E:List Nat)(σ:U):Prop:=∀t∈E,∀b c,unc (σ.get t)≠ .one (.Z b c)
def hP(E:List Nat)(σ:U):Bool:=E.all fun t=>match unc (σ.get t)with|.one (.Z _ _)=>false|_=>true
def wR(P:Program)(N:Array Oper)(E:List Nat):Bool:=N.toList.all fun o=>match o.dst with
 |none=>true
 |some d=>E.all fun t=>t !=d||(o.guard.isNone&&(match o.op with|.indexAddr T _ _=>Xo P T|_=>false))
def tu(D:List (Nat×Nat))(E:List Nat)(σ:U):Prop:=uK D σ/\ux E σ
def hD(D:List (Nat×Nat))(E:List Nat)(ah:Oper->Bool)(x y:Oper):Bool:=!ah x&&ah y&&x.guard.isNone&&(NS y&&!fh ah y)&&y.guard.isNone&&y.dst.isNone&&
 (match x.dst,y.op with
 |some K,.store _ (.tmp a) q=>E.contains a&&a !=K&&!WK K q&&(match x.op with|.load _ (.tmp t)=>D.any fun r=>r.1==t|.fieldAddr _ (.tmp t) _=>D.any fun r=>r.1==t|_=>false)
 |_,_=>false)
def gO(D:List (Nat×Nat)):Op->Bool
 |.move _=>true
 |.load _ (.tmp t)=>D.any fun r=>r.1==t
 |.fieldAddr _ (.tmp _) _=>true
 |.slice _ (.tmp _) _ _ none=>true
 |_=>false
def lQ(D:List (Nat×Nat))(N:Array Oper)(ah:Oper->Bool)(x y:Oper):Bool:=ah x&&!ah y&&SO x&&x.guard.isNone&&y.guard.isNone&&gO D y.op&&
 (match x.dst,y.dst with
 |some K,some dy=>K !=dy&&!(Lq N y).any (WK K)&&!(Lq N x).any (WK dy)
 |_,_=>false)
def Fi(o:Oper)(j:Nat):Bool:=o.after.any fun e=>e.on==j&&Region.binds .any e
def Hz:List Oper->List Nat->List Nat
 |[],acc=>acc
 |o::ap,acc=>Hz ap (acc++[o.after.toList.foldl (fun m e=>if Region.binds .any e then m|||(1<<<e.on)|||acc.getD e.on 0 else m) 0])
def fk(ms:List Nat)(i j:Nat):Bool:=(ms.getD i 0).testBit j
inductive cG(N:Array Oper):Nat->Nat->Prop
 |one {i j:Nat} {o:Oper} (ho:N[i]?=some o) (hp:Fi o j=true):cG N i j
 |more {i m j:Nat} {o:Oper} (ho:N[i]?=some o) (hp:Fi o m=true) (h:cG N m j):cG N i j
theorem oI{N:Array Oper}:∀{l:List Oper}{acc:List Nat},(∀k o,l[k]?=some o->N[acc.length+k]?=some o)->(∀i j,(acc.getD i 0).testBit j=true->cG N i j)->∀i j,fk (Hz l acc) i j=true->cG N i j
 |[],acc,_,ha,i,j,h=>ha i j h
 |o::ap,acc,hl,ha,i,j,h=>by
  refine oI (l:=ap) (fun k z hk=>?_) (fun i j d=>?_) i j h
  ·have:=hl (k+1) z cc;rw[List.length_append,List.length_singleton,Nat.add_assoc,Nat.add_comm 1 k];exact this
  ·rw[List.getD_eq_getElem?_getD]at d;rcases Nat.lt_trichotomy i acc.length with ag|heq|b
   ·rw[List.getElem?_append_left ag,<-List.getD_eq_getElem?_getD]at d;exact ha i j d
   ·subst heq;rw[List.getElem?_append_right (Nat.le_refl _)]at d;simp only[Nat.sub_self,List.getElem?_cons_zero,Option.getD_some]at d;have ho:=hl 0 o ab
    rw[Nat.add_zero]at ho;have ai:∀(A:List Edge)(m:Nat),(∀e∈A,e∈o.after)->(∀j,m.testBit j=true->cG N acc.length j)->∀j,(A.foldl (fun m e=>if Region.binds .any e then m|||(1<<<e.on)|||acc.getD e.on 0 else m) m).testBit j=true->cG N acc.length j:=by
     intro A;induction A with
     |nil=>intro m _ hm j hj;exact hm j hj
     |cons e A ih=>
      intro m a hm j hj;refine ih _ (fun e' an=>a e' (by simp[an])) (fun j hj=>?_) j hj;by_cases J:Region.binds .any e=true
      ·simp only[J,if_true]at hj;have hp:Fi o e.on=true:=by unfold Fi;rw[<-Array.any_toList];exact List.any_eq_true.2 ⟨e,by simpa using a e ab,by simp[J]⟩
       rw[Nat.testBit_or,Nat.testBit_or,Bool.or_eq_true,Bool.or_eq_true]at hj;rcases hj with(hj|hj)|hj
       ·exact hm j hj
       ·rw[Nat.testBit_shiftLeft]at hj;simp only[Bool.and_eq_true,decide_eq_true_eq]at hj;have I:j-e.on=0:=by
         have:=hj.2;rw[show(1:Nat)=2^0 from rfl,Nat.testBit_two_pow]at this;have h3:0=j-e.on:=by simpa using this
         omega
        have:j=e.on:=Y;subst this;exact .one ho hp
       ·exact .more ho hp (ha e.on j hj)
      ·simp only[J,Bool.false_eq_true,if_false]at hj;exact hm j hj
    exact ai o.after.toList 0 (fun e he=>by simpa using he) (fun j hj=>by simp at hj) j d
   ·rw[List.getElem?_eq_none a0]at d;simp at d
def l0(N:Array Oper)(i j:Nat):Bool:=fk (Hz N.toList []) i j
theorem nT(h:l0 N i j=true):cG N i j:=
 oI (l:=N.toList) (acc:=[]) (fun k o hk=>by simpa using hk) (fun i j h=>by simp at h) i j h
def ha(P:Program)(N:Array Oper)(ah:Oper->Bool)(D:List (Nat×Nat))(E ms:List Nat)(i j:Nat):Bool:=match N[i]?,N[j]? with|some F,some b=>fk ms i j||gA N ah b F||lD ah b F||dT D ah b F||iK ah b F||lQ D N ah b F||hD D E ah b F|_,_=>false
def hL(N:Array Oper)(A:Nat->Nat)(i:Nat):Bool:=match N[i]? with|some o=>o.after.all fun e=>!Region.binds .any e||(decide (A e.on<A i)&&decide (e.on<N.size))|none=>false
def eO(N:Array Oper)(j:Nat):Bool:=match N[j]? with
 |some o=>(match o.dst with|some d=>(List.range N.size).all fun k=>k==j||(match N[k]? with|some q=>q.dst !=some d|none=>true)|none=>false)
 |none=>false
def oT(N:Array Oper)(A:Nat->Nat)(ms:List Nat)(j:Nat):Bool:=(List.range N.size).any fun i=>decide (A j<A i)&&!fk ms i j
def II(N:Array Oper)(A:Nat->Nat)(j:Nat):Bool:=oT N A (Hz N.toList []) j
def iW(P:Program)(N:Array Oper)(A:Nat->Nat)(ah:Oper->Bool)(D:List (Nat×Nat))(E ms:List Nat):Bool:=
 (List.range N.size).all fun i=>hL N A i&&((List.range N.size).all fun j=>!decide (A j<A i)||ha P N ah D E ms i j)&&(!oT N A ms i||eO N i)
def F7(P:Program)(N:Array Oper)(A:Nat->Nat)(ah:Oper->Bool):Bool:=iW P N A ah [] [] (Hz N.toList [])
def jz(N:Array Oper)(A:Nat->Nat)(σ:U):Bool:=
 let ms:=Hz N.toList []
 (List.range N.size).all fun j=>!oT N A ms j||(match(N[j]?).bind (·.dst)with|some d=>Qg σ d|none=>false)
theorem HR{xs:List Operand}(h:xs.any (WK d)=false):∀z∈xs,z≠ .tmp d:=by
 intro z hz he;subst he;have:=List.any_eq_false.1 h _ hz
 simp[WK]at this
theorem DF{x:Oper}(h:gA N ah x y=true):ah x=false/\ah y=false/\∃K dy,x.dst=some K/\y.dst=some dy/\K≠dy/\(∀z∈Lq N y,z≠ .tmp K)/\(∀z∈Lq N x,z≠ .tmp dy)/\Gs y=false/\(y.guard=none\/xh x=true\/x.guard.isSome=true):=by
 unfold gA at h;rw[Bool.and_eq_true,Bool.and_eq_true]at h;obtain⟨⟨aJ,aD⟩,h⟩:=h;refine⟨by simpa using aJ,by simpa using aD,?_⟩;split at h
 ·rename_i K dy I X;simp only[Bool.and_eq_true,bne_iff_ne,ne_eq,Bool.not_eq_true',Bool.or_eq_true,Option.isNone_iff_eq_none]at h;exact⟨K,dy,I,X,h.1.1.1.1,HR h.1.1.1.2,HR h.1.1.2,h.1.2,or_assoc.1 h.2⟩
 ·cases h
theorem kn{o:Ob}{T:TypeId}:look P (σ.Yj t j o) T x=look P σ T x:=by
 cases x with
 |tmp u=>simp[look,U.JI]
 |const c=>rfl
 |global g=>rfl
 |func f=>rfl
theorem HD{σ:U}{d:Nat}{v:V}:∀(xs:List At),rowOf (σ.put d v) xs=rowOf σ xs
 |[]=>rfl
 |x::xs=>by
  have:qn (σ.put d v) x=qn σ x:=by cases x<;>simp[qn,U.Kr]
  simp only[rowOf,this,HD xs]
theorem T5{x:Oper}(h:lD ah x y=true)(n:jE P N ah x σ σ1)(ac:jE P N ah y σ1 σ2):∃g,X5 P N y σ g/\X5 P N x g σ2:=by
 unfold lD at h;simp only[Bool.and_eq_true,Bool.not_eq_true',Option.isNone_iff_eq_none]at h;obtain⟨⟨⟨⟨aJ,aD⟩,w⟩,ag⟩,h⟩:=h;have n:=n.resolve_right (fun hh=>by rw[aJ]at hh;cases hh.1)
 have ac:=ac.resolve_right (fun hh=>by rw[aD]at hh;cases hh.1);split at h
 ·rename_i K T p q aM k A;simp only[Bool.and_eq_true,Bool.not_eq_true']at h;obtain⟨⟨hv,hp⟩,hq⟩:=h;unfold X5 at n ac;simp only[w,aM]at n;simp only[ag,k,A]at ac;have H:∃v,Xa P σ x.op x.type v/\σ1=σ.put K v:=by unfold aQ at n;cases O:x.op<;>rw[O]at n hv<;>first|exact n|(exact Bool.noConfusion hv)
  obtain⟨v,B,rfl⟩:=H;have aI:∀(t j:Nat)(o:Ob),Xa P (σ.Yj t j o) x.op x.type v:=by intro t j o;cases O:x.op<;>rw[O]at hv B<;>first|(exact Bool.noConfusion hv)|(simp only[Xa,kn]at B⊢;exact B)
  have a:∀(t j:Nat)(o:Ob),X5 P N x (σ.Yj t j o) ((σ.put K v).Yj t j o):=by
   intro t j o;unfold X5;simp only[w,aM];have:=aI t j o
   rw[WQ];unfold aQ;cases O:x.op<;>rw[O]at hv this<;>first|exact⟨v,this,rfl⟩|(exact Bool.noConfusion hv)
  unfold ke at ac;rw[X4 hp,X4 hq]at ac;obtain⟨k1,k2,k3,k4,ac⟩:=ac;split at ac
  ·rename_i t c hl;obtain⟨G,c1,c2,c3,rfl⟩:=ac;rw[U.Kr]at c1;refine⟨_,?_,a _ _ _⟩;unfold X5 ke;simp only[ag,k,A];refine⟨k1,k2,k3,k4,?_⟩;rw[hl];exact⟨G,c1,c2,c3,rfl⟩
  ·rename_i t j i c hl;obtain⟨q',Q,M,ds,c1,c2,c3,c4,c5,c6,c7,rfl⟩:=ac;rw[U.Kr]at c1;rw[HD]at c3;refine⟨_,?_,a _ _ _⟩;unfold X5 ke;simp only[ag,k,A];refine⟨k1,k2,k3,k4,?_⟩;rw[hl];exact⟨q',Q,M,ds,c1,c2,c3,c4,c5,c6,c7,rfl⟩
  ·exact ac.elim
 ·cases h
theorem VJ{T:TypeId}:look P σ T (.tmp t)=σ.get t:=rfl
theorem pY{op:Op}(ho:o.op=op)(h:wj D b op=true):aQ P o d σ σ'↔∃v,Xa P σ op o.type v/\σ'=σ.put d v:=by unfold aQ;rw[ho];unfold wj at h;split at h<;>first|exact Iff.rfl|(exact Bool.noConfusion h)
theorem nW{op:Op}{A:TypeId}{G:List At}(h:wj D b op=true)(hp:uK D σ)(c1:σ.ob b 0= .box G)(hv:Xa P σ op A v):Xa P (σ.Yj b 0 (.box C)) op A v:=by
 have W:σ.ob b 0≠ .none:=by rw[c1];intro e;cases e
 have ho:=fun u i=>U.Kg σ b 0 (.box C) u i W;have E:∀t j,(∃q Q M,σ.ob t j= .arr q Q M)->∃q Q M,(σ.Yj b 0 (.box C)).ob t j= .arr q Q M:=by
  rintro t j ⟨q,Q,M,e⟩;by_cases hh:t=b/\j=0
  ·obtain⟨rfl,rfl⟩:=hh;rw[c1]at e;cases e
  ·exact⟨q,Q,M,by rw[ho,if_neg hh];exact e⟩
 have g:∀t j,(∃Q M,σ.ob t j= .lit Q M)->∃Q M,(σ.Yj b 0 (.box C)).ob t j= .lit Q M:=by
  rintro t j ⟨Q,M,e⟩;by_cases hh:t=b/\j=0
  ·obtain⟨rfl,rfl⟩:=hh;rw[c1]at e;cases e
  ·exact⟨Q,M,by rw[ho,if_neg hh];exact e⟩
 have I:∀t,(∃G,σ.ob t 0= .box G)->∃G,(σ.Yj b 0 (.box C)).ob t 0= .box G:=by
  rintro t ⟨Y,e⟩;by_cases hh:t=b
  ·subst hh;exact⟨C,by rw[ho,if_pos ⟨rfl,rfl⟩]⟩
  ·exact⟨Y,by rw[ho,if_neg (fun a=>hh a.1)];exact e⟩
 unfold wj at h;split at h
 ·rename_i T t;simp only[List.any_eq_true,Bool.and_eq_true,beq_iff_eq,bne_iff_ne,ne_eq]at h;obtain⟨r,d,rfl,l⟩:=h;simp only[Xa,kn]at hv⊢;refine⟨hv.1,hv.2.1,?_⟩;have hv:=hv.2.2
  rw[VJ]at hv⊢;rcases hp r d with e|⟨c,e⟩
  ·rw[e]at hv;exact hv.elim
  ·rw[e]at hv⊢;obtain⟨Y,H,e2,e3⟩:=hv;exact⟨Y,by rw[ho,if_neg (fun hh=>l hh.1)];exact H,e2,e3⟩
 ·simp only[Xa,kn]at hv⊢;refine⟨hv.1,hv.2.1,?_⟩;have hv:=hv.2.2
  split at hv
  ·rename_i e;first|exact⟨I _ hv.1,hv.2⟩|(simp only[e];exact⟨I _ hv.1,hv.2⟩)
  ·rename_i e;first|exact⟨E _ _ hv.1,hv.2⟩|(simp only[e];exact⟨E _ _ hv.1,hv.2⟩)
  ·rename_i e;first|exact hv|(simp only[e];exact hv)
  ·rename_i e;have hq:∀t j,(∃Q M,σ.ob t j= .arr true Q M)->∃Q M,(σ.Yj b 0 (.box C)).ob t j= .arr true Q M:=by
    rintro t j ⟨Q,M,e⟩;by_cases hh:t=b/\j=0
    ·obtain⟨rfl,rfl⟩:=hh;rw[c1]at e;cases e
    ·exact⟨Q,M,by rw[ho,if_neg hh];exact e⟩
   first|exact⟨hq _ _ hv.1,hv.2⟩|(simp only[e];exact⟨hq _ _ hv.1,hv.2⟩)
  ·exact hv.elim
 ·simp only[Xa,kn]at hv⊢;exact hv
 ·simp only[Xa,kn]at hv⊢;exact hv
 ·simp only[Xa,kn]at hv⊢;exact hv
 ·simp only[Xa,kn]at hv⊢;exact hv
 ·simp only[Xa,kn]at hv⊢;refine⟨hv.1,?_⟩;have hv:=hv.2
  split at hv
  ·rename_i e;first|exact hv|(simp only[e];exact hv)
  ·rename_i e;first|exact hv|(simp only[e];exact hv)
  ·rename_i e;first|exact hv|(simp only[e];exact hv)
  ·rename_i e;first|exact⟨hv.1,hv.2.1.imp (E _ _) (g _ _),hv.2.2⟩|(simp only[e];exact⟨hv.1,hv.2.1.imp (E _ _) (g _ _),hv.2.2⟩)
  ·rename_i u j i c e;obtain⟨g1,Q,M,n,s,V,p⟩:=hv;have F:(σ.Yj b 0 (.box C)).ob u j= .arr true Q M:=by
    rw[ho];by_cases hh:u=b/\j=0
    ·obtain⟨rfl,rfl⟩:=hh;rw[c1]at V;cases V
    ·rw[if_neg hh];exact V
   first|exact⟨g1,Q,M,n,s,F,p⟩|(simp only[e];exact⟨g1,Q,M,n,s,F,p⟩)
  ·exact hv.elim
 ·exact Bool.noConfusion h
theorem nq{x:Oper}(h:dT D ah x y=true)(hp:uK D σ)(n:jE P N ah x σ σ1)(ac:jE P N ah y σ1 σ2):∃g,X5 P N y σ g/\X5 P N x g σ2:=by
 unfold dT at h;simp only[Bool.and_eq_true,Bool.not_eq_true',Option.isNone_iff_eq_none]at h;obtain⟨⟨⟨⟨aJ,aD⟩,w⟩,ag⟩,h⟩:=h;have n:=n.resolve_right (fun hh=>by rw[aJ]at hh;cases hh.1)
 have ac:=ac.resolve_right (fun hh=>by rw[aD]at hh;cases hh.1);split at h
 ·rename_i K T a q aM k A;simp only[Bool.and_eq_true,Bool.not_eq_true',List.any_eq_true,beq_iff_eq,bne_iff_ne,ne_eq]at h;obtain⟨⟨W,hq⟩,p,ab,r,hv⟩:=h;have aK:WK K (.tmp a)=false:=by simp[WK,W]
  unfold X5 at n ac;simp only[w,aM]at n;simp only[ag,k,A]at ac;obtain⟨v,B,rfl⟩:=(pY rfl hv).1 n;unfold ke at ac;rw[X4 aK,X4 hq,VJ]at ac;obtain⟨k1,k2,k3,k4,ac⟩:=ac;have S:=hp p ab
  rw[r]at S;rcases S with S|⟨c,S⟩
  ·rw[S]at ac;exact ac.elim
  ·rw[S]at ac;obtain⟨G,c1,c2,c3,rfl⟩:=ac;rw[U.Kr]at c1;refine⟨σ.Yj p.2 0 (.box (place G c (unc (look P σ T q)).cells)),?_,?_⟩
   ·unfold X5 ke;simp only[ag,k,A];refine⟨k1,by rw[VJ];exact k2,k3,k4,?_⟩;rw[VJ,S];exact⟨G,c1,c2,c3,rfl⟩
   ·unfold X5;simp only[w,aM];rw[WQ];exact(pY rfl hv).2 ⟨v,nW hv hp c1 B,rfl⟩
 ·cases h
theorem Ue:∀(σ:U)(d:Nat),σ.put d (σ.get d)=σ
 |[],_=>rfl
 |e::σ,0=>by simp[U.put,U.get]
 |e::σ,d+1=>by have:=Ue σ d;simp only[U.put,U.get,List.getElem?_cons_succ]at this⊢;rw[this]
theorem Fu:∀(σ:U)(d:Nat)(v v':V),(σ.put d v).put d v'=σ.put d v'
 |[],_,_,_=>rfl
 |e::σ,0,_,_=>rfl
 |e::σ,d+1,v,v'=>by simp[U.put,Fu σ d v v']
theorem wy(h:∀u,σ'.get u=σ.get u){T:TypeId}:look P σ' T x=look P σ T x:=by
 cases x with
 |tmp u=>exact h u
 |const c=>rfl
 |global g=>rfl
 |func f=>rfl
theorem q3{x:Oper}(h:iK ah x y=true)(aM:x.dst=some d)(R:Qg σ d=true)(n:jE P N ah x σ σ1)(ac:jE P N ah y σ1 σ2):∃g,jE P N ah y σ g/\X5 P N x g σ2:=by
 unfold iK at h;simp only[aM,Bool.and_eq_true,Bool.not_eq_true',Option.isNone_iff_eq_none]at h;obtain⟨⟨⟨⟨⟨⟨aJ,aD⟩,w⟩,au,X⟩,ag⟩,k⟩,hv,F⟩:=h;have n:=n.resolve_right (fun hh=>by rw[aJ]at hh;cases hh.1)
 unfold X5 at n;simp only[w,aM]at n;have H:∃v,Xa P σ x.op x.type v/\σ1=σ.put d v:=by unfold aQ at n;cases O:x.op<;>rw[O]at n hv<;>first|exact n|(exact Bool.noConfusion hv)
 obtain⟨v,B,rfl⟩:=H;have m:∀σ',(∀u,σ'.get u=σ.get u)->X5 P N x σ' (σ'.put d v):=by
  intro σ' hg;unfold X5;simp only[w,aM];have:Xa P σ' x.op x.type v:=by cases O:x.op<;>rw[O]at hv B<;>first|(exact Bool.noConfusion hv)|(simp only[Xa,wy hg]at B⊢;exact B)
  unfold aQ;cases O:x.op<;>rw[O]at hv this<;>first|exact⟨v,this,rfl⟩|(exact Bool.noConfusion hv)
 rcases ac with ac|⟨_,_,_,hk,_⟩
 · -- a plain store
  unfold NS at au;split at au
  ·rename_i T p q A;simp only[RZ,A,Bool.and_eq_true,Bool.not_eq_true']at F;unfold X5 at ac;simp only[ag,k,A]at ac;unfold ke at ac;rw[X4 F.1,X4 F.2]at ac;obtain⟨k1,k2,k3,k4,ac⟩:=ac;split at ac
   ·rename_i t c hl;obtain⟨G,c1,c2,c3,rfl⟩:=ac;rw[U.Kr]at c1;refine⟨σ.Yj t 0 (.box (place G c (unc (look P σ T q)).cells)),.inl ?_,?_⟩
    ·unfold X5 ke;simp only[ag,k,A];refine⟨k1,k2,k3,k4,?_⟩;rw[hl];exact⟨G,c1,c2,c3,rfl⟩
    ·rw[WQ];exact m _ (fun u=>U.JI _ _ _ _ _)
   ·rename_i t j i c hl;obtain⟨q',Q,M,ds,c1,c2,c3,c4,c5,c6,c7,rfl⟩:=ac;rw[U.Kr]at c1;rw[HD]at c3;refine⟨σ.Yj t j (.arr q' Q (M.set i (place (M.getD i []) c ds))),.inl ?_,?_⟩
    ·unfold X5 ke;simp only[ag,k,A];refine⟨k1,k2,k3,k4,?_⟩;rw[hl];exact⟨q',Q,M,ds,c1,c2,c3,c4,c5,c6,c7,rfl⟩
    ·rw[WQ];exact m _ (fun u=>U.JI _ _ _ _ _)
   ·exact ac.elim
  ·cases au
 ·obtain⟨⟨s,am⟩,C,I⟩:=(hk au).resolve_right (fun e=>by rw[X]at e;cases e.1);rw[U.K9]at s;have L:D0 (σ.get d)=true:=by rw[Np]at R;unfold U.get;rcases R with e|⟨x',e⟩<;>rw[e]<;>rfl
  have hq:∀l:List (Nat×V),(σ.put d v).Ki ((d,σ.get d)::l)=σ.Ki l:=fun l=>by rw[U.Ki,Fu,Ue]
  have h0:=C [(d,σ.get d)] (fun p hp=>by cases List.mem_singleton.1 hp;exact⟨F,L⟩);rw[hq []]at h0;have aC:d<σ.length:=by rw[Np]at R;rcases R with e|⟨x',e⟩<;>exact(List.getElem?_eq_some_iff.1 e).1
  have aa:∀u,(σ2.put d (σ.get d)).get u=σ.get u:=fun u=>by
   rw[U.qM];by_cases o:u=d/\d<σ2.length
   ·rw[if_pos o,o.1]
   ·rw[if_neg o,am,U.qM];have ae:¬u=d:=fun e=>o ⟨e,by rw[s];exact aC⟩
    rw[if_neg (fun hh=>ae hh.1)]
  refine⟨σ2.put d (σ.get d),.inr ⟨aD,h0.1,h0.2,fun _=>.inl ⟨⟨by rw[U.K9];exact s,aa⟩,fun l hl=>?_,fun t G J=>by rw[U.Kr];exact I t G (by rw[U.Kr];exact J)⟩,fun hh=>(by rw[mi au]at hh;cases hh),fun hh _=>(by rw[i4 au]at hh;cases hh)⟩,?_⟩
  ·have:=C ((d,σ.get d)::l) (fun p hp=>by
    rcases List.mem_cons.1 hp with rfl|hp
    ·exact⟨F,L⟩
    ·exact hl p hp)
   rw[hq l]at this;exact this
  ·have:=m _ aa;rw[Fu]at this;have e:σ2.put d v=σ2:=by have g1:=am d;rw[U.qM,if_pos ⟨rfl,aC⟩]at g1;rw[<-g1];exact Ue σ2 d
   rw[e]at this;exact this
theorem sY{x:Oper}(h:hD D E ah x y=true)(hp:uK D σ)(ad:ux E σ)(aM:x.dst=some d)(R:Qg σ d=true)(n:jE P N ah x σ σ1)(ac:jE P N ah y σ1 σ2):∃g,jE P N ah y σ g/\X5 P N x g σ2:=by
 unfold hD at h;simp only[aM,Bool.and_eq_true,Bool.not_eq_true',Option.isNone_iff_eq_none]at h;obtain⟨⟨⟨⟨⟨⟨aJ,aD⟩,w⟩,au,X⟩,ag⟩,k⟩,h⟩:=h;have n:=n.resolve_right (fun hh=>by rw[aJ]at hh;cases hh.1)
 split at h
 ·rename_i K T a q aj A;cases aj;simp only[Bool.and_eq_true,Bool.not_eq_true',bne_iff_ne,ne_eq,List.contains_iff_mem]at h;obtain⟨⟨⟨ak,W⟩,hq⟩,hv⟩:=h;have aK:WK d (.tmp a)=false:=by simp[WK,W]
  have F:RZ y d=true:=by simp only[RZ,A,aK,hq];rfl
  unfold X5 at n;simp only[w,aM]at n;have H:∃v,Xa P σ x.op x.type v/\σ1=σ.put d v:=by unfold aQ at n;cases O:x.op<;>rw[O]at n hv<;>first|exact n|(exact Bool.noConfusion hv)
  obtain⟨v,B,rfl⟩:=H;have m:∀σ',(∀u,σ'.get u=σ.get u)->(∀t G,σ.ob t 0= .box G->σ'.ob t 0= .box G)->X5 P N x σ' (σ'.put d v):=by
   intro σ' hg I;unfold X5;simp only[w,aM];have:Xa P σ' x.op x.type v:=by
    cases O:x.op<;>rw[O]at hv B<;>try exact Bool.noConfusion hv
    case load T' z=>
     cases z with
     |tmp t=>
      simp only[List.any_eq_true,beq_iff_eq]at hv;obtain⟨p,ab,r⟩:=hv;simp only[Xa,wy hg]at B⊢;refine⟨B.1,B.2.1,?_⟩;have aI:=B.2.2
      have S:=hp p ab;rw[r]at S;rw[VJ]at aI⊢;rcases S with e|⟨c,e⟩
      ·rw[e]at aI;exact aI.elim
      ·rw[e]at aI⊢;obtain⟨Y,k1,k2⟩:=aI;exact⟨Y,I _ _ k1,k2⟩
     |_=>exact Bool.noConfusion hv
    case fieldAddr T' z f=>
     cases z with
     |tmp t=>
      simp only[List.any_eq_true,beq_iff_eq]at hv;obtain⟨p,ab,r⟩:=hv;simp only[Xa,wy hg]at B⊢;refine⟨B.1,B.2.1,?_⟩;have aI:=B.2.2
      have S:=hp p ab;rw[r]at S;rw[VJ]at aI⊢;rcases S with e|⟨c,e⟩
      ·rw[e]at aI;exact aI.elim
      ·rw[e]at aI⊢;obtain⟨⟨Y,k1⟩,k2⟩:=aI;exact⟨⟨Y,I _ _ k1⟩,k2⟩
     |_=>exact Bool.noConfusion hv
   unfold aQ;cases O:x.op<;>rw[O]at hv this<;>first|exact⟨v,this,rfl⟩|(exact Bool.noConfusion hv)
  rcases ac with ac|⟨_,_,_,hk,_⟩
  ·unfold X5 at ac;simp only[ag,k,A]at ac;unfold ke at ac;rw[X4 aK,X4 hq]at ac;obtain⟨k1,k2,k3,k4,ac⟩:=ac;split at ac
   ·rename_i t c hl;exact absurd hl (ad a ak t c)
   ·rename_i t j i c hl;obtain⟨q',Q,M,ds,c1,c2,c3,c4,c5,c6,c7,rfl⟩:=ac;rw[U.Kr]at c1;rw[HD]at c3;refine⟨σ.Yj t j (.arr q' Q (M.set i (place (M.getD i []) c ds))),.inl ?_,?_⟩
    ·unfold X5 ke;simp only[ag,k,A];refine⟨k1,k2,k3,k4,?_⟩;rw[hl];exact⟨q',Q,M,ds,c1,c2,c3,c4,c5,c6,c7,rfl⟩
    ·rw[WQ];refine m _ (fun u=>U.JI _ _ _ _ _) (fun b G J=>?_);have ax:σ.ob t j≠ .none:=by rw[c1];simp
     rw[U.Kg σ t j _ b 0 ax];split
     ·rename_i Z;rw[Z.1,Z.2]at J;rw[c1]at J;cases J
     ·exact J
   ·exact ac.elim
  ·obtain⟨⟨s,am⟩,C,I⟩:=(hk au).resolve_right (fun e=>by rw[X]at e;cases e.1);rw[U.K9]at s;have L:D0 (σ.get d)=true:=by rw[Np]at R;unfold U.get;rcases R with e|⟨x',e⟩<;>rw[e]<;>rfl
   have af:∀l:List (Nat×V),(σ.put d v).Ki ((d,σ.get d)::l)=σ.Ki l:=fun l=>by rw[U.Ki,Fu,Ue]
   have h0:=C [(d,σ.get d)] (fun p hp=>by cases List.mem_singleton.1 hp;exact⟨F,L⟩);rw[af []]at h0;have aC:d<σ.length:=by rw[Np]at R;rcases R with e|⟨x',e⟩<;>exact(List.getElem?_eq_some_iff.1 e).1
   have aa:∀u,(σ2.put d (σ.get d)).get u=σ.get u:=fun u=>by
    rw[U.qM];by_cases o:u=d/\d<σ2.length
    ·rw[if_pos o,o.1]
    ·rw[if_neg o,am,U.qM];have ae:¬u=d:=fun e=>o ⟨e,by rw[s];exact aC⟩
     rw[if_neg (fun hh=>ae hh.1)]
   have ai:∀t G,σ.ob t 0= .box G->(σ2.put d (σ.get d)).ob t 0= .box G:=fun t G J=>by rw[U.Kr];exact I t G (by rw[U.Kr];exact J)
   refine⟨σ2.put d (σ.get d),.inr ⟨aD,h0.1,h0.2,fun _=>.inl ⟨⟨by rw[U.K9];exact s,aa⟩,fun l hl=>?_,ai⟩,fun hh=>(by rw[mi au]at hh;cases hh),fun hh _=>(by rw[i4 au]at hh;cases hh)⟩,?_⟩
   ·have:=C ((d,σ.get d)::l) (fun p hp=>by
     rcases List.mem_cons.1 hp with rfl|hp
     ·exact⟨F,L⟩
     ·exact hl p hp)
    rw[af l]at this;exact this
   ·have:=m _ aa ai;rw[Fu]at this;have e:σ2.put d v=σ2:=by have g1:=am d;rw[U.qM,if_pos ⟨rfl,aC⟩]at g1;rw[<-g1];exact Ue σ2 d
    rw[e]at this;exact this
 ·cases h
theorem mB(am:∀t,t≠d->σ1.get t=σ.get t/\(σ.get t).ref d=false)(B:∀t j G,t≠d->σ1.ob t j= .box G->σ.ob t j= .box G/\Y6 d G=false)
  (E:∀t j q s M,t≠d->σ1.ob t j= .arr q s M->∃az,σ.ob t j= .arr q s az) (hp:uK D σ) {op:Op} {A:TypeId} (ai:gO D op=true) (b:∀z∈op.operands.toList,z≠ .tmp d) (hv:Xa P σ1 op A v):Xa P σ op A v/\v.ref d=false:=by
 have hl:∀(z:Operand)(T:TypeId),z≠ .tmp d->look P σ1 T z=look P σ T z:=by
  intro z T hz;cases z with
  |tmp u=>exact(am u (fun e=>hz (by rw[e]))).1
  |const c=>rfl
  |global g=>rfl
  |func f=>rfl
 have hr:∀(z:Operand)(T:TypeId),z≠ .tmp d->(look P σ T z).ref d=false:=by
  intro z T hz;cases z with
  |tmp u=>exact(am u (fun e=>hz (by rw[e]))).2
  |const c=>exact Dg T c d
  |global g=>rfl
  |func f=>rfl
 have W:∀(z:Operand)(T:TypeId)(x:At),z≠ .tmp d->unc (look P σ T z)= .one x->x.ref d=false:=by
  intro z T x hz F;cases O:x.ref d with
  |false=>rfl
  |true=>have:=zE F O;rw[hr z T hz]at this;cases this
 refine⟨?_,?_⟩
 ·cases op<;>simp only[gO]at ai<;>try exact Bool.noConfusion ai
  case move x=>simp only[Xa]at hv⊢;rw[hv,hl x A (b x a4)]
  case load T x=>
   cases x with
   |tmp t=>
    have ht:Operand.tmp t≠ .tmp d:=b _ a4;simp only[List.any_eq_true,beq_iff_eq]at ai;obtain⟨p,ab,r⟩:=ai;simp only[Xa]at hv⊢;rw[hl _ 0 ht]at hv;refine⟨hv.1,hv.2.1,?_⟩;have aI:=hv.2.2;have S:=hp p ab;rw[r]at S;rw[VJ]at aI⊢;rcases S with e|⟨c,e⟩
    ·rw[e]at aI;exact aI.elim
    ·rw[e]at aI⊢;obtain⟨Y,H,e2⟩:=aI;have J:p.2≠d:=by have:=W (.tmp t) 0 (.Z p.2 c) ht (by rw[VJ];exact e);simpa[At.ref]using this
     exact⟨Y,(B _ _ _ J H).1,e2⟩
   |_=>exact Bool.noConfusion ai
  case fieldAddr T x f=>
   cases x with
   |tmp t=>
    have ht:Operand.tmp t≠ .tmp d:=b _ a4;simp only[Xa]at hv⊢;rw[hl _ 0 ht]at hv;refine⟨hv.1,hv.2.1,?_⟩;have aI:=hv.2.2;split at aI
    ·rename_i t' c e;have J:t'≠d:=ek
     obtain⟨⟨Y,H⟩,e2⟩:=aI;first|exact⟨⟨Y,(B _ _ _ J H).1⟩,e2⟩|(simp only[e];exact⟨⟨Y,(B _ _ _ J H).1⟩,e2⟩)
    ·rename_i t' j i c e;have J:t'≠d:=ek
     obtain⟨⟨q,s,M,H⟩,e2⟩:=aI;obtain⟨az,e3⟩:=E _ _ _ _ _ J H;first|exact⟨⟨q,s,az,e3⟩,e2⟩|(simp only[e];exact⟨⟨q,s,az,e3⟩,e2⟩)
    ·rename_i rr c e;first|exact aI|(simp only[e];exact aI)
    ·rename_i t' j i c k e;have J:t'≠d:=ek
     obtain⟨⟨s,M,H⟩,e2⟩:=aI;obtain⟨az,e3⟩:=E _ _ _ _ _ J H;first|exact⟨⟨s,az,e3⟩,e2⟩|(simp only[e];exact⟨⟨s,az,e3⟩,e2⟩)
    ·exact aI.elim
   |_=>exact Bool.noConfusion ai
  case slice T x lo hi mx=>
   cases x with
   |tmp t=>
    cases mx with
    |some m=>exact Bool.noConfusion ai
    |none=>
     have ht:Operand.tmp t≠ .tmp d:=b _ a4;have a:∀(w n:Nat)(z:Option Operand),(∀y,z=some y->y≠ .tmp d)->bm P σ1 w z n->bm P σ w z n:=by
      intro w n z hz h;cases z with
      |none=>exact h
      |some z=>simp only[bm]at h⊢;rw[hl z 0 (hz z rfl)]at h;exact h
     have C:∀y,lo=some y->y≠ .tmp d:=fun y e=>b y (by subst e;simp[Op.operands]);have K:∀y,hi=some y->y≠ .tmp d:=fun y e=>b y (by subst e;simp[Op.operands]);simp only[Xa]at hv⊢;rw[hl _ 0 ht]at hv;refine⟨hv.1,?_⟩;have aI:=hv.2;split at aI
     ·rename_i s e;obtain⟨I,l,h,X,h3,h4⟩:=aI;first|exact⟨I,l,h,a _ _ _ C X,a _ _ _ K h3,h4⟩|(simp only[e];exact⟨I,l,h,a _ _ _ C X,a _ _ _ K h3,h4⟩)
     ·rename_i s M e;obtain⟨I,h0,l,h,X,h3,h4⟩:=aI;first|exact⟨I,h0,l,h,a _ _ _ C X,a _ _ _ K h3,h4⟩|(simp only[e];exact⟨I,h0,l,h,a _ _ _ C X,a _ _ _ K h3,h4⟩)
     ·rename_i t' j o ae e;have J:t'≠d:=ek
      obtain⟨I,⟨q,M,H⟩,l,h,X,h3,h4⟩:=aI;obtain⟨az,e3⟩:=E _ _ _ _ _ J H;first|exact⟨I,⟨q,az,e3⟩,l,h,a _ _ _ C X,a _ _ _ K h3,h4⟩|(simp only[e];exact⟨I,⟨q,az,e3⟩,l,h,a _ _ _ C X,a _ _ _ K h3,h4⟩)
     ·exact aI.elim
   |_=>exact Bool.noConfusion ai
 ·cases O:v.ref d with
  |false=>rfl
  |true=>
   obtain⟨z,hz,T,I⟩:=oG hv O;rw[hl z T (b z hz)]at I;rcases I with I|⟨t,G,I,X,h3⟩
   ·rw[hr z T (b z hz)]at I;cases I
   ·by_cases L:t=d
    ·rw[L,hr z T (b z hz)]at I;cases I
    ·have:=(B t 0 G L X).2;rw[this]at h3;cases h3
theorem sZ{x:Oper}(h:lQ D N ah x y=true)(hp:uK D σ)(aM:x.dst=some d)(R:Qg σ d=true)(n:jE P N ah x σ σ1)(ac:jE P N ah y σ1 σ2):∃g,jE P N ah y σ g/\jE P N ah x g σ2:=by
 unfold lQ at h;simp only[Bool.and_eq_true,Bool.not_eq_true',Option.isNone_iff_eq_none]at h;obtain⟨⟨⟨⟨⟨⟨aJ,aD⟩,F⟩,w⟩,ag⟩,ai⟩,h⟩:=h;rw[aM]at h;cases k:y.dst with
 |none=>rw[k]at h;cases h
 |some dy=>
  rw[k]at h;simp only[Bool.and_eq_true,Bool.not_eq_true',bne_iff_ne,ne_eq]at h;obtain⟨⟨W,o⟩,H⟩:=h;have b:=HR o
  have f:=HR H;have ac:=ac.resolve_right (fun hh=>by rw[aD]at hh;cases hh.1);rcases n with n|⟨_,u,r,_,a,_⟩
  ·have aE:Gs y=false:=by unfold Gs;cases A:y.op<;>rw[A]at ai<;>first|rfl|(exact Bool.noConfusion ai)
   obtain⟨g,hy,O⟩:=go aM k W b f aE (.inl ag) R n ac;exact⟨g,.inl hy,.inl O⟩
  ·obtain⟨d',m,aC,am,B,E,C⟩:=a F;rw[aM]at m;cases m;have e2:∃v,Xa P σ1 y.op y.type v/\σ2=σ1.put dy v:=by unfold X5 at ac;simp only[ag,k]at ac;unfold aQ at ac;cases A:y.op<;>rw[A]at ac ai<;>first|exact ac|(exact Bool.noConfusion ai)
   obtain⟨v,hv,rfl⟩:=e2;obtain⟨al,c⟩:=mB am B E hp ai (fun z hz=>b z (by simp only[Lq,List.mem_append];exact .inl hz)) hv;have i:H8 x dy=true:=by
    simp only[H8,Bool.not_eq_true'];refine List.any_eq_false.2 (fun z hz=>?_);have:=f z (by simp only[Lq,List.mem_append];exact .inl hz)
    cases z<;>simp[WK]at this⊢;exact this
   have ap:∀p∈[(dy,v)],p.1≠d/\H8 x p.1=true/\p.2.ref d=false:=fun p hp=>by cases List.mem_singleton.1 hp;exact⟨fun e=>W e.symm,i,c⟩
   have h0:=C [(dy,v)] ap;refine⟨σ.put dy v,.inl ?_,.inr ⟨aJ,h0.1,h0.2,fun hh=>(by rw[mi hh]at F;cases F),fun _=>⟨d,aM,by rw[U.K9,U.K9];exact aC,fun t ht=>?_,fun t j G ht J=>?_,fun t j q s M ht J=>?_,fun l hl=>?_⟩,fun hh _=>(by rw[CD F]at hh;cases hh)⟩⟩
   ·unfold X5;simp only[ag,k];unfold aQ;cases A:y.op<;>rw[A]at al ai<;>first|exact⟨v,al,rfl⟩|(exact Bool.noConfusion ai)
   ·have I:=am t ht;rw[U.qM,U.qM,aC];by_cases Z:t=dy/\dy<σ.length
    ·simp only[if_pos Z];exact⟨trivial,c⟩
    ·simp only[if_neg Z];exact I
   ·rw[U.Kr]at J⊢;exact B t j G ht J
   ·rw[U.Kr]at J⊢;exact E t j q s M ht J
   ·exact C ((dy,v)::l) (fun p hp=>by
     rcases List.mem_cons.1 hp with rfl|hp
     ·exact ap _ ab
     ·exact hl p hp)
section
variable{G:List At}{aa:Option (List Ob)}
end
theorem hy(h:gj D σ=true):uK D σ:=by
 intro p hp;have:=List.all_eq_true.1 h p hp
 split at this
 ·rename_i e;exact .inl e
 ·split at this
  ·rename_i b c e;have J:b=p.2:=by simpa using this
   subst J;exact .inr ⟨c,e⟩
  ·cases this
def gQ(P:Program)(N:Array Oper)(ah:Oper->Bool):List Nat->U->(U->Prop)->Prop
 |[],σ,af=>af σ
 |i::rem,σ,af=>∃o σ',N[i]?=some o/\jE P N ah o σ σ'/\gQ P N ah rem σ' af
theorem m2(hs:X5 P N o σ σ')(hd:o.dst≠some d)(h:Qg σ d=true):Qg σ' d=true:=by
 cases g:o.dst with
 |some d'=>
  have W:d≠d':=fun e=>hd (by rw[g,e]);obtain⟨e,rfl,_⟩:=N0 g hs;cases e with
  |put v=>unfold Qg at*;simp only[ax.ap,On,if_neg W];exact h
  |new v aa=>unfold Qg at*;simp only[ax.ap,Vy,if_neg W];exact h
  |drop a j v aa=>have:=Jf (a:=a) (j:=j) (o:=.none) h;unfold Qg at*;simp only[ax.ap,Vy,if_neg W];exact this
 |none=>
  unfold X5 at hs;split at hs
  ·simp only[g]at hs;split at hs
   ·unfold ke at hs;obtain⟨_,_,_,_,hs⟩:=hs;split at hs
    ·obtain⟨_,_,_,_,rfl⟩:=hs;exact Jf h
    ·obtain⟨_,_,_,_,_,_,_,_,_,_,_,rfl⟩:=hs;exact Jf h
    ·exact hs.elim
   ·exact hs.elim
  ·obtain⟨_,_,_,_,_,_,m,_⟩:=hs;rw[g]at m;cases m
theorem ho(q:Ej N D=true)(hi:N[i]?=some o)(hs:X5 P N o σ σ')(h:uK D σ):uK D σ':=by
 have Z:=List.all_eq_true.1 q o (by rw[Array.mem_toList_iff];exact Array.mem_of_getElem? hi);cases g:o.dst with
 |none=>
  have:∃t j ai,σ'=σ.Yj t j ai:=by
   unfold X5 at hs;split at hs
   ·simp only[g]at hs;split at hs
    ·unfold ke at hs;obtain⟨_,_,_,_,hs⟩:=hs;split at hs
     ·obtain⟨_,_,_,_,rfl⟩:=hs;exact⟨_,_,_,rfl⟩
     ·obtain⟨_,_,_,_,_,_,_,_,_,_,_,rfl⟩:=hs;exact⟨_,_,_,rfl⟩
     ·exact hs.elim
    ·exact hs.elim
   ·obtain⟨_,_,_,_,_,_,m,_⟩:=hs;rw[g]at m;cases m
  obtain⟨t,j,ai,rfl⟩:=this;intro p hp;rw[U.JI];exact h p hp
 |some d=>
  intro p hp;rw[g]at Z;have Z:=List.all_eq_true.1 Z p hp
  by_cases G:p.1=d
  ·simp only[G,bne_self_eq_false,Bool.false_or,Bool.and_eq_true,Option.isNone_iff_eq_none]at Z;obtain⟨hg,Z⟩:=Z;split at Z
   ·rename_i T r f A;have hr:=h (r,p.2) bU
    unfold X5 at hs;simp only[hg,g]at hs;unfold aQ at hs;rw[A]at hs;obtain⟨v,hv,rfl⟩:=hs;simp only[Xa]at hv;have hv:=hv.2.2
    rw[VJ]at hv;rcases hr with e|⟨c,e⟩
    ·rw[e]at hv;exact hv.elim
    ·rw[e]at hv;rw[U.qM,G];by_cases hl:d<σ.length
     ·rw[if_pos ⟨rfl,hl⟩];exact .inr ⟨_,by rw[hv.2];rfl⟩
     ·rw[if_neg (fun hh=>hl hh.2)];have:=h p hp;rw[G]at this;exact this
   ·rename_i r A;have hr:=h (r,p.2) bU
    unfold X5 at hs;simp only[hg,g]at hs;unfold aQ at hs;rw[A]at hs;obtain⟨v,hv,rfl⟩:=hs;simp only[Xa]at hv;rw[VJ]at hv;rw[U.qM,G];by_cases hl:d<σ.length
    ·rw[if_pos ⟨rfl,hl⟩,hv];exact hr
    ·rw[if_neg (fun hh=>hl hh.2)];have:=h p hp;rw[G]at this;exact this
   ·cases Z
  ·obtain⟨e,rfl,_⟩:=N0 g hs;have hg:∀b:U,b.get p.1=σ.get p.1->(b.get p.1= .any\/∃c,unc (b.get p.1)= .one (.Z p.2 c)):=fun b e=>by rw[e];exact h p hp
   cases e with
   |put v=>exact hg _ (by simp only[ax.ap];rw[U.qM,if_neg (fun hh=>G hh.1)])
   |new v aa=>exact hg _ (by simp only[ax.ap];rw[U.P7,if_neg (fun hh=>G hh.1)])
   |drop a j v aa=>exact hg _ (by simp only[ax.ap];rw[U.P7,if_neg (fun hh=>G hh.1),U.JI])
theorem wC:tu [] [] σ:=⟨fun _ hp=>absurd hp List.not_mem_nil,fun _ hp=>absurd hp List.not_mem_nil⟩
theorem hr(h:ux E σ)(hd:d∈E->∀b c,unc v≠ .one (.Z b c)):ux E (σ.put d v):=by
 intro t ht b c;rw[U.qM];split
 ·rename_i Z;exact hd (Z.1▸ht) b c
 ·exact h t ht b c
theorem hj(h:ux E σ)(hd:d∉E):ux E (σ.new d v aa):=by
 intro t ht b c;have W:¬(t=d/\d<σ.length):=fun Z=>hd (by rw[<-Z.1];exact ht)
 rw[U.P7,if_neg W];exact h t ht b c
theorem o6(au:wR P N E=true)(hi:N[i]?=some o)(hs:X5 P N o σ σ')(h:ux E σ):ux E σ':=by
 have Z:=List.all_eq_true.1 au o (by rw[Array.mem_toList_iff];exact Array.mem_of_getElem? hi);cases g:o.dst with
 |none=>
  have:∃t j ai,σ'=σ.Yj t j ai:=by
   unfold X5 at hs;split at hs
   ·simp only[g]at hs;split at hs
    ·unfold ke at hs;obtain⟨_,_,_,_,hs⟩:=hs;split at hs
     ·obtain⟨_,_,_,_,rfl⟩:=hs;exact⟨_,_,_,rfl⟩
     ·obtain⟨_,_,_,_,_,_,_,_,_,_,_,rfl⟩:=hs;exact⟨_,_,_,rfl⟩
     ·exact hs.elim
    ·exact hs.elim
   ·obtain⟨_,_,_,_,_,_,m,_⟩:=hs;rw[g]at m;cases m
  obtain⟨t,j,ai,rfl⟩:=this;intro p hp;rw[U.JI];exact h p hp
 |some d=>
  rw[g]at Z;by_cases hd:d∈E
  ·have Z:=List.all_eq_true.1 Z d hd;simp only[bne_self_eq_false,Bool.false_or,Bool.and_eq_true,Option.isNone_iff_eq_none]at Z;obtain⟨hg,Z⟩:=Z;split at Z
   ·rename_i T r ix A;unfold X5 at hs;simp only[hg,g]at hs;unfold aQ at hs;rw[A]at hs;obtain⟨v,hv,rfl⟩:=hs;refine hr h (fun _ b c=>?_);simp only[Xa]at hv;obtain⟨_,_,_,_,_,hv⟩:=hv;split at hv
    ·obtain⟨_,_,_,_,rfl⟩:=hv;intro e;cases e
    ·obtain⟨_,_,_,_,rfl⟩:=hv;intro e;cases e
    ·obtain⟨_,⟨n,ha,_⟩,_⟩:=hv;unfold Xo at Z;unfold Bm at ha;split at Z
     ·rename_i e he;rw[he]at ha;cases ha
     ·cases Z
    ·obtain⟨_,_,_,rfl⟩:=hv;intro e;cases e
    ·exact hv.elim
   ·cases Z
  ·obtain⟨e,rfl,_⟩:=N0 g hs;cases e with
   |put v=>exact hr h (fun hh=>absurd hh hd)
   |new v aa=>exact hj h hd
   |drop a j v aa=>refine hj (σ:=σ.Yj a j .none) (fun t ht b c=>?_) hd;rw[U.JI];exact h t ht b c
theorem tm(h:hP E σ=true):ux E σ:=by
 intro t ht b c e;have:=List.all_eq_true.1 h t ht
 rw[e]at this;cases this
def ma(N:Array Oper)(A:Nat->Nat)(rem:List Nat)(σ:U):Prop:=
 ∀j∈rem,II N A j=true->eO N j=true/\∃o d,N[j]?=some o/\o.dst=some d/\Qg σ d=true
theorem mz{k:Nat}{b a:Oper}(h:eO N j=true)(hj:N[j]?=some b)(hd:b.dst=some d)(hk:N[k]?=some a)(W:k≠j):a.dst≠some d:=by
 unfold eO at h;simp only[hj,hd]at h;have ag:k<N.size:=(Array.getElem?_eq_some_iff.1 hk).1
 have:=List.all_eq_true.1 h k (List.mem_range.2 ag);simp only[hk,Bool.or_eq_true,beq_iff_eq,bne_iff_ne,ne_eq]at this;exact this.resolve_left W
theorem wp(hs:jE P N ah o σ σ')(hd:o.dst≠some d)(h:Qg σ d=true):Qg σ' d=true:=by
 rcases hs with hs|hs
 ·exact m2 hs hd h
 ·exact hs.2.2.1 d hd h
theorem Cc{rem c:List Nat}(hi:N[i]?=some o)(hs:jE P N ah o σ σ')(z:i∉c)(a:∀j∈c,j∈rem)(h:ma N A rem σ):ma N A c σ':=by intro j hj hl;obtain⟨f,b,d,I,X,h3⟩:=h j (a j hj) hl;exact⟨f,b,d,I,X,wp hs (mz f I X hi (fun e=>z (e▸hj))) h3⟩
theorem ie{A:Nat->Nat}{ah:Oper->Bool}{D:List (Nat×Nat)}{E:List Nat}(S:∀(i:Nat)(o:Oper)(σ σ':U),N[i]?=some o->jE P N ah o σ σ'->tu D E σ->tu D E σ'){i:Nat}{am:List Nat}{af:U->Prop}{F:Oper}(hi:N[i]?=some F):∀{s:List Nat}{σ:U},(s++i::am).Nodup->(∀j∈s,II N A j=true/\∃b,N[j]?=some b/\(gA N ah b F=true\/lD ah b F=true\/dT D ah b F=true\/iK ah b F=true\/lQ D N ah b F=true\/hD D E ah b F=true))->ma N A (s++i::am) σ->tu D E σ->
  gQ P N ah (s++i::am) σ af->∃σ',jE P N ah F σ σ'/\gQ P N ah (s++am) σ' af
 |[],σ,_,_,_,_,h=>by obtain⟨o,σ',ho,hs,hr⟩:=h;rw[hi]at ho;cases ho;exact⟨σ',hs,hr⟩
 |j::s,σ,aE,x,R,r,h=>by
  obtain⟨b,σ1,hj,n,hr⟩:=h;have c:=List.nodup_cons.1 aE
  obtain⟨σ2,ac,ag⟩:=ie S hi (s:=s) c.2 (fun k hk=>x k (by simp[hk])) (Cc (rem:=(j::s)++i::am) hj n c.1 (fun k hk=>by simp only[List.cons_append,List.mem_cons];exact .inr hk) R) (S j b σ σ1 hj n r) hr;obtain⟨hl,d,ay,a⟩:=x j ab;rw[hj]at ay;cases ay;rcases a with a|a|a|a|a|a
  rotate_left
  ·obtain⟨g,hy,O⟩:=T5 a n ac;exact⟨g,.inl hy,b,σ2,hj,.inl O,ag⟩
  ·obtain⟨g,hy,O⟩:=nq a r.1 n ac;exact⟨g,.inl hy,b,σ2,hj,.inl O,ag⟩
  ·obtain⟨_,z,d',L,m,an⟩:=R j ab hl;rw[hj]at L;cases L;obtain⟨g,hy,O⟩:=q3 a m an n ac;exact⟨g,hy,b,σ2,hj,.inl O,ag⟩
  ·obtain⟨_,z,d',L,m,an⟩:=R j ab hl;rw[hj]at L;cases L;obtain⟨g,hy,O⟩:=sZ a r.1 m an n ac;exact⟨g,hy,b,σ2,hj,O,ag⟩
  ·obtain⟨_,z,d',L,m,an⟩:=R j ab hl;rw[hj]at L;cases L;obtain⟨g,hy,O⟩:=sY a r.1 r.2 m an n ac;exact⟨g,hy,b,σ2,hj,.inl O,ag⟩
  obtain⟨aJ,aD,K,dy,I,X,h3,h4,h5,h6,h7⟩:=DF a;have n:=n.resolve_right (fun hh=>by rw[aJ]at hh;cases hh.1)
  have ac:=ac.resolve_right (fun hh=>by rw[aD]at hh;cases hh.1);obtain⟨_,z,d',L,m,an⟩:=R j ab hl;rw[hj]at L;cases L;rw[I]at m;cases m;obtain⟨g,hy,O⟩:=go I X h3 h4 h5 h6 h7 an n ac;exact⟨g,.inl hy,b,σ2,hj,.inl O,ag⟩
open Go.RowKit
variable{g:Array Bool}{B:Nat->Prop}{T:U->Prop}{M w:World}{T0:CS}
theorem Eh(I:g.getD j true=false)(X:g.getD j false=true):False:=by
 rw[Array.getD_eq_getD_getElem?]at I X;cases h:g[j]? with
 |none=>rw[h]at I;simp at I
 |some b=>rw[h]at I X;simp at I X;rw[I]at X;cases X
theorem pT(S:∀(i:Nat)(o:Oper)(σ σ':U),N[i]?=some o->jE P N ah o σ σ'->tu D E σ->tu D E σ')(L:iW P N A ah D E (Hz N.toList [])=true){af:Exit->Act->World->Prop}(hK:∀σ a w,T σ->zh T0 B σ a w->Xl B M w->af .normal a w):
  ∀(ad:Nat)(rem:List Nat)(g:Array Bool)(σ:U)(a:Act)(w:World),rem.length=ad->g.size=N.size->rem.Pairwise (fun i j=>A i<A j)->(∀i,i∈rem↔g.getD i true=false)->(∀i∈rem,i<N.size)->(∀m p,N[m]?=some p->m∉rem->∀j,Fi p j=true->j∉rem)->
   ma N A rem σ->tu D E σ->gQ P N ah rem σ T->zh T0 B σ a w->Xl B M w->wpAny P .any N af ad g a w:=by
 have C:=List.all_eq_true.1 L;have first:∀(rem:List Nat)(g:Array Bool),g.size=N.size->rem.Pairwise (fun i j=>A i<A j)->(∀i,i∈rem↔g.getD i true=false)->(∀i∈rem,i<N.size)->Region.ready .any N g=[]->rem=[]:=by
  intro rem g aI u n ag v;cases rem with
  |nil=>rfl
  |cons i rem=>
   exfalso;have hi:=ag i ab
   have J:=C i (List.mem_range.2 hi);simp only[Bool.and_eq_true]at J;have I:=J.1.1;unfold hL at I;rw[Array.getElem?_eq_getElem hi]at I;simp only[Array.all_eq_true_iff_forall_mem,decide_eq_true_eq,Bool.and_eq_true,Bool.or_eq_true,Bool.not_eq_true']at I;have:i∈Region.ready .any N g:=by
    refine mem_ready.2 ⟨(n i).1 ab,N[i],Array.getElem?_eq_getElem hi,fun e he V=>?_⟩;have Z:=(I e he).resolve_left (by rw[V];simp)
    have aB:=Z.1;have ar:=Z.2;have y:e.on∉i::rem:=by
     intro hm;rcases List.mem_cons.1 hm with h|h
     ·rw[h]at aB;omega
     ·have:=(List.pairwise_cons.1 u).1 _ h;omega
    have W:g.getD e.on true≠false:=fun h=>y ((n _).2 h);have ao:e.on<g.size:=by rw[aI];omega
    rw[Array.getD_eq_getD_getElem?,Array.getElem?_eq_getElem ao]at W⊢;simpa using W
   rw[v]at this;cases this
 intro ad;induction ad with
 |zero=>
  intro rem g σ a w hl aI u n ag Q R r aH f J;have H:rem=[]:=List.eq_nil_of_length_eq_zero hl
  subst H;refine⟨?_,hK σ a w aH f J⟩;cases v:Region.ready .any N g with
  |nil=>rfl
  |cons i l=>
   have hi:i∈Region.ready .any N g:=by rw[v];simp
   have:=(n i).2 (mem_ready.1 hi).1;cases this
 |succ ad ih=>
  intro rem g σ a w hl aI u n ag Q R r aH f J;refine⟨fun v=>?_,fun i hi=>?_⟩
  ·have:=first rem g aI u n ag v
   subst this;simp at hl
  ·obtain⟨h0,F,t,ac⟩:=mem_ready.1 hi;obtain⟨s,am,rfl⟩:=List.append_of_mem ((n i).2 h0);have aE:(s++i::am).Nodup:=u.imp (fun h e=>by rw[e]at h;omega)
   have aR:∀j∈s,A j<A i:=fun j hj=>(List.pairwise_append.1 u).2.2 j hj i ab;have a5:i<N.size:=ag i ab;have aq:∀e∈F.after,Region.binds .any e=true->e.on∉s++i::am:=by intro e he V hm;exact Eh ((n e.on).1 hm) (ac e he V)
   have aa:∀j,j∈s++i::am->Fi F j=false:=by
    intro j hj;cases hp:Fi F j with
    |false=>rfl
    |true=>unfold Fi at hp;rw[<-Array.any_toList]at hp;obtain⟨e,he,aD⟩:=List.any_eq_true.1 hp;rw[Array.mem_toList_iff]at he;simp only[Bool.and_eq_true,beq_iff_eq]at aD;exact(Eh ((n j).1 hj) (by rw[<-aD.1];exact ac e he aD.2)).elim
   have G:∀m j,cG N m j->(∀p,N[m]?=some p->∀k,Fi p k=true->k∉s++i::am)->j∉s++i::am:=by
    intro m j hp;induction hp with
    |one ho hp=>intro h;exact h _ ho _ hp
    |more ho hp _ ih=>intro h;exact ih (fun p q k hk=>Q _ p q (h _ ho _ hp) k hk)
   have c:∀j∈s,l0 N i j=false:=by
    intro j hj;have al:j∈s++i::am:=by simp[hj]
    cases hq:l0 N i j with
    |false=>rfl
    |true=>
     refine absurd al (G i j (nT hq) (fun p q k hk ak=>?_));rw[t]at q;cases q;have:=aa k ak
     rw[hk]at this;cases this
   have x:∀j∈s,II N A j=true/\∃b,N[j]?=some b/\(gA N ah b F=true\/lD ah b F=true\/dT D ah b F=true\/iK ah b F=true\/lQ D N ah b F=true\/hD D E ah b F=true):=by
    intro j hj;have K:=aR j hj
    have X:j<N.size:=ag j (by simp[hj]);refine⟨?_,N[j],Array.getElem?_eq_getElem X,?_⟩
    ·unfold II oT;refine List.any_eq_true.2 ⟨i,List.mem_range.2 a5,?_⟩;have:=c j hj
     unfold l0 at this;simp only[this,Bool.not_false,Bool.and_true,decide_eq_true_eq];exact K
    ·have:=C i (List.mem_range.2 a5);simp only[Bool.and_eq_true]at this;have hp:=List.all_eq_true.1 this.1.2 j (List.mem_range.2 X);simp only[K,decide_true,Bool.not_true,Bool.false_or]at hp;unfold ha at hp;rw[t,Array.getElem?_eq_getElem X]at hp;have:=c j hj;unfold l0 at this;simpa[this,or_assoc]using hp
   obtain⟨σ',hs,hr⟩:=ie S t aE x R r aH;have z:i∉s++am:=by
    have:=List.nodup_append.1 aE;intro hm;rcases List.mem_append.1 hm with h|h
    ·exact Nat.lt_irrefl _ (aR i h)
    ·exact(List.nodup_cons.1 this.2.1).1 h
   have O:∀j∈s++am,j∈s++i::am:=by
    intro j hj;rcases List.mem_append.1 hj with h|h
    ·simp[h]
    ·simp[h]
   have ai:∀a' w',zh T0 B σ' a' w'->Xl B w w'->wpAny P .any N af ad (g.setIfInBounds i true) a' w':=by
    intro a' w' ap aj;refine ih (s++am) _ σ' a' w' (by simp at hl⊢;omega) (by simp[aI]) ?_ (fun j=>?_) (fun j hj=>ag j (O j hj)) ?_ (Cc t hs z O R) (S i F σ σ' t hs r) hr ap (J.trans aj)
    ·exact u.sublist (List.Sublist.append (List.Sublist.refl s) (List.sublist_cons_self i am))
    ·by_cases d:i=j
     ·subst d;constructor
      ·intro hm;exact absurd hm z
      ·intro hm;rw[Array.getD_eq_getD_getElem?]at hm;simp[aI,a5]at hm
     ·rw[getD_set_ne true d,<-n j];simp only[List.mem_append,List.mem_cons];constructor
      ·rintro(h|h)
       ·exact .inl h
       ·exact .inr (.inr h)
      ·rintro(h|h|h)
       ·exact .inl h
       ·exact absurd h.symm d
       ·exact .inr h
    ·intro m p q hm j ae hj;by_cases Y:m=i
     ·subst Y;rw[t]at q;cases q;have:=aa j (O j hj)
      rw[ae]at this;cases this
     ·have an:m∉s++i::am:=by
       intro h;rcases List.mem_append.1 h with h|h
       ·exact hm (by simp[h])
       ·rcases List.mem_cons.1 h with h|h
        ·exact Y h
        ·exact hm (by simp[h])
      exact Q m p q an j ae (O j hj)
   have au:=C4 hs T0 B a w (wpAny P .any N af ad (g.setIfInBounds i true)) af f ai;unfold wpOp;simp only[t];split
   ·rename_i hw;rw[if_pos hw]at au;exact .inl au
   ·rename_i hw;rw[if_neg hw]at au;exact au
theorem pW(h:zh T0 B σ a w):zh T0 B σ a {w with drawn:=w.drawn+1}:=by obtain⟨ad,hh,r⟩:=h;exact⟨ad,hh,r.grow (w':={w with drawn:=w.drawn+1}) ⟨rfl,rfl,rfl,Nat.le_refl _,fun _ _ _=>rfl⟩ (fun _ J=>J) (fun _ J=>.inl J)⟩
theorem g2{ah:Oper->Bool}{af:U->Prop}:∀{n k:Nat}{σ:U},k+n=N.size->ny P N ah (N.toList.drop k) σ af->gQ P N ah (List.range' k n) σ af
 |0,k,σ,hk,h=>by rw[List.drop_eq_nil_of_le a0]at h;exact h
 |n+1,k,σ,hk,h=>by have ag:k<N.toList.length:=a0;rw[List.drop_eq_getElem_cons ag]at h;obtain⟨σ',hs,hr⟩:=h;rw[List.range'_succ];exact⟨N.toList[k],σ',by rw[<-Array.getElem?_toList];exact List.getElem?_eq_getElem ag,hs,g2 Y hr⟩
theorem CO(S:∀(i:Nat)(o:Oper)(σ σ':U),N[i]?=some o->jE P N ah o σ σ'->tu D E σ->tu D E σ')(r:tu D E σ)(hm:P.follows .mixedOrders=true)(L:iW P N (fun i=>i) ah D E (Hz N.toList [])=true)(R:jz N (fun i=>i) σ=true)(h:ny P N ah N.toList σ (af .normal)):a3 P (.region ri N true) af σ:=by
 intro T0 B a w f;refine wp_region_any hm ?_;have C:=List.all_eq_true.1 L
 refine pT (T0:=T0) (B:=B) (M:=w) S L (T:=af .normal) (fun σ' a' w' hq hr J=>⟨σ',hq,hr,J⟩) N.size (List.range' 0 N.size) _ σ a _ ab ab ?_ (fun i=>?_) (fun i hi=>by simp[List.mem_range']at hi;omega) (fun m p q hm=>absurd (by simp only[List.mem_range'_1];have:=(Array.getElem?_eq_some_iff.1 q).1;omega) hm) ?_ r (g2 Y c3) (pW f) ⟨rfl,rfl,rfl,Nat.le_refl _,fun _ _=>rfl⟩
 ·exact List.pairwise_lt_range'
 ·rw[Array.getD_eq_getD_getElem?,Array.getElem?_replicate];simp only[List.mem_range'_1];constructor
  ·intro hh;rw[if_pos Y];rfl
  ·intro hh;split at hh
   ·omega
   ·cases hh
 ·intro j hj hl;simp only[List.mem_range'_1]at hj;have J:=C j (List.mem_range.2 Y)
  simp only[Bool.and_eq_true,Bool.or_eq_true,Bool.not_eq_true']at J;refine⟨J.2.resolve_left (by unfold II at hl;rw[hl];simp),?_⟩;have Z:=List.all_eq_true.1 R j (List.mem_range.2 Y)
  unfold II at hl;simp only[hl,Bool.not_true,Bool.false_or]at Z;have ag:j<N.size:=Y
  rw[Array.getElem?_eq_getElem ag]at Z;simp only[Option.bind_some]at Z;cases hd:N[j].dst with
  |none=>rw[hd]at Z;cases Z
  |some d=>rw[hd]at Z;exact⟨_,d,Array.getElem?_eq_getElem ag,hd,Z⟩
theorem i7(hm:P.follows .mixedOrders=true)(L:F7 P N (fun i=>i) ah=true)(R:jz N (fun i=>i) σ=true)(h:ny P N ah N.toList σ (af .normal)):a3 P (.region ri N true) af σ:=
 CO (D:=[]) (E:=[]) (fun _ _ _ _ _ _ _=>wC) wC hm L R h
theorem fb{l:List Oper}(D:List (Nat×Nat))(hm:P.follows .mixedOrders=true)(L:iW P ⟨l⟩ (fun i=>i) (fun _=>false) D [] (Hz l [])=true)(R:jz ⟨l⟩ (fun i=>i) σ=true)(q:Ej ⟨l⟩ D=true)(hp:gj D σ=true)(h:@EI P σ ⟨⟨l⟩,fun _=>false⟩ ⟨l⟩ k):@DI P ri σ ⟨⟨l⟩,O⟩ k:=
 CO (ah:=fun _=>false) (D:=D) (E:=[]) (fun _ _ _ _ hi hs hq=>⟨ho q hi (hs.resolve_right (fun hh=>by cases hh.1)) hq.1,fun p hp=>by cases hp⟩) ⟨hy hp,fun p hp=>by cases hp⟩ hm L R (J7 h)
theorem fe{l:List Oper}(hm:P.follows .mixedOrders=true)(L:F7 P ⟨l⟩ (fun i=>i) (fun _=>false)=true)(R:jz ⟨l⟩ (fun i=>i) σ=true)(h:@EI P σ ⟨⟨l⟩,fun _=>false⟩ ⟨l⟩ k):@DI P ri σ ⟨⟨l⟩,O⟩ k:=
 i7 hm L R (J7 h)
def Cg(c:List Nat)(o:Oper):Bool:=match o.dst with|some d=>c.contains d|none=>!c.contains 3000001
theorem lS(q:Ej N D=true)(a:(N.toList.all fun o=>!ah o||NS o||SO o)=true)(hi:N[i]?=some o)(hs:jE P N ah o σ σ')(h:uK D σ):uK D σ':=by
 rcases hs with hs|⟨J,_,_,f,z,g⟩
 ·exact ho q hi hs h
 ·have n:o∈N.toList:=by rw[Array.mem_toList_iff];exact Array.mem_of_getElem? hi
  have I:=List.all_eq_true.1 a o n;simp only[J,Bool.not_true,Bool.false_or,Bool.or_eq_true,Bool.and_eq_true]at I;rcases I with I|I
  ·rcases f I with⟨⟨_,hg⟩,_⟩|⟨_,hg⟩
   ·intro p hp;rw[hg];exact h p hp
   ·intro p hp;rcases hg p.1 with e|e
    ·rw[e];exact h p hp
    ·exact .inl e
  ·obtain⟨d,hd,_,hg,_⟩:=z I;intro p hp;have W:p.1≠d:=by
    intro e;have Z:=List.all_eq_true.1 q o n
    rw[hd]at Z;have Z:=List.all_eq_true.1 Z p hp
    simp only[e,bne_self_eq_false,Bool.false_or,Bool.and_eq_true]at Z;have Z:=Z.2
    unfold SO at I;cases A:o.op<;>rw[A]at I Z<;>first|(exact Bool.noConfusion I)|(exact Bool.noConfusion Z)
   rw[(hg p.1 W).1];exact h p hp
theorem s3(au:wR P N E=true)(a:(N.toList.all fun o=>!ah o||NS o||SO o)=true)(hi:N[i]?=some o)(hs:jE P N ah o σ σ')(h:ux E σ):ux E σ':=by
 rcases hs with hs|⟨J,_,_,f,z,g⟩
 ·exact o6 au hi hs h
 ·have n:o∈N.toList:=by rw[Array.mem_toList_iff];exact Array.mem_of_getElem? hi
  have I:=List.all_eq_true.1 a o n;simp only[J,Bool.not_true,Bool.false_or,Bool.or_eq_true,Bool.and_eq_true]at I;rcases I with I|I
  ·rcases f I with⟨⟨_,hg⟩,_⟩|⟨_,hg⟩
   ·intro p hp;rw[hg];exact h p hp
   ·intro p hp;rcases hg p with e|e
    ·rw[e];exact h p hp
    ·rw[e];intro b c hh;cases hh
  ·obtain⟨d,hd,_,hg,_⟩:=z I;intro p hp;have W:p≠d:=by
    intro e;have Z:=List.all_eq_true.1 au o n
    rw[hd]at Z;have Z:=List.all_eq_true.1 Z p hp
    simp only[e,bne_self_eq_false,Bool.false_or,Bool.and_eq_true]at Z;have Z:=Z.2
    unfold SO at I;cases A:o.op<;>rw[A]at I Z<;>first|(exact Bool.noConfusion I)|(exact Bool.noConfusion Z)
   rw[(hg p W).1];exact h p hp
theorem fc{l:List Oper}(D:List (Nat×Nat))(E c:List Nat)(hm:P.follows .mixedOrders=true)(L:iW P ⟨l⟩ (fun i=>i) (Cg c) D E (Hz l [])=true)(R:jz ⟨l⟩ (fun i=>i) σ=true)(q:Ej ⟨l⟩ D=true)(hp:gj D σ=true)(au:wR P ⟨l⟩ E=true)(ad:hP E σ=true)(a:(l.all fun o=>!Cg c o||NS o||SO o)=true)(h:@EI P σ ⟨⟨l⟩,Cg c⟩ ⟨l⟩ k):@DI P ri σ ⟨⟨l⟩,O⟩ k:=
 CO (ah:=Cg c) (D:=D) (E:=E) (fun _ _ _ _ hi hs hq=>⟨lS q a hi hs hq.1,s3 au a hi hs hq.2⟩) ⟨hy hp,tm ad⟩ hm L R (J7 h)
theorem rx{l:List Oper}(c:List Nat)(hm:P.follows .mixedOrders=true)(L:Vm.F7 P ⟨l⟩ (fun i=>i) (Cg c)=true)(R:jz ⟨l⟩ (fun i=>i) σ=true)(h:@EI P σ ⟨⟨l⟩,Cg c⟩ ⟨l⟩ k):@DI P ri σ ⟨⟨l⟩,O⟩ k:=
 i7 hm L R (J7 h)
def eZ(A:Nat->Nat):List Nat->Bool
 |[]=>true
 |i::r=>r.all (fun j=>decide (A i<A j))&&eZ A r
theorem hM{A:Nat->Nat}:∀{l:List Nat},eZ A l=true->l.Pairwise (fun i j=>A i<A j)
 |[],_=>.nil
 |i::r,h=>by simp only[eZ,Bool.and_eq_true,List.all_eq_true,decide_eq_true_eq]at h;exact .cons h.1 (hM h.2)
def dl:List Nat->Nat->Nat
 |[],_=>0
 |i::r,k=>if i==k then 0 else dl r k+1
def ef(n:Nat)(I:List Nat):Bool:=I.length==n&&eZ (dl I) I&&I.all (fun i=>decide (i<n))&&(List.range n).all (fun i=>I.contains i)
@[reducible] def gc:List Oper->Nat->Oper->Oper
 |[],_,d=>d
 |o::_,0,_=>o
 |_::l,i+1,d=>gc l i d
@[reducible] def fa(l:List Oper)(d:Oper):List Nat->List Oper
 |[]=>[]
 |i::r=>gc l i d::fa l d r
theorem lJ{d:Oper}:∀{l:List Oper}{i:Nat},i<l.length->l[i]?=some (gc l i d)
 |[],i,h=>cz
 |o::l,0,_=>rfl
 |o::l,i+1,h=>by simpa using lJ (l:=l) (i:=i) c3
theorem pq{ah:Oper->Bool}{af:U->Prop}{l:List Oper}{d:Oper}:∀{I:List Nat}{σ:U},(∀i∈I,i<l.length)->ny P l.toArray ah (fa l d I) σ af->gQ P l.toArray ah I σ af
 |[],σ,_,h=>h
 |i::r,σ,hi,h=>by obtain⟨σ',hs,hr⟩:=h;exact⟨_,σ',by rw[List.getElem?_toArray];exact lJ (hi i ab),hs,pq (fun j hj=>hi j (by simp[hj])) hr⟩
theorem la(hm:P.follows .mixedOrders=true)(ho:ef N.size I=true)(L:F7 P N (dl I) ah=true)(R:jz N (dl I) σ=true)(h:gQ P N ah I σ (af .normal)):a3 P (.region ri N true) af σ:=by
 intro T0 B a w f;refine wp_region_any hm ?_;have C:=List.all_eq_true.1 L
 simp only[ef,Bool.and_eq_true,beq_iff_eq,List.all_eq_true,decide_eq_true_eq,List.mem_range,List.contains_iff_mem]at ho;obtain⟨⟨⟨o1,V⟩,o3⟩,b⟩:=ho;refine pT (T0:=T0) (B:=B) (M:=w) (D:=[]) (E:=[]) (fun _ _ _ _ _ _ _=>wC) L (T:=af .normal) (fun σ' a' w' hq hr J=>⟨σ',hq,hr,J⟩) N.size I _ σ a _ o1 ab (hM V) (fun i=>?_) o3 (fun m p q hm=>absurd (b m (Array.getElem?_eq_some_iff.1 q).1) hm) ?_ wC h (pW f) ⟨rfl,rfl,rfl,Nat.le_refl _,fun _ _=>rfl⟩
 ·rw[Array.getD_eq_getD_getElem?,Array.getElem?_replicate];constructor
  ·intro hh;rw[if_pos (o3 i hh)];rfl
  ·intro hh;split at hh
   ·rename_i ag;exact b i ag
   ·cases hh
 ·intro j hj hl;have c:=o3 j hj
  have J:=C j (List.mem_range.2 c);simp only[Bool.and_eq_true,Bool.or_eq_true,Bool.not_eq_true']at J;refine⟨J.2.resolve_left (by unfold II at hl;rw[hl];simp),?_⟩;have Z:=List.all_eq_true.1 R j (List.mem_range.2 c);unfold II at hl;simp only[hl,Bool.not_true,Bool.false_or]at Z;rw[Array.getElem?_eq_getElem c]at Z;simp only[Option.bind_some]at Z;cases hd:N[j].dst with
  |none=>rw[hd]at Z;cases Z
  |some d=>rw[hd]at Z;exact⟨_,d,Array.getElem?_eq_getElem c,hd,Z⟩
theorem C8{l:List Oper}(I:List Nat)(hm:P.follows .mixedOrders=true)(ho:ef (o::l).length I=true)(L:F7 P ⟨o::l⟩ (dl I) (fun _=>false)=true)(R:jz ⟨o::l⟩ (dl I) σ=true)
  (h:@EI P σ ⟨⟨o::l⟩,fun _=>false⟩ ⟨fa (o::l) o I⟩ k):@DI P ri σ ⟨⟨o::l⟩,O⟩ k:=by
 have X:∀i∈I,i<(o::l).length:=by simp only[ef,Bool.and_eq_true,List.all_eq_true,decide_eq_true_eq]at ho;exact ho.1.2
 exact la hm ho L R (pq X (J7 h))
end Go.Vm
