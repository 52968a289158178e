/- An abstract machine C7 the model of Go, by value, and that it is sound: part Vd. No condition. -/
import Derived.Test.YtifogammcgmjpaaGreatVc
import Derived.Orders
set_option linter.unusedVariables false
set_option linter.unusedSimpArgs false
namespace Go.Vm
open Go.RowKit
variable{σ σ' σ1 σ2:J}{P:Program}{d u ri i t j X b L H:Nat}{v:V}{o y F:Oper}{x z:Operand}{l:List Oper}{op:BinOp}{k:Fr}{c:Call}{q:Bool}{f:FuncId}{n:Int}{a:Act}
structure Sub(P:Program)(xs:List Operand)(σ1 σ:J):Prop where
 len:σ1.length=σ.length
 look:∀x∈xs,∀A,look P σ1 A x=look P σ A x
 ob:∀x∈xs,∀A u,(Vm.look P σ1 A x).ref u=true->∀j,σ1.ob u j≠ .none->σ.ob u j=σ1.ob u j
theorem K9{x:At}(h:unc v= .one x)(O:x.ref u=true):v.ref u=true:=by
 cases v with
 |E g y=>simp only[unc]at h;subst h;simp only[V.ref,V.BK,Bool.or_eq_true];exact .inl O
 |one y=>simp only[unc]at h;cases h;exact O
 |any=>simp[unc]at h
 |agg xs=>simp[unc]at h
 |O xs=>simp[unc]at h
 |fix g y=>simp only[unc]at h;subst h;simp only[V.ref,V.BK,Bool.or_eq_true];exact .inl O
theorem CT{xs:List At}(h:unc v= .agg xs)(O:U u xs=true):v.ref u=true:=by
 cases v with
 |E g y=>simp only[unc]at h;subst h;simp only[V.ref,V.BK,Bool.or_eq_true];exact .inl O
 |agg y=>simp only[unc]at h;cases h;exact O
 |any=>simp[unc]at h
 |one xs=>simp[unc]at h
 |O xs=>simp[unc]at h
 |fix g y=>simp only[unc]at h;subst h;simp only[V.ref,V.BK,Bool.or_eq_true];exact .inl O
theorem Ng(O:U u (unc v).cells=true):v.ref u=true:=by
 cases h:unc v with
 |one x=>rw[h]at O;simp[V.cells,U]at O;exact K9 h O
 |agg xs=>rw[h]at O;exact CT h O
 |any=>rw[h]at O;simp[V.cells,U]at O
 |O xs=>rw[h]at O;simp[V.cells,U]at O
 |E g x=>rw[h]at O;simp[V.cells,U]at O
 |fix u x=>rw[h]at O;simp[V.cells,U]at O
theorem Sub.same{xs:List Operand}{A:TypeId}{a:At}{o:Ob}(h:Sub P xs σ1 σ)(O:x∈xs)(hv:unc (Vm.look P σ A x)= .one a)(ha:a.ref u=true)(ho:σ1.ob u j=o)(hn:o≠ .none):σ.ob u j=o:=by rw[<-ho];refine h.ob x O A u ?_ j (by rw[ho];exact hn);rw[h.look x O A];exact K9 hv ha
theorem UG{xs:List Operand}{k:IntKind}(h:Sub P xs σ1 σ)(O:x∈xs)(hl:MN P σ1 x k n):MN P σ x k n:=by unfold MN at*;rw[<-h.look x O];exact hl
theorem mU{xs:List Operand}{w n:Nat}{x:Option Operand}(h:Sub P xs σ1 σ)(O:∀y,x=some y->y∈xs)(hl:bk P σ1 w x n):bk P σ w x n:=by
 cases x with
 |none=>exact hl
 |some x=>simp only[bk]at*;rw[<-h.look x (O x rfl)];exact hl
theorem BB{T:TypeId}:∀{R:List (Nat×Operand)}{z d:List At},Sub P (R.map (·.2)) σ1 σ->Ig P σ1 T R z d->Ig P σ T R z d
 |[],_,_,_,h=>h
 |(i,x)::R,z,d,U,h=>by have e:=U.look x ab;simp only[Ig]at h⊢;rw[<-e];refine⟨h.1,h.2.1,h.2.2.1,h.2.2.2.1,h.2.2.2.2.1,BB ⟨U.len,fun y hy=>U.look y c7,fun y hy=>U.ob y c7⟩ h.2.2.2.2.2⟩
theorem FP{op:Op}{A:TypeId}(U:XV P σ1 op A v)(h:Sub P op.operands.toList σ1 σ):XV P σ op A v:=by
 cases op<;>simp only[XV]at U⊢;case move x=>rw[<-h.look x aG];exact U
 case assign x=>rw[<-h.look x aG];exact U
 case pick c a b=>rw[<-h.look c aG,<-h.look a aG,<-h.look b aG];exact U
 case load T x=>
  rw[h.look x aG]at U;refine⟨U.1,U.2.1,?_⟩;have K:=U.2.2
  split at K
  ·rename_i t c O;obtain⟨E,ho,hr⟩:=K;exact⟨E,h.same aG O bn ho ab,hr⟩
  ·rename_i t j i c O;obtain⟨q,X,Q,ho,hr⟩:=K;exact⟨q,X,Q,h.same aG O bn ho ab,hr⟩
  ·exact K
  ·rename_i t j i c k O;obtain⟨X,Q,s,ho,hr⟩:=K;exact⟨X,Q,s,h.same aG O bn ho ab,hr⟩
  ·exact K.elim
 case nilCheck x=>
  rw[h.look x aG]at U;refine⟨U.1,?_⟩;have K:=U.2
  split at K
  ·rename_i t c O;obtain⟨⟨E,ho⟩,hr⟩:=K;exact⟨⟨E,h.same aG O bn ho ab⟩,hr⟩
  ·exact K.elim
 case fieldAddr T x f=>
  rw[h.look x aG]at U;refine⟨U.1,U.2.1,?_⟩;have K:=U.2.2
  split at K
  ·rename_i t c O;obtain⟨⟨E,ho⟩,hr⟩:=K;exact⟨⟨E,h.same aG O bn ho ab⟩,hr⟩
  ·rename_i t j i c O;obtain⟨⟨q,X,Q,ho⟩,hr⟩:=K;exact⟨⟨q,X,Q,h.same aG O bn ho ab⟩,hr⟩
  ·exact K
  ·rename_i t j i c k O;obtain⟨⟨X,Q,ho⟩,hr⟩:=K;exact⟨⟨X,Q,h.same aG O bn ho ab⟩,hr⟩
  ·exact K.elim
 case indexAddr T x ix=>
  obtain⟨k,i,hk,h0,hg,K⟩:=U;rw[h.look x aG]at hg K;refine⟨k,i,UG h aG hk,h0,hg,?_⟩;split at K
  ·exact K
  ·rename_i t j lo ae O;obtain⟨M,Z,⟨q,Q,ho⟩,hr⟩:=K;exact⟨M,Z,⟨q,Q,h.same aG O bn ho ab⟩,hr⟩
  ·rename_i t c O;obtain⟨⟨E,ho⟩,hr⟩:=K;exact⟨⟨E,h.same aG O bn ho ab⟩,hr⟩
  ·rename_i t j m c O;obtain⟨M,Z,⟨X,Q,s,ho,hr⟩,hv⟩:=K;exact⟨M,Z,⟨X,Q,s,h.same aG O bn ho ab,hr⟩,hv⟩
  ·exact K.elim
 case index T x ix=>obtain⟨k,i,hk,h0,hg,K⟩:=U;rw[h.look x aG]at hg K;exact⟨k,i,UG h aG hk,h0,hg,K⟩
 case slice T x lo hi mx=>
  cases mx with
  |some m=>exact U.elim
  |none=>
   simp only at U⊢;rw[h.look x aG]at U;refine⟨U.1,?_⟩;have K:=U.2
   have V:∀w n,bk P σ1 w lo n->bk P σ w lo n:=fun w n=>mU h (fun y hy=>by subst hy;simp[Op.operands]);have b2:∀w n,bk P σ1 w hi n->bk P σ w hi n:=fun w n=>mU h (fun y hy=>by subst hy;simp[Op.operands]);split at K
   ·obtain⟨M,l,hh,Z,h3,hr⟩:=K;exact⟨M,l,hh,V _ _ Z,b2 _ _ h3,hr⟩
   ·obtain⟨M,g,l,hh,Z,h3,hr⟩:=K;exact⟨M,g,l,hh,V _ _ Z,b2 _ _ h3,hr⟩
   ·rename_i t j o ae O;obtain⟨M,⟨q,Q,ho⟩,l,hh,Z,h3,hr⟩:=K;exact⟨M,⟨q,Q,h.same aG O bn ho ab⟩,l,hh,V _ _ Z,b2 _ _ h3,hr⟩
   ·exact K.elim
 case binOp op T x y yt=>rw[<-h.look x aG,<-h.look y aG];exact U
 case unOp op T x=>rw[<-h.look x aG];exact U
 case convert S T x=>rw[<-h.look x aG];exact U
 case extract x i=>rw[<-h.look x aG];exact U
 case field T x f=>rw[<-h.look x aG];exact U
 case build T parts=>obtain⟨M,Z,z,d,h3,h4,h5⟩:=U;refine⟨M,Z,z,d,h3,BB ?_ h4,h5⟩;simpa[Op.operands]using h
 case call c=>
  obtain⟨e,aA,aC⟩:=c;have hm:∀x∈aA.toList,x∈(Op.operands (.call ⟨e,aA,aC⟩)).toList:=by intro x O;simp only[Op.operands,Call.operands];cases e<;>simp at O⊢<;>simp[O]
  split at U
  ·rename_i x t hc ha ht;rw[h.look x (hm x b0)]at U;try simp only[hc,ha,ht]
   refine⟨U.1,?_⟩;have K:=U.2
   split at K
   ·exact K
   ·exact K
   ·exact K
   ·rename_i u j lo ae O;obtain⟨M,⟨q,X,Q,ho⟩|⟨X,Q,ho⟩,hr⟩:=K
    ·exact⟨M,.inl ⟨q,X,Q,h.same (hm x b0) O bn ho ab⟩,hr⟩
    ·exact⟨M,.inr ⟨X,Q,h.same (hm x b0) O bn ho ab⟩,hr⟩
   ·rename_i u j i c O;obtain⟨M,X,Q,n,s,ho,hr⟩:=K;exact⟨M,X,Q,n,s,h.same (hm x b0) O bn ho ab,hr⟩
   ·exact K.elim
  ·rename_i x y hc ha;try simp only[hc,ha]
   obtain⟨k,m,n,M,Z,h3⟩:=U;exact⟨k,m,n,UG h (hm x b0) M,UG h (hm y b0) Z,h3⟩
  ·rename_i x y hc ha;try simp only[hc,ha]
   obtain⟨k,m,n,M,Z,h3⟩:=U;exact⟨k,m,n,UG h (hm x b0) M,UG h (hm y b0) Z,h3⟩
  ·exact U.elim
open Go.RowKit
variable{ys:List Operand}{am ag r:List (List D)}
def sh(P:Program)(xs:List Operand)(σ:J)(u:Nat):Prop:=
 ∃x∈xs,∃A,(look P σ A x).ref u=true\/∃t E,(look P σ A x).ref t=true/\σ.ob t 0= .box E/\U u E=true
theorem ja{u:Nat}:∀{xs:List At},U u xs=true↔∃x∈xs,x.ref u=true
 |[]=>by simp[U]
 |x::xs=>by simp[U,ja]
theorem ob{xs ys:List At}(h:∀x∈xs,x∈ys)(O:U u xs=true):U u ys=true:=by obtain⟨x,M,Z⟩:=ja.1 O;exact ja.2 ⟨x,h x M,Z⟩
theorem Cd{a:Nat}{xs:List At}(O:U u (cut xs a b)=true):U u xs=true:=
 ob (fun _ h=>List.mem_of_mem_drop (List.mem_of_mem_take h)) O
theorem EE(xs:List D):U u (xs.map .d)=false:=by
 induction xs with
 |nil=>rfl
 |cons x xs ih=>simp[U,At.ref,ih]
theorem Et{T:TypeId}{xs:List At}(h:(bm P T xs).ref u=true):U u xs=true:=by
 unfold bm at h;split at h
 ·exact h
 ·split at h
  ·simpa[V.ref,U]using h
  ·simp[V.ref]at h
theorem pK{o:Nat}{r xs:List At}(h:U u (place r o xs)=true):U u r=true\/U u xs=true:=by
 obtain⟨x,M,Z⟩:=ja.1 h;simp only[place,List.mem_append]at M;rcases M with(M|M)|M
 ·exact .inl (ja.2 ⟨x,List.mem_of_mem_take M,Z⟩)
 ·exact .inr (ja.2 ⟨x,M,Z⟩)
 ·exact .inl (ja.2 ⟨x,List.mem_of_mem_drop M,Z⟩)
theorem ng(h:(unc v).ref u=true)(hc:∀g x,unc v≠ .E g x)(hf:∀g x,unc v≠ .fix g x):v.ref u=true:=by
 cases v with
 |E g x=>
  simp only[unc]at h hc hf;simp only[V.ref,Bool.or_eq_true];cases x with
  |O xs=>exact .inr h
  |E g y=>exact absurd rfl (hc g y)
  |fix g y=>exact absurd rfl (hf g y)
  |one x=>exact .inl h
  |agg x=>exact .inl h
  |any=>exact .inl h
 |fix g x=>
  simp only[unc]at h hc hf;simp only[V.ref,Bool.or_eq_true];cases x with
  |O xs=>exact .inr h
  |E g y=>exact absurd rfl (hc g y)
  |fix g y=>exact absurd rfl (hf g y)
  |one x=>exact .inl h
  |agg x=>exact .inl h
  |any=>exact .inl h
 |_=>exact h
theorem oX{u t j i:Nat}:∀{c:Nat}{xs:List D},U u (Mj t j i c xs)=true->u=t
 |_,[],h=>by simp[Mj,U]at h
 |c,x::xs,h=>by
  simp only[Mj,U,Bool.or_eq_true]at h;rcases h with h|h
  ·cases x<;>simp[At.ref]at h;exact h.symm
  ·exact oX h
theorem OP{c:Nat}{xs:List D}(h:U u (Fz q t j i c xs)=true):u=t:=by
 cases q with
 |true=>exact oX h
 |false=>simp only[Fz]at h;rw[EE]at h;cases h
theorem u5{k:IntKind}{x y:Int}(h:pe op k x y v)(u:Nat):v.ref u=false:=by cases op<;>simp only[pe]at h<;>first|(subst h;rfl)|(obtain⟨_,rfl⟩:=h;rfl)|exact h.elim
theorem AC{x y:ByteArray}(h:oQ op x y v)(u:Nat):v.ref u=false:=by cases op<;>simp only[oQ]at h<;>first|(subst h;rfl)|(obtain⟨_,rfl⟩:=h;rfl)|exact h.elim
theorem lv{x y:Bool}(h:BP op x y v)(u:Nat):v.ref u=false:=by cases op<;>simp only[BP]at h<;>first|(subst h;rfl)|(obtain⟨_,rfl⟩:=h;rfl)|exact h.elim
theorem s6{T:TypeId}{x y:V}(h:eN P op T x y v)(u:Nat):v.ref u=false:=by
 unfold eN at h;split at h
 ·exact u5 h.2 u
 ·exact AC h u
 ·exact lv h.2 u
 ·obtain⟨_,q,_,⟨_,rfl⟩|⟨_,rfl⟩⟩:=h<;>rfl
 ·exact h.elim
theorem lJ{u:Nat}:∀{xs:List V}{i:Nat}{v:V},xs[i]?=some v->v.BK u=true->HH u xs=true
 |[],_,_,h,_=>cb
 |x::xs,0,v,h,hr=>by simp at h;subst h;simp[HH,hr]
 |x::xs,i+1,v,h,hr=>by simp only[HH,Bool.or_eq_true];exact .inr (lJ cx hr)
theorem m0(hf:v.flat=true)(u:Nat):v.ref u=v.BK u:=by cases v<;>first|rfl|(simp[V.flat]at hf)
theorem rO{P:Program}{σ:J}{T:TypeId}{u:Nat}:∀{R:List (Nat×Operand)}{z d:List At},Ig P σ T R z d->U u d=true->
  U u z=true\/∃x∈R.map (·.2),∃A,(look P σ A x).ref u=true
 |[],z,d,h,hr=>by simp only[Ig]at h;subst h;exact .inl hr
 |(i,x)::R,z,d,h,hr=>by
  simp only[Ig]at h;rcases rO h.2.2.2.2.2 hr with M|⟨y,hy,A,M⟩
  ·rcases pK M with M|M
   ·exact .inl M
   ·exact .inr ⟨x,ab,_,Ng M⟩
  ·exact .inr ⟨y,by simp at hy⊢;exact .inr hy,A,M⟩
theorem lN{op:Op}{A:TypeId}(U:XV P σ op A v)(hr:v.ref u=true):sh P op.operands.toList σ u:=by
 have l:∀{x:D},v= .one (.d x)->False:=by intro x e;rw[e]at hr;cases hr
 cases op<;>simp only[XV]at U;case move x=>subst U;exact⟨x,by simp[Op.operands],A,.inl hr⟩
 case assign x=>subst U;exact⟨x,by simp[Op.operands],A,.inl hr⟩
 case pick c a b=>obtain⟨g,p,q,_,_,_,_,_,_,rfl⟩:=U;cases hr
 case load T x=>
  have K:=U.2.2;split at K
  ·rename_i t c O;obtain⟨E,ho,_,rfl⟩:=K;exact⟨x,by simp[Op.operands],0,.inr ⟨t,E,K9 O bn,ho,Cd (Et hr)⟩⟩
  ·rename_i t j i c O;obtain⟨q,X,Q,_,_,_,rfl⟩:=K;have:=OP (Et hr)
   exact⟨x,by simp[Op.operands],0,.inl (K9 O (by simp[At.ref,this]))⟩
  ·obtain⟨_,rfl⟩:=K;have:=Et hr;rw[EE]at this;cases this
  ·obtain⟨_,_,_,_,_,_,_,_,_,rfl⟩:=K;have:=Et hr;rw[EE]at this;cases this
  ·exact K.elim
 case nilCheck x=>
  have K:=U.2;split at K
  ·rename_i t c O;obtain⟨_,rfl⟩:=K;exact⟨x,by simp[Op.operands],0,.inl (K9 O hr)⟩
  ·exact K.elim
 case fieldAddr T x f=>
  have K:=U.2.2;split at K
  ·rename_i t c O;obtain⟨_,rfl⟩:=K;exact⟨x,by simp[Op.operands],0,.inl (K9 O hr)⟩
  ·rename_i t j i c O;obtain⟨_,rfl⟩:=K;exact⟨x,by simp[Op.operands],0,.inl (K9 O hr)⟩
  ·subst K;cases hr
  ·rename_i t j i c k O;obtain⟨_,rfl⟩:=K;exact⟨x,by simp[Op.operands],0,.inl (K9 O hr)⟩
  ·exact K.elim
 case indexAddr T x ix=>
  obtain⟨k,i,_,_,_,K⟩:=U;split at K
  ·obtain⟨_,_,_,_,rfl⟩:=K;cases hr
  ·rename_i t j lo ae O;obtain⟨_,_,_,_,rfl⟩:=K;exact⟨x,by simp[Op.operands],0,.inl (K9 O hr)⟩
  ·rename_i t c O;obtain⟨_,_,rfl⟩:=K;exact⟨x,by simp[Op.operands],0,.inl (K9 O hr)⟩
  ·rename_i t j m c O;obtain⟨_,_,_,rfl⟩:=K;exact⟨x,by simp[Op.operands],0,.inl (K9 O hr)⟩
  ·exact K.elim
 case index T x ix=>
  obtain⟨k,i,_,_,_,K⟩:=U;split at K
  ·obtain⟨_,_,rfl⟩:=K;cases hr
  ·rename_i xs O;obtain⟨_,_,_,rfl⟩:=K;exact⟨x,by simp[Op.operands],0,.inl (CT O (Cd (Et hr)))⟩
  ·exact K.elim
 case slice T x lo hi mx=>
  cases mx with
  |some m=>exact U.elim
  |none=>
   simp only at U;have K:=U.2
   split at K
   ·obtain⟨_,_,_,_,_,_,_,rfl⟩:=K;cases hr
   ·obtain⟨_,_,_,_,_,_,_,_,rfl⟩:=K;cases hr
   ·rename_i t j o ae O;obtain⟨_,_,_,_,_,_,_,_,rfl⟩:=K;exact⟨x,by simp[Op.operands],0,.inl (K9 O hr)⟩
   ·exact K.elim
 case binOp op T x y yt=>rw[s6 U.2.2 u]at hr;cases hr
 case unOp op T x=>
  have K:=U.2;split at K
  ·subst K;cases hr
  ·subst K;cases hr
  ·exact K.elim
 case convert S T x=>
  have K:=U.2.2;split at K
  ·obtain⟨_,_,rfl⟩:=K;cases hr
  ·exact K.elim
 case extract x i=>
  have K:=U.2;split at K
  ·rename_i xs O;refine⟨x,by simp[Op.operands],0,.inl (ng ?_ (by rw[O];simp) (by rw[O];simp))⟩;rw[O];rw[m0 K.2]at hr;exact lJ K.1 hr
  ·exact K.elim
 case field T x f=>
  have K:=U.2.2.2;split at K
  ·rename_i xs O;obtain⟨_,rfl⟩:=K;exact⟨x,by simp[Op.operands],0,.inl (CT O (Cd (Et hr)))⟩
  ·exact K.elim
 case build T parts=>
  obtain⟨_,_,z,d,h3,h4,rfl⟩:=U;rcases rO h4 hr with M|⟨x,O,h,M⟩
  ·rw[D2 u _ _ _ h3]at M;cases M
  ·exact⟨x,by simpa[Op.operands]using O,h,.inl M⟩
 case call c=>
  split at U
  ·have K:=U.2;split at K
   ·obtain⟨_,rfl⟩:=K;cases hr
   ·obtain⟨_,rfl⟩:=K;cases hr
   ·obtain⟨_,rfl⟩:=K;cases hr
   ·obtain⟨_,_,rfl⟩:=K;cases hr
   ·obtain⟨_,_,_,_,_,_,_,_,rfl⟩:=K;cases hr
   ·exact K.elim
  ·obtain⟨_,_,_,_,_,rfl⟩:=U;cases hr
  ·obtain⟨_,_,_,_,_,rfl⟩:=U;cases hr
  ·exact U.elim
open Go.RowKit
inductive aA where
 |put (v:V)
 |new (v:V) (aa:List Ob)
 |drop (t j:Nat) (v:V) (aa:List Ob)
variable{e:aA}
def aA.ap(d:Nat):aA->J->J
 |.put v,σ=>σ.put d v
 |.new v aa,σ=>σ.new d v aa
 |.drop t j v aa,σ=>(σ.Yg t j .none).new d v aa
def aA.ok(d:Nat):aA->J->Prop
 |.put _,_=>True
 |.new _ _,σ=>σ.fresh d=true
 |.drop t j _ _,σ=>(∃q s r,σ.ob t j= .arr q s r)/\(σ.Yg t j .none).fresh d=true
def aA.ref(u:Nat):aA->Bool
 |.put v=>v.ref u
 |.new v aa=>v.ref u||Xi u aa
 |.drop _ _ v aa=>v.ref u||Xi u aa
def D6(o:Oper):Bool:=
 match o.op with
 |.call ⟨.builtin .append,⟨.const _::_⟩,_⟩=>false
 |.call ⟨.builtin .append,_,_⟩=>true
 |_=>false
def jY(o:Oper):Bool:=
 match o.op with
 |.alloc _=>false
 |.box _ _=>false
 |.buildSlice _ _ _=>false
 |.makeSlice _ _ _=>false
 |.call ⟨.builtin .append,_,_⟩=>false
 |.call ⟨.value _,_,_⟩=>false
 |_=>true
def FJ(N:Array Oper)(o:Oper):List Operand:=
 o.op.operands.toList++(match o.guard with|some (j,_)=>(match(N[j]?).bind (·.dst)with|some E=>[.tmp E]|none=>[])|none=>[])
theorem Sub.left{xs:List Operand}(h:Sub P (xs++ys) σ1 σ):Sub P xs σ1 σ:=⟨h.len,fun x O=>h.look x (by simp[O]),fun x O=>h.ob x (by simp[O])⟩
theorem nm{x:At}{d:D}(h:∀u,x.ref u=true->∀j,σ1.ob u j≠ .none->σ.ob u j=σ1.ob u j)(hd:kK σ1 x=some d):kK σ x=some d:=by
 cases x with
 |E t j lo ae=>
  simp only[kK]at hd⊢;split at hd
  ·rename_i q X Q ho;rw[h t bn j bq,ho];exact hd
  ·cases hd
 |_=>exact hd
theorem OQ:∀{xs:List At}{r:List D},(∀u,U u xs=true->∀j,σ1.ob u j≠ .none->σ.ob u j=σ1.ob u j)->rowOf σ1 xs=some r->rowOf σ xs=some r
 |[],_,_,h=>h
 |x::xs,r,h,hr=>by
  simp only[rowOf]at hr⊢;split at hr
  ·rename_i d ds M Z;rw[nm (fun u F=>h u (by rw[U,F];rfl)) M,OQ (fun u F=>h u (by rw[U,F,Bool.or_true])) Z];exact hr
  ·cases hr
theorem oc{r:List D}(h:∀u,U u v.cells=true->∀j,σ1.ob u j≠ .none->σ.ob u j=σ1.ob u j)(hr:v.qS σ1=some r):v.qS σ=some r:=by
 cases v with
 |one x=>exact OQ h hr
 |agg xs=>
  match xs,h,hr with
  |[],h,hr=>exact OQ h hr
  |[_],_,hr=>simp[V.qS]at hr
  |x::y::xs,h,hr=>exact OQ h hr
 |any=>simp[V.qS]at hr
 |O xs=>simp[V.qS]at hr
 |E g x=>simp[V.qS]at hr
 |fix u x=>simp[V.qS]at hr
theorem Sub.cells{xs:List Operand}(h:Sub P xs σ1 σ)(O:x∈xs)(A:TypeId):∀u,U u (unc (Vm.look P σ1 A x)).cells=true->∀j,σ1.ob u j≠ .none->σ.ob u j=σ1.ob u j:=
 fun u F j hn=>h.ob x O A u (Ng F) j hn
theorem Ia:∀{xs:List Operand}{ts:List TypeId}{rs:List (List D)},Sub P xs σ1 σ->Jx P σ1 xs ts rs->Jx P σ xs ts rs
 |[],_,_,_,h=>h
 |x::xs,[],_,_,h=>h.elim
 |x::xs,t::ts,rs,U,h=>by
  obtain⟨hg,r,ai,M,Z,h3⟩:=h;have e:=U.look x ab t
  refine⟨by rw[<-e];exact hg,r,ai,?_,Ia ⟨U.len,fun y hy=>U.look y (by simp[hy]),fun y hy=>U.ob y (by simp[hy])⟩ Z,h3⟩;rw[<-e];exact oc (U.cells ab t) M
theorem HP:∀{xs:List Operand}{ts:List TypeId},Sub P xs σ1 σ->XB P σ xs ts=XB P σ1 xs ts
 |[],_,_=>by simp[XB]
 |x::xs,[],_=>by simp[XB]
 |x::xs,t::ts,U=>by simp only[XB];rw[U.look x ab t,HP ⟨U.len,fun y hy=>U.look y (by simp[hy]),fun y hy=>U.ob y (by simp[hy])⟩]
theorem FU{own:Bool}(U:Sub P c.args.toList σ1 σ)(h:eC P σ1 c f own ag):eC P σ c f own ag:=by obtain⟨Q,M,Z,h3⟩:=h;exact⟨Q,Ia U M,Z,by rw[HP U];exact h3⟩
theorem Fe{T:TypeId}{X:Nat}:∀{R:List (Nat×Operand)}{k:Nat}{rs:List (List D)},Sub P (R.map (·.2)) σ1 σ->BF P σ1 T X R k rs->BF P σ T X R k rs
 |[],_,_,_,h=>h
 |(i,x)::R,k,rs,U,h=>by have e:=U.look x ab T;obtain⟨M,Z,h3,h4,r,ai,h5,h6,h7,h8⟩:=h;refine⟨M,by rw[<-e];exact Z,by rw[<-e];exact h3,by rw[<-e];exact h4,r,ai,?_,h6,Fe ⟨U.len,fun y hy=>U.look y c7,fun y hy=>U.ob y c7⟩ h7,h8⟩;rw[<-e];exact OQ (U.cells ab T) h5
theorem vP{T:TypeId}{X:Nat}:∀{R:List (Nat×Operand)}{k:Nat}{rs:List (List At)},Sub P (R.map (·.2)) σ1 σ->Bi P σ1 T X R k rs->Bi P σ T X R k rs
 |[],_,_,_,h=>h
 |(i,x)::R,k,rs,U,h=>by
  obtain⟨M,Z,h3,h4,ai,h5,h6⟩:=h;have e:=U.look x ab T
  rw[e]at Z h3 h4 h6;exact⟨M,Z,h3,h4,ai,vP ⟨U.len,fun y hy=>U.look y c7,fun y hy=>U.ob y c7⟩ h5,h6⟩
theorem lM{T:TypeId}{X u:Nat}:∀{R:List (Nat×Operand)}{k:Nat}{rs:List (List At)},Bi P σ T X R k rs->U u rs.flatten=true->∃x∈R.map (·.2),(Vm.look P σ T x).ref u=true
 |[],_,_,h,hr=>by simp only[Bi]at h;subst h;simp[U]at hr
 |(i,x)::R,k,rs,h,hr=>by
  obtain⟨M,Z,h3,h4,ai,h5,rfl⟩:=h;rw[List.flatten_cons]at hr;obtain⟨z,hz,D⟩:=ja.1 hr;rcases List.mem_append.1 hz with hz|hz
  ·exact⟨x,ab,Ng (ja.2 ⟨z,hz,D⟩)⟩
  ·obtain⟨y,hy,a⟩:=lM h5 (ja.2 ⟨z,hz,D⟩);exact⟨y,by simp at hy⊢;exact .inr hy,a⟩
theorem Vk(u:Nat):∀(qs:List Bool)(ds:List D),Xi u (Ya qs ds)=false
 |qs,[]=>by cases qs<;>rfl
 |q::qs,.sl X Q::ds=>by simp[Ya,Xi,Vk u qs ds]
 |[],.sl X Q::ds=>by simp[Ya,Xi,Vk u [] ds]
 |qs,.int _ _::ds=>dz
 |qs,.bool _::ds=>dz
 |qs,.str _::ds=>dz
 |qs,.unk::ds=>dz
theorem IQ{xs:List Operand}{A:TypeId}(U:Sub P xs σ1 σ)(O:x∈xs)(h:y9 σ1 (unc (Vm.look P σ1 A x)) X am):y9 σ (unc (Vm.look P σ A x)) X am:=by
 rw[U.look x O]at h;unfold y9 at h⊢;split at h
 ·exact h
 ·exact h
 ·rename_i t j lo ae hv;obtain⟨Q,ho,hr⟩:=h;exact⟨Q,U.same O hv bn ho ab,hr⟩
 ·exact h.elim
theorem we(u:Nat)(r:List D):(aZ (r.map At.d)).ref u=false:=by
 have:=EE (u:=u) r;match r,this with
 |[],_=>rfl
 |[x],_=>rfl
 |x::y::r,h=>exact h
theorem Mh(u:Nat)(r:List D):(aZ (r.map At.d)).BK u=false:=by
 have:=EE (u:=u) r;match r,this with
 |[],_=>rfl
 |[x],_=>rfl
 |x::y::r,h=>exact h
theorem o5(u:Nat)(ag:List (List D)):(SW ag).ref u=false:=by
 have c:∀rs:List (List D),HH u (rs.map fun r=>aZ (r.map At.d))=false:=by
  intro rs;induction rs with
  |nil=>rfl
  |cons r rs ih=>simp only[List.map_cons,HH,Mh,ih,Bool.or_false]
 match ag with
 |[]=>rfl
 |[r]=>exact we u r
 |r::r'::rs=>exact c (r::r'::rs)
theorem D3{u d:Nat}(F:u≠d):∀(k:Nat)(r:List D),U u (Qz d k r)=false
 |_,[]=>rfl
 |k,x::r=>by cases x<;>simp[Qz,U,At.ref,D3 F,Ne.symm F]
theorem i4{xs:List At}(h:U u xs=false):(aZ xs).BK u=false:=by
 match xs,h with
 |[],_=>rfl
 |[x],h=>simpa[aZ,V.BK,U]using h
 |x::y::xs,h=>exact h
theorem i1(F:u≠d)(ag:List (List D)):(Mz d ag).ref u=false:=by
 have c:∀(k:Nat)(rs:List (List D)),HH u (ld d k rs)=false:=by
  intro k rs;induction rs generalizing k with
  |nil=>rfl
  |cons r rs ih=>simp only[ld,HH,i4 (D3 F _ _),ih,Bool.or_false]
 match ag with
 |[]=>exact c 0 []
 |[r]=>
  have M:(aZ (Qz d 0 r)).flat=true:=by
   match Qz d 0 r with
   |[]=>rfl
   |[x]=>rfl
   |x::y::xs=>rfl
  have:=i4 (D3 F 0 r);rw[<-m0 M]at this;exact this
 |r::r'::rs=>exact c 0 (r::r'::rs)
theorem sX(u:Nat):∀(ds:List D),Xi u (UK ds)=false
 |[]=>rfl
 |x::ds=>by cases x<;>simp[UK,Xi,sX u ds]
theorem AN(A:TypeId)(v:Value)(u:Nat):(cL P A v).ref u=false:=by
 unfold cL;split<;>first|rfl|skip
 all_goals(repeat' split)<;>first|rfl|skip
open Go.RowKit
variable{N:Array Oper}{aa:List Ob}
def oN(P:Program)(N:Array Oper)(o:Oper)(d:Nat)(σ1:J)(e:aA):Prop:=
 e.ok d σ1/\(∀t j v aa,e= .drop t j v aa->D6 o=true/\∃x∈FJ N o,∃A,(look P σ1 A x).ref t=true)/\
 (jY o=true\/o.guard.isSome=true->∃v,e= .put v)/\
 (o.guard=none->∀u,u≠d->e.ref u=true->sh P (FJ N o) σ1 u)/\
 ∀σ,Sub P (FJ N o) σ1 σ->e.ok d σ->X8 P N o σ (e.ap d σ)
theorem CK{xs:List Operand}(h:sh P xs σ1 u):sh P (xs++ys) σ1 u:=by obtain⟨x,O,r⟩:=h;exact⟨x,by simp[O],r⟩
theorem L5(hg:o.guard=none)(hd:o.dst=some d)(h:aD P o d σ σ'):X8 P N o σ σ':=by unfold X8;simp only[hg,hd];exact h
theorem Bc(hg:o.guard=none)(hd:o.dst=some d)(a:∀u,u≠d->v.ref u=true->sh P o.op.operands.toList σ1 u)
  (E:∀σ,Sub P o.op.operands.toList σ1 σ->aD P o d σ (σ.put d v)):oN P N o d σ1 (.put v):=
 ⟨trivial,(fun t j v aa h=>by cases h),fun _=>⟨v,rfl⟩,fun _ u F hr=>CK (a u F hr),fun σ U _=>L5 hg hd (E σ U.left)⟩
theorem LH(hg:o.guard=none)(hd:o.dst=some d)(hp:jY o=false)(ao:σ1.fresh d=true)(a:∀u,u≠d->(v.ref u||Xi u aa)=true->sh P o.op.operands.toList σ1 u)
  (E:∀σ,Sub P o.op.operands.toList σ1 σ->σ.fresh d=true->aD P o d σ (σ.new d v aa)):oN P N o d σ1 (.new v aa):=
 ⟨ao,(fun t j v aa h=>by cases h),(fun h=>h.elim (fun h=>by rw[hp]at h;cases h) (fun h=>by rw[hg]at h;cases h)),fun _ u F hr=>CK (a u F hr),fun σ U hf=>L5 hg hd (E σ U.left hf)⟩
theorem Pv(O:x∈c.args.toList):x∈(Op.operands (.call c)).toList:=by obtain⟨e,aA,aC⟩:=c;simp only[Op.operands,Call.operands];cases e<;>simp at O⊢<;>simp[O]
theorem Bj(h:Sub P (Op.operands (.call c)).toList σ1 σ):Sub P c.args.toList σ1 σ:=
 ⟨h.len,fun x O=>h.look x (Pv O),fun x O=>h.ob x (Pv O)⟩
theorem nk(hg:o.guard=none)(hd:o.dst=some d)(U:aD P o d σ1 σ2):∃e:aA,σ2=e.ap d σ1/\oN P N o d σ1 e:=by
 have H:(∃v,XV P σ1 o.op o.type v/\σ2=σ1.put d v)->(∀σ v,XV P σ o.op o.type v->aD P o d σ (σ.put d v))->∃e:aA,σ2=e.ap d σ1/\oN P N o d σ1 e:=by rintro⟨v,hv,rfl⟩ ar;exact⟨.put v,rfl,Bc hg hd (fun u _ hr=>lN hv hr) (fun σ a=>ar σ v (FP hv a))⟩
 have ad:=U;unfold aD at U;split at U
 ·rename_i T A;obtain⟨hf,hz,L,ay,rfl⟩:=U;refine⟨.new _ _,rfl,LH hg hd dq hf (fun u F hr=>?_) (fun σ a m=>?_)⟩
  ·simp only[V.ref,At.ref,Xi,D2 u _ _ _ ay,Bool.or_false,beq_iff_eq]at hr;exact absurd hr.symm F
  ·unfold aD;rw[A];exact⟨m,hz,L,ay,rfl⟩
 ·rename_i T x A;obtain⟨hf,M,Z,h3,rfl⟩:=U;refine⟨.new _ _,rfl,LH hg hd dq hf (fun u F hr=>?_) (fun σ a m=>?_)⟩
  ·simp only[V.ref,At.ref,Xi,Bool.or_false,Bool.or_eq_true,beq_iff_eq]at hr;rcases hr with hr|hr
   ·exact absurd hr.symm F
   ·exact⟨x,by simp[A,Op.operands],T,.inl (Ng hr)⟩
  ·have e:=a.look x (by simp[A,Op.operands]) T;unfold aD;rw[A];simp only;rw[<-e];exact⟨m,M,Z,h3,rfl⟩
 ·rename_i T n parts A;rcases U with⟨hf,M,Z,h3,h4,h5,⟨Q,h6,rfl⟩|⟨Q,h6,h7,rfl⟩⟩|⟨M,Q,h6,rfl⟩
  ·refine⟨.new _ _,rfl,LH hg hd dq hf (fun u F hr=>?_) (fun σ a m=>?_)⟩
   ·simp only[V.ref,At.ref,Xi,Bool.or_false,beq_iff_eq]at hr;exact absurd hr.symm F
   ·unfold aD;rw[A];refine .inl ⟨m,M,Z,h3,h4,h5,.inl ⟨Q,Fe ?_ h6,rfl⟩⟩;rw[A]at a;simpa[Op.operands]using a
  ·refine⟨.new _ _,rfl,LH hg hd dq hf (fun u F hr=>?_) (fun σ a m=>?_)⟩
   ·simp only[V.ref,At.ref,Xi,Bool.or_false,Bool.or_eq_true,beq_iff_eq]at hr;rcases hr with hr|hr
    ·exact absurd hr.symm F
    ·obtain⟨x,O,E⟩:=lM h6 hr;exact⟨x,by simpa[A,Op.operands]using O,_,.inl E⟩
   ·unfold aD;rw[A];refine .inl ⟨m,M,Z,h3,h4,h5,.inr ⟨Q,vP ?_ h6,h7,rfl⟩⟩;rw[A]at a;simpa[Op.operands]using a
  ·refine⟨.put _,rfl,Bc hg hd (fun u _ hr=>by cases hr) (fun σ a=>?_)⟩;unfold aD;rw[A];refine .inr ⟨M,Q,Fe ?_ h6,rfl⟩;rw[A]at a;simpa[Op.operands]using a
 ·rename_i T x y A;obtain⟨rfl,hf,M,Z,h3,q,z,I,k,n,hq,h4,h5,h6,h7,h8,rfl⟩:=U;refine⟨.new _ _,rfl,LH hg hd dq hf (fun u F hr=>?_) (fun σ a m=>?_)⟩
  ·simp only[V.ref,At.ref,Xi,Bool.or_false,beq_iff_eq]at hr;exact absurd hr.symm F
  ·unfold aD;rw[A];exact⟨rfl,m,M,Z,h3,q,z,I,k,n,hq,h4,h5,UG a (by simp[A,Op.operands]) h6,h7,h8,rfl⟩
 ·rename_i c A;split at U
  ·rename_i hc;obtain⟨x,y,t,ha,ah,M,Z,h3,h4,h5,au,am,σd,h6,h7,h8,h9,al,rfl⟩:=U;have O:x∈o.op.operands.toList:=by rw[A];exact Pv b0
   have hy:y∈o.op.operands.toList:=by rw[A];exact Pv b0
   have h:jY o=false:=by obtain⟨cc,G,W⟩:=c;simp only at hc;subst hc;simp[jY,A]
   have B:∀u,u≠d->(V.ref u (.one (.E d 0 0 (au.length+am.length)))||Xi u [.arr false (P.cellsOf (C P t)) (au++am)])=true->sh P o.op.operands.toList σ1 u:=by intro u F hr;simp only[V.ref,At.ref,Xi,Bool.or_false,beq_iff_eq]at hr;exact absurd hr.symm F
   have ac:=h6;unfold GW at h6;split at h6
   ·rename_i s heq;obtain⟨rfl,rfl⟩:=h6;refine⟨.new _ _,rfl,LH hg hd h h8 B (fun σ a m=>?_)⟩;unfold aD;rw[A];simp only[hc];refine⟨x,y,t,ha,ah,?_,?_,h3,h4,h5,[],am,σ,?_,IQ a hy h7,m,h9,al,rfl⟩
    ·rw[<-a.look x O];exact M
    ·rw[<-a.look y hy];exact Z
    ·rw[<-a.look x O];unfold GW;rw[heq];exact⟨rfl,rfl⟩
   ·rename_i i j lo ae heq;obtain⟨Q,ho,D,az,p,rfl⟩:=h6;have w:(look P σ1 t x).ref i=true:=K9 heq bn
    refine⟨.drop i j _ _,rfl,⟨⟨_,_,_,ho⟩,h8⟩,?_,(fun hh=>hh.elim (fun hh=>by rw[h]at hh;cases hh) (fun hh=>by rw[hg]at hh;cases hh)),fun _ u F hr=>CK (B u F hr),fun σ a m=>L5 hg hd ?_⟩
    ·intro t' j' v aa he;cases he;refine⟨?_,x,by simp only[FJ,List.mem_append];exact .inl O,t,w⟩;obtain⟨cc,G,W⟩:=c;simp only at hc ha;subst hc ha;cases x with
     |const v=>rw[Vm.look,AN]at w;cases w
     |_=>simp[D6,A]
    ·have b:=a.left;unfold aD;rw[A];simp only[hc];have g:unc (look P σ t x)= .one (.E i j lo ae):=by rw[<-b.look x O];exact heq
     refine⟨x,y,t,ha,ah,?_,?_,h3,h4,h5,au,am,_,?_,IQ b hy h7,m.2,h9,al,rfl⟩
     ·rw[<-b.look x O];exact M
     ·rw[<-b.look y hy];exact Z
     ·unfold GW;rw[g];exact⟨Q,b.same O g bn ho ab,D,az,p,rfl⟩
   ·exact h6.elim
  ·rename_i f hc;have h:jY o=false:=by obtain⟨cc,G,W⟩:=c;simp only at hc;subst hc;simp[jY,A]
   rcases U with⟨own,ag,r,rfl⟩|⟨ag,r,hf,rfl⟩|⟨Q,ag,qs,ha,hsd,hq,hf,rfl⟩
   ·refine⟨.put _,rfl,Bc hg hd (fun u _ hr=>by rw[o5]at hr;cases hr) (fun σ a=>?_)⟩;rw[A]at a;unfold aD;rw[A];simp only[hc];exact .inl ⟨own,ag,FU (Bj a) r,rfl⟩
   ·refine⟨.new _ _,rfl,LH hg hd h hf (fun u F hr=>?_) (fun σ a m=>?_)⟩
    ·rw[i1 F,sX]at hr;cases hr
    ·rw[A]at a;unfold aD;rw[A];simp only[hc];exact .inr (.inl ⟨ag,FU (Bj a) r,m,rfl⟩)
   ·refine⟨.new _ _,rfl,LH hg hd h hf (fun u F hr=>?_) (fun σ a m=>?_)⟩
    ·rw[i1 F,Vk]at hr;cases hr
    ·rw[A]at a;unfold aD;rw[A];simp only[hc];exact .inr (.inr ⟨Q,ag,qs,Ia (Bj a) ha,hsd,hq,m,rfl⟩)
  ·rename_i M Z;refine H U (fun σ v hv=>?_);unfold aD;rw[A];simp only;exact⟨v,by rw[A]at hv;exact hv,rfl⟩
 ·rename_i S T x A;rcases U with U|⟨l,M,Z,h3,h4,rfl⟩|⟨s,M,Z,h3,h4,h5,rfl⟩
  ·refine H U (fun σ v hv=>?_);unfold aD;rw[A];exact .inl ⟨v,by rw[A]at hv;exact hv,rfl⟩
  ·refine⟨.put _,rfl,Bc hg hd (fun u _ hr=>by cases hr) (fun σ a=>?_)⟩;have O:x∈o.op.operands.toList:=by simp[A,Op.operands]
   unfold aD;rw[A];exact .inr (.inl ⟨l,by rw[<-a.look x O];exact M,Z,h3,IQ a O h4,rfl⟩)
  ·refine⟨.put _,rfl,Bc hg hd (fun u _ hr=>by cases hr) (fun σ a=>?_)⟩;have O:x∈o.op.operands.toList:=by simp[A,Op.operands]
   unfold aD;rw[A];exact .inr (.inr ⟨s,by rw[<-a.look x O];exact M,Z,h3,by rw[<-a.look x O];exact h4,h5,rfl⟩)
 ·rename_i K n2 X Y n5 J;refine H U (fun σ v hv=>?_);unfold aD;split
  ·rename_i T A;exact absurd A (K T)
  ·rename_i T x A;exact absurd A (n2 T x)
  ·rename_i T n R A;exact absurd A (X T n R)
  ·rename_i T x y A;exact absurd A (Y T x y)
  ·rename_i c A;exact absurd A (n5 c)
  ·rename_i S T x A;exact absurd A (J S T x)
  ·exact⟨v,hv,rfl⟩
open Go.RowKit
theorem VE:σ.fresh d=true↔d<σ.length/\∀t e,σ[t]?=some e->t≠d->e.1.ref d=false/\Xi d e.2=false:=by
 unfold J.fresh;rw[Bool.and_eq_true,decide_eq_true_eq];refine and_congr_right fun _=>⟨fun h t e he W=>VD h t e he Y,fun h=>?_⟩;have:∀(σ:J)(k:Nat),(∀t e,σ[t]?=some e->k+t≠d->e.1.ref d=false/\Xi d e.2=false)->jt d k σ=true:=by
  intro σ;induction σ with
  |nil=>intro k _;rfl
  |cons e σ ih=>
   intro k hk;simp only[jt,Bool.and_eq_true,Bool.or_eq_true,beq_iff_eq,Bool.not_eq_true'];refine⟨?_,ih (k+1) fun t e' he W=>hk (t+1) e' (by simpa using he) Y⟩;by_cases h0:k=d
   ·exact .inl h0
   ·exact .inr (hk 0 e ab Y)
 exact this σ 0 (fun t e he W=>h t e he Y)
theorem hw{e:bx}(h:σ[t]?=some e)(j:Nat):σ.ob t j=Y6 e.2 j:=by unfold J.ob;rw[h]
theorem s8{o:Ob}(h:σ.ob t j=o)(hn:o≠ .none):∃e,σ[t]?=some e/\Y6 e.2 j=o:=by
 unfold J.ob at h;split at h
 ·rename_i e he;exact⟨e,he,h⟩
 ·exact absurd h.symm hn
theorem rR{u:Nat}:∀{aa:List Ob}{j:Nat}{E:List At},Y6 aa j= .box E->U u E=true->Xi u aa=true
 |[],_,_,h,_=>by simp[Y6]at h
 |o::aa,0,E,h,hr=>by have:o= .box E:=h;subst this;simp[Xi,hr]
 |o::aa,j+1,E,h,hr=>by have h':Y6 aa j= .box E:=dl;have:=rR h' hr;cases o<;>simp[Xi,this]
theorem V4{u s:Nat}{q:Bool}{r:List (List D)}:∀{aa:List Ob}{j:Nat},Y6 aa j= .arr q s r->Xi u (aa.set j .none)=Xi u aa
 |[],_,h=>by simp[Y6]at h
 |o::aa,0,h=>by have:o= .arr q s r:=h;subst this;simp[Xi]
 |o::aa,j+1,h=>by have h':Y6 aa j= .arr q s r:=dl;have:=V4 (u:=u) h';cases o<;>simp[Xi,this]
theorem uy(h:Ql σ d=true){e:bx}(he:σ[d]?=some e)(u:Nat):e.1.ref u=false/\Xi u e.2=false:=by
 unfold Ql at h;split at h
 ·rename_i M;rw[he]at M;cases M;exact⟨rfl,rfl⟩
 ·rename_i M;rw[he]at M;cases M;exact⟨rfl,rfl⟩
 ·cases h
section
variable{x:Oper}
theorem HD(hd:o.dst=some d)(U:X8 P N o σ1 σ2):∃e:aA,σ2=e.ap d σ1/\oN P N o d σ1 e:=by
 unfold X8 at U;split at U
 ·rename_i hg;simp only[hd]at U;exact nk hg hd U
 ·rename_i j aM hg;obtain⟨E,d',g,v,i,ac,m,C,hv,rfl⟩:=U;rw[hd]at m;cases m;refine⟨.put (.E g v),rfl,trivial,(fun t j v aa h=>by cases h),fun _=>⟨_,rfl⟩,(fun h=>by rw[hg]at h;cases h),fun σ a _=>?_⟩;have n:Operand.tmp E∈FJ N o:=by simp[FJ,hg,i]
  have af:σ.get E=σ1.get E:=(a.look _ n 0).symm;unfold X8;simp only[hg];refine⟨E,d,g,v,i,by rw[<-a.len];exact ac,hd,by rw[af];exact C,fun p=>?_,rfl⟩;have B:=hv p;have q:=a.left;unfold wS at B⊢;split at B
  ·rename_i c A;split at B
   ·rename_i f hc;obtain⟨own,ag,r,rfl⟩:=B;rw[A]at q;exact⟨own,ag,FU (Bj q) r,rfl⟩
   ·obtain⟨z,M,Z⟩:=B;exact⟨z,FP M q,Z⟩
  ·obtain⟨z,M,Z⟩:=B;exact⟨z,FP M q,Z⟩
theorem HN(e:aA):(e.ap d σ).length=σ.length:=by cases e<;>simp[aA.ap,J.zP,J.Mi,J.JQ]
theorem iq(e:aA)(W:t≠d):(e.ap d σ).get t=σ.get t:=by
 cases e with
 |put v=>simp[aA.ap,J.js,W]
 |new v aa=>simp[aA.ap,J.Lo,W]
 |drop a j v aa=>simp[aA.ap,J.Lo,J.JR,W]
theorem m3(h:(σ.get t).ref u=true):∃e,σ[t]?=some e/\e.1.ref u=true:=by
 unfold J.get at h;split at h
 ·rename_i e he;exact⟨e,he,h⟩
 ·cases h
end
open Go.RowKit
variable{G:bx}
section
variable{x:Oper}
theorem Mg(hf:∀t e,σ[t]?=some e->t≠d->e.1.ref d=false)(hz:z≠ .tmp d)(A:TypeId):(look P σ A z).ref d=false:=by
 cases z with
 |tmp t=>
  have W:t≠d:=fun h=>hz (by rw[h]);cases hr:(look P σ A (.tmp t)).ref d with
  |false=>rfl
  |true=>obtain⟨e,he,aF⟩:=m3 (σ:=σ) (t:=t) hr;rw[hf t e he W]at aF;cases aF
 |const v=>exact AN A v d
 |global g=>rfl
 |func f=>rfl
theorem c5(hg:∀t,t≠d->σ1.get t=σ.get t)(hz:z≠ .tmp d)(A:TypeId):look P σ1 A z=look P σ A z:=by
 cases z with
 |tmp t=>exact hg t (fun h=>hz (by rw[h]))
 |const v=>rfl
 |global g=>rfl
 |func f=>rfl
theorem Il(h:e.ok d σ)(W:∀v,e≠ .put v):∀t G,σ[t]?=some G->t≠d->G.1.ref d=false:=by
 intro t G he ht;cases e with
 |put v=>exact absurd rfl (W v)
 |new v aa=>exact((VE.1 h).2 t G he ht).1
 |drop a j v aa=>
  have:=(VE.1 h.2).2 t;rw[Ta]at this;by_cases f:t=a
  ·rw[if_pos f,he]at this;exact(this _ rfl ht).1
  ·rw[if_neg f]at this;exact(this G he ht).1
theorem Cf(h:e.ok d σ)(W:∀v,e≠ .put v):∀t G,σ[t]?=some G->t≠d->Xi d G.2=false:=by
 intro t G he ht;cases e with
 |put v=>exact absurd rfl (W v)
 |new v aa=>exact((VE.1 h).2 t G he ht).2
 |drop a j v aa=>
  obtain⟨⟨q,s,r,ho⟩,hf⟩:=h;have:=(VE.1 hf).2 t
  rw[Ta]at this;by_cases f:t=a
  ·rw[if_pos f,he]at this;have Z:=(this _ rfl ht).2
   subst f;rw[hw he]at ho;rw[V4 ho]at Z;exact Z
  ·rw[if_neg f]at this;exact(this G he ht).2
theorem g1(h:e.ok d σ)(W:∀v,e≠ .put v):d<σ.length:=by
 cases e with
 |put v=>exact absurd rfl (W v)
 |new v aa=>exact(VE.1 h).1
 |drop a j v aa=>have:=(VE.1 h.2).1;rwa[J.JQ]at this
theorem gU(h:e.ok d σ)(F:(∀v,e≠ .put v)->u≠d)(hn:(e.ap d σ).ob u j≠ .none):σ.ob u j=(e.ap d σ).ob u j:=by
 cases e with
 |put v=>simp only[aA.ap,J.Ku]
 |new v aa=>have:=F (by intro v h;cases h);simp only[aA.ap,J.qK,this,false_and,if_false]
 |drop a k v aa=>
  have o:=F (by intro v h;cases h);obtain⟨⟨q,s,r,ho⟩,_⟩:=h;simp only[aA.ap,J.qK,o,false_and,if_false]at hn⊢;rw[J.ze σ a k _ u j bq]at hn⊢;split at hn
  ·exact absurd rfl hn
  ·rename_i hh;rw[if_neg hh]
theorem Yx(aw:∀t j v aa,e≠ .drop t j v aa)(F:(∀v,e≠ .put v)->u≠d):(e.ap d σ).ob u j=σ.ob u j:=by
 cases e with
 |put v=>simp only[aA.ap,J.Ku]
 |new v aa=>have:=F (by intro v h;cases h);simp only[aA.ap,J.qK,this,false_and,if_false]
 |drop a k v aa=>exact absurd rfl (aw a k v aa)
theorem u4(ao:e.ok d σ)(ht:t≠d)(he:(e.ap d σ)[t]?=some G):∃b,σ[t]?=some b/\b.1=G.1/\∀u,Xi u b.2=Xi u G.2:=by
 cases e with
 |put v=>simp only[aA.ap,IH,if_neg ht]at he;exact⟨G,he,rfl,fun _=>rfl⟩
 |new v aa=>simp only[aA.ap,SC,if_neg ht]at he;exact⟨G,he,rfl,fun _=>rfl⟩
 |drop a j v aa=>
  simp only[aA.ap,SC,if_neg ht,Ta]at he;split at he
  ·rename_i f;subst f;obtain⟨⟨q,s,r,ho⟩,_⟩:=ao;obtain⟨e0,l,C⟩:=s8 ho ab;rw[l]at he;simp at he;subst he;exact⟨e0,l,rfl,fun u=>(V4 C).symm⟩
  ·exact⟨G,he,rfl,fun _=>rfl⟩
theorem ib(S:x.dst=some L)(k:y.dst=some H)(W:L≠H)(o:∀z∈FJ N y,z≠ .tmp L)(I:∀z∈FJ N x,z≠ .tmp H)(aw:D6 y=false)(Q:y.guard=none\/jY x=true\/x.guard.isSome=true)
  (R:Ql σ L=true) (M:X8 P N x σ σ1) (Z:X8 P N y σ1 σ2):∃g,X8 P N y σ g/\X8 P N x g σ2:=by
 obtain⟨D,rfl,i,X,am,_,ak⟩:=HD S M;obtain⟨b,rfl,ae,ad,_,an,al⟩:=HD k Z;have B:∀t j v aa,b≠ .drop t j v aa:=by
  intro t j v aa h;have:=(ad t j v aa h).1
  rw[aw]at this;cases this
 have ac:Sub P (FJ N y) (D.ap L σ) σ:=by refine⟨HN D,fun z hz A=>c5 (fun t ht=>iq D ht) (o z hz) A,fun z hz A u hr j hn=>?_⟩;refine gU i (fun c F=>?_) hn;subst F;rw[c5 (fun t ht=>iq D ht) (o z hz) A,Mg (Il i c) (o z hz)]at hr;cases hr
 have O:b.ok H σ:=by
  cases b with
  |put v=>trivial
  |drop a j v aa=>exact absurd rfl (B a j v aa)
  |new v aa=>
   have hf:=VE.1 ae;refine VE.2 ⟨by rw[<-HN D (d:=L)];exact hf.1,fun t e he ht=>?_⟩;by_cases w:t=L
   ·subst w;exact uy R he H
   ·cases D with
    |put U=>exact hf.2 t e (by simp only[aA.ap,IH,if_neg w];exact he) ht
    |new U n=>exact hf.2 t e (by simp only[aA.ap,SC,if_neg w];exact he) ht
    |drop a j U n=>
     obtain⟨⟨q,s,r,ho⟩,_⟩:=i;by_cases f:t=a
     ·subst f;have:=hf.2 t (e.1,e.2.set j .none) (by simp only[aA.ap,SC,if_neg w,Ta,if_true,he,Option.map_some]) ht
      rw[hw he]at ho;rw[V4 ho]at this;exact this
     ·exact hf.2 t e (by simp only[aA.ap,SC,if_neg w,Ta,if_neg f];exact he) ht
 have ag:=al σ ac O;have V:Sub P (FJ N x) σ (b.ap H σ):=by refine⟨(HN b).symm,fun z hz A=>(c5 (fun t ht=>iq b ht) (I z hz) A).symm,fun z hz A u hr j hn=>?_⟩;refine Yx B (fun c F=>?_);subst F;rw[Mg (Il O c) (I z hz)]at hr;cases hr
 have aj:(∀v,D≠ .put v)->b.ref L=false:=by
  intro c;have hg:y.guard=none:=by
   rcases Q with h|h
   ·exact h
   ·obtain⟨v,hv⟩:=am h;exact absurd hv (c v)
  cases hr:b.ref L with
  |false=>rfl
  |true=>
   obtain⟨z,hz,A,m⟩:=an hg L W hr;have hl:look P (D.ap L σ) A z=look P σ A z:=c5 (fun t ht=>iq D ht) (o z hz) A
   rw[hl]at m;rcases m with m|⟨t',E,K,ho,hc⟩
   ·rw[Mg (Il i c) (o z hz)]at m;cases m
   ·have w:t'≠L:=by intro h;subst h;rw[Mg (Il i c) (o z hz)]at K;cases K
    have p:σ.ob t' 0= .box E:=by rw[gU i (fun _=>w) bq,ho]
    obtain⟨G,ai,ah⟩:=s8 p ab;have:=Cf i c t' G ai w
    rw[rR ah hc]at this;cases this
 have T:(∀v,D≠ .put v)->∀t e,(b.ap H σ)[t]?=some e->t≠L->e.1.ref L=false/\Xi L e.2=false:=by
  intro c t e he ht;have hy:=aj c
  by_cases af:t=H
  ·subst af;cases b with
   |put v=>simp only[aA.ap,IH,if_true,Option.map_eq_some_iff]at he;obtain⟨e0,l,rfl⟩:=he;exact⟨hy,Cf i c t e0 l ht⟩
   |new v aa=>simp only[aA.ap,SC,if_true,Option.map_eq_some_iff]at he;obtain⟨e0,l,rfl⟩:=he;simp only[aA.ref,Bool.or_eq_false_iff]at hy;exact hy
   |drop a j v aa=>exact absurd rfl (B a j v aa)
  ·obtain⟨e0,l,M,Z⟩:=u4 O af he;rw[<-M,<-Z];exact⟨Il i c t e0 l ht,Cf i c t e0 l ht⟩
 have Y:D.ok L (b.ap H σ):=by
  cases D with
  |put v=>trivial
  |new v aa=>
   have c:∀U,aA.new v aa≠ .put U:=by intro U h;cases h
   exact VE.2 ⟨by rw[HN];exact g1 i c,T c⟩
  |drop a j v aa=>
   have c:∀U,aA.drop a j v aa≠ .put U:=by intro U h;cases h
   obtain⟨z,hz,A,hr⟩:=(X a j v aa rfl).2;obtain⟨q,s,r,ho⟩:=i.1;have p:(b.ap H σ).ob a j= .arr q s r:=by rw[<-ho];exact V.ob z hz A a hr j bq
   refine⟨⟨q,s,r,p⟩,VE.2 ⟨by rw[J.JQ,HN];exact g1 i c,fun t e he ht=>?_⟩⟩;rw[Ta]at he;split at he
   ·rename_i f;subst f;obtain⟨e0,l,C⟩:=s8 p ab;rw[l]at he;simp at he;subst he;have:=T c t e0 l ht
    exact⟨this.1,by rw[V4 C];exact this.2⟩
   ·exact T c t e he ht
 refine⟨_,ag,?_⟩;have:=ak _ V Y
 have heq:D.ap L (b.ap H σ)=b.ap H (D.ap L σ):=by
  apply List.ext_getElem?;intro t;have ao:=W
  cases D with
  |put v=>
   cases b with
   |put U=>simp only[aA.ap,IH];by_cases M:t=L<;>by_cases Z:t=H<;>simp_all
   |new U n=>simp only[aA.ap,IH,SC];by_cases M:t=L<;>by_cases Z:t=H<;>simp_all
   |drop a j U n=>exact absurd rfl (B a j U n)
  |new v aa=>
   cases b with
   |put U=>simp only[aA.ap,IH,SC];by_cases M:t=L<;>by_cases Z:t=H<;>simp_all
   |new U n=>simp only[aA.ap,SC];by_cases M:t=L<;>by_cases Z:t=H<;>simp_all
   |drop a j U n=>exact absurd rfl (B a j U n)
  |drop a j v aa=>
   obtain⟨z,hz,A,hr⟩:=(X a j v aa rfl).2;cases b with
   |put U=>simp only[aA.ap,IH,SC,Ta];by_cases M:t=L<;>by_cases Z:t=H<;>by_cases h3:t=a<;>simp_all;all_goals(first|(cases σ[H]?<;>rfl)|(cases σ[t]?<;>rfl)|(cases σ[a]?<;>rfl))
   |new U n=>
    have ap:a≠H:=by intro h;subst h;rw[Mg (Il O (by intro v h;cases h)) (I z hz)]at hr;cases hr
    simp only[aA.ap,SC,Ta];by_cases M:t=L<;>by_cases Z:t=H<;>by_cases h3:t=a<;>simp_all
   |drop a' j' U n=>exact absurd rfl (B a' j' U n)
 rw[<-heq];exact this
end
open Go.RowKit
variable{ah br:Oper->Bool}{C:List (Nat×Nat)}{D ap K:List Nat}{A:Nat->Nat}{af:Exit->J->Prop}{I:List At}
def fH(N:Array Oper)(ah:Oper->Bool)(x y:Oper):Bool:=!ah x&&!ah y&&
 (match x.dst,y.dst with
 |some L,some H=>L !=H&&!(FJ N y).any (Vs L)&&!(FJ N x).any (Vs H)&&!D6 y&&(y.guard.isNone||jY x||x.guard.isSome)
 |_,_=>false)
def fW(ah:Oper->Bool)(x y:Oper):Bool:=!ah x&&!ah y&&x.guard.isNone&&y.guard.isNone&&
 (match x.dst,y.dst,y.op with
 |some L,none,.store _ p q=>(match x.op with|.move _=>true|.assign _=>true|.extract _ _=>true|_=>false)&&!Vs L p&&!Vs L q
 |_,_,_=>false)
def fu(ah:Oper->Bool)(x y:Oper):Bool:=!ah x&&ah y&&x.guard.isNone&&(GP y&&!e0 ah y)&&y.guard.isNone&&y.dst.isNone&&
 (match x.dst with
 |some L=>(match x.op with|.move _=>true|.assign _=>true|.extract _ _=>true|_=>false)&&NU y L
 |none=>false)
def oV(C:List (Nat×Nat))(σ:J):Prop:=∀p∈C,σ.get p.1= .any\/∃c,unc (σ.get p.1)= .one (.O p.2 c)
def fN(C:List (Nat×Nat))(σ:J):Bool:=C.all fun p=>match σ.get p.1 with|.any=>true|v=>(match unc v with|.one (.O b _)=>b==p.2|_=>false)
def Bu(N:Array Oper)(C:List (Nat×Nat)):Bool:=N.toList.all fun o=>match o.dst with
 |none=>true
 |some d=>C.all fun p=>p.1 !=d||(o.guard.isNone&&(match o.op with|.fieldAddr _ (.tmp r) _=>C.contains (r,p.2)|.move (.tmp r)=>C.contains (r,p.2)|_=>false))
def sk(C:List (Nat×Nat))(b:Nat):Op->Bool
 |.load _ (.tmp t)=>C.any fun r=>r.1==t&&r.2 !=b
 |.fieldAddr _ _ _=>true
 |.move _=>true
 |.assign _=>true
 |.extract _ _=>true
 |.binOp _ _ _ _ _=>true
 |.call ⟨.builtin .len,⟨[_]⟩,⟨[_]⟩⟩=>true
 |_=>false
def dn(C:List (Nat×Nat))(ah:Oper->Bool)(x y:Oper):Bool:=!ah x&&!ah y&&x.guard.isNone&&y.guard.isNone&&
 (match x.dst,y.dst,y.op with
 |some L,none,.store _ (.tmp a) q=>a !=L&&!Vs L q&&C.any fun p=>p.1==a&&sk C p.2 x.op
 |_,_,_=>false)
def r6(D:List Nat)(σ:J):Prop:=∀t∈D,∀b c,unc (σ.get t)≠ .one (.O b c)
def hK(D:List Nat)(σ:J):Bool:=D.all fun t=>match unc (σ.get t)with|.one (.O _ _)=>false|_=>true
def s7(P:Program)(N:Array Oper)(D:List Nat):Bool:=N.toList.all fun o=>match o.dst with
 |none=>true
 |some d=>D.all fun t=>t !=d||(o.guard.isNone&&(match o.op with|.indexAddr T _ _=>Xr P T|_=>false))
def nT(C:List (Nat×Nat))(D:List Nat)(σ:J):Prop:=oV C σ/\r6 D σ
def fz(C:List (Nat×Nat))(D:List Nat)(ah:Oper->Bool)(x y:Oper):Bool:=!ah x&&ah y&&x.guard.isNone&&(GP y&&!e0 ah y)&&y.guard.isNone&&y.dst.isNone&&
 (match x.dst,y.op with
 |some L,.store _ (.tmp a) q=>D.contains a&&a !=L&&!Vs L q&&(match x.op with|.load _ (.tmp t)=>C.any fun r=>r.1==t|.fieldAddr _ (.tmp t) _=>C.any fun r=>r.1==t|_=>false)
 |_,_=>false)
def gj(C:List (Nat×Nat)):Op->Bool
 |.move _=>true
 |.load _ (.tmp t)=>C.any fun r=>r.1==t
 |.fieldAddr _ (.tmp _) _=>true
 |.slice _ (.tmp _) _ _ none=>true
 |_=>false
def dF(C:List (Nat×Nat))(N:Array Oper)(ah:Oper->Bool)(x y:Oper):Bool:=ah x&&!ah y&&Nf x&&x.guard.isNone&&y.guard.isNone&&gj C y.op&&
 (match x.dst,y.dst with
 |some L,some H=>L !=H&&!(FJ N y).any (Vs L)&&!(FJ N x).any (Vs H)
 |_,_=>false)
def BC(o:Oper)(j:Nat):Bool:=o.after.any fun e=>e.on==j&&Region.binds .any e
def Db:List Oper->List Nat->List Nat
 |[],acc=>acc
 |o::ai,acc=>Db ai (acc++[o.after.toList.foldl (fun m e=>if Region.binds .any e then m|||(1<<<e.on)|||acc.getD e.on 0 else m) 0])
def dI(ms:List Nat)(i j:Nat):Bool:=(ms.getD i 0).testBit j
inductive ce(N:Array Oper):Nat->Nat->Prop
 |one {i j:Nat} {o:Oper} (ho:N[i]?=some o) (hp:BC o j=true):ce N i j
 |more {i m j:Nat} {o:Oper} (ho:N[i]?=some o) (hp:BC o m=true) (h:ce N m j):ce N i j
theorem lQ{N:Array Oper}:∀{l:List Oper}{acc:List Nat},(∀k o,l[k]?=some o->N[acc.length+k]?=some o)->(∀i j,(acc.getD i 0).testBit j=true->ce N i j)->∀i j,dI (Db l acc) i j=true->ce N i j
 |[],acc,_,ha,i,j,h=>ha i j h
 |o::ai,acc,hl,ha,i,j,h=>by
  refine lQ (l:=ai) (fun k S hk=>?_) (fun i j d=>?_) i j h
  ·have:=hl (k+1) S bV;rw[List.length_append,List.length_singleton,Nat.add_assoc,Nat.add_comm 1 k];exact this
  ·rw[List.getD_eq_getElem?_getD]at d;rcases Nat.lt_trichotomy i acc.length with ac|heq|p
   ·rw[List.getElem?_append_left ac,<-List.getD_eq_getElem?_getD]at d;exact ha i j d
   ·subst heq;rw[List.getElem?_append_right (Nat.le_refl _)]at d;simp only[Nat.sub_self,List.getElem?_cons_zero,Option.getD_some]at d;have ho:=hl 0 o ab
    rw[Nat.add_zero]at ho;have ag:∀(A:List Edge)(m:Nat),(∀e∈A,e∈o.after)->(∀j,m.testBit j=true->ce N acc.length j)->∀j,(A.foldl (fun m e=>if Region.binds .any e then m|||(1<<<e.on)|||acc.getD e.on 0 else m) m).testBit j=true->ce N acc.length j:=by
     intro A;induction A with
     |nil=>intro m _ hm j hj;exact hm j hj
     |cons e A ih=>
      intro m a hm j hj;refine ih _ (fun e' Z=>a e' (by simp[Z])) (fun j hj=>?_) j hj;by_cases G:Region.binds .any e=true
      ·simp only[G,if_true]at hj;have hp:BC o e.on=true:=by unfold BC;rw[<-Array.any_toList];exact List.any_eq_true.2 ⟨e,by simpa using a e ab,by simp[G]⟩
       rw[Nat.testBit_or,Nat.testBit_or,Bool.or_eq_true,Bool.or_eq_true]at hj;rcases hj with(hj|hj)|hj
       ·exact hm j hj
       ·rw[Nat.testBit_shiftLeft]at hj;simp only[Bool.and_eq_true,decide_eq_true_eq]at hj;have M:j-e.on=0:=by
         have:=hj.2;rw[show(1:Nat)=2^0 from rfl,Nat.testBit_two_pow]at this;have h3:0=j-e.on:=by simpa using this
         omega
        have:j=e.on:=Y;subst this;exact .one ho hp
       ·exact .more ho hp (ha e.on j hj)
      ·simp only[G,Bool.false_eq_true,if_false]at hj;exact hm j hj
    exact ag o.after.toList 0 (fun e he=>by simpa using he) (fun j hj=>by simp at hj) j d
   ·rw[List.getElem?_eq_none a0]at d;simp at d
def ep(N:Array Oper)(i j:Nat):Bool:=dI (Db N.toList []) i j
theorem v1(h:ep N i j=true):ce N i j:=
 lQ (l:=N.toList) (acc:=[]) (fun k o hk=>by simpa using hk) (fun i j h=>by simp at h) i j h
def hA(P:Program)(N:Array Oper)(ah:Oper->Bool)(C:List (Nat×Nat))(D ms:List Nat)(i j:Nat):Bool:=match N[i]?,N[j]? with|some F,some b=>dI ms i j||fH N ah b F||fW ah b F||dn C ah b F||fu ah b F||dF C N ah b F||fz C D ah b F|_,_=>false
def kl(N:Array Oper)(A:Nat->Nat)(i:Nat):Bool:=match N[i]? with|some o=>o.after.all fun e=>!Region.binds .any e||(decide (A e.on<A i)&&decide (e.on<N.size))|none=>false
def dY(N:Array Oper)(j:Nat):Bool:=match N[j]? with
 |some o=>(match o.dst with|some d=>(List.range N.size).all fun k=>k==j||(match N[k]? with|some q=>q.dst !=some d|none=>true)|none=>false)
 |none=>false
def iC(N:Array Oper)(A:Nat->Nat)(ms:List Nat)(j:Nat):Bool:=(List.range N.size).any fun i=>decide (A j<A i)&&!dI ms i j
def F0(N:Array Oper)(A:Nat->Nat)(j:Nat):Bool:=iC N A (Db N.toList []) j
def fg(P:Program)(N:Array Oper)(A:Nat->Nat)(ah:Oper->Bool)(C:List (Nat×Nat))(D ms:List Nat):Bool:=
 (List.range N.size).all fun i=>kl N A i&&((List.range N.size).all fun j=>!decide (A j<A i)||hA P N ah C D ms i j)&&(!iC N A ms i||dY N i)
def Cw(P:Program)(N:Array Oper)(A:Nat->Nat)(ah:Oper->Bool):Bool:=fg P N A ah [] [] (Db N.toList [])
def Wu(N:Array Oper)(A:Nat->Nat)(σ:J):Bool:=
 let ms:=Db N.toList []
 (List.range N.size).all fun j=>!iC N A ms j||(match(N[j]?).bind (·.dst)with|some d=>Ql σ d|none=>false)
theorem Ex{xs:List Operand}(h:xs.any (Vs d)=false):∀z∈xs,z≠ .tmp d:=by
 intro z hz he;subst he;have:=List.any_eq_false.1 h _ hz
 simp[Vs]at this
theorem m8{x:Oper}(h:fH N ah x y=true):ah x=false/\ah y=false/\∃L H,x.dst=some L/\y.dst=some H/\L≠H/\(∀z∈FJ N y,z≠ .tmp L)/\(∀z∈FJ N x,z≠ .tmp H)/\D6 y=false/\(y.guard=none\/jY x=true\/x.guard.isSome=true):=by
 unfold fH at h;rw[Bool.and_eq_true,Bool.and_eq_true]at h;obtain⟨⟨ag,ak⟩,h⟩:=h;refine⟨by simpa using ag,by simpa using ak,?_⟩;split at h
 ·rename_i L H M Z;simp only[Bool.and_eq_true,bne_iff_ne,ne_eq,Bool.not_eq_true',Bool.or_eq_true,Option.isNone_iff_eq_none]at h;exact⟨L,H,M,Z,h.1.1.1.1,Ex h.1.1.1.2,Ex h.1.1.2,h.1.2,or_assoc.1 h.2⟩
 ·cases h
theorem UE{o:Ob}{T:TypeId}:look P (σ.Yg t j o) T x=look P σ T x:=by
 cases x with
 |tmp u=>simp[look,J.JR]
 |const c=>rfl
 |global g=>rfl
 |func f=>rfl
theorem Eu{σ:J}{d:Nat}{v:V}:∀(xs:List At),rowOf (σ.put d v) xs=rowOf σ xs
 |[]=>rfl
 |x::xs=>by
  have:kK (σ.put d v) x=kK σ x:=by cases x<;>simp[kK,J.Ku]
  simp only[rowOf,this,Eu xs]
theorem nC{x:Oper}(h:fW ah x y=true)(n:kp P N ah x σ σ1)(K:kp P N ah y σ1 σ2):∃g,X8 P N y σ g/\X8 P N x g σ2:=by
 unfold fW at h;simp only[Bool.and_eq_true,Bool.not_eq_true',Option.isNone_iff_eq_none]at h;obtain⟨⟨⟨⟨ag,ak⟩,w⟩,U⟩,h⟩:=h;have n:=n.resolve_right (fun hh=>by rw[ag]at hh;cases hh.1)
 have K:=K.resolve_right (fun hh=>by rw[ak]at hh;cases hh.1);split at h
 ·rename_i L T p q S k A;simp only[Bool.and_eq_true,Bool.not_eq_true']at h;obtain⟨⟨hv,hp⟩,hq⟩:=h;unfold X8 at n K;simp only[w,S]at n;simp only[U,k,A]at K;have H:∃v,XV P σ x.op x.type v/\σ1=σ.put L v:=by unfold aD at n;cases O:x.op<;>rw[O]at n hv<;>first|exact n|(exact Bool.noConfusion hv)
  obtain⟨v,B,rfl⟩:=H;have aB:∀(t j:Nat)(o:Ob),XV P (σ.Yg t j o) x.op x.type v:=by intro t j o;cases O:x.op<;>rw[O]at hv B<;>first|(exact Bool.noConfusion hv)|(simp only[XV,UE]at B⊢;exact B)
  have a:∀(t j:Nat)(o:Ob),X8 P N x (σ.Yg t j o) ((σ.put L v).Yg t j o):=by
   intro t j o;unfold X8;simp only[w,S];have:=aB t j o
   rw[U0];unfold aD;cases O:x.op<;>rw[O]at hv this<;>first|exact⟨v,this,rfl⟩|(exact Bool.noConfusion hv)
  unfold Vv at K;rw[X1 hp,X1 hq]at K;obtain⟨k1,k2,k3,k4,K⟩:=K;split at K
  ·rename_i t c hl;obtain⟨E,c1,c2,c3,rfl⟩:=K;rw[J.Ku]at c1;refine⟨_,?_,a _ _ _⟩;unfold X8 Vv;simp only[U,k,A];refine⟨k1,k2,k3,k4,?_⟩;rw[hl];exact⟨E,c1,c2,c3,rfl⟩
  ·rename_i t j i c hl;obtain⟨q',X,Q,ds,c1,c2,c3,c4,c5,c6,c7,rfl⟩:=K;rw[J.Ku]at c1;rw[Eu]at c3;refine⟨_,?_,a _ _ _⟩;unfold X8 Vv;simp only[U,k,A];refine⟨k1,k2,k3,k4,?_⟩;rw[hl];exact⟨q',X,Q,ds,c1,c2,c3,c4,c5,c6,c7,rfl⟩
  ·exact K.elim
 ·cases h
theorem TI{T:TypeId}:look P σ T (.tmp t)=σ.get t:=rfl
theorem lE{op:Op}(ho:o.op=op)(h:sk C b op=true):aD P o d σ σ'↔∃v,XV P σ op o.type v/\σ'=σ.put d v:=by unfold aD;rw[ho];unfold sk at h;split at h<;>first|exact Iff.rfl|(exact Bool.noConfusion h)
theorem rE{op:Op}{A:TypeId}{E:List At}(h:sk C b op=true)(hp:oV C σ)(c1:σ.ob b 0= .box E)(hv:XV P σ op A v):XV P (σ.Yg b 0 (.box I)) op A v:=by
 have W:σ.ob b 0≠ .none:=by rw[c1];intro e;cases e
 have ho:=fun u i=>J.ze σ b 0 (.box I) u i W;have L:∀t j,(∃q X Q,σ.ob t j= .arr q X Q)->∃q X Q,(σ.Yg b 0 (.box I)).ob t j= .arr q X Q:=by
  rintro t j ⟨q,X,Q,e⟩;by_cases hh:t=b/\j=0
  ·obtain⟨rfl,rfl⟩:=hh;rw[c1]at e;cases e
  ·exact⟨q,X,Q,by rw[ho,if_neg hh];exact e⟩
 have l:∀t j,(∃X Q,σ.ob t j= .lit X Q)->∃X Q,(σ.Yg b 0 (.box I)).ob t j= .lit X Q:=by
  rintro t j ⟨X,Q,e⟩;by_cases hh:t=b/\j=0
  ·obtain⟨rfl,rfl⟩:=hh;rw[c1]at e;cases e
  ·exact⟨X,Q,by rw[ho,if_neg hh];exact e⟩
 have M:∀t,(∃E,σ.ob t 0= .box E)->∃E,(σ.Yg b 0 (.box I)).ob t 0= .box E:=by
  rintro t ⟨Y,e⟩;by_cases hh:t=b
  ·subst hh;exact⟨I,by rw[ho,if_pos ⟨rfl,rfl⟩]⟩
  ·exact⟨Y,by rw[ho,if_neg (fun d=>hh d.1)];exact e⟩
 unfold sk at h;split at h
 ·rename_i T t;simp only[List.any_eq_true,Bool.and_eq_true,beq_iff_eq,bne_iff_ne,ne_eq]at h;obtain⟨r,a,rfl,m⟩:=h;simp only[XV,UE]at hv⊢;refine⟨hv.1,hv.2.1,?_⟩;have hv:=hv.2.2
  rw[TI]at hv⊢;rcases hp r a with e|⟨c,e⟩
  ·rw[e]at hv;exact hv.elim
  ·rw[e]at hv⊢;obtain⟨Y,H,e2,e3⟩:=hv;exact⟨Y,by rw[ho,if_neg (fun hh=>m hh.1)];exact H,e2,e3⟩
 ·simp only[XV,UE]at hv⊢;refine⟨hv.1,hv.2.1,?_⟩;have hv:=hv.2.2
  split at hv
  ·rename_i e;first|exact⟨M _ hv.1,hv.2⟩|(simp only[e];exact⟨M _ hv.1,hv.2⟩)
  ·rename_i e;first|exact⟨L _ _ hv.1,hv.2⟩|(simp only[e];exact⟨L _ _ hv.1,hv.2⟩)
  ·rename_i e;first|exact hv|(simp only[e];exact hv)
  ·rename_i e;have hq:∀t j,(∃X Q,σ.ob t j= .arr true X Q)->∃X Q,(σ.Yg b 0 (.box I)).ob t j= .arr true X Q:=by
    rintro t j ⟨X,Q,e⟩;by_cases hh:t=b/\j=0
    ·obtain⟨rfl,rfl⟩:=hh;rw[c1]at e;cases e
    ·exact⟨X,Q,by rw[ho,if_neg hh];exact e⟩
   first|exact⟨hq _ _ hv.1,hv.2⟩|(simp only[e];exact⟨hq _ _ hv.1,hv.2⟩)
  ·exact hv.elim
 ·simp only[XV,UE]at hv⊢;exact hv
 ·simp only[XV,UE]at hv⊢;exact hv
 ·simp only[XV,UE]at hv⊢;exact hv
 ·simp only[XV,UE]at hv⊢;exact hv
 ·simp only[XV,UE]at hv⊢;refine⟨hv.1,?_⟩;have hv:=hv.2
  split at hv
  ·rename_i e;first|exact hv|(simp only[e];exact hv)
  ·rename_i e;first|exact hv|(simp only[e];exact hv)
  ·rename_i e;first|exact hv|(simp only[e];exact hv)
  ·rename_i e;first|exact⟨hv.1,hv.2.1.imp (L _ _) (l _ _),hv.2.2⟩|(simp only[e];exact⟨hv.1,hv.2.1.imp (L _ _) (l _ _),hv.2.2⟩)
  ·rename_i u j i c e;obtain⟨g1,X,Q,n,s,g2,y⟩:=hv;have g:(σ.Yg b 0 (.box I)).ob u j= .arr true X Q:=by
    rw[ho];by_cases hh:u=b/\j=0
    ·obtain⟨rfl,rfl⟩:=hh;rw[c1]at g2;cases g2
    ·rw[if_neg hh];exact g2
   first|exact⟨g1,X,Q,n,s,g,y⟩|(simp only[e];exact⟨g1,X,Q,n,s,g,y⟩)
  ·exact hv.elim
 ·exact Bool.noConfusion h
theorem pN{x:Oper}(h:dn C ah x y=true)(hp:oV C σ)(n:kp P N ah x σ σ1)(K:kp P N ah y σ1 σ2):∃g,X8 P N y σ g/\X8 P N x g σ2:=by
 unfold dn at h;simp only[Bool.and_eq_true,Bool.not_eq_true',Option.isNone_iff_eq_none]at h;obtain⟨⟨⟨⟨ag,ak⟩,w⟩,U⟩,h⟩:=h;have n:=n.resolve_right (fun hh=>by rw[ag]at hh;cases hh.1)
 have K:=K.resolve_right (fun hh=>by rw[ak]at hh;cases hh.1);split at h
 ·rename_i L T a q S k A;simp only[Bool.and_eq_true,Bool.not_eq_true',List.any_eq_true,beq_iff_eq,bne_iff_ne,ne_eq]at h;obtain⟨⟨W,hq⟩,p,ab,r,hv⟩:=h;have aI:Vs L (.tmp a)=false:=by simp[Vs,W]
  unfold X8 at n K;simp only[w,S]at n;simp only[U,k,A]at K;obtain⟨v,B,rfl⟩:=(lE rfl hv).1 n;unfold Vv at K;rw[X1 aI,X1 hq,TI]at K;obtain⟨k1,k2,k3,k4,K⟩:=K;have aA:=hp p ab
  rw[r]at aA;rcases aA with aA|⟨c,aA⟩
  ·rw[aA]at K;exact K.elim
  ·rw[aA]at K;obtain⟨E,c1,c2,c3,rfl⟩:=K;rw[J.Ku]at c1;refine⟨σ.Yg p.2 0 (.box (place E c (unc (look P σ T q)).cells)),?_,?_⟩
   ·unfold X8 Vv;simp only[U,k,A];refine⟨k1,by rw[TI];exact k2,k3,k4,?_⟩;rw[TI,aA];exact⟨E,c1,c2,c3,rfl⟩
   ·unfold X8;simp only[w,S];rw[U0];exact(lE rfl hv).2 ⟨v,rE hv hp c1 B,rfl⟩
 ·cases h
theorem RE:∀(σ:J)(d:Nat),σ.put d (σ.get d)=σ
 |[],_=>rfl
 |e::σ,0=>by simp[J.put,J.get]
 |e::σ,d+1=>by have:=RE σ d;simp only[J.put,J.get,List.getElem?_cons_succ]at this⊢;rw[this]
theorem C9:∀(σ:J)(d:Nat)(v U:V),(σ.put d v).put d U=σ.put d U
 |[],_,_,_=>rfl
 |e::σ,0,_,_=>rfl
 |e::σ,d+1,v,U=>by simp[J.put,C9 σ d v U]
theorem oD(h:∀u,σ'.get u=σ.get u){T:TypeId}:look P σ' T x=look P σ T x:=by
 cases x with
 |tmp u=>exact h u
 |const c=>rfl
 |global g=>rfl
 |func f=>rfl
theorem l9{x:Oper}(h:fu ah x y=true)(S:x.dst=some d)(R:Ql σ d=true)(n:kp P N ah x σ σ1)(K:kp P N ah y σ1 σ2):∃g,kp P N ah y σ g/\X8 P N x g σ2:=by
 unfold fu at h;simp only[S,Bool.and_eq_true,Bool.not_eq_true',Option.isNone_iff_eq_none]at h;obtain⟨⟨⟨⟨⟨⟨ag,ak⟩,w⟩,ar,I⟩,U⟩,k⟩,hv,F⟩:=h;have n:=n.resolve_right (fun hh=>by rw[ag]at hh;cases hh.1)
 unfold X8 at n;simp only[w,S]at n;have H:∃v,XV P σ x.op x.type v/\σ1=σ.put d v:=by unfold aD at n;cases O:x.op<;>rw[O]at n hv<;>first|exact n|(exact Bool.noConfusion hv)
 obtain⟨v,B,rfl⟩:=H;have m:∀σ',(∀u,σ'.get u=σ.get u)->X8 P N x σ' (σ'.put d v):=by
  intro σ' hg;unfold X8;simp only[w,S];have:XV P σ' x.op x.type v:=by cases O:x.op<;>rw[O]at hv B<;>first|(exact Bool.noConfusion hv)|(simp only[XV,oD hg]at B⊢;exact B)
  unfold aD;cases O:x.op<;>rw[O]at hv this<;>first|exact⟨v,this,rfl⟩|(exact Bool.noConfusion hv)
 rcases K with K|⟨_,_,_,hk,_⟩
 · -- a plain store
  unfold GP at ar;split at ar
  ·rename_i T p q A;simp only[NU,A,Bool.and_eq_true,Bool.not_eq_true']at F;unfold X8 at K;simp only[U,k,A]at K;unfold Vv at K;rw[X1 F.1,X1 F.2]at K;obtain⟨k1,k2,k3,k4,K⟩:=K;split at K
   ·rename_i t c hl;obtain⟨E,c1,c2,c3,rfl⟩:=K;rw[J.Ku]at c1;refine⟨σ.Yg t 0 (.box (place E c (unc (look P σ T q)).cells)),.inl ?_,?_⟩
    ·unfold X8 Vv;simp only[U,k,A];refine⟨k1,k2,k3,k4,?_⟩;rw[hl];exact⟨E,c1,c2,c3,rfl⟩
    ·rw[U0];exact m _ (fun u=>J.JR _ _ _ _ _)
   ·rename_i t j i c hl;obtain⟨q',X,Q,ds,c1,c2,c3,c4,c5,c6,c7,rfl⟩:=K;rw[J.Ku]at c1;rw[Eu]at c3;refine⟨σ.Yg t j (.arr q' X (Q.set i (place (Q.getD i []) c ds))),.inl ?_,?_⟩
    ·unfold X8 Vv;simp only[U,k,A];refine⟨k1,k2,k3,k4,?_⟩;rw[hl];exact⟨q',X,Q,ds,c1,c2,c3,c4,c5,c6,c7,rfl⟩
    ·rw[U0];exact m _ (fun u=>J.JR _ _ _ _ _)
   ·exact K.elim
  ·cases ar
 ·obtain⟨⟨Z,af⟩,an,M⟩:=(hk ar).resolve_right (fun e=>by rw[I]at e;cases e.1);rw[J.zP]at Z;have s:wm (σ.get d)=true:=by rw[Iu]at R;unfold J.get;rcases R with e|⟨x',e⟩<;>rw[e]<;>rfl
  have hq:∀l:List (Nat×V),(σ.put d v).Ks ((d,σ.get d)::l)=σ.Ks l:=fun l=>by rw[J.Ks,C9,RE]
  have h0:=an [(d,σ.get d)] (fun p hp=>by cases List.mem_singleton.1 hp;exact⟨F,s⟩);rw[hq []]at h0;have az:d<σ.length:=by rw[Iu]at R;rcases R with e|⟨x',e⟩<;>exact(List.getElem?_eq_some_iff.1 e).1
  have aa:∀u,(σ2.put d (σ.get d)).get u=σ.get u:=fun u=>by
   rw[J.js];by_cases o:u=d/\d<σ2.length
   ·rw[if_pos o,o.1]
   ·rw[if_neg o,af,J.js];have ad:¬u=d:=fun e=>o ⟨e,by rw[Z];exact az⟩
    rw[if_neg (fun hh=>ad hh.1)]
  refine⟨σ2.put d (σ.get d),.inr ⟨ak,h0.1,h0.2,fun _=>.inl ⟨⟨by rw[J.zP];exact Z,aa⟩,fun l hl=>?_,fun t E G=>by rw[J.Ku];exact M t E (by rw[J.Ku];exact G)⟩,fun hh=>(by rw[l7 ar]at hh;cases hh),fun hh _=>(by rw[iW ar]at hh;cases hh)⟩,?_⟩
  ·have:=an ((d,σ.get d)::l) (fun p hp=>by
    rcases List.mem_cons.1 hp with rfl|hp
    ·exact⟨F,s⟩
    ·exact hl p hp)
   rw[hq l]at this;exact this
  ·have:=m _ aa;rw[C9]at this;have e:σ2.put d v=σ2:=by have g1:=af d;rw[J.js,if_pos ⟨rfl,az⟩]at g1;rw[<-g1];exact RE σ2 d
   rw[e]at this;exact this
theorem rg{x:Oper}(h:fz C D ah x y=true)(hp:oV C σ)(ac:r6 D σ)(S:x.dst=some d)(R:Ql σ d=true)(n:kp P N ah x σ σ1)(K:kp P N ah y σ1 σ2):∃g,kp P N ah y σ g/\X8 P N x g σ2:=by
 unfold fz at h;simp only[S,Bool.and_eq_true,Bool.not_eq_true',Option.isNone_iff_eq_none]at h;obtain⟨⟨⟨⟨⟨⟨ag,ak⟩,w⟩,ar,I⟩,U⟩,k⟩,h⟩:=h;have n:=n.resolve_right (fun hh=>by rw[ag]at hh;cases hh.1)
 split at h
 ·rename_i L T a q aj A;cases aj;simp only[Bool.and_eq_true,Bool.not_eq_true',bne_iff_ne,ne_eq,List.contains_iff_mem]at h;obtain⟨⟨⟨al,W⟩,hq⟩,hv⟩:=h;have aI:Vs d (.tmp a)=false:=by simp[Vs,W]
  have F:NU y d=true:=by simp only[NU,A,aI,hq];rfl
  unfold X8 at n;simp only[w,S]at n;have H:∃v,XV P σ x.op x.type v/\σ1=σ.put d v:=by unfold aD at n;cases O:x.op<;>rw[O]at n hv<;>first|exact n|(exact Bool.noConfusion hv)
  obtain⟨v,B,rfl⟩:=H;have m:∀σ',(∀u,σ'.get u=σ.get u)->(∀t E,σ.ob t 0= .box E->σ'.ob t 0= .box E)->X8 P N x σ' (σ'.put d v):=by
   intro σ' hg M;unfold X8;simp only[w,S];have:XV P σ' x.op x.type v:=by
    cases O:x.op<;>rw[O]at hv B<;>try exact Bool.noConfusion hv
    case load T' z=>
     cases z with
     |tmp t=>
      simp only[List.any_eq_true,beq_iff_eq]at hv;obtain⟨p,ab,r⟩:=hv;simp only[XV,oD hg]at B⊢;refine⟨B.1,B.2.1,?_⟩;have aB:=B.2.2
      have aA:=hp p ab;rw[r]at aA;rw[TI]at aB⊢;rcases aA with e|⟨c,e⟩
      ·rw[e]at aB;exact aB.elim
      ·rw[e]at aB⊢;obtain⟨Y,k1,k2⟩:=aB;exact⟨Y,M _ _ k1,k2⟩
     |_=>exact Bool.noConfusion hv
    case fieldAddr T' z f=>
     cases z with
     |tmp t=>
      simp only[List.any_eq_true,beq_iff_eq]at hv;obtain⟨p,ab,r⟩:=hv;simp only[XV,oD hg]at B⊢;refine⟨B.1,B.2.1,?_⟩;have aB:=B.2.2
      have aA:=hp p ab;rw[r]at aA;rw[TI]at aB⊢;rcases aA with e|⟨c,e⟩
      ·rw[e]at aB;exact aB.elim
      ·rw[e]at aB⊢;obtain⟨⟨Y,k1⟩,k2⟩:=aB;exact⟨⟨Y,M _ _ k1⟩,k2⟩
     |_=>exact Bool.noConfusion hv
   unfold aD;cases O:x.op<;>rw[O]at hv this<;>first|exact⟨v,this,rfl⟩|(exact Bool.noConfusion hv)
  rcases K with K|⟨_,_,_,hk,_⟩
  ·unfold X8 at K;simp only[U,k,A]at K;unfold Vv at K;rw[X1 aI,X1 hq]at K;obtain⟨k1,k2,k3,k4,K⟩:=K;split at K
   ·rename_i t c hl;exact absurd hl (ac a al t c)
   ·rename_i t j i c hl;obtain⟨q',X,Q,ds,c1,c2,c3,c4,c5,c6,c7,rfl⟩:=K;rw[J.Ku]at c1;rw[Eu]at c3;refine⟨σ.Yg t j (.arr q' X (Q.set i (place (Q.getD i []) c ds))),.inl ?_,?_⟩
    ·unfold X8 Vv;simp only[U,k,A];refine⟨k1,k2,k3,k4,?_⟩;rw[hl];exact⟨q',X,Q,ds,c1,c2,c3,c4,c5,c6,c7,rfl⟩
    ·rw[U0];refine m _ (fun u=>J.JR _ _ _ _ _) (fun b E G=>?_);have aG:σ.ob t j≠ .none:=by rw[c1];simp
     rw[J.ze σ t j _ b 0 aG];split
     ·rename_i hc;rw[hc.1,hc.2]at G;rw[c1]at G;cases G
     ·exact G
   ·exact K.elim
  ·obtain⟨⟨Z,af⟩,an,M⟩:=(hk ar).resolve_right (fun e=>by rw[I]at e;cases e.1);rw[J.zP]at Z;have s:wm (σ.get d)=true:=by rw[Iu]at R;unfold J.get;rcases R with e|⟨x',e⟩<;>rw[e]<;>rfl
   have ai:∀l:List (Nat×V),(σ.put d v).Ks ((d,σ.get d)::l)=σ.Ks l:=fun l=>by rw[J.Ks,C9,RE]
   have h0:=an [(d,σ.get d)] (fun p hp=>by cases List.mem_singleton.1 hp;exact⟨F,s⟩);rw[ai []]at h0;have az:d<σ.length:=by rw[Iu]at R;rcases R with e|⟨x',e⟩<;>exact(List.getElem?_eq_some_iff.1 e).1
   have aa:∀u,(σ2.put d (σ.get d)).get u=σ.get u:=fun u=>by
    rw[J.js];by_cases o:u=d/\d<σ2.length
    ·rw[if_pos o,o.1]
    ·rw[if_neg o,af,J.js];have ad:¬u=d:=fun e=>o ⟨e,by rw[Z];exact az⟩
     rw[if_neg (fun hh=>ad hh.1)]
   have ae:∀t E,σ.ob t 0= .box E->(σ2.put d (σ.get d)).ob t 0= .box E:=fun t E G=>by rw[J.Ku];exact M t E (by rw[J.Ku];exact G)
   refine⟨σ2.put d (σ.get d),.inr ⟨ak,h0.1,h0.2,fun _=>.inl ⟨⟨by rw[J.zP];exact Z,aa⟩,fun l hl=>?_,ae⟩,fun hh=>(by rw[l7 ar]at hh;cases hh),fun hh _=>(by rw[iW ar]at hh;cases hh)⟩,?_⟩
   ·have:=an ((d,σ.get d)::l) (fun p hp=>by
     rcases List.mem_cons.1 hp with rfl|hp
     ·exact⟨F,s⟩
     ·exact hl p hp)
    rw[ai l]at this;exact this
   ·have:=m _ aa ae;rw[C9]at this;have e:σ2.put d v=σ2:=by have g1:=af d;rw[J.js,if_pos ⟨rfl,az⟩]at g1;rw[<-g1];exact RE σ2 d
    rw[e]at this;exact this
 ·cases h
theorem tE(af:∀t,t≠d->σ1.get t=σ.get t/\(σ.get t).ref d=false)(B:∀t j E,t≠d->σ1.ob t j= .box E->σ.ob t j= .box E/\U d E=false)
  (L:∀t j q s Q,t≠d->σ1.ob t j= .arr q s Q->∃aD,σ.ob t j= .arr q s aD) (hp:oV C σ) {op:Op} {A:TypeId} (ai:gj C op=true) (b:∀z∈op.operands.toList,z≠ .tmp d) (hv:XV P σ1 op A v):XV P σ op A v/\v.ref d=false:=by
 have hl:∀(z:Operand)(T:TypeId),z≠ .tmp d->look P σ1 T z=look P σ T z:=by
  intro z T hz;cases z with
  |tmp u=>exact(af u (fun e=>hz (by rw[e]))).1
  |const c=>rfl
  |global g=>rfl
  |func f=>rfl
 have hr:∀(z:Operand)(T:TypeId),z≠ .tmp d->(look P σ T z).ref d=false:=by
  intro z T hz;cases z with
  |tmp u=>exact(af u (fun e=>hz (by rw[e]))).2
  |const c=>exact AN T c d
  |global g=>rfl
  |func f=>rfl
 have W:∀(z:Operand)(T:TypeId)(x:At),z≠ .tmp d->unc (look P σ T z)= .one x->x.ref d=false:=by
  intro z T x hz F;cases O:x.ref d with
  |false=>rfl
  |true=>have:=K9 F O;rw[hr z T hz]at this;cases this
 refine⟨?_,?_⟩
 ·cases op<;>simp only[gj]at ai<;>try exact Bool.noConfusion ai
  case move x=>simp only[XV]at hv⊢;rw[hv,hl x A (b x aG)]
  case load T x=>
   cases x with
   |tmp t=>
    have ht:Operand.tmp t≠ .tmp d:=b _ aG;simp only[List.any_eq_true,beq_iff_eq]at ai;obtain⟨p,ab,r⟩:=ai;simp only[XV]at hv⊢;rw[hl _ 0 ht]at hv;refine⟨hv.1,hv.2.1,?_⟩;have aB:=hv.2.2;have aA:=hp p ab;rw[r]at aA;rw[TI]at aB⊢;rcases aA with e|⟨c,e⟩
    ·rw[e]at aB;exact aB.elim
    ·rw[e]at aB⊢;obtain⟨Y,H,e2⟩:=aB;have G:p.2≠d:=by have:=W (.tmp t) 0 (.O p.2 c) ht (by rw[TI];exact e);simpa[At.ref]using this
     exact⟨Y,(B _ _ _ G H).1,e2⟩
   |_=>exact Bool.noConfusion ai
  case fieldAddr T x f=>
   cases x with
   |tmp t=>
    have ht:Operand.tmp t≠ .tmp d:=b _ aG;simp only[XV]at hv⊢;rw[hl _ 0 ht]at hv;refine⟨hv.1,hv.2.1,?_⟩;have aB:=hv.2.2;split at aB
    ·rename_i t' c e;have G:t'≠d:=eG
     obtain⟨⟨Y,H⟩,e2⟩:=aB;first|exact⟨⟨Y,(B _ _ _ G H).1⟩,e2⟩|(simp only[e];exact⟨⟨Y,(B _ _ _ G H).1⟩,e2⟩)
    ·rename_i t' j i c e;have G:t'≠d:=eG
     obtain⟨⟨q,s,Q,H⟩,e2⟩:=aB;obtain⟨aD,e3⟩:=L _ _ _ _ _ G H;first|exact⟨⟨q,s,aD,e3⟩,e2⟩|(simp only[e];exact⟨⟨q,s,aD,e3⟩,e2⟩)
    ·rename_i R c e;first|exact aB|(simp only[e];exact aB)
    ·rename_i t' j i c k e;have G:t'≠d:=eG
     obtain⟨⟨s,Q,H⟩,e2⟩:=aB;obtain⟨aD,e3⟩:=L _ _ _ _ _ G H;first|exact⟨⟨s,aD,e3⟩,e2⟩|(simp only[e];exact⟨⟨s,aD,e3⟩,e2⟩)
    ·exact aB.elim
   |_=>exact Bool.noConfusion ai
  case slice T x lo hi mx=>
   cases x with
   |tmp t=>
    cases mx with
    |some m=>exact Bool.noConfusion ai
    |none=>
     have ht:Operand.tmp t≠ .tmp d:=b _ aG;have a:∀(w n:Nat)(z:Option Operand),(∀y,z=some y->y≠ .tmp d)->bk P σ1 w z n->bk P σ w z n:=by
      intro w n z hz h;cases z with
      |none=>exact h
      |some z=>simp only[bk]at h⊢;rw[hl z 0 (hz z rfl)]at h;exact h
     have D:∀y,lo=some y->y≠ .tmp d:=fun y e=>b y (by subst e;simp[Op.operands]);have I:∀y,hi=some y->y≠ .tmp d:=fun y e=>b y (by subst e;simp[Op.operands]);simp only[XV]at hv⊢;rw[hl _ 0 ht]at hv;refine⟨hv.1,?_⟩;have aB:=hv.2;split at aB
     ·rename_i s e;obtain⟨M,l,h,Z,h3,h4⟩:=aB;first|exact⟨M,l,h,a _ _ _ D Z,a _ _ _ I h3,h4⟩|(simp only[e];exact⟨M,l,h,a _ _ _ D Z,a _ _ _ I h3,h4⟩)
     ·rename_i s Q e;obtain⟨M,h0,l,h,Z,h3,h4⟩:=aB;first|exact⟨M,h0,l,h,a _ _ _ D Z,a _ _ _ I h3,h4⟩|(simp only[e];exact⟨M,h0,l,h,a _ _ _ D Z,a _ _ _ I h3,h4⟩)
     ·rename_i t' j o ae e;have G:t'≠d:=eG
      obtain⟨M,⟨q,Q,H⟩,l,h,Z,h3,h4⟩:=aB;obtain⟨aD,e3⟩:=L _ _ _ _ _ G H;first|exact⟨M,⟨q,aD,e3⟩,l,h,a _ _ _ D Z,a _ _ _ I h3,h4⟩|(simp only[e];exact⟨M,⟨q,aD,e3⟩,l,h,a _ _ _ D Z,a _ _ _ I h3,h4⟩)
     ·exact aB.elim
   |_=>exact Bool.noConfusion ai
 ·cases O:v.ref d with
  |false=>rfl
  |true=>
   obtain⟨z,hz,T,M⟩:=lN hv O;rw[hl z T (b z hz)]at M;rcases M with M|⟨t,E,M,Z,h3⟩
   ·rw[hr z T (b z hz)]at M;cases M
   ·by_cases J:t=d
    ·rw[J,hr z T (b z hz)]at M;cases M
    ·have:=(B t 0 E J Z).2;rw[this]at h3;cases h3
theorem q7{x:Oper}(h:dF C N ah x y=true)(hp:oV C σ)(S:x.dst=some d)(R:Ql σ d=true)(n:kp P N ah x σ σ1)(K:kp P N ah y σ1 σ2):∃g,kp P N ah y σ g/\kp P N ah x g σ2:=by
 unfold dF at h;simp only[Bool.and_eq_true,Bool.not_eq_true',Option.isNone_iff_eq_none]at h;obtain⟨⟨⟨⟨⟨⟨ag,ak⟩,F⟩,w⟩,U⟩,ai⟩,h⟩:=h;rw[S]at h;cases k:y.dst with
 |none=>rw[k]at h;cases h
 |some H=>
  rw[k]at h;simp only[Bool.and_eq_true,Bool.not_eq_true',bne_iff_ne,ne_eq]at h;obtain⟨⟨W,o⟩,I⟩:=h;have b:=Ex o
  have c:=Ex I;have K:=K.resolve_right (fun hh=>by rw[ak]at hh;cases hh.1);rcases n with n|⟨_,u,r,_,f,_⟩
  ·have aw:D6 y=false:=by unfold D6;cases A:y.op<;>rw[A]at ai<;>first|rfl|(exact Bool.noConfusion ai)
   obtain⟨g,hy,O⟩:=ib S k W b c aw (.inl U) R n K;exact⟨g,.inl hy,.inl O⟩
  ·obtain⟨d',m,az,af,B,L,an⟩:=f F;rw[S]at m;cases m;have e2:∃v,XV P σ1 y.op y.type v/\σ2=σ1.put H v:=by unfold X8 at K;simp only[U,k]at K;unfold aD at K;cases A:y.op<;>rw[A]at K ai<;>first|exact K|(exact Bool.noConfusion ai)
   obtain⟨v,hv,rfl⟩:=e2;obtain⟨D,a⟩:=tE af B L hp ai (fun z hz=>b z (by simp only[FJ,List.mem_append];exact .inl hz)) hv;have i:Dh x H=true:=by
    simp only[Dh,Bool.not_eq_true'];refine List.any_eq_false.2 (fun z hz=>?_);have:=c z (by simp only[FJ,List.mem_append];exact .inl hz)
    cases z<;>simp[Vs]at this⊢;exact this
   have ao:∀p∈[(H,v)],p.1≠d/\Dh x p.1=true/\p.2.ref d=false:=fun p hp=>by cases List.mem_singleton.1 hp;exact⟨fun e=>W e.symm,i,a⟩
   have h0:=an [(H,v)] ao;refine⟨σ.put H v,.inl ?_,.inr ⟨ag,h0.1,h0.2,fun hh=>(by rw[l7 hh]at F;cases F),fun _=>⟨d,S,by rw[J.zP,J.zP];exact az,fun t ht=>?_,fun t j E ht G=>?_,fun t j q s Q ht G=>?_,fun l hl=>?_⟩,fun hh _=>(by rw[ll F]at hh;cases hh)⟩⟩
   ·unfold X8;simp only[U,k];unfold aD;cases A:y.op<;>rw[A]at D ai<;>first|exact⟨v,D,rfl⟩|(exact Bool.noConfusion ai)
   ·have M:=af t ht;rw[J.js,J.js,az];by_cases hc:t=H/\H<σ.length
    ·simp only[if_pos hc];exact⟨trivial,a⟩
    ·simp only[if_neg hc];exact M
   ·rw[J.Ku]at G⊢;exact B t j E ht G
   ·rw[J.Ku]at G⊢;exact L t j q s Q ht G
   ·exact an ((H,v)::l) (fun p hp=>by
     rcases List.mem_cons.1 hp with rfl|hp
     ·exact ao _ ab
     ·exact hl p hp)
section
variable{E:List At}{aa:Option (List Ob)}
end
theorem kt(h:fN C σ=true):oV C σ:=by
 intro p hp;have:=List.all_eq_true.1 h p hp
 split at this
 ·rename_i e;exact .inl e
 ·split at this
  ·rename_i b c e;have G:b=p.2:=by simpa using this
   subst G;exact .inr ⟨c,e⟩
  ·cases this
def db(P:Program)(N:Array Oper)(ah:Oper->Bool):List Nat->J->(J->Prop)->Prop
 |[],σ,af=>af σ
 |i::rem,σ,af=>∃o σ',N[i]?=some o/\kp P N ah o σ σ'/\db P N ah rem σ' af
theorem mH(U:X8 P N o σ σ')(hd:o.dst≠some d)(h:Ql σ d=true):Ql σ' d=true:=by
 cases g:o.dst with
 |some d'=>
  have W:d≠d':=fun e=>hd (by rw[g,e]);obtain⟨e,rfl,_⟩:=HD g U;cases e with
  |put v=>unfold Ql at*;simp only[aA.ap,IH,if_neg W];exact h
  |new v aa=>unfold Ql at*;simp only[aA.ap,SC,if_neg W];exact h
  |drop a j v aa=>have:=KK (a:=a) (j:=j) (o:=.none) h;unfold Ql at*;simp only[aA.ap,SC,if_neg W];exact this
 |none=>
  unfold X8 at U;split at U
  ·simp only[g]at U;split at U
   ·unfold Vv at U;obtain⟨_,_,_,_,U⟩:=U;split at U
    ·obtain⟨_,_,_,_,rfl⟩:=U;exact KK h
    ·obtain⟨_,_,_,_,_,_,_,_,_,_,_,rfl⟩:=U;exact KK h
    ·exact U.elim
   ·exact U.elim
  ·obtain⟨_,_,_,_,_,_,m,_⟩:=U;rw[g]at m;cases m
theorem ha(b:Bu N C=true)(hi:N[i]?=some o)(U:X8 P N o σ σ')(h:oV C σ):oV C σ':=by
 have hc:=List.all_eq_true.1 b o (by rw[Array.mem_toList_iff];exact Array.mem_of_getElem? hi);cases g:o.dst with
 |none=>
  have:∃t j ai,σ'=σ.Yg t j ai:=by
   unfold X8 at U;split at U
   ·simp only[g]at U;split at U
    ·unfold Vv at U;obtain⟨_,_,_,_,U⟩:=U;split at U
     ·obtain⟨_,_,_,_,rfl⟩:=U;exact⟨_,_,_,rfl⟩
     ·obtain⟨_,_,_,_,_,_,_,_,_,_,_,rfl⟩:=U;exact⟨_,_,_,rfl⟩
     ·exact U.elim
    ·exact U.elim
   ·obtain⟨_,_,_,_,_,_,m,_⟩:=U;rw[g]at m;cases m
  obtain⟨t,j,ai,rfl⟩:=this;intro p hp;rw[J.JR];exact h p hp
 |some d=>
  intro p hp;rw[g]at hc;have hc:=List.all_eq_true.1 hc p hp
  by_cases y:p.1=d
  ·simp only[y,bne_self_eq_false,Bool.false_or,Bool.and_eq_true,Option.isNone_iff_eq_none]at hc;obtain⟨hg,hc⟩:=hc;split at hc
   ·rename_i T r f A;have hr:=h (r,p.2) bE
    unfold X8 at U;simp only[hg,g]at U;unfold aD at U;rw[A]at U;obtain⟨v,hv,rfl⟩:=U;simp only[XV]at hv;have hv:=hv.2.2
    rw[TI]at hv;rcases hr with e|⟨c,e⟩
    ·rw[e]at hv;exact hv.elim
    ·rw[e]at hv;rw[J.js,y];by_cases hl:d<σ.length
     ·rw[if_pos ⟨rfl,hl⟩];exact .inr ⟨_,by rw[hv.2];rfl⟩
     ·rw[if_neg (fun hh=>hl hh.2)];have:=h p hp;rw[y]at this;exact this
   ·rename_i r A;have hr:=h (r,p.2) bE
    unfold X8 at U;simp only[hg,g]at U;unfold aD at U;rw[A]at U;obtain⟨v,hv,rfl⟩:=U;simp only[XV]at hv;rw[TI]at hv;rw[J.js,y];by_cases hl:d<σ.length
    ·rw[if_pos ⟨rfl,hl⟩,hv];exact hr
    ·rw[if_neg (fun hh=>hl hh.2)];have:=h p hp;rw[y]at this;exact this
   ·cases hc
  ·obtain⟨e,rfl,_⟩:=HD g U;have hg:∀k:J,k.get p.1=σ.get p.1->(k.get p.1= .any\/∃c,unc (k.get p.1)= .one (.O p.2 c)):=fun k e=>by rw[e];exact h p hp
   cases e with
   |put v=>exact hg _ (by simp only[aA.ap];rw[J.js,if_neg (fun hh=>y hh.1)])
   |new v aa=>exact hg _ (by simp only[aA.ap];rw[J.Lo,if_neg (fun hh=>y hh.1)])
   |drop a j v aa=>exact hg _ (by simp only[aA.ap];rw[J.Lo,if_neg (fun hh=>y hh.1),J.JR])
theorem sG:nT [] [] σ:=⟨fun _ hp=>absurd hp List.not_mem_nil,fun _ hp=>absurd hp List.not_mem_nil⟩
theorem hk(h:r6 D σ)(hd:d∈D->∀b c,unc v≠ .one (.O b c)):r6 D (σ.put d v):=by
 intro t ht b c;rw[J.js];split
 ·rename_i hc;exact hd (hc.1▸ht) b c
 ·exact h t ht b c
theorem hn(h:r6 D σ)(hd:d∉D):r6 D (σ.new d v aa):=by
 intro t ht b c;have W:¬(t=d/\d<σ.length):=fun hc=>hd (by rw[<-hc.1];exact ht)
 rw[J.Lo,if_neg W];exact h t ht b c
theorem nW(ar:s7 P N D=true)(hi:N[i]?=some o)(U:X8 P N o σ σ')(h:r6 D σ):r6 D σ':=by
 have hc:=List.all_eq_true.1 ar o (by rw[Array.mem_toList_iff];exact Array.mem_of_getElem? hi);cases g:o.dst with
 |none=>
  have:∃t j ai,σ'=σ.Yg t j ai:=by
   unfold X8 at U;split at U
   ·simp only[g]at U;split at U
    ·unfold Vv at U;obtain⟨_,_,_,_,U⟩:=U;split at U
     ·obtain⟨_,_,_,_,rfl⟩:=U;exact⟨_,_,_,rfl⟩
     ·obtain⟨_,_,_,_,_,_,_,_,_,_,_,rfl⟩:=U;exact⟨_,_,_,rfl⟩
     ·exact U.elim
    ·exact U.elim
   ·obtain⟨_,_,_,_,_,_,m,_⟩:=U;rw[g]at m;cases m
  obtain⟨t,j,ai,rfl⟩:=this;intro p hp;rw[J.JR];exact h p hp
 |some d=>
  rw[g]at hc;by_cases hd:d∈D
  ·have hc:=List.all_eq_true.1 hc d hd;simp only[bne_self_eq_false,Bool.false_or,Bool.and_eq_true,Option.isNone_iff_eq_none]at hc;obtain⟨hg,hc⟩:=hc;split at hc
   ·rename_i T r ix A;unfold X8 at U;simp only[hg,g]at U;unfold aD at U;rw[A]at U;obtain⟨v,hv,rfl⟩:=U;refine hk h (fun _ b c=>?_);simp only[XV]at hv;obtain⟨_,_,_,_,_,hv⟩:=hv;split at hv
    ·obtain⟨_,_,_,_,rfl⟩:=hv;intro e;cases e
    ·obtain⟨_,_,_,_,rfl⟩:=hv;intro e;cases e
    ·obtain⟨_,⟨n,ha,_⟩,_⟩:=hv;unfold Xr at hc;unfold tr at ha;split at hc
     ·rename_i e he;rw[he]at ha;cases ha
     ·cases hc
    ·obtain⟨_,_,_,rfl⟩:=hv;intro e;cases e
    ·exact hv.elim
   ·cases hc
  ·obtain⟨e,rfl,_⟩:=HD g U;cases e with
   |put v=>exact hk h (fun hh=>absurd hh hd)
   |new v aa=>exact hn h hd
   |drop a j v aa=>refine hn (σ:=σ.Yg a j .none) (fun t ht b c=>?_) hd;rw[J.JR];exact h t ht b c
theorem uT(h:hK D σ=true):r6 D σ:=by
 intro t ht b c e;have:=List.all_eq_true.1 h t ht
 rw[e]at this;cases this
def iH(N:Array Oper)(A:Nat->Nat)(rem:List Nat)(σ:J):Prop:=
 ∀j∈rem,F0 N A j=true->dY N j=true/\∃o d,N[j]?=some o/\o.dst=some d/\Ql σ d=true
theorem Ve{k:Nat}{b a:Oper}(h:dY N j=true)(hj:N[j]?=some b)(hd:b.dst=some d)(hk:N[k]?=some a)(W:k≠j):a.dst≠some d:=by
 unfold dY at h;simp only[hj,hd]at h;have ac:k<N.size:=(Array.getElem?_eq_some_iff.1 hk).1
 have:=List.all_eq_true.1 h k (List.mem_range.2 ac);simp only[hk,Bool.or_eq_true,beq_iff_eq,bne_iff_ne,ne_eq]at this;exact this.resolve_left W
theorem tB(U:kp P N ah o σ σ')(hd:o.dst≠some d)(h:Ql σ d=true):Ql σ' d=true:=by
 rcases U with U|U
 ·exact mH U hd h
 ·exact U.2.2.1 d hd h
theorem vw{rem c:List Nat}(hi:N[i]?=some o)(U:kp P N ah o σ σ')(x:i∉c)(a:∀j∈c,j∈rem)(h:iH N A rem σ):iH N A c σ':=by intro j hj hl;obtain⟨f,b,d,M,Z,h3⟩:=h j (a j hj) hl;exact⟨f,b,d,M,Z,tB U (Ve f M Z hi (fun e=>x (e▸hj))) h3⟩
theorem iE{A:Nat->Nat}{ah:Oper->Bool}{C:List (Nat×Nat)}{D:List Nat}(aA:∀(i:Nat)(o:Oper)(σ σ':J),N[i]?=some o->kp P N ah o σ σ'->nT C D σ->nT C D σ'){i:Nat}{ap:List Nat}{af:J->Prop}{F:Oper}(hi:N[i]?=some F):∀{s:List Nat}{σ:J},(s++i::ap).Nodup->(∀j∈s,F0 N A j=true/\∃b,N[j]?=some b/\(fH N ah b F=true\/fW ah b F=true\/dn C ah b F=true\/fu ah b F=true\/dF C N ah b F=true\/fz C D ah b F=true))->iH N A (s++i::ap) σ->nT C D σ->
  db P N ah (s++i::ap) σ af->∃σ',kp P N ah F σ σ'/\db P N ah (s++ap) σ' af
 |[],σ,_,_,_,_,h=>by obtain⟨o,σ',ho,U,hr⟩:=h;rw[hi]at ho;cases ho;exact⟨σ',U,hr⟩
 |j::s,σ,aw,E,R,r,h=>by
  obtain⟨b,σ1,hj,n,hr⟩:=h;have c:=List.nodup_cons.1 aw
  obtain⟨σ2,K,I⟩:=iE aA hi (s:=s) c.2 (fun k hk=>E k (by simp[hk])) (vw (rem:=(j::s)++i::ap) hj n c.1 (fun k hk=>by simp only[List.cons_append,List.mem_cons];exact .inr hk) R) (aA j b σ σ1 hj n r) hr;obtain⟨hl,d,aH,a⟩:=E j ab;rw[hj]at aH;cases aH;rcases a with a|a|a|a|a|a
  rotate_left
  ·obtain⟨g,hy,O⟩:=nC a n K;exact⟨g,.inl hy,b,σ2,hj,.inl O,I⟩
  ·obtain⟨g,hy,O⟩:=pN a r.1 n K;exact⟨g,.inl hy,b,σ2,hj,.inl O,I⟩
  ·obtain⟨_,S,d',p,m,z⟩:=R j ab hl;rw[hj]at p;cases p;obtain⟨g,hy,O⟩:=l9 a m z n K;exact⟨g,hy,b,σ2,hj,.inl O,I⟩
  ·obtain⟨_,S,d',p,m,z⟩:=R j ab hl;rw[hj]at p;cases p;obtain⟨g,hy,O⟩:=q7 a r.1 m z n K;exact⟨g,hy,b,σ2,hj,O,I⟩
  ·obtain⟨_,S,d',p,m,z⟩:=R j ab hl;rw[hj]at p;cases p;obtain⟨g,hy,O⟩:=rg a r.1 r.2 m z n K;exact⟨g,hy,b,σ2,hj,.inl O,I⟩
  obtain⟨ag,ak,L,H,M,Z,h3,h4,h5,h6,h7⟩:=m8 a;have n:=n.resolve_right (fun hh=>by rw[ag]at hh;cases hh.1)
  have K:=K.resolve_right (fun hh=>by rw[ak]at hh;cases hh.1);obtain⟨_,S,d',p,m,z⟩:=R j ab hl;rw[hj]at p;cases p;rw[M]at m;cases m;obtain⟨g,hy,O⟩:=ib M Z h3 h4 h5 h6 h7 z n K;exact⟨g,.inl hy,b,σ2,hj,.inl O,I⟩
open Go.RowKit
variable{g:Array Bool}{B:Nat->Prop}{O:J->Prop}{M w:World}{T0:CS}
theorem AE(M:g.getD j true=false)(Z:g.getD j false=true):False:=by
 rw[Array.getD_eq_getD_getElem?]at M Z;cases h:g[j]? with
 |none=>rw[h]at M;simp at M
 |some b=>rw[h]at M Z;simp at M Z;rw[M]at Z;cases Z
theorem mV(aA:∀(i:Nat)(o:Oper)(σ σ':J),N[i]?=some o->kp P N ah o σ σ'->nT C D σ->nT C D σ')(ax:fg P N A ah C D (Db N.toList [])=true){af:Exit->Act->World->Prop}(hK:∀σ a w,O σ->yO T0 B σ a w->Xv B M w->af .normal a w):
  ∀(z:Nat)(rem:List Nat)(g:Array Bool)(σ:J)(a:Act)(w:World),rem.length=z->g.size=N.size->rem.Pairwise (fun i j=>A i<A j)->(∀i,i∈rem↔g.getD i true=false)->(∀i∈rem,i<N.size)->(∀m q,N[m]?=some q->m∉rem->∀j,BC q j=true->j∉rem)->
   iH N A rem σ->nT C D σ->db P N ah rem σ O->yO T0 B σ a w->Xv B M w->wpAny P .any N af z g a w:=by
 have an:=List.all_eq_true.1 ax;have first:∀(rem:List Nat)(g:Array Bool),g.size=N.size->rem.Pairwise (fun i j=>A i<A j)->(∀i,i∈rem↔g.getD i true=false)->(∀i∈rem,i<N.size)->Region.ready .any N g=[]->rem=[]:=by
  intro rem g aB t n ac v;cases rem with
  |nil=>rfl
  |cons i rem=>
   exfalso;have hi:=ac i ab
   have G:=an i (List.mem_range.2 hi);simp only[Bool.and_eq_true]at G;have I:=G.1.1;unfold kl at I;rw[Array.getElem?_eq_getElem hi]at I;simp only[Array.all_eq_true_iff_forall_mem,decide_eq_true_eq,Bool.and_eq_true,Bool.or_eq_true,Bool.not_eq_true']at I;have:i∈Region.ready .any N g:=by
    refine mem_ready.2 ⟨(n i).1 ab,N[i],Array.getElem?_eq_getElem hi,fun e he T=>?_⟩;have aa:=(I e he).resolve_left (by rw[T];simp)
    have aC:=aa.1;have av:=aa.2;have H:e.on∉i::rem:=by
     intro hm;rcases List.mem_cons.1 hm with h|h
     ·rw[h]at aC;omega
     ·have:=(List.pairwise_cons.1 t).1 _ h;omega
    have W:g.getD e.on true≠false:=fun h=>H ((n _).2 h);have au:e.on<g.size:=by rw[aB];omega
    rw[Array.getD_eq_getD_getElem?,Array.getElem?_eq_getElem au]at W⊢;simpa using W
   rw[v]at this;cases this
 intro z;induction z with
 |zero=>
  intro rem g σ a w hl aB t n ac Q R r aE f G;have K:rem=[]:=List.eq_nil_of_length_eq_zero hl
  subst K;refine⟨?_,hK σ a w aE f G⟩;cases v:Region.ready .any N g with
  |nil=>rfl
  |cons i l=>
   have hi:i∈Region.ready .any N g:=by rw[v];simp
   have:=(n i).2 (mem_ready.1 hi).1;cases this
 |succ z ih=>
  intro rem g σ a w hl aB t n ac Q R r aE f G;refine⟨fun v=>?_,fun i hi=>?_⟩
  ·have:=first rem g aB t n ac v
   subst this;simp at hl
  ·obtain⟨h0,F,u,X⟩:=mem_ready.1 hi;obtain⟨s,ap,rfl⟩:=List.append_of_mem ((n i).2 h0);have aw:(s++i::ap).Nodup:=t.imp (fun h e=>by rw[e]at h;omega)
   have aN:∀j∈s,A j<A i:=fun j hj=>(List.pairwise_append.1 t).2.2 j hj i ab;have a2:i<N.size:=ac i ab;have ao:∀e∈F.after,Region.binds .any e=true->e.on∉s++i::ap:=by intro e he T hm;exact AE ((n e.on).1 hm) (X e he T)
   have Y:∀j,j∈s++i::ap->BC F j=false:=by
    intro j hj;cases hp:BC F j with
    |false=>rfl
    |true=>unfold BC at hp;rw[<-Array.any_toList]at hp;obtain⟨e,he,ak⟩:=List.any_eq_true.1 hp;rw[Array.mem_toList_iff]at he;simp only[Bool.and_eq_true,beq_iff_eq]at ak;exact(AE ((n j).1 hj) (by rw[<-ak.1];exact X e he ak.2)).elim
   have y:∀m j,ce N m j->(∀q,N[m]?=some q->∀k,BC q k=true->k∉s++i::ap)->j∉s++i::ap:=by
    intro m j hp;induction hp with
    |one ho hp=>intro h;exact h _ ho _ hp
    |more ho hp _ ih=>intro h;exact ih (fun q p k hk=>Q _ q p (h _ ho _ hp) k hk)
   have c:∀j∈s,ep N i j=false:=by
    intro j hj;have al:j∈s++i::ap:=by simp[hj]
    cases hq:ep N i j with
    |false=>rfl
    |true=>
     refine absurd al (y i j (v1 hq) (fun q p k hk ai=>?_));rw[u]at p;cases p;have:=Y k ai
     rw[hk]at this;cases this
   have E:∀j∈s,F0 N A j=true/\∃b,N[j]?=some b/\(fH N ah b F=true\/fW ah b F=true\/dn C ah b F=true\/fu ah b F=true\/dF C N ah b F=true\/fz C D ah b F=true):=by
    intro j hj;have V:=aN j hj
    have S:j<N.size:=ac j (by simp[hj]);refine⟨?_,N[j],Array.getElem?_eq_getElem S,?_⟩
    ·unfold F0 iC;refine List.any_eq_true.2 ⟨i,List.mem_range.2 a2,?_⟩;have:=c j hj
     unfold ep at this;simp only[this,Bool.not_false,Bool.and_true,decide_eq_true_eq];exact V
    ·have:=an i (List.mem_range.2 a2);simp only[Bool.and_eq_true]at this;have hp:=List.all_eq_true.1 this.1.2 j (List.mem_range.2 S);simp only[V,decide_true,Bool.not_true,Bool.false_or]at hp;unfold hA at hp;rw[u,Array.getElem?_eq_getElem S]at hp;have:=c j hj;unfold ep at this;simpa[this,or_assoc]using hp
   obtain⟨σ',U,hr⟩:=iE aA u aw E R r aE;have x:i∉s++ap:=by
    have:=List.nodup_append.1 aw;intro hm;rcases List.mem_append.1 hm with h|h
    ·exact Nat.lt_irrefl _ (aN i h)
    ·exact(List.nodup_cons.1 this.2.1).1 h
   have L:∀j∈s++ap,j∈s++i::ap:=by
    intro j hj;rcases List.mem_append.1 hj with h|h
    ·simp[h]
    ·simp[h]
   have ag:∀a' w',yO T0 B σ' a' w'->Xv B w w'->wpAny P .any N af z (g.setIfInBounds i true) a' w':=by
    intro a' w' ae aj;refine ih (s++ap) _ σ' a' w' (by simp at hl⊢;omega) (by simp[aB]) ?_ (fun j=>?_) (fun j hj=>ac j (L j hj)) ?_ (vw u U x L R) (aA i F σ σ' u U r) hr ae (G.trans aj)
    ·exact t.sublist (List.Sublist.append (List.Sublist.refl s) (List.sublist_cons_self i ap))
    ·by_cases d:i=j
     ·subst d;constructor
      ·intro hm;exact absurd hm x
      ·intro hm;rw[Array.getD_eq_getD_getElem?]at hm;simp[aB,a2]at hm
     ·rw[getD_set_ne true d,<-n j];simp only[List.mem_append,List.mem_cons];constructor
      ·rintro(h|h)
       ·exact .inl h
       ·exact .inr (.inr h)
      ·rintro(h|h|h)
       ·exact .inl h
       ·exact absurd h.symm d
       ·exact .inr h
    ·intro m q p hm j Z hj;by_cases ad:m=i
     ·subst ad;rw[u]at p;cases p;have:=Y j (L j hj)
      rw[Z]at this;cases this
     ·have am:m∉s++i::ap:=by
       intro h;rcases List.mem_append.1 h with h|h
       ·exact hm (by simp[h])
       ·rcases List.mem_cons.1 h with h|h
        ·exact ad h
        ·exact hm (by simp[h])
      exact Q m q p am j Z (L j hj)
   have ar:=vq U T0 B a w (wpAny P .any N af z (g.setIfInBounds i true)) af f ag;unfold wpOp;simp only[u];split
   ·rename_i hw;rw[if_pos hw]at ar;exact .inl ar
   ·rename_i hw;rw[if_neg hw]at ar;exact ar
theorem lO(h:yO T0 B σ a w):yO T0 B σ a {w with drawn:=w.drawn+1}:=by obtain⟨ad,hh,r⟩:=h;exact⟨ad,hh,r.grow (w':={w with drawn:=w.drawn+1}) ⟨rfl,rfl,rfl,Nat.le_refl _,fun _ _ _=>rfl⟩ (fun _ G=>G) (fun _ G=>.inl G)⟩
theorem iv{ah:Oper->Bool}{af:J->Prop}:∀{n k:Nat}{σ:J},k+n=N.size->im P N ah (N.toList.drop k) σ af->db P N ah (List.range' k n) σ af
 |0,k,σ,hk,h=>by rw[List.drop_eq_nil_of_le a0]at h;exact h
 |n+1,k,σ,hk,h=>by have ac:k<N.toList.length:=a0;rw[List.drop_eq_getElem_cons ac]at h;obtain⟨σ',U,hr⟩:=h;rw[List.range'_succ];exact⟨N.toList[k],σ',by rw[<-Array.getElem?_toList];exact List.getElem?_eq_getElem ac,U,iv Y hr⟩
theorem wj(aA:∀(i:Nat)(o:Oper)(σ σ':J),N[i]?=some o->kp P N ah o σ σ'->nT C D σ->nT C D σ')(r:nT C D σ)(hm:P.follows .mixedOrders=true)(ax:fg P N (fun i=>i) ah C D (Db N.toList [])=true)(R:Wu N (fun i=>i) σ=true)(h:im P N ah N.toList σ (af .normal)):aX P (.region ri N true) af σ:=by
 intro T0 B a w f;refine wp_region_any hm ?_;have an:=List.all_eq_true.1 ax
 refine mV (T0:=T0) (B:=B) (M:=w) aA ax (O:=af .normal) (fun σ' a' w' hq hr G=>⟨σ',hq,hr,G⟩) N.size (List.range' 0 N.size) _ σ a _ ab ab ?_ (fun i=>?_) (fun i hi=>by simp[List.mem_range']at hi;omega) (fun m q p hm=>absurd (by simp only[List.mem_range'_1];have:=(Array.getElem?_eq_some_iff.1 p).1;omega) hm) ?_ r (iv Y cx) (lO f) ⟨rfl,rfl,rfl,Nat.le_refl _,fun _ _=>rfl⟩
 ·exact List.pairwise_lt_range'
 ·rw[Array.getD_eq_getD_getElem?,Array.getElem?_replicate];simp only[List.mem_range'_1];constructor
  ·intro hh;rw[if_pos Y];rfl
  ·intro hh;split at hh
   ·omega
   ·cases hh
 ·intro j hj hl;simp only[List.mem_range'_1]at hj;have G:=an j (List.mem_range.2 Y)
  simp only[Bool.and_eq_true,Bool.or_eq_true,Bool.not_eq_true']at G;refine⟨G.2.resolve_left (by unfold F0 at hl;rw[hl];simp),?_⟩;have hc:=List.all_eq_true.1 R j (List.mem_range.2 Y)
  unfold F0 at hl;simp only[hl,Bool.not_true,Bool.false_or]at hc;have ac:j<N.size:=Y
  rw[Array.getElem?_eq_getElem ac]at hc;simp only[Option.bind_some]at hc;cases hd:N[j].dst with
  |none=>rw[hd]at hc;cases hc
  |some d=>rw[hd]at hc;exact⟨_,d,Array.getElem?_eq_getElem ac,hd,hc⟩
theorem h1(hm:P.follows .mixedOrders=true)(ax:Cw P N (fun i=>i) ah=true)(R:Wu N (fun i=>i) σ=true)(h:im P N ah N.toList σ (af .normal)):aX P (.region ri N true) af σ:=
 wj (C:=[]) (D:=[]) (fun _ _ _ _ _ _ _=>sG) sG hm ax R h
theorem e9(C:List (Nat×Nat))(hm:P.follows .mixedOrders=true)(ax:fg P ⟨l⟩ (fun i=>i) (fun _=>false) C [] (Db l [])=true)(R:Wu ⟨l⟩ (fun i=>i) σ=true)(b:Bu ⟨l⟩ C=true)(hp:fN C σ=true)(h:@EI P σ ⟨⟨l⟩,fun _=>false⟩ ⟨l⟩ k):@DI P ri σ ⟨⟨l⟩,br⟩ k:=
 wj (ah:=fun _=>false) (C:=C) (D:=[]) (fun _ _ _ _ hi U hq=>⟨ha b hi (U.resolve_right (fun hh=>by cases hh.1)) hq.1,fun p hp=>by cases hp⟩) ⟨kt hp,fun p hp=>by cases hp⟩ hm ax R (Kh h)
theorem eu(hm:P.follows .mixedOrders=true)(ax:Cw P ⟨l⟩ (fun i=>i) (fun _=>false)=true)(R:Wu ⟨l⟩ (fun i=>i) σ=true)(h:@EI P σ ⟨⟨l⟩,fun _=>false⟩ ⟨l⟩ k):@DI P ri σ ⟨⟨l⟩,br⟩ k:=
 h1 hm ax R (Kh h)
def vg(c:List Nat)(o:Oper):Bool:=match o.dst with|some d=>c.contains d|none=>!c.contains 3000001
theorem tW(b:Bu N C=true)(f:(N.toList.all fun o=>!ah o||GP o||Nf o)=true)(hi:N[i]?=some o)(U:kp P N ah o σ σ')(h:oV C σ):oV C σ':=by
 rcases U with U|⟨G,_,_,g,a,j⟩
 ·exact ha b hi U h
 ·have n:o∈N.toList:=by rw[Array.mem_toList_iff];exact Array.mem_of_getElem? hi
  have M:=List.all_eq_true.1 f o n;simp only[G,Bool.not_true,Bool.false_or,Bool.or_eq_true,Bool.and_eq_true]at M;rcases M with M|M
  ·rcases g M with⟨⟨_,hg⟩,_⟩|⟨_,hg⟩
   ·intro p hp;rw[hg];exact h p hp
   ·intro p hp;rcases hg p.1 with e|e
    ·rw[e];exact h p hp
    ·exact .inl e
  ·obtain⟨d,hd,_,hg,_⟩:=a M;intro p hp;have W:p.1≠d:=by
    intro e;have hc:=List.all_eq_true.1 b o n
    rw[hd]at hc;have hc:=List.all_eq_true.1 hc p hp
    simp only[e,bne_self_eq_false,Bool.false_or,Bool.and_eq_true]at hc;have hc:=hc.2
    unfold Nf at M;cases A:o.op<;>rw[A]at M hc<;>first|(exact Bool.noConfusion M)|(exact Bool.noConfusion hc)
   rw[(hg p.1 W).1];exact h p hp
theorem pi(ar:s7 P N D=true)(f:(N.toList.all fun o=>!ah o||GP o||Nf o)=true)(hi:N[i]?=some o)(U:kp P N ah o σ σ')(h:r6 D σ):r6 D σ':=by
 rcases U with U|⟨G,_,_,g,a,j⟩
 ·exact nW ar hi U h
 ·have n:o∈N.toList:=by rw[Array.mem_toList_iff];exact Array.mem_of_getElem? hi
  have M:=List.all_eq_true.1 f o n;simp only[G,Bool.not_true,Bool.false_or,Bool.or_eq_true,Bool.and_eq_true]at M;rcases M with M|M
  ·rcases g M with⟨⟨_,hg⟩,_⟩|⟨_,hg⟩
   ·intro p hp;rw[hg];exact h p hp
   ·intro p hp;rcases hg p with e|e
    ·rw[e];exact h p hp
    ·rw[e];intro b c hh;cases hh
  ·obtain⟨d,hd,_,hg,_⟩:=a M;intro p hp;have W:p≠d:=by
    intro e;have hc:=List.all_eq_true.1 ar o n
    rw[hd]at hc;have hc:=List.all_eq_true.1 hc p hp
    simp only[e,bne_self_eq_false,Bool.false_or,Bool.and_eq_true]at hc;have hc:=hc.2
    unfold Nf at M;cases A:o.op<;>rw[A]at M hc<;>first|(exact Bool.noConfusion M)|(exact Bool.noConfusion hc)
   rw[(hg p W).1];exact h p hp
theorem fr(C:List (Nat×Nat))(D c:List Nat)(hm:P.follows .mixedOrders=true)(ax:fg P ⟨l⟩ (fun i=>i) (vg c) C D (Db l [])=true)(R:Wu ⟨l⟩ (fun i=>i) σ=true)(b:Bu ⟨l⟩ C=true)(hp:fN C σ=true)(ar:s7 P ⟨l⟩ D=true)(ac:hK D σ=true)(f:(l.all fun o=>!vg c o||GP o||Nf o)=true)(h:@EI P σ ⟨⟨l⟩,vg c⟩ ⟨l⟩ k):@DI P ri σ ⟨⟨l⟩,br⟩ k:=
 wj (ah:=vg c) (C:=C) (D:=D) (fun _ _ _ _ hi U hq=>⟨tW b f hi U hq.1,pi ar f hi U hq.2⟩) ⟨kt hp,uT ac⟩ hm ax R (Kh h)
theorem px(c:List Nat)(hm:P.follows .mixedOrders=true)(ax:Vm.Cw P ⟨l⟩ (fun i=>i) (vg c)=true)(R:Wu ⟨l⟩ (fun i=>i) σ=true)(h:@EI P σ ⟨⟨l⟩,vg c⟩ ⟨l⟩ k):@DI P ri σ ⟨⟨l⟩,br⟩ k:=
 h1 hm ax R (Kh h)
def eF(A:Nat->Nat):List Nat->Bool
 |[]=>true
 |i::r=>r.all (fun j=>decide (A i<A j))&&eF A r
theorem i9{A:Nat->Nat}:∀{l:List Nat},eF A l=true->l.Pairwise (fun i j=>A i<A j)
 |[],_=>.nil
 |i::r,h=>by simp only[eF,Bool.and_eq_true,List.all_eq_true,decide_eq_true_eq]at h;exact .cons h.1 (i9 h.2)
def cU:List Nat->Nat->Nat
 |[],_=>0
 |i::r,k=>if i==k then 0 else cU r k+1
def dP(n:Nat)(K:List Nat):Bool:=K.length==n&&eF (cU K) K&&K.all (fun i=>decide (i<n))&&(List.range n).all (fun i=>K.contains i)
@[reducible] def e2:List Oper->Nat->Oper->Oper
 |[],_,d=>d
 |o::_,0,_=>o
 |_::l,i+1,d=>e2 l i d
@[reducible] def eW(l:List Oper)(d:Oper):List Nat->List Oper
 |[]=>[]
 |i::r=>e2 l i d::eW l d r
theorem iZ{d:Oper}:∀{l:List Oper}{i:Nat},i<l.length->l[i]?=some (e2 l i d)
 |[],i,h=>cb
 |o::l,0,_=>rfl
 |o::l,i+1,h=>by simpa using iZ (l:=l) (i:=i) cx
theorem lY{ah:Oper->Bool}{af:J->Prop}{l:List Oper}{d:Oper}:∀{K:List Nat}{σ:J},(∀i∈K,i<l.length)->im P l.toArray ah (eW l d K) σ af->db P l.toArray ah K σ af
 |[],σ,_,h=>h
 |i::r,σ,hi,h=>by obtain⟨σ',U,hr⟩:=h;exact⟨_,σ',by rw[List.getElem?_toArray];exact iZ (hi i ab),U,lY (fun j hj=>hi j (by simp[hj])) hr⟩
theorem zs(hm:P.follows .mixedOrders=true)(ho:dP N.size K=true)(ax:Cw P N (cU K) ah=true)(R:Wu N (cU K) σ=true)(h:db P N ah K σ (af .normal)):aX P (.region ri N true) af σ:=by
 intro T0 B a w f;refine wp_region_any hm ?_;have an:=List.all_eq_true.1 ax
 simp only[dP,Bool.and_eq_true,beq_iff_eq,List.all_eq_true,decide_eq_true_eq,List.mem_range,List.contains_iff_mem]at ho;obtain⟨⟨⟨o1,E⟩,o3⟩,b⟩:=ho;refine mV (T0:=T0) (B:=B) (M:=w) (C:=[]) (D:=[]) (fun _ _ _ _ _ _ _=>sG) ax (O:=af .normal) (fun σ' a' w' hq hr G=>⟨σ',hq,hr,G⟩) N.size K _ σ a _ o1 ab (i9 E) (fun i=>?_) o3 (fun m q p hm=>absurd (b m (Array.getElem?_eq_some_iff.1 p).1) hm) ?_ sG h (lO f) ⟨rfl,rfl,rfl,Nat.le_refl _,fun _ _=>rfl⟩
 ·rw[Array.getD_eq_getD_getElem?,Array.getElem?_replicate];constructor
  ·intro hh;rw[if_pos (o3 i hh)];rfl
  ·intro hh;split at hh
   ·rename_i ac;exact b i ac
   ·cases hh
 ·intro j hj hl;have c:=o3 j hj
  have G:=an j (List.mem_range.2 c);simp only[Bool.and_eq_true,Bool.or_eq_true,Bool.not_eq_true']at G;refine⟨G.2.resolve_left (by unfold F0 at hl;rw[hl];simp),?_⟩;have hc:=List.all_eq_true.1 R j (List.mem_range.2 c);unfold F0 at hl;simp only[hl,Bool.not_true,Bool.false_or]at hc;rw[Array.getElem?_eq_getElem c]at hc;simp only[Option.bind_some]at hc;cases hd:N[j].dst with
  |none=>rw[hd]at hc;cases hc
  |some d=>rw[hd]at hc;exact⟨_,d,Array.getElem?_eq_getElem c,hd,hc⟩
theorem vT(K:List Nat)(hm:P.follows .mixedOrders=true)(ho:dP (o::l).length K=true)(ax:Cw P ⟨o::l⟩ (cU K) (fun _=>false)=true)(R:Wu ⟨o::l⟩ (cU K) σ=true)
  (h:@EI P σ ⟨⟨o::l⟩,fun _=>false⟩ ⟨eW (o::l) o K⟩ k):@DI P ri σ ⟨⟨o::l⟩,br⟩ k:=by
 have Z:∀i∈K,i<(o::l).length:=by simp only[dP,Bool.and_eq_true,List.all_eq_true,decide_eq_true_eq]at ho;exact ho.1.2
 exact zs hm ho ax R (lY Z (Kh h))
end Go.Vm
