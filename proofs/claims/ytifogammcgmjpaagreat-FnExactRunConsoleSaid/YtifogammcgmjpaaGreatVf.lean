/- An abstract machine C7 the model of Go, by value, and that it is sound: part Vf. No condition. -/
import Derived.Test.YtifogammcgmjpaaGreatVb
set_option linter.unusedVariables false
set_option linter.unusedSimpArgs false
namespace Go.Vm
open Go.RowKit
variable{P:Program}{σ σ':J}{N:Array Oper}{ah:Oper->Bool}{o:Oper}{Q ag aA au am aL s:List (List D)}{l L l1 l2:List (Nat×Nat)}{d X j n t ri i d' H E k:Nat}{af:J->Prop}{x y x0:Operand}{K:Act->World->Prop}{ds aG:List D}{f:FuncId}{v:V}{h:Nat->Nat->Hd}{c:Code}{B S X' ad:Nat->Prop}{T T0:CS}{parts:Array (Nat×Operand)}{a:Act}{F:Exit->J->Prop}{w' w:World}{aM q g b:Bool}{r:ResultVar}{ak:Value}
def eC(P:Program)(σ:J)(c:Call)(f:FuncId)(own:Bool)(ag:List (List D)):Prop:=
 ∃Q,Jx P σ c.args.toList c.argTypes.toList Q/\KJ P f own Q ag/\(XB P σ c.args.toList c.argTypes.toList=true\/yl own ag)
def aD(P:Program)(o:Oper)(d:Nat)(σ σ':J):Prop:=
 match o.op with
 |.alloc T=>σ.fresh d=true/\JN P T=true/\∃L,P8 P 12 T=some L/\σ'=σ.new d (.one (.O d 0)) [.box L]
 |.box T x=>σ.fresh d=true/\ap (look P σ T x)=true/\(unc (look P σ T x)).flat=true/\U d (unc (look P σ T x)).cells=false/\σ'=σ.new d (.one (.O d 0)) [.box (unc (look P σ T x)).cells]
 |.buildSlice T n parts=>(σ.fresh d=true/\Xr P T=true/\JN P (C P T)=true/\0<P.cellsOf (C P T)/\parts.toList.length=n/\n*P.cellsOf (C P T)<=16777216/\
   ((∃Q,BF P σ (C P T) (P.cellsOf (C P T)) parts.toList 0 Q/\σ'=σ.new d (.one (.E d 0 0 Q.length)) [.arr false (P.cellsOf (C P T)) Q])\/
   (∃Q,Bi P σ (C P T) (P.cellsOf (C P T)) parts.toList 0 Q/\U d Q.flatten=false/\σ'=σ.new d (.one (.E d 0 0 Q.length)) [.lit (P.cellsOf (C P T)) Q])))\/
   ((Xr P T=true/\JN P (C P T)=true/\0<P.cellsOf (C P T)/\parts.toList.length=n/\n*P.cellsOf (C P T)<=16777216)/\∃Q,BF P σ (C P T) (P.cellsOf (C P T)) parts.toList 0 Q/\σ'=σ.put d (.one (.d (.sl (P.cellsOf (C P T)) Q))))
 |.makeSlice T x y=>x=y/\σ.fresh d=true/\Xr P T=true/\JN P (C P T)=true/\0<P.cellsOf (C P T)/\
   ∃q z I k n,(q=true->m9 z=true)/\P8 P 12 (C P T)=some z/\zD z=some I/\MN P σ x k (n:Nat)/\P.bytesOf (C P T)*n<=281474976710656/\n<=9223372036854775807/\σ'=σ.new d (.one (.E d 0 0 n)) [.arr q (P.cellsOf (C P T)) (List.replicate n I)]
 |.call c=>
  (match c.callee with
  |.builtin .append=>∃x y t,c.args=#[x,y]/\c.argTypes=#[t,t]/\ap (look P σ t x)=true/\ap (look P σ t y)=true/\Xr P t=true/\JN P (C P t)=true/\0<P.cellsOf (C P t)/\
    ∃au am σ1,GW σ (unc (look P σ t x)) (P.cellsOf (C P t)) au σ1/\y9 σ (unc (look P σ t y)) (P.cellsOf (C P t)) am/\σ1.fresh d=true/\
     (au.length+am.length)*P.bytesOf (C P t)<=140737488355328/\au.length+am.length<=9223372036854775807/\σ'=σ1.new d (.one (.E d 0 0 (au.length+am.length))) [.arr false (P.cellsOf (C P t)) (au++am)]
  |.value (.func f)=>(∃own ag,eC P σ c f own ag/\σ'=σ.put d (SW ag))\/(∃ag,eC P σ c f true ag/\σ.fresh d=true/\σ'=σ.new d (Mz d ag) (UK ag.flatten))\/
    (∃Q ag qs,Jx P σ c.args.toList c.argTypes.toList Q/\Z7 P f Q ag/\Re qs ag.flatten/\σ.fresh d=true/\σ'=σ.new d (Mz d ag) (Ya qs ag.flatten))
  |_=>∃v,XV P σ o.op o.type v/\σ'=σ.put d v)
 |.convert S T x=>
   (∃v,XV P σ o.op o.type v/\σ'=σ.put d v)\/
   (∃l,ap (look P σ S x)=true/\F4 P S=true/\L4 P T=true/\y9 σ (unc (look P σ S x)) 1 (y8 l)/\σ'=σ.put d (.one (.d (.str ⟨l.toArray⟩))))\/
   (∃s,ap (look P σ S x)=true/\L4 P S=true/\F4 P T=true/\unc (look P σ S x)= .one (.d (.str s))/\s.size<=9223372036854775807/\σ'=σ.put d (.one (.d (.sl 1 (y8 s.data.toList)))))
 |_=>∃v,XV P σ o.op o.type v/\σ'=σ.put d v
def Vv(P:Program)(σ:J)(T:TypeId)(x y:Operand)(σ':J):Prop:=
 Uh P T=true/\ap (look P σ 0 x)=true/\ap (look P σ T y)=true/\(unc (look P σ T y)).flat=true/\
  (match unc (look P σ 0 x)with
  |.one (.O t c)=>∃E,σ.ob t 0= .box E/\(unc (look P σ T y)).cells.length=P.cellsOf T/\c+P.cellsOf T<=E.length/\σ'=σ.Yg t 0 (.box (place E c (unc (look P σ T y)).cells))
  |.one (.ptr t j i c)=>∃q X Q ds,σ.ob t j= .arr q X Q/\i<Q.length/\rowOf σ (unc (look P σ T y)).cells=some ds/\qZ (unc (look P σ T y)).cells=true/\ds.length=P.cellsOf T/\c+P.cellsOf T<=X/\
    (q=true->ds.all D.scalar=true/\(cut (Q.getD i []) c (P.cellsOf T)).all D.scalar=true)/\σ'=σ.Yg t j (.arr q X (Q.set i (place (Q.getD i []) c ds)))
  |_=>False)
def TK(aM:Bool):V->Option Bool
 |.one (.d (.bool b))=>some (b==aM)
 |.E g (.one (.d (.bool b)))=>some (g&&(b==aM))
 |.E false _=>some false
 |_=>none
def wS(P:Program)(o:Oper)(σ:J)(v:V):Prop:=
 match o.op with
 |.call c=>
  (match c.callee with
  |.value (.func f)=>∃own ag,eC P σ c f own [ag]/\v=SW [ag]
  |_=>∃z,XV P σ o.op o.type z/\ap z=true/\v=unc z/\v.flat=true)
 |_=>∃z,XV P σ o.op o.type z/\ap z=true/\v=unc z/\v.flat=true
def X8(P:Program)(N:Array Oper)(o:Oper)(σ σ':J):Prop:=
 match o.guard with
 |none=>
  (match o.dst with
  |some d=>aD P o d σ σ'
  |none=>(match o.op with|.store T x y=>Vv P σ T x y σ'|_=>False))
 |some (j,aM)=>∃E d g v,(N[j]?).bind (·.dst)=some E/\E<σ.length/\o.dst=some d/\TK aM (σ.get E)=some g/\(g=true->wS P o σ v)/\σ'=σ.put d (.E g v)
def LP(P:Program)(N:Array Oper)(o:Oper)(σ σ':J):Prop:=
 ∀(T0:CS)(B:Nat->Prop)(a:Act)(w:World)(K:Act->World->Prop)(af:Exit->Act->World->Prop),yO T0 B σ a w->(∀a' w',yO T0 B σ' a' w'->Xv B w w'->K a' w')->
  if Region.wanted o (yielded N a.tmps)then o.wp P a w K af else K (a.put o.dst undef) w
def Ql(σ:J)(d:Nat):Bool:=match σ[d]? with|some (.any,[])=>true|some (.one (.d _),[])=>true|_=>false
def CU(o:Oper)(σ σ':J):Prop:=∀d,o.dst≠some d->Ql σ d=true->Ql σ' d=true
def GP(o:Oper):Bool:=match o.op with|.store _ _ _=>true|_=>false
def Vs(d:Nat):Operand->Bool
 |.tmp t=>t==d
 |_=>false
def NU(o:Oper)(d:Nat):Bool:=match o.op with|.store _ p q=>!Vs d p&&!Vs d q|_=>false
def wm:V->Bool
 |.any=>true
 |.one (.d _)=>true
 |_=>false
def J.Ks:J->List (Nat×V)->J
 |σ,[]=>σ
 |σ,p::l=>J.Ks (σ.put p.1 p.2) l
def wG(P:Program)(N:Array Oper)(o:Oper)(σ σ':J):Prop:=
 (σ'.length=σ.length/\∀u,σ'.get u=σ.get u)/\(∀l:List (Nat×V),(∀p∈l,NU o p.1=true/\wm p.2=true)->LP P N o (σ.Ks l) (σ'.Ks l)/\CU o (σ.Ks l) (σ'.Ks l))/\∀t E,σ.ob t 0= .box E->σ'.ob t 0= .box E
def Nf(o:Oper):Bool:=match o.op with|.call ⟨.builtin .append,_,_⟩=>true|_=>false
theorem l7(h:GP o=true):Nf o=false:=by
 unfold GP at h;split at h
 ·rename_i A;simp[Nf,A]
 ·cases h
def Dh(o:Oper)(d:Nat):Bool:=!(o.op.operands.toList.any (Vs d))
def gF(P:Program)(N:Array Oper)(o:Oper)(σ σ':J):Prop:=
 ∃d,o.dst=some d/\σ'.length=σ.length/\(∀t,t≠d->σ'.get t=σ.get t/\(σ.get t).ref d=false)/\(∀t j E,t≠d->σ'.ob t j= .box E->σ.ob t j= .box E/\U d E=false)/\
  (∀t j q s Q,t≠d->σ'.ob t j= .arr q s Q->∃aD,σ.ob t j= .arr q s aD)/\
  ∀l:List (Nat×V),(∀p∈l,p.1≠d/\Dh o p.1=true/\p.2.ref d=false)->LP P N o (σ.Ks l) (σ'.Ks l)/\CU o (σ.Ks l) (σ'.Ks l)
def nL(P:Program)(t:TypeId):Bool:=match P.underlying t with|some (.pointer _)=>true|_=>false
def fd(ah:Oper->Bool)(o:Oper):Bool:=!ah {o with dst:=some 1000000007}
def hq(ah:Oper->Bool)(o:Oper):Bool:=(match o.dst with|some d=>ah {o with dst:=some (d+2000000)}|none=>false)&&fd ah o
def VX(P:Program)(o:Oper):Bool:=match o.op with|.call ⟨.value (.func _),_,⟨T::_⟩⟩=>nL P T|_=>false
def oT(P:Program)(N:Array Oper)(o:Oper)(σ σ':J):Prop:=True
theorem iW(h:GP o=true):VX P o=false:=by
 unfold GP at h;split at h
 ·rename_i A;simp[VX,A]
 ·cases h
theorem ll(h:Nf o=true):VX P o=false:=by
 unfold Nf at h;split at h
 ·rename_i A;simp[VX,A]
 ·cases h
def e0(ah:Oper->Bool)(o:Oper):Bool:=ah {o with dst:=some 1000000009}
def oI(σ σ':J):Prop:=∀u,σ'.get u=σ.get u\/σ'.get u= .any
def kp(P:Program)(N:Array Oper)(ah:Oper->Bool)(o:Oper)(σ σ':J):Prop:=X8 P N o σ σ'\/(ah o=true/\LP P N o σ σ'/\CU o σ σ'/\(GP o=true->wG P N o σ σ'\/e0 ah o=true/\oI σ σ')/\(Nf o=true->gF P N o σ σ')/\(VX P o=true->fd ah o=true->oT P N o σ σ'))
def im(P:Program)(N:Array Oper)(ah:Oper->Bool):List Oper->J->(J->Prop)->Prop
 |[],σ,af=>af σ
 |o::ai,σ,af=>∃σ',kp P N ah o σ σ'/\im P N ah ai σ' af
theorem D2(d:Nat):∀(n:Nat)(t:TypeId)(L:List At),P8 P n t=some L->U d L=false:=by
 intro n;induction n with
 |zero=>intro t L hr;simp[P8]at hr
 |succ n ih=>
  intro t L hr;have a:∀(rs:List _),(∀r∈rs,U d r=false)->U d rs.flatten=false:=by
   intro rs E;have e:∀(xs ys:List At),U d xs=false->U d ys=false->U d (xs++ys)=false:=by
    intro xs ys O hy;induction xs with
    |nil=>exact hy
    |cons x xs c=>simp only[List.cons_append,U,Bool.or_eq_false_iff]at O⊢;exact⟨O.1,c O.2⟩
   induction rs with
   |nil=>rfl
   |cons r rs c=>rw[List.flatten_cons];exact e _ _ (E r ab) (c (fun r hr=>E r aC))
  rw[P8]at hr;split at hr
  ·cases hr;rfl
  ·cases hr;rfl
  ·cases hr;rfl
  ·cases hr;rfl
  ·rename_i C _;simp at hr;obtain⟨rs,E,rfl⟩:=hr;refine a rs ?_;have:∀(l:List Field)(rs:List _),l.mapM (fun f=>P8 P n f.type)=some rs->∀r∈rs,U d r=false:=by
    intro l;induction l with
    |nil=>intro rs hh r hr;simp at hh;subst hh;cases hr
    |cons f l c=>
     intro rs hh r hr;simp only[List.mapM_cons,Option.bind_eq_bind,Option.bind_eq_some_iff]at hh;obtain⟨r0,ap,b,I,hh⟩:=hh;simp at hh;subst hh;rcases List.mem_cons.1 hr with rfl|hr
     ·exact ih f.type _ ap
     ·exact c b I r hr
   grind
  ·simp at hr;obtain⟨r0,ap,rfl⟩:=hr;grind
  ·cases hr
theorem Lg(r:av T0 B σ a w ad h)(hd:o.dst=some d)(aw:∃ak,(execOp a.eval o).run P w= .ok (.value ak) w/\KA (al T0 ad) h σ.ob w v ak)
  {af:Exit->Act->World->Prop} (hK:∀a' w',yO T0 B (σ.put d v) a' w'->Xv B w w'->K a' w'):o.wp P a w K af:=by
 obtain⟨ak,aE,hv⟩:=aw;unfold Oper.wp;rw[aE,Oper.upon_value,hd];exact hK _ _ ⟨ad,h,r.put d v ak hv⟩ (Xv.refl _ _)
theorem m2(r:av T0 B σ a w ad h)(hd:o.dst=some d)(U:aD P o d σ σ'){af:Exit->Act->World->Prop}
  (hK:∀a' w',yO T0 B σ' a' w'->Xv B w w'->K a' w'):o.wp P a w K af:=by
 have H:(∃v,XV P σ o.op o.type v/\σ'=σ.put d v)->o.wp P a w K af:=by rintro⟨v,hv,rfl⟩;exact Lg r hd (vO r hv) hK
 unfold aD at U;split at U
 ·rename_i T A;obtain⟨hf,hz,L,ay,rfl⟩:=U;exact v4 r A hd hf hz ay (D2 d _ _ _ ay) hK
 ·rename_i T x A;obtain⟨hf,hg,aG,hr,rfl⟩:=U;exact l3 r A hd hf hg aG hr hK
 ·rename_i T n parts A;rcases U with⟨hf,M,Z,h3,h4,h5,⟨Q,h6,rfl⟩|⟨Q,h6,h7,rfl⟩⟩|⟨⟨M,Z,h3,h4,h5⟩,Q,h6,rfl⟩
  ·exact AL r A hd hf M Z h3 h4 h5 h6 hK
  ·exact Fk r A hd hf M Z h3 h4 h5 h6 h7 hK
  ·exact IP r A hd M Z h3 h4 h5 h6 hK
 ·rename_i T x y A;obtain⟨rfl,hf,M,Z,h3,q,z,I,k,n,hq,h4,h5,h6,h7,h8,rfl⟩:=U;cases q with
  |false=>exact u9 r A hd hf M Z h4 h5 h3 h6 h7 h8 hK
  |true=>exact B5 r A hd hf M Z h4 h5 (hq rfl) h3 h6 h7 h8 hK
 ·rename_i c A;split at U
  ·rename_i hc;obtain⟨x,y,t,ha,ah,M,Z,h3,h4,h5,au,am,σ1,h6,h7,h8,h9,al,rfl⟩:=U;refine sQ r ?_ hd M Z h3 h4 h5 h6 h7 h8 h9 al hK;rw[A];obtain⟨cc,G,W⟩:=c;simp only at hc ha ah;grind
  ·rename_i f hc;rcases U with⟨own,ag,⟨Q,ha,U,m⟩,rfl⟩|⟨ag,⟨Q,ha,U,m⟩,hf,rfl⟩|⟨Q,ag,qs,ha,U,hq,hf,rfl⟩
   ·rcases m with m|m
    ·exact NM r A hc hd ha true (fun _=>m) (fun hh=>by cases hh) U hK
    ·exact NM r A hc hd ha false (fun hh=>by cases hh) (fun _=>m) U hK
   ·rcases m with m|m
    ·exact DO r A hc hd hf ha true (fun _=>m) (fun hh=>by cases hh) U hK
    ·exact DO r A hc hd hf ha false (fun hh=>by cases hh) (fun _=>m) U hK
   ·exact sS r qs A hc hd hf ha U hq hK
  ·exact H U
 ·rename_i S T x A;rcases U with U|⟨l,M,Z,h3,h4,rfl⟩|⟨s,M,Z,h3,h4,h5,rfl⟩
  ·exact H U
  ·exact Lg r hd (DD r A M Z h3 h4) hK
  ·exact DG r A hd M Z h3 h4 h5 hK
 ·exact H U
theorem EZ(r:av T0 B σ a w ad h){T:TypeId}(A:o.op= .store T x y)(hd:o.dst=none)(U:Vv P σ T x y σ'){af:Exit->Act->World->Prop}
  (hK:∀a' w',yO T0 B σ' a' w'->Xv B w w'->K a' w'):o.wp P a w K af:=by
 obtain⟨ht,aU,aV,aG,U⟩:=U;split at U
 ·rename_i t c O;obtain⟨E,ho,hl,aA,rfl⟩:=U;exact rf r A hd ht aU aV O ho aG hl aA hK
 ·rename_i t j i c O;obtain⟨q,X,Q,ds,ho,hi,z,ar,hl,aA,hq,rfl⟩:=U;refine q9 r A hd ht aU aV O ho hi aG z ar hl aA (fun hh=>⟨fun d m=>?_,fun k d hk m=>?_⟩) hK
  ·exact List.all_eq_true.1 (hq hh).1 d m
  ·refine List.all_eq_true.1 (hq hh).2 d (List.mem_of_getElem? (i:=k) ?_);simp only[cut,List.getElem?_take,if_pos hk,List.getElem?_drop];exact m
 ·exact U.elim
theorem vQ{ai:Nat->Nat->Ob}(hf:(unc v).flat=true)(hv:KA T h ai w (unc v) ak):qR T h ai w (unc v) ak:=by
 cases F:unc v with
 |one x=>rw[F]at hv;exact hv
 |agg xs=>rw[F]at hv;exact hv
 |any=>rw[F]at hf;cases hf
 |O xs=>rw[F]at hf;cases hf
 |E g x=>rw[F]at hf;cases hf
 |fix u x=>rw[F]at hf;cases hf
theorem No(r:av T0 B σ a w ad h)(n:o.guard=some (j,aM))(i:(N[j]?).bind (·.dst)=some E)(ac:E<σ.length)(hg:TK aM (σ.get E)=some g):
  Region.wanted o (yielded N a.tmps)=g:=by
 have aB:E<a.tmps.size:=by rw[r.size];exact ac
 have hv:=r.slot E ac;have d:a.tmps.getD E undef=a.tmps[E]:=by simp[aB]
 rw[d]at hv;have hy:yielded N a.tmps j=(match a.tmps[E]with|.bool b=>some b|_=>none):=by unfold yielded;rw[i];simp only[Option.bind_some,Array.getElem?_eq_getElem aB];cases a.tmps[E]<;>rfl
 simp only[Region.wanted,n,hy];unfold TK at hg;split at hg
 ·rename_i b c;rw[c]at hv;rw[RH hv];cases hg;cases b<;>cases aM<;>rfl
 ·rename_i g0 b c;rw[c]at hv;cases hg;cases g0 with
  |true=>rw[RH (hv.1 rfl)];cases b<;>cases aM<;>rfl
  |false=>rw[hv.2 rfl];simp[undef]
 ·rename_i c;rw[c]at hv;cases hg;rw[hv.2 rfl];simp[undef]
 ·cases hg
theorem s4(r:av T0 B σ a w ad h)(U:X8 P N o σ σ'){af:Exit->Act->World->Prop}
  (hK:∀a' w',yO T0 B σ' a' w'->Xv B w w'->K a' w'):if Region.wanted o (yielded N a.tmps)then o.wp P a w K af else K (a.put o.dst undef) w:=by
 unfold X8 at U;split at U
 ·rename_i hg;have hw:Region.wanted o (yielded N a.tmps)=true:=cA
  rw[if_pos hw];split at U
  ·rename_i d hd;exact m2 r hd U hK
  ·rename_i hd;split at U
   ·rename_i T x y A;exact EZ r A hd U hK
   ·exact U.elim
 ·rename_i j aM hg;obtain⟨E,d,g,v,i,ac,hd,C,U,rfl⟩:=U;rw[No r hg i ac C];cases g with
  |false=>rw[hd];exact hK _ _ ⟨ad,h,r.put d _ _ ⟨(fun hh=>by cases hh),fun _=>rfl⟩⟩ (Xv.refl _ _)
  |true=>
   have n:=U rfl;clear U;have H:(∃z,XV P σ o.op o.type z/\ap z=true/\v=unc z/\v.flat=true)->o.wp P a w K af:=by rintro⟨z,D,a0,rfl,aG⟩;obtain⟨ak,aE,hv⟩:=vO r D;refine Lg (v:=.E true _) r hd ⟨ak,aE,⟨fun _=>vQ aG (hv.unc a0),fun hh=>by cases hh⟩⟩ hK
   unfold wS at n;split at n
   ·rename_i c A;split at n
    ·rename_i f hc;obtain⟨own,ag,⟨Q,ha,U,m⟩,rfl⟩:=n;have fin:∀a' w',yO T0 B (σ.put d (SW [ag])) a' w'->Xv B w w'->K a' w':=by
      rintro a' w' ⟨X',h',r'⟩ G;refine hK a' w' ⟨X',h',?_⟩ G;refine⟨by rw[r'.size,J.zP,J.zP],r'.defers,r'.d,r'.e,r'.f,fun t ht=>?_,fun t j=>?_,fun t j b=>?_,fun t j b=>?_,fun t j t' j' b=>?_⟩
      ·rw[J.zP]at ht;have h0:=r'.slot t (by rw[J.zP];exact ht)
       rw[J.Ku]at h0⊢;rw[J.js]at h0⊢;by_cases hh:t=d/\d<σ.length
       ·rw[if_pos hh]at h0⊢;refine⟨fun _=>?_,fun hh=>by cases hh⟩;have aG:(unc (aZ (ag.map At.d))).flat=true:=by
         match ag.map At.d with
         |[]=>rfl
         |[x]=>rfl
         |x::y::xs=>rfl
        have F:unc (aZ (ag.map At.d))=aZ (ag.map At.d):=by
         match ag.map At.d with
         |[]=>rfl
         |[x]=>rfl
         |x::y::xs=>rfl
        have:=vQ aG (by rw[F];exact h0);rw[F]at this;exact this
       ·rw[if_neg hh]at h0⊢;exact h0
      ·have:=r'.obj t j;rw[J.Ku]at this⊢;exact this
      ·have:=r'.c t j b;rw[J.Ku]at this⊢;exact this
      ·have:=r'.own t j b;rw[J.Ku]at this⊢;exact this
      ·have:=r'.inj t j t' j' b;rw[J.Ku]at this⊢;exact this
     rcases m with m|m
     ·exact NM r A hc hd ha true (fun _=>m) (fun hh=>by cases hh) U fin
     ·exact NM r A hc hd ha false (fun hh=>by cases hh) (fun _=>m) U fin
    ·exact H n
   ·exact H n
theorem vq(U:kp P N ah o σ σ'):LP P N o σ σ':=by
 rcases U with U|U
 ·rintro T0 B a w K af ⟨ad,h,r⟩ hK;exact s4 r U hK
 ·exact U.2.1
theorem pA{N:Array Oper}{ah:Oper->Bool}:∀{l:List Oper}{σ:J}{a:Act}{w:World}{af:J->Prop}{F:Exit->Act->World->Prop},im P N ah l σ af->yO T0 B σ a w->
  (∀σ' a' w',af σ'->yO T0 B σ' a' w'->Xv B w w'->F .normal a' w')->wpList P N F l a w
 |[],σ,a,w,af,F,hr,f,hK=>hK σ a w hr f (Xv.refl _ _)
 |o::l,σ,a,w,af,F,⟨σ',U,hr⟩,f,hK=>by refine wpList_step fun K b=>?_;exact vq U _ _ _ _ _ _ f (fun a' w' f G=>b _ _ (pA hr f (fun σ2 E w2 hq I ak=>hK σ2 E w2 hq I (G.trans ak))))
open Go.RowKit
variable{I ar:List Value}
def aX(P:Program)(c:Code)(af:Exit->J->Prop)(σ:J):Prop:=
 ∀(T0:CS)(B:Nat->Prop)(a:Act)(w:World),yO T0 B σ a w->c.wp P (fun e a' w'=>∃σ',af e σ'/\yO T0 B σ' a' w'/\Xv B w w') a w
def Wk(σ σ':J):Prop:=∀(T0:CS)(B:Nat->Prop)(a:Act)(w:World),yO T0 B σ a w->yO T0 B σ' a w
def sc(next:J->Prop)(af:Exit->J->Prop):Exit->J->Prop
 |.normal,σ=>next σ
 |e,σ=>af e σ
def F1(ri:Nat)(af:Exit->J->Prop):Exit->J->Prop
 |.exit b,σ=>if b=ri then af .normal σ else af (.exit b) σ
 |e,σ=>af e σ
section
variable{af:Exit->J->Prop}
theorem Wk.refl(σ:J):Wk σ σ:=fun _ _ _ _ h=>h
theorem Wk.trans{a:J}(h:Wk σ σ')(k:Wk σ' a):Wk σ a:=fun _ _ _ _ r=>k _ _ _ _ (h _ _ _ _ r)
theorem kg(h:∀e σ,af e σ->F e σ)(k:aX P c af σ):aX P c F σ:=
 fun T0 B a w r=>wp_mono (k T0 B a w r) fun e _ _ ⟨σ',hq,hr⟩=>⟨σ',h e σ' hq,hr⟩
theorem YM(h:af .normal σ):aX P .skip af σ:=fun _ B _ w r=>wp_skip ⟨σ,h,r,Xv.refl B w⟩
theorem om(h:af (.exit ri) σ):aX P (.exit ri) af σ:=fun _ B _ w r=>wp_exit ⟨σ,h,r,Xv.refl B w⟩
theorem Mi(h:af .ret σ):aX P .ret af σ:=fun _ B _ w r=>wp_ret ⟨σ,h,r,Xv.refl B w⟩
theorem Bn{l:List Oper}(h:im P l.toArray ah l σ (af .normal)):aX P (.region ri l.toArray false) af σ:=
 fun _ _ _ _ r=>wp_region_lit (pA h r fun σ' _ _ hq hr G=>⟨σ',hq,hr,G⟩)
theorem Za{x y:Code}(h:aX P x (sc (aX P y af) af) σ):aX P (.seq x y) af σ:=by
 intro T0 B a w r;refine wp_seq (wp_mono (h T0 B a w r) ?_);rintro e a' w' ⟨σ',hq,hr,G⟩;cases e with
 |normal=>exact wp_mono (hq T0 B a' w' hr) fun e _ _ ⟨σ2,M,Z,h3⟩=>⟨σ2,M,Z,G.trans h3⟩
 |exit ri=>exact⟨σ',hq,hr,G⟩
 |goto l=>exact⟨σ',hq,hr,G⟩
 |ret=>exact⟨σ',hq,hr,G⟩
 |panic o=>exact⟨σ',hq,hr,G⟩
 |outgrown=>exact⟨σ',hq,hr,G⟩
theorem rc{c:Operand}{x y:Code}(hc:look P σ 0 c= .one (.d (.bool b)))(ht:b=true->aX P x af σ)(hf:b=false->aX P y af σ):aX P (.cond c x y) af σ:=by
 intro T0 B a w r;obtain⟨ad,h,R⟩:=r;have hv:=R.look (P:=P) 0 c
 rw[hc]at hv;exact wp_cond_split (RH hv) (fun G=>ht G T0 B a w ⟨ad,h,R⟩) (fun G=>hf G T0 B a w ⟨ad,h,R⟩)
theorem Mo(h:aX P c (F1 ri af) σ):aX P (.block ri c) af σ:=by
 intro T0 B a w r;refine wp_block (wp_mono (h T0 B a w r) ?_);rintro e a' w' ⟨σ',hq,hr,G⟩;cases e with
 |exit b=>
  simp only[F1]at hq;simp only[Exit.inBlock];split at hq
  ·rename_i hh;rw[if_pos hh];exact⟨σ',hq,hr,G⟩
  ·rename_i hh;rw[if_neg hh];exact⟨σ',hq,hr,G⟩
 |normal=>exact⟨σ',hq,hr,G⟩
 |goto l=>exact⟨σ',hq,hr,G⟩
 |ret=>exact⟨σ',hq,hr,G⟩
 |panic o=>exact⟨σ',hq,hr,G⟩
 |outgrown=>exact⟨σ',hq,hr,G⟩
theorem Ru{ι:Type}(S:ι->J)(μ:ι->Nat)(m:ι)(h0:Wk σ (S m))
  (ad:∀i,aX P c (sc (fun σ'=>∃i',μ i'<μ i/\Wk σ' (S i')) af) (S i)):aX P (.loop c) af σ:=by
 intro T0 B a w r b k I;have ag:∀n i a w,μ i=n->yO T0 B (S i) a w->
   ∃e a' w',(∃σ',af e σ'/\yO T0 B σ' a' w'/\Xv B w w')/\Arrives P (lone (b.at a (.code c:: .inLoop c::k)) I w) b k I e a' w':=by
  intro n;induction n using Nat.strongRecOn with
  |_ n ih=>
   intro i a w hn hr;obtain⟨e,f,d,⟨j,hq,g,h⟩,L⟩:=ad i T0 B a w hr b _ I;cases e with
   |normal=>obtain⟨i',ac,z⟩:=hq;obtain⟨x,v,t,⟨p,y,s,q⟩,u⟩:=ih _ (hn▸ac) i' f d rfl (z T0 B f d g);exact⟨x,v,t,⟨p,y,s,h.trans q⟩,.of_steps (Steps.trans L (.one step_inLoop)) u⟩
   |exit ri=>exact⟨_,f,d,⟨j,hq,g,h⟩,.pass rfl (fun _ _=>.inl ab) L⟩
   |goto l=>exact⟨_,f,d,⟨j,hq,g,h⟩,.pass rfl (fun _ _=>.inl ab) L⟩
   |ret=>exact⟨_,f,d,⟨j,hq,g,h⟩,.pass rfl (fun _ _=>.inl ab) L⟩
   |panic o=>exact⟨_,f,d,⟨j,hq,g,h⟩,.pass rfl (fun _ _=>.inl ab) L⟩
   |outgrown=>exact⟨_,f,d,⟨j,hq,g,h⟩,.pass rfl (fun _ _=>.inl ab) L⟩
 obtain⟨e,a',w',hq,L⟩:=ag _ m a w rfl (h0 T0 B a w r);exact⟨e,a',w',hq,.of_steps (.one step_loop) L⟩
end
/-! ### entering a function, and leaving it -/
def FK:List (List D)->J
 |[]=>[]
 |r::rs=>(aZ (r.map .d),[])::FK rs
def Oq(n:Nat)(aA:List (List D)):J:=FK aA++List.replicate (n-aA.length) (V.any,[])
def rT(P:Program)(σ:J):ResultVar->List At->Prop
 |.tmp t,xs=>(σ.get t=aZ xs)/\t<σ.length
 |.cell t T,xs=>∃u c E,σ.get t= .one (.O u c)/\σ.ob u 0= .box E/\Uh P T=true/\Ie P T=true/\P.cellsOf T≠1/\c+P.cellsOf T<=E.length/\xs=cut E c (P.cellsOf T)
def GY(P:Program)(σ:J):List ResultVar->List (List At)->Prop
 |[],A=>A=[]
 |r::rs,A=>∃xs ai,rT P σ r xs/\GY P σ rs ai/\A=xs::ai
def GM(σ:J):List (List At)->Option (List (List D))
 |[]=>some []
 |xs::ai=>(match rowOf σ xs,GM σ ai with|some r,some rs=>some (r::rs)|_,_=>none)
def PC(σ:J):At->Option D
 |.d (.sl _ _)=>none
 |.d x=>some x
 |.nil s=>some (.sl s [])
 |.E t j lo ae=>(match σ.ob t j with|.arr false X Q=>if lo=0/\ae=Q.length then some (.sl X Q)else none|_=>none)
 |_=>none
def dg(σ:J):List At->Option (List D)
 |[]=>some []
 |x::xs=>(match PC σ x,dg σ xs with|some d,some ds=>some (d::ds)|_,_=>none)
def Lu(σ:J):List (List At)->Option (List (List D))
 |[]=>some []
 |xs::ai=>(match dg σ xs,Lu σ ai with|some r,some rs=>some (r::rs)|_,_=>none)
def fP(P:Program)(fn:Func)(own:Bool)(ag:List (List D))(e:Exit)(σ:J):Prop:=
 (e= .ret\/e= .normal)/\∃A,GY P σ fn.results.toList A/\(if own then Lu σ A=some ag/\(Ye A.flatten).Nodup else GM σ A=some ag)
def c0(P:Program)(fn:Func)(ag:List (List D))(e:Exit)(σ:J):Prop:=
 (e= .ret\/e= .normal)/\∃A,GY P σ fn.results.toList A/\jg σ A=some ag/\y3 σ A/\(Ye A.flatten).Nodup
open Go.RowKit
variable{ai:List Oper}{fn:Func}{rv:List ResultVar}{A:List (List At)}
theorem Mq:∀(aA:List (List D))(t:Nat),(FK aA)[t]?=(aA[t]?).map fun r=>(aZ (r.map .d),[])
 |[],t=>by simp[FK]
 |r::rs,0=>by simp[FK]
 |r::rs,t+1=>by simpa[FK]using Mq rs t
theorem QY(aA:List (List D)):(FK aA).length=aA.length:=by
 induction aA with
 |nil=>rfl
 |cons r rs ih=>simp[FK,ih]
theorem hD(hT:∀b k,T b k->b<w.heap.size)(ha:Yd (fun v L=>∃I,xK v I/\Yd (Rd T w) I L) ar aA):
  yO T (fun b=>b<w.heap.size) (Oq n aA) {tmps:=ar.toArray++Array.replicate (n-ar.toArray.size) undef,defers:=[]} w:=by
 have hl:=ha.length;refine⟨fun _=>False,fun _ _=>Hd.of undef,?_⟩;have an:∀t j,(Oq n aA).ob t j= .none:=by
  intro t j;unfold J.ob Oq;rcases Nat.lt_or_ge t aA.length with h|h
  ·rw[List.getElem?_append_left cy,Mq,List.getElem?_eq_getElem h];simp[Y6]
  ·rw[List.getElem?_append_right cy,List.getElem?_replicate];split
   ·rename_i e he;split at he
    ·cases he;simp[Y6]
    ·cases he
   ·rfl
 have P:∀b k v,T b k->w.cell? _=some v->w.cell? ⟨b,k,none⟩=some v/\al T (fun _=>False) b k:=fun b k v G hc=>⟨hc,.inl G⟩;refine⟨by simp[Oq,QY,hl],rfl,(fun b G=>G),(fun b G=>G.elim),hT,fun t ht=>?_,fun t j=>by rw[an];trivial,fun t j b W=>absurd (an t j) W,fun t j b W=>absurd (an t j) W,fun t j t' j' b W=>absurd (an t j) W⟩;unfold J.get Oq;rcases Nat.lt_or_ge t aA.length with ac|aN
 ·rw[List.getElem?_append_left (by rw[QY];exact ac),Mq,List.getElem?_eq_getElem ac];obtain⟨v,hv,I,hf,aa⟩:=ha.get' t aA[t] (List.getElem?_eq_getElem ac);have d:(ar.toArray++Array.replicate (n-ar.toArray.size) undef).getD t undef=v:=by rw[Array.getD_eq_getD_getElem?,Array.getElem?_append_left a0];simp[hv]
  simp only[d];exact(Eo hf (Ek (aa.imp fun _ _=>Rd.mono P))).up
 ·rw[List.getElem?_append_right (by rw[QY];exact aN),List.getElem?_replicate];split
  ·rename_i e he;split at he
   ·cases he;trivial
   ·cases he
  ·trivial
theorem iU{ai:Nat->Nat->Ob}{xs:List At}{v:Value}(hv:KA T h ai w (aZ xs) v):∃I,xK v I/\Yd (Yk T h ai w) xs I:=by
 match xs,hv with
 |[],hv=>obtain⟨I,rfl,aa⟩:=hv;exact⟨I.toList,.inr ⟨by rw[<-aa.length];simp,ab⟩,aa⟩
 |[x],hv=>exact⟨[v],.inl ⟨v,rfl,rfl,Yk.Qo hv⟩,.cons hv .nil⟩
 |x::y::xs,hv=>obtain⟨I,rfl,aa⟩:=hv;exact⟨I.toList,.inr ⟨by rw[<-aa.length];simp,ab⟩,aa⟩
theorem hC(r:av T0 B σ a w ad h):∀{rs:List ResultVar}{A:List (List At)},GY P σ rs A->
  ∃vs g,(rs.mapM (m:=Sem) fun|.tmp t=>pure (a.tmps.getD t undef)|.cell u t=>do loadVar t (<-asAddr (a.tmps.getD u undef))).run P w= .ok vs w/\Yd xK vs g/\Yd (fun xs I=>Yd (Yk (al T0 ad) h σ.ob w) xs I) A g
 |[],A,hr=>by cases hr;exact⟨[],[],ab,.nil,.nil⟩
 |rv::rs,A,hr=>by
  obtain⟨xs,ai,M,Z,rfl⟩:=hr;obtain⟨vs,g,aE,hf,aa⟩:=hC r Z;have n:∃v I,(match rv with|.tmp t=>(pure (a.tmps.getD t undef):Sem Value)|.cell u t=>do loadVar t (<-asAddr (a.tmps.getD u undef))).run P w= .ok v w/\xK v I/\Yd (Yk (al T0 ad) h σ.ob w) xs I:=by
   cases rv with
   |tmp t=>
    obtain⟨hg,ac⟩:=M;have hv:=r.slot t ac
    rw[hg]at hv;obtain⟨I,hf,aa⟩:=iU hv;exact⟨_,I,ab,hf,aa⟩
   |cell t T=>
    obtain⟨u,c,E,hg,ho,af,k,W,aA,rfl⟩:=M;have hv:=r.get t
    rw[hg]at hv;obtain⟨b,I,e,G,he,hh,aa⟩:=r.box ho hv;have az:=aa.length
    obtain⟨ak,l,f,_⟩:=g9 (P:=P) (w:=w) af (b:=b) (aw:=c) (Xj _ _ _ Y) (fun j u F=>qh hh _ _ (jP _ _ _ _ _ F));refine⟨ak,cut I.toList c _,?_,.inr ⟨by rw[Xj _ _ _ Y];exact W,f k⟩,aa.cut _ _⟩;simp only[he,asAddr,Sem.run_pure];exact l
  obtain⟨v,I,o,d,i⟩:=n;refine⟨v::vs,I::g,?_,.cons d hf,.cons i aa⟩;simp_all
theorem OD(r:av T0 B σ a w ad h)(hr:GY P σ fn.results.toList A):
  ∃vs g,(results fn a.tmps).run P w= .ok (pj vs) w/\Yd xK vs g/\Yd (fun xs I=>Yd (Yk (al T0 ad) h σ.ob w) xs I) A g:=by
 obtain⟨vs,g,aE,hf,aa⟩:=hC r hr;refine⟨vs,g,?_,hf,aa⟩;unfold results;rw[Array.mapM_eq_mapM_toList];change(((fn.results.toList.mapM (m:=Sem) fun|.tmp t=>pure (a.tmps.getD t undef)|.cell u t=>do loadVar t (<-asAddr (a.tmps.getD u undef)))>>=fun l=>pure l.toArray)>>=fun(vs:Array Value)=>pure _).run P w=_;simp only[Sem.run_bind,aE,Sem.run_pure];congr 1;match vs with
 |[]=>rfl
 |[v]=>rfl
 |v::U::vs=>simp[pj]
theorem Bt(r:av T0 B σ a w ad h){T:CS}(hT:∀b k,wH T0 ad h σ b k->T b k):∀{A:List (List At)}{g:List (List Value)}{ag:List (List D)},GM σ A=some ag->Yd (fun xs I=>Yd (Yk (al T0 ad) h σ.ob w) xs I) A g->
  Yd (fun I L=>Yd (R6 false T w) I L) g ag
 |[],g,ag,hr,aa=>by cases aa;simp[GM]at hr;subst hr;exact .nil
 |xs::A,g,ag,hr,aa=>by
  cases aa with
  |cons M aa=>
   simp only[GM]at hr;split at hr
   ·rename_i L rs ay E;cases hr;refine .cons ?_ (Bt r hT E aa);have:=r.rowOf false ay M (fun hh=>by cases hh)
    refine this.imp fun v d hd=>?_;exact Rd.mono (fun b k v G hc=>⟨hc,hT b k G⟩) hd
   ·cases hr
theorem sW:∀{xs:List At}{ds:List D},dg σ xs=some ds->Yd (fun x d=>PC σ x=some d) xs ds
 |[],ds,hr=>by simp[dg]at hr;subst hr;exact .nil
 |x::xs,ds,hr=>by
  simp only[dg]at hr;split at hr
  ·rename_i d g M Z;cases hr;exact .cons M (sW Z)
  ·cases hr
theorem vz:∀{A:List (List At)}{ag:List (List D)},Lu σ A=some ag->Yd (fun xs L=>Yd (fun x d=>PC σ x=some d) xs L) A ag
 |[],ag,hr=>by simp[Lu]at hr;subst hr;exact .nil
 |xs::A,ag,hr=>by
  simp only[Lu]at hr;split at hr
  ·rename_i d g M Z;cases hr;exact .cons (sW M) (vz Z)
  ·cases hr
theorem H5(r:av T0 B σ a w ad h){x:At}{d:D}{v:Value}(O:PC σ x=some d)(hv:Yk (al T0 ad) h σ.ob w x v):z9 (al T0 ad) w v d/\(∀b,d.scalar=false->blk v=some b->∃t j lo ae,x= .E t j lo ae/\σ.ob t j≠ .none/\(h t j).u b):=by
 cases x with
 |d x=>
  cases x with
  |sl s Q=>simp[PC]at O
  |int k n=>simp[PC]at O;subst O;exact⟨hv,fun b G=>by cases G⟩
  |bool b=>simp[PC]at O;subst O;exact⟨hv,fun b G=>by cases G⟩
  |str s=>simp[PC]at O;subst O;exact⟨hv,fun b G=>by cases G⟩
  |unk=>simp[PC]at O;subst O;exact⟨hv,fun b G=>by cases G⟩
 |nil s=>simp[PC]at O;subst O;cases hv;exact⟨⟨0,[],World.ownsRow_nil w 0 0 s,ab,.nil⟩,fun b _ G=>by cases G⟩
 |E t j lo ae=>
  simp only[PC]at O;split at O
  ·rename_i X Q ho;split at O
   ·rename_i hc;obtain⟨rfl,rfl⟩:=hc;cases O;obtain⟨_,az,_⟩:=hv.2.1 _ X Q ho;have he:=az rfl rfl
    have h0:=r.obj t j;have au:=r.c t j;rw[ho]at h0 au;refine⟨by rw[he];exact h0,fun b _ G=>⟨t,j,0,Q.length,rfl,by rw[ho];simp,au b ab aC⟩⟩
   ·cases O
  ·cases O
 |any=>simp[PC]at O
 |ptr=>simp[PC]at O
 |O=>simp[PC]at O
 |fn=>simp[PC]at O
 |ac=>simp[PC]at O
 |Z=>simp[PC]at O
theorem nP(hf:P.funcs[f]?=some fn)(G:fn.body=some c)(ao:Ly P f=true){own:Bool}
  (hw:aX P c (fP P fn own ag) (Oq fn.ntmps aA)):KJ P f own aA ag:=by
 refine⟨ao,fun T w ar hT am=>calls_of_wp hf G ?_⟩;refine wp_mono (hw T (fun b=>b<w.heap.size) _ w (hD hT am)) ?_;rintro e a' w' ⟨σ',⟨he,A,af,ai⟩,⟨ad,h,r⟩,ab⟩;have y:Below w.heap.size w w':=⟨ab.os,ab.tape,ab.output,ab.size,ab.block⟩
 obtain⟨vs,g,aE,aM,aa⟩:=OD r af;have K:a'.defers=[]/\∃v,(results fn a'.tmps).run P w'= .ok v w'/\hj own T w ag (.returned v) w':=by
  refine⟨r.defers,_,aE,?_⟩;cases own with
  |false=>
   refine⟨vs,g,fun b=>w.heap.size<=b/\b<w'.heap.size,rfl,y,fun b G=>G,aM,?_,fun hh=>by cases hh⟩;refine Bt r (fun b k G=>?_) aC aa;rcases G with G|⟨t,j,q,X,Q,ho,G⟩
   ·rcases G with G|G
    ·exact .inl G
    ·have:=r.e b G;exact .inr ⟨Y,this.2⟩
   ·have:=r.own t j b aC G;exact .inr ⟨Y,this.2.2⟩
  |true=>
   obtain⟨aq,aw⟩:=ai;have an:=vz aq
   have B:=Rn an;have s:=Rn aa;refine⟨vs,g,ad,rfl,y,(fun b G=>by have:=r.e b G;exact⟨Y,this.2⟩),aM,?_,fun _=>⟨fun i cc d b hc hd N G=>?_,fun i j cc H d d' b hc hd z m N E G aj=>?_⟩⟩
   ·clear B s aM aE af aq aw he hw;induction an generalizing g with
    |nil=>cases aa;exact .nil
    |cons hr _ ih=>
     cases aa with
     |cons I aa=>refine .cons ?_ (ih _ aa);refine Yd.V8 (by rw[<-I.length,hr.length]) (fun i v d hv hd=>?_);obtain⟨x,O,p⟩:=hr.get' i d hd;obtain⟨U,aF,n⟩:=I.get i x O;rw[hv]at aF;cases aF;exact(H5 r p n).1
   ·obtain⟨x,O,p⟩:=B.get' i d hd;obtain⟨U,aF,n⟩:=s.get i x O;rw[hc]at aF;cases aF;obtain⟨t,j,lo,ae,_,W,ay⟩:=(H5 r p n).2 b N G;have:=r.own t j b W ay
    grind
   ·obtain⟨x,O,p⟩:=B.get' i d hd;obtain⟨U,aF,n⟩:=s.get i x O;rw[hc]at aF;cases aF;obtain⟨l,a,D⟩:=B.get' j d' m;obtain⟨o,aB,C⟩:=s.get j l a;rw[z]at aB;cases aB;obtain⟨t,u,lo,ae,rfl,W,ay⟩:=(H5 r p n).2 b N G;obtain⟨t2,u2,aI,be,rfl,bb,F⟩:=(H5 r D C).2 b E aj;obtain⟨rfl,rfl⟩:=r.inj t u t2 u2 b W bb ay F;exact Fq _ i j t u lo ae aI be aw O a
 rcases he with rfl|rfl
 ·exact K
 ·exact K
theorem p2(hf:P.funcs[f]?=some fn)(G:fn.body=some c)(ao:Ly P f=true)
  (hw:aX P c (c0 P fn ag) (Oq fn.ntmps aA)):Z7 P f aA ag:=by
 refine⟨ao,fun T w ar hT am=>calls_of_wp hf G ?_⟩;refine wp_mono (hw T (fun b=>b<w.heap.size) _ w (hD hT am)) ?_;rintro e a' w' ⟨σ',⟨he,A,af,Y,N,aw⟩,⟨ad,h,r⟩,ab⟩;have y:Below w.heap.size w w':=⟨ab.os,ab.tape,ab.output,ab.size,ab.block⟩
 obtain⟨vs,g,aE,aM,aa⟩:=OD r af;have K:a'.defers=[]/\∃v,(results fn a'.tmps).run P w'= .ok v w'/\j5 w ag (.returned v) w':=by
  refine⟨r.defers,_,aE,vs,g,rfl,y,aM,?_,?_⟩
  ·clear aw N af aE aM hw;induction aa generalizing ag with
   |nil=>simp[jg]at Y;subst Y;exact .nil
   |cons M _ ih=>
    simp only[jg]at Y;split at Y
    ·rename_i L rs ay E;cases Y;exact .cons (by rw[<-M.length];exact(Pc ay).1) (ih E)
    ·cases Y
  ·refine(Mn r (Rn aa) (Lb Y).1 (Pt N) aw).mono (fun b G=>?_);have:=r.zj _ b G
   grind
 rcases he with rfl|rfl
 ·exact K
 ·exact K
open Go.RowKit
variable{aa:List Ob}{op:BinOp}
theorem J.ZCE(e:bx)(σ:J):J.get (e::σ) 0=e.1:=rfl
theorem J.fb(e:bx)(σ:J)(n:Nat):J.get (e::σ) (n+1)=J.get σ n:=by simp[J.get]
theorem J.ZDF(e:bx)(σ:J)(j:Nat):J.ob (e::σ) 0 j=Y6 e.2 j:=rfl
theorem J.gM(e:bx)(σ:J)(n j:Nat):J.ob (e::σ) (n+1) j=J.ob σ n j:=by simp[J.ob]
theorem mo(o:Ob)(aa:List Ob):Y6 (o::aa) 0=o:=rfl
theorem PN(o:Ob)(aa:List Ob)(n:Nat):Y6 (o::aa) (n+1)=Y6 aa n:=by simp[Y6]
theorem oq(n:Nat):Y6 [] n= .none:=by simp[Y6]
def ao(P:Program)(σ:J)(x:Operand):Prop×Int:=
 match unc (look P σ 0 x)with
 |.one (.d (.int _ n))=>(ap (look P σ 0 x)=true,n)
 |_=>(False,0)
def b5(P:Program)(σ:J)(x:Operand):IntKind:=
 match unc (look P σ 0 x)with
 |.one (.d (.int k _))=>k
 |_=>.i64
theorem OZ(h:(ao P σ x).1):MN P σ x (b5 P σ x) (ao P σ x).2:=by
 unfold ao at h⊢;unfold b5;unfold MN;split at h
 ·rename_i k n heq;rw[heq];exact⟨h,rfl⟩
 ·exact h.elim
def ku(P:Program)(σ:J)(H:Nat):Option Operand->Prop×Nat
 |none=>(True,H)
 |some x=>((ao P σ x).1/\0<=(ao P σ x).2,(ao P σ x).2.toNat)
theorem Hl{x:Option Operand}(h:(ku P σ H x).1):bk P σ H x (ku P σ H x).2:=by
 cases x with
 |none=>rfl
 |some x=>have M:=OZ h.1;exact⟨_,_,M.1,M.2,h.2,rfl⟩
def rowAt(Q:List (List D))(i:Nat):List D:=Q.getD i []
def a7(s:ByteArray)(i:Nat):Nat:=(s.data.toList.getD i 0).toNat
def FX(P:Program)(σ:J)(T:TypeId)(x ix:Operand):Prop×V:=
 match unc (look P σ 0 x)with
 |.one (.d (.sl X Q))=>((ap (look P σ 0 x)=true/\(ao P σ ix).1)/\0<=(ao P σ ix).2/\(Xr P T=true/\X=P.cellsOf (C P T)/\0<X)/\(ao P σ ix).2<(Q.length:Int),.one (.ac (rowAt Q (ao P σ ix).2.toNat) 0))
 |.one (.E t j lo ae)=>((ap (look P σ 0 x)=true/\(ao P σ ix).1)/\0<=(ao P σ ix).2/\(Xr P T=true/\0<P.cellsOf (C P T)/\(match σ.ob t j with|.arr _ X _=>X=P.cellsOf (C P T)|_=>False))/\(ao P σ ix).2<(ae:Int),.one (.ptr t j (lo+(ao P σ ix).2.toNat) 0))
 |.one (.Z t j m c none)=>((ap (look P σ 0 x)=true/\(ao P σ ix).1)/\0<=(ao P σ ix).2/\(Xr P T=true/\0<P.cellsOf (C P T))/\(match σ.ob t j with|.arr true _ Q=>m<Q.length/\(match(rowAt Q m)[c]? with|some (.sl n s)=>n=P.cellsOf (C P T)/\(ao P σ ix).2<(s.length:Int)|_=>False)|_=>False),.one (.Z t j m c (some ((ao P σ ix).2.toNat*P.cellsOf (C P T)))))
 |.one (.O t c)=>((ap (look P σ 0 x)=true/\(ao P σ ix).1)/\0<=(ao P σ ix).2/\(match σ.ob t 0 with|.box _=>True|_=>False)/\(match tr P T with|some n=>1<n/\(ao P σ ix).2<(n:Int)|none=>False),.one (.O t (c+(ao P σ ix).2.toNat*P.cellsOf (C P T))))
 |_=>(False,.any)
def fe(P:Program)(σ:J)(T:TypeId)(x:Operand):Prop×V:=
 match unc (look P σ 0 x)with
 |.one (.O t c)=>(match σ.ob t 0 with|.box E=>(ap (look P σ 0 x)=true/\Uh P T=true/\c+P.cellsOf T<=E.length,bm P T (cut E c (P.cellsOf T)))|_=>(False,.any))
 |.one (.ptr t j i c)=>(match σ.ob t j with|.arr q X Q=>((ap (look P σ 0 x)=true/\Uh P T=true/\c+P.cellsOf T<=X)/\i<Q.length,bm P T (Fz q t j i c (cut (rowAt Q i) c (P.cellsOf T))))|_=>(False,.any))
 |.one (.ac r c)=>(ap (look P σ 0 x)=true/\Uh P T=true/\c+P.cellsOf T<=r.length,bm P T ((cut r c (P.cellsOf T)).map .d))
 |.one (.Z t j i c (some k))=>(match σ.ob t j with
  |.arr true _ Q=>(match(rowAt Q i)[c]? with
   |some (.sl 1 s)=>((ap (look P σ 0 x)=true/\Uh P T=true)/\i<Q.length/\P.cellsOf T=1/\k<s.length/\(rowAt s k).all D.scalar=true,bm P T ((rowAt s k).map .d))
   |_=>(False,.any))
  |_=>(False,.any))
 |_=>(False,.any)
def F8(P:Program)(σ:J)(T:TypeId)(x:Operand)(f:Nat):Prop×V:=
 match unc (look P σ 0 x)with
 |.one (.O t c)=>(ap (look P σ 0 x)=true/\RO P T f=true/\(match σ.ob t 0 with|.box _=>True|_=>False),.one (.O t (c+KU P T f)))
 |.one (.ptr t j i c)=>(ap (look P σ 0 x)=true/\RO P T f=true/\(match σ.ob t j with|.arr _ _ _=>True|_=>False),.one (.ptr t j i (c+KU P T f)))
 |.one (.ac r c)=>(ap (look P σ 0 x)=true/\RO P T f=true,.one (.ac r (c+KU P T f)))
 |.one (.Z t j i c (some k))=>(ap (look P σ 0 x)=true/\RO P T f=true/\(match σ.ob t j with|.arr true _ _=>True|_=>False),.one (.Z t j i c (some (k+KU P T f))))
 |_=>(False,.any)
def lH(P:Program)(op:BinOp)(T:TypeId)(x y:V):Prop×V:=
 match op,x,y with
 |.eql,.one (.d (.int k m)),.one (.d (.int k' n))=>(k'=k,.one (.d (.bool (m==n))))
 |.neq,.one (.d (.int k m)),.one (.d (.int k' n))=>(k'=k,.one (.d (.bool (m !=n))))
 |.lss,.one (.d (.int k m)),.one (.d (.int k' n))=>(k'=k,.one (.d (.bool (decide (m<n)))))
 |.leq,.one (.d (.int k m)),.one (.d (.int k' n))=>(k'=k,.one (.d (.bool (decide (m<=n)))))
 |.gtr,.one (.d (.int k m)),.one (.d (.int k' n))=>(k'=k,.one (.d (.bool (decide (m>n)))))
 |.geq,.one (.d (.int k m)),.one (.d (.int k' n))=>(k'=k,.one (.d (.bool (decide (m>=n)))))
 |.add,.one (.d (.int k m)),.one (.d (.int k' n))=>(k'=k,.one (.d (.int k (k.wrap (m+n)))))
 |.sub,.one (.d (.int k m)),.one (.d (.int k' n))=>(k'=k,.one (.d (.int k (k.wrap (m-n)))))
 |.mul,.one (.d (.int k m)),.one (.d (.int k' n))=>(k'=k,.one (.d (.int k (k.wrap (m*n)))))
 |.quo,.one (.d (.int k m)),.one (.d (.int k' n))=>(k'=k/\n≠0,.one (.d (.int k (k.wrap (m.tdiv n)))))
 |.rem,.one (.d (.int k m)),.one (.d (.int k' n))=>(k'=k/\n≠0,.one (.d (.int k (m.tmod n))))
 |.and,.one (.d (.int k m)),.one (.d (.int k' n))=>(k'=k,.one (.d (.int k (fy k m n))))
 |.or,.one (.d (.int k m)),.one (.d (.int k' n))=>(k'=k,.one (.d (.int k (eR k m n))))
 |.xor,.one (.d (.int k m)),.one (.d (.int k' n))=>(k'=k,.one (.d (.int k (fc k m n))))
 |.shl,.one (.d (.int k m)),.one (.d (.int _ n))=>(0<=n,.one (.d (.int k (k.wrap (m*2^min n.toNat k.bits)))))
 |.shr,.one (.d (.int k m)),.one (.d (.int _ n))=>(0<=n,.one (.d (.int k (m.fdiv (2^min n.toNat k.bits)))))
 |.add,.one (.d (.str m)),.one (.d (.str n))=>(((m.size+n.size:Nat):Int)<=9223372036854775807,.one (.d (.str (m++n))))
 |.eql,.one (.d (.str m)),.one (.d (.str n))=>(True,.one (.d (.bool (decide (m=n)))))
 |.neq,.one (.d (.str m)),.one (.d (.str n))=>(True,.one (.d (.bool (!decide (m=n)))))
 |.eql,.one (.d (.bool m)),.one (.d (.bool n))=>(vf P T=true,.one (.d (.bool (m==n))))
 |.neq,.one (.d (.bool m)),.one (.d (.bool n))=>(vf P T=true,.one (.d (.bool (!(m==n)))))
 |.eql,.agg xs,.agg ys=>(E0 P T=true/\(J4 P (jW P T) xs ys).isSome=true,.one (.d (.bool ((J4 P (jW P T) xs ys).getD false))))
 |.neq,.agg xs,.agg ys=>(E0 P T=true/\(J4 P (jW P T) xs ys).isSome=true,.one (.d (.bool (!(J4 P (jW P T) xs ys).getD false))))
 |_,_,_=>(False,.any)
def GC(P:Program)(σ:J)(T:TypeId):List (Nat×Operand)->List At->Prop×List At
 |[],r=>(True,r)
 |(i,x)::R,r=>((a6 P T i=true/\ap (look P σ (aT P T i) x)=true/\(unc (look P σ (aT P T i) x)).flat=true/\
   (unc (look P σ (aT P T i) x)).cells.length=P.cellsOf (aT P T i)/\TZ P T i+P.cellsOf (aT P T i)<=r.length)/\(GC P σ T R (place r (TZ P T i) (unc (look P σ (aT P T i) x)).cells)).1,
   (GC P σ T R (place r (TZ P T i) (unc (look P σ (aT P T i) x)).cells)).2)
theorem s9{P:Program}{σ:J}{T:TypeId}:∀{R:List (Nat×Operand)}{r:List At},(GC P σ T R r).1->Ig P σ T R r (GC P σ T R r).2
 |[],_,_=>rfl
 |(_,_)::_,_,h=>⟨h.1.1,h.1.2.1,h.1.2.2.1,h.1.2.2.2.1,h.1.2.2.2.2,s9 h.2⟩
def ev:V->Bool
 |.one (.d (.bool _))=>true
 |_=>false
def dT:V->Bool
 |.one (.d (.bool b))=>b
 |_=>false
theorem hb:∀{v:V},ev v=true->v= .one (.d (.bool (dT v)))
 |.one (.d (.bool _)),_=>rfl
def aP(P:Program)(σ:J)(op:Op)(A:TypeId):Prop×V:=
 match op with
 |.move x=>(True,look P σ A x)
 |.assign x=>(True,look P σ A x)
 |.pick c a b=>
  (match unc (look P σ A c)with
  |.one (.d (.bool g))=>((ap (look P σ A c)=true/\(g=true->ev (unc (look P σ A a))=true)/\(g=false->ev (unc (look P σ A b))=true))/\(g=true->ap (look P σ A a)=true)/\(g=false->ap (look P σ A b)=true),.one (.d (.bool (cond g (dT (unc (look P σ A a))) (dT (unc (look P σ A b)))))))
  |_=>(False,.any))
 |.load T x=>fe P σ T x
 |.fieldAddr T x f=>F8 P σ T x f
 |.nilCheck x=>(match unc (look P σ 0 x)with
  |.one (.O t c)=>(ap (look P σ 0 x)=true/\(match σ.ob t 0 with|.box _=>True|_=>False),.one (.O t c))
  |_=>(False,.any))
 |.indexAddr T x ix=>FX P σ T x ix
 |.index T x ix=>
  (match unc (look P σ 0 x)with
  |.one (.d (.str s))=>((ap (look P σ 0 x)=true/\(ao P σ ix).1)/\0<=(ao P σ ix).2/\L4 P T=true/\(ao P σ ix).2<(s.size:Int),.one (.d (.int .u8 (a7 s (ao P σ ix).2.toNat))))
  |.agg xs=>((ap (look P σ 0 x)=true/\(ao P σ ix).1)/\0<=(ao P σ ix).2/\(match tr P T with|some n=>(ao P σ ix).2<(n:Int)|none=>False)/\Uh P (C P T)=true/\(ao P σ ix).2.toNat*P.cellsOf (C P T)+P.cellsOf (C P T)<=xs.length,
    bm P (C P T) (cut xs ((ao P σ ix).2.toNat*P.cellsOf (C P T)) (P.cellsOf (C P T))))
  |_=>(False,.any))
 |.slice T x lo hi none=>
  (match unc (look P σ 0 x)with
  |.one (.d (.str s))=>((ap (look P σ 0 x)=true/\L4 P T=true/\(ku P σ 0 lo).1/\(ku P σ s.size hi).1)/\(ku P σ 0 lo).2<=(ku P σ s.size hi).2/\(ku P σ s.size hi).2<=s.size,.one (.d (.str (s.extract (ku P σ 0 lo).2 (ku P σ s.size hi).2))))
  |.one (.d (.sl X Q))=>((ap (look P σ 0 x)=true/\Xr P T=true/\X=P.cellsOf (C P T)/\(ku P σ 0 lo).1/\(ku P σ Q.length hi).1)/\(ku P σ 0 lo).2<=(ku P σ Q.length hi).2/\(ku P σ Q.length hi).2<=Q.length,
    .one (.d (.sl X (cut Q (ku P σ 0 lo).2 ((ku P σ Q.length hi).2-(ku P σ 0 lo).2)))))
  |.one (.E t j o ae)=>((ap (look P σ 0 x)=true/\Xr P T=true/\(match σ.ob t j with|.arr _ X _=>X=P.cellsOf (C P T)|_=>False)/\(ku P σ 0 lo).1/\(ku P σ ae hi).1)/\(ku P σ 0 lo).2<=(ku P σ ae hi).2/\(ku P σ ae hi).2<=ae,
    .one (.E t j (o+(ku P σ 0 lo).2) ((ku P σ ae hi).2-(ku P σ 0 lo).2)))
  |_=>(False,.any))
 |.binOp op T x y _=>((ap (look P σ T x)=true/\ap (look P σ T y)=true)/\(lH P op T (unc (look P σ T x)) (unc (look P σ T y))).1,(lH P op T (unc (look P σ T x)) (unc (look P σ T y))).2)
 |.unOp .not _ x=>(match unc (look P σ 0 x)with|.one (.d (.bool b))=>(ap (look P σ 0 x)=true,.one (.d (.bool (!b))))|_=>(False,.any))
 |.unOp .neg _ x=>(match unc (look P σ 0 x)with|.one (.d (.int k n))=>(ap (look P σ 0 x)=true,.one (.d (.int k (k.wrap (-n)))))|_=>(False,.any))
 |.convert S T x=>(match unc (look P σ 0 x),cQ P T with|.one (.d (.int _ n)),some k=>(ap (look P σ 0 x)=true/\(P.underlying S).isSome=true,.one (.d (.int k (k.wrap n))))|_,_=>(False,.any))
 |.extract x i=>(match unc (look P σ 0 x)with|.O xs=>(ap (look P σ 0 x)=true/\i<xs.length/\(xs.getD i .any).flat=true,xs.getD i .any)|_=>(False,.any))
 |.field T x f=>
  (match unc (look P σ 0 x)with
  |.agg xs=>(ap (look P σ 0 x)=true/\RO P T f=true/\Uh P (Uz P T f)=true/\KU P T f+P.cellsOf (Uz P T f)<=xs.length,bm P (Uz P T f) (cut xs (KU P T f) (P.cellsOf (Uz P T f))))
  |_=>(False,.any))
 |.build T parts=>(match P8 P 12 T with|some z=>((JN P T=true/\Ie P T=true)/\(GC P σ T parts.toList z).1,.agg (GC P σ T parts.toList z).2)|none=>(False,.any))
 |.call ⟨.builtin .len,⟨[x]⟩,⟨[t]⟩⟩=>
  (match unc (look P σ t x)with
  |.one (.d (.str s))=>(ap (look P σ t x)=true/\L4 P t=true,.one (.d (.int .i64 s.size)))
  |.one (.d (.sl _ Q))=>(ap (look P σ t x)=true/\Xr P t=true,.one (.d (.int .i64 Q.length)))
  |.one (.nil _)=>(ap (look P σ t x)=true/\Xr P t=true,.one (.d (.int .i64 0)))
  |.one (.E u j _ ae)=>(ap (look P σ t x)=true/\Xr P t=true/\(match σ.ob u j with|.arr _ _ _=>True|.lit _ _=>True|_=>False),.one (.d (.int .i64 ae)))
  |.one (.Z u j i c none)=>(match σ.ob u j with
   |.arr true _ Q=>(match(rowAt Q i)[c]? with
    |some (.sl _ s)=>((ap (look P σ t x)=true/\Xr P t=true)/\i<Q.length,.one (.d (.int .i64 s.length)))
    |_=>(False,.any))
   |_=>(False,.any))
  |_=>(False,.any))
 |.call ⟨.builtin .max,⟨[x,y]⟩,_⟩=>((ao P σ x).1/\(ao P σ y).1/\b5 P σ y=b5 P σ x,.one (.d (.int (b5 P σ x) (if(ao P σ y).2>(ao P σ x).2 then(ao P σ y).2 else(ao P σ x).2))))
 |.call ⟨.builtin .min,⟨[x,y]⟩,_⟩=>((ao P σ x).1/\(ao P σ y).1/\b5 P σ y=b5 P σ x,.one (.d (.int (b5 P σ x) (if(ao P σ y).2<(ao P σ x).2 then(ao P σ y).2 else(ao P σ x).2))))
 |_=>(False,.any)
theorem ga{o:Ob}(h:(match o with|.box _=>True|_=>False)):∃E,o= .box E:=by
 cases o with
 |box c=>exact⟨c,rfl⟩
 |none=>exact h.elim
 |arr q s r=>exact h.elim
 |lit s r=>exact h.elim
theorem mK{o:Ob}(h:(match o with|.arr _ _ _=>True|_=>False)):∃q X Q,o= .arr q X Q:=by
 cases o with
 |arr q s r=>exact⟨q,s,r,rfl⟩
 |none=>exact h.elim
 |box c=>exact h.elim
 |lit s r=>exact h.elim
theorem wc{o:Ob}(h:(match o with|.arr _ _ _=>True|.lit _ _=>True|_=>False)):(∃q X Q,o= .arr q X Q)\/∃X Q,o= .lit X Q:=by
 cases o with
 |arr q s r=>exact .inl ⟨q,s,r,rfl⟩
 |none=>exact h.elim
 |box c=>exact h.elim
 |lit s r=>exact .inr ⟨s,r,rfl⟩
theorem g2{o:Ob}(h:(match o with|.arr _ X _=>X=n|_=>False)):∃q Q,o= .arr q n Q:=by
 cases o with
 |arr q s r=>simp at h;subst h;exact⟨q,r,rfl⟩
 |none=>exact h.elim
 |box c=>exact h.elim
 |lit s r=>exact h.elim
theorem q6{T:TypeId}{x y:V}(hc:(lH P op T x y).1):eN P op T x y (lH P op T x y).2:=by
 unfold lH at hc⊢;split at hc;all_goals first
  |exact hc.elim
  |exact⟨.inr hc,rfl⟩
  |exact⟨.inr hc.1,hc.2,rfl⟩
  |exact⟨.inl (.inl rfl),hc,rfl⟩
  |exact⟨.inl (.inr rfl),hc,rfl⟩
  |exact⟨hc,rfl⟩
  |rfl
  |(obtain⟨q,hq⟩:=Option.isSome_iff_exists.1 hc.2;exact⟨hc.1,q,hq,.inl ⟨rfl,by rw[hq];rfl⟩⟩)
  |(obtain⟨q,hq⟩:=Option.isSome_iff_exists.1 hc.2;exact⟨hc.1,q,hq,.inr ⟨rfl,by rw[hq];rfl⟩⟩)
theorem fS{op:Op}{A:TypeId}(hc:(aP P σ op A).1):XV P σ op A (aP P σ op A).2:=by
 unfold aP at hc⊢;split at hc
 ·rfl
 ·rfl
 ·rename_i c a b;split at hc
  ·rename_i g M;exact⟨g,_,_,hc.1.1,M,(fun hh=>hb (hc.1.2.1 hh)),(fun hh=>hb (hc.1.2.2 hh)),hc.2.1,hc.2.2,a1⟩
  ·exact hc.elim
 ·rename_i T x;unfold fe at hc⊢;simp only[XV];split at hc
  ·rename_i t c O;split at hc
   ·rename_i E ho;simp only[O,ho];exact⟨hc.1,hc.2.1,E,rfl,hc.2.2,a1⟩
   ·exact hc.elim
  ·rename_i t j i c O;split at hc
   ·rename_i X Q ho;simp only[O,ho];exact⟨hc.1.1,hc.1.2.1,_,X,Q,rfl,hc.2,hc.1.2.2,a1⟩
   ·exact hc.elim
  ·rename_i r c O;simp only[O];exact⟨hc.1,hc.2.1,hc.2.2,a1⟩
  ·rename_i t j i c k O;split at hc
   ·rename_i X Q ho;split at hc
    ·rename_i s ai;simp only[O,ho,ai];exact⟨hc.1.1,hc.1.2,X,Q,s,rfl,hc.2.1,ai,hc.2.2.1,hc.2.2.2.1,hc.2.2.2.2,a1⟩
    ·exact hc.elim
   ·exact hc.elim
  ·exact hc.elim
 ·rename_i T x f;unfold F8 at hc⊢;simp only[XV];split at hc
  ·rename_i t c O;simp only[O];exact⟨hc.1,hc.2.1,ga hc.2.2,a1⟩
  ·rename_i t j i c O;simp only[O];exact⟨hc.1,hc.2.1,mK hc.2.2,a1⟩
  ·rename_i r c O;simp only[O];exact⟨hc.1,hc.2,a1⟩
  ·rename_i t j i c k O;have h3:=hc.2.2
   split at h3
   ·rename_i X Q ho;simp only[O];exact⟨hc.1,hc.2.1,⟨X,Q,ho⟩,a1⟩
   ·exact h3.elim
  ·exact hc.elim
 ·rename_i x;simp only[XV];split at hc
  ·rename_i t c O;simp only[O];exact⟨hc.1,ga hc.2,a1⟩
  ·exact hc.elim
 ·rename_i T x ix;unfold FX at hc⊢;simp only[XV];split at hc
  ·rename_i X Q O;simp only[O];exact⟨_,_,OZ hc.1.2,hc.2.1,hc.1.1,hc.2.2.1.1,hc.2.2.1.2.1,hc.2.2.1.2.2,hc.2.2.2,a1⟩
  ·rename_i t j lo ae O;simp only[O];exact⟨_,_,OZ hc.1.2,hc.2.1,hc.1.1,hc.2.2.1.1,hc.2.2.1.2.1,g2 hc.2.2.1.2.2,hc.2.2.2,a1⟩
  ·rename_i t j m c O;have h3:=hc.2.2.2
   split at h3
   ·rename_i X Q ho;obtain⟨hm,h4⟩:=h3;split at h4
    ·rename_i n s hr;obtain⟨rfl,ac⟩:=h4;simp only[O];exact⟨_,_,OZ hc.1.2,hc.2.1,hc.1.1,hc.2.2.1.1,hc.2.2.1.2,⟨X,Q,s,ho,hm,hr,ac⟩,a1⟩
    ·exact h4.elim
   ·exact h3.elim
  ·rename_i t c O;simp only[O];refine⟨_,_,OZ hc.1.2,hc.2.1,hc.1.1,ga hc.2.2.1,?_,a1⟩;have:=hc.2.2.2
   split at this
   ·rename_i n hn;exact⟨n,hn,this.1,this.2⟩
   ·exact this.elim
  ·exact hc.elim
 ·rename_i T x ix;simp only[XV];split at hc
  ·rename_i s O;simp only[O];exact⟨_,_,OZ hc.1.2,hc.2.1,hc.1.1,hc.2.2.1,hc.2.2.2,a1⟩
  ·rename_i xs O;simp only[O];refine⟨_,_,OZ hc.1.2,hc.2.1,hc.1.1,?_,hc.2.2.2.1,hc.2.2.2.2,a1⟩;have:=hc.2.2.1
   split at this
   ·rename_i n hn;exact⟨n,hn,this⟩
   ·exact this.elim
  ·exact hc.elim
 ·rename_i T x lo hi;simp only[XV];split at hc
  ·rename_i s O;simp only[O];exact⟨hc.1.1,hc.1.2.1,_,_,Hl hc.1.2.2.1,Hl hc.1.2.2.2,hc.2.1,hc.2.2,a1⟩
  ·rename_i X Q O;simp only[O];exact⟨hc.1.1,hc.1.2.1,hc.1.2.2.1,_,_,Hl hc.1.2.2.2.1,Hl hc.1.2.2.2.2,hc.2.1,hc.2.2,a1⟩
  ·rename_i t j o ae O;simp only[O];exact⟨hc.1.1,hc.1.2.1,g2 hc.1.2.2.1,_,_,Hl hc.1.2.2.2.1,Hl hc.1.2.2.2.2,hc.2.1,hc.2.2,a1⟩
  ·exact hc.elim
 ·exact⟨hc.1.1,hc.1.2,q6 hc.2⟩
 ·simp only[XV];split at hc
  ·rename_i b O;simp only[O];exact⟨hc,a1⟩
  ·exact hc.elim
 ·simp only[XV];split at hc
  ·rename_i k n O;simp only[O];exact⟨hc,a1⟩
  ·exact hc.elim
 ·rename_i S T x;simp only[XV];split at hc
  ·rename_i d n k O hk;simp only[O,hk];exact⟨hc.1,hc.2,k,rfl,a1⟩
  ·exact hc.elim
 ·rename_i x i;simp only[XV];split at hc
  ·rename_i xs O;simp only[O];exact⟨hc.1,by simp[List.getD_eq_getElem?_getD,List.getElem?_eq_getElem hc.2.1],hc.2.2⟩
  ·exact hc.elim
 ·simp only[XV];split at hc
  ·rename_i xs O;simp only[O];exact⟨hc.1,hc.2.1,hc.2.2.1,hc.2.2.2,a1⟩
  ·exact hc.elim
 ·simp only[XV];split at hc
  ·rename_i z hz;exact⟨hc.1.1,hc.1.2,z,_,hz,s9 hc.2,a1⟩
  ·exact hc.elim
 ·simp only[XV];split at hc
  ·rename_i s O;simp only[O];exact⟨hc.1,hc.2,a1⟩
  ·rename_i s Q O;simp only[O];exact⟨hc.1,hc.2,a1⟩
  ·rename_i s O;simp only[O];exact⟨hc.1,hc.2,a1⟩
  ·rename_i u j lo ae O;simp only[O];exact⟨hc.1,hc.2.1,wc hc.2.2,a1⟩
  ·rename_i u j i c O;split at hc
   ·rename_i Q ho;split at hc
    ·rename_i s ai;simp only[O,ho,ai];exact⟨hc.1.1,hc.1.2,_,Q,_,s,rfl,hc.2,ai,a1⟩
    ·exact hc.elim
   ·exact hc.elim
  ·exact hc.elim
 ·simp only[XV];have hy:=OZ hc.2.1
  rw[hc.2.2]at hy;exact⟨_,_,_,OZ hc.1,hy,a1⟩
 ·simp only[XV];have hy:=OZ hc.2.1
  rw[hc.2.2]at hy;exact⟨_,_,_,OZ hc.1,hy,a1⟩
 ·exact hc.elim
open Go.RowKit
variable{cl:Call}
def GK(P:Program)(σ:J)(T:TypeId)(X:Nat):List (Nat×Operand)->Nat->Prop×List (List D)
 |[],_=>(True,[])
 |(i,x)::R,k=>((i=k/\ap (look P σ T x)=true/\(unc (look P σ T x)).flat=true/\qZ (unc (look P σ T x)).cells=true/\(rowOf σ (unc (look P σ T x)).cells).isSome=true/\((rowOf σ (unc (look P σ T x)).cells).getD []).length=X)/\(GK P σ T X R (k+1)).1,
   (rowOf σ (unc (look P σ T x)).cells).getD []::(GK P σ T X R (k+1)).2)
theorem mc{P:Program}{σ:J}{T:TypeId}{X:Nat}:∀{R:List (Nat×Operand)}{k:Nat},(GK P σ T X R k).1->BF P σ T X R k (GK P σ T X R k).2
 |[],_,_=>rfl
 |(_,x)::_,_,h=>by
  obtain⟨⟨M,Z,h3,h4,h5,h6⟩,h7⟩:=h;obtain⟨r,hr⟩:=Option.isSome_iff_exists.1 h5;refine⟨M,Z,h3,h4,r,_,hr,?_,mc h7,?_⟩
  ·rw[hr]at h6;exact h6
  ·simp only[GK,hr,Option.getD_some]
def Gc(σ:J)(x:V)(X:Nat):Prop×List (List D)×J:=
 match x with
 |.one (.nil _)=>(True,[],σ)
 |.one (.E t j lo ae)=>(match σ.ob t j with|.arr false s au=>(s=X/\lo=0/\ae=au.length,au,σ.Yg t j .none)|_=>(False,[],σ))
 |_=>(False,[],σ)
theorem A5{x:V}(h:(Gc σ x X).1):GW σ x X (Gc σ x X).2.1 (Gc σ x X).2.2:=by
 unfold Gc at h⊢;split at h
 ·exact⟨rfl,rfl⟩
 ·rename_i t j lo ae;split at h
  ·rename_i s au ho;obtain⟨rfl,rfl,rfl⟩:=h;exact⟨au,ho,rfl,Nat.le_refl _,(List.take_length).symm,rfl⟩
  ·exact h.elim
 ·exact h.elim
def BG(σ:J)(x:V)(X:Nat):Prop×List (List D):=
 match x with
 |.one (.d (.sl s Q))=>(s=X,Q)
 |.one (.nil _)=>(True,[])
 |.one (.E t j lo ae)=>(match σ.ob t j with|.arr false s Q=>(s=X/\lo+ae<=Q.length,cut Q lo ae)|_=>(False,[]))
 |_=>(False,[])
theorem ZC{x:V}(h:(BG σ x X).1):y9 σ x X (BG σ x X).2:=by
 unfold BG at h⊢;split at h
 ·exact⟨h,rfl⟩
 ·rfl
 ·rename_i t j lo ae;split at h
  ·rename_i s Q ho;obtain⟨rfl,aA⟩:=h;exact⟨Q,ho,aA,rfl⟩
  ·exact h.elim
 ·exact h.elim
def bw(P:Program)(σ:J)(o:Oper)(d:Nat):Prop×J:=
 match o.op with
 |.alloc T=>(match P8 P 12 T with|some L=>(σ.fresh d=true/\JN P T=true,σ.new d (.one (.O d 0)) [.box L])|none=>(False,σ))
 |.box T x=>(σ.fresh d=true/\ap (look P σ T x)=true/\(unc (look P σ T x)).flat=true/\U d (unc (look P σ T x)).cells=false,σ.new d (.one (.O d 0)) [.box (unc (look P σ T x)).cells])
 |.buildSlice T n parts=>((σ.fresh d=true/\Xr P T=true/\JN P (C P T)=true/\0<P.cellsOf (C P T)/\parts.toList.length=n/\n*P.cellsOf (C P T)<=16777216)/\(GK P σ (C P T) (P.cellsOf (C P T)) parts.toList 0).1,
   σ.new d (.one (.E d 0 0 (GK P σ (C P T) (P.cellsOf (C P T)) parts.toList 0).2.length)) [.arr false (P.cellsOf (C P T)) (GK P σ (C P T) (P.cellsOf (C P T)) parts.toList 0).2])
 |.makeSlice T x y=>(match P8 P 12 (C P T)with
   |some z=>(match zD z with
    |some I=>((x=y/\σ.fresh d=true/\Xr P T=true/\JN P (C P T)=true/\0<P.cellsOf (C P T)/\(ao P σ x).1)/\0<=(ao P σ x).2/\P.bytesOf (C P T)*(ao P σ x).2.toNat<=281474976710656/\(ao P σ x).2<=9223372036854775807,
      σ.new d (.one (.E d 0 0 (ao P σ x).2.toNat)) [.arr false (P.cellsOf (C P T)) (List.replicate (ao P σ x).2.toNat I)])
    |none=>(False,σ))
   |none=>(False,σ))
 |.call ⟨.builtin .append,⟨[x,y]⟩,⟨[t,t']⟩⟩=>
   (((t=t'/\ap (look P σ t x)=true/\ap (look P σ t y)=true/\Xr P t=true/\JN P (C P t)=true/\0<P.cellsOf (C P t))/\(Gc σ (unc (look P σ t x)) (P.cellsOf (C P t))).1/\(BG σ (unc (look P σ t y)) (P.cellsOf (C P t))).1/\(Gc σ (unc (look P σ t x)) (P.cellsOf (C P t))).2.2.fresh d=true)/\
    ((Gc σ (unc (look P σ t x)) (P.cellsOf (C P t))).2.1.length+(BG σ (unc (look P σ t y)) (P.cellsOf (C P t))).2.length)*P.bytesOf (C P t)<=140737488355328/\
    (Gc σ (unc (look P σ t x)) (P.cellsOf (C P t))).2.1.length+(BG σ (unc (look P σ t y)) (P.cellsOf (C P t))).2.length<=9223372036854775807,
   (Gc σ (unc (look P σ t x)) (P.cellsOf (C P t))).2.2.new d (.one (.E d 0 0 ((Gc σ (unc (look P σ t x)) (P.cellsOf (C P t))).2.1.length+(BG σ (unc (look P σ t y)) (P.cellsOf (C P t))).2.length)))
    [.arr false (P.cellsOf (C P t)) ((Gc σ (unc (look P σ t x)) (P.cellsOf (C P t))).2.1++(BG σ (unc (look P σ t y)) (P.cellsOf (C P t))).2)])
 |op=>((aP P σ op o.type).1,σ.put d (aP P σ op o.type).2)
def fO(P:Program)(σ:J)(T:TypeId)(x y:Operand):Prop×J:=
 match unc (look P σ 0 x)with
 |.one (.O t c)=>(match σ.ob t 0 with
  |.box E=>(Uh P T=true/\ap (look P σ 0 x)=true/\ap (look P σ T y)=true/\(unc (look P σ T y)).flat=true/\(unc (look P σ T y)).cells.length=P.cellsOf T/\c+P.cellsOf T<=E.length,σ.Yg t 0 (.box (place E c (unc (look P σ T y)).cells)))
  |_=>(False,σ))
 |.one (.ptr t j i c)=>(match σ.ob t j with
  |.arr q X Q=>((Uh P T=true/\ap (look P σ 0 x)=true/\ap (look P σ T y)=true/\(unc (look P σ T y)).flat=true/\(rowOf σ (unc (look P σ T y)).cells).isSome=true/\qZ (unc (look P σ T y)).cells=true/\((rowOf σ (unc (look P σ T y)).cells).getD []).length=P.cellsOf T/\c+P.cellsOf T<=X)/\i<Q.length/\(q=true->((rowOf σ (unc (look P σ T y)).cells).getD []).all D.scalar=true/\(cut (rowAt Q i) c (P.cellsOf T)).all D.scalar=true),
    σ.Yg t j (.arr q X (Q.set i (place (rowAt Q i) c ((rowOf σ (unc (look P σ T y)).cells).getD [])))))
  |_=>(False,σ))
 |_=>(False,σ)
theorem iQ(a:∀c,o.op= .call c->∀f,c.callee≠ .value (.func f))(hc:(bw P σ o d).1):aD P o d σ (bw P σ o d).2:=by
 unfold bw at hc⊢;split at hc
 ·rename_i T A;unfold aD;rw[A];split at hc
  ·rename_i L ay;simp only[ay];exact⟨hc.1,hc.2,L,rfl,rfl⟩
  ·exact hc.elim
 ·rename_i T x A;unfold aD;rw[A];exact⟨hc.1,hc.2.1,hc.2.2.1,hc.2.2.2,rfl⟩
 ·rename_i T n parts A;unfold aD;rw[A];obtain⟨⟨M,Z,h3,h4,h5,h6⟩,h7⟩:=hc;exact .inl ⟨M,Z,h3,h4,h5,h6,.inl ⟨_,mc h7,rfl⟩⟩
 ·rename_i T x y A;unfold aD;rw[A];split at hc
  ·rename_i z hz;split at hc
   ·rename_i I D;obtain⟨⟨M,Z,h3,h4,h5,h6⟩,h7,h8,h9⟩:=hc;have hl:=OZ h6
    simp only[hz];refine⟨M,Z,h3,h4,h5,false,z,I,b5 P σ x,(ao P σ x).2.toNat,(fun hh=>by cases hh),rfl,D,?_,h8,Y,rfl⟩;rw[Int.toNat_of_nonneg h7];exact hl
   ·exact hc.elim
  ·exact hc.elim
 ·rename_i x y t t' A;unfold aD;rw[A];obtain⟨⟨⟨rfl,M,Z,h3,h4,h5⟩,h6,h7,h8⟩,h9,al⟩:=hc;exact⟨x,y,t,rfl,rfl,M,Z,h3,h4,h5,_,_,_,A5 h6,ZC h7,h8,h9,al,rfl⟩
 ·rename_i op M Z h3 h4 h5;have hv:=fS hc
  unfold aD;split
  ·rename_i T A;exact absurd A (M T)
  ·rename_i T x A;exact absurd A (Z T x)
  ·rename_i T n R A;exact absurd A (h3 T n R)
  ·rename_i T x y A;exact absurd A (h4 T x y)
  ·rename_i c A;split
   ·rename_i b;rw[A]at hv;simp only[XV]at hv;split at hv
    ·rename_i C _ _;rw[b]at C;cases C
    ·rename_i C _;rw[b]at C;cases C
    ·rename_i C _;rw[b]at C;cases C
    ·exact hv.elim
   ·rename_i f b;exact absurd b (a c A f)
   ·exact⟨_,hv,rfl⟩
  ·exact .inl ⟨_,hv,rfl⟩
  ·exact⟨_,hv,rfl⟩
theorem pf{T:TypeId}(hc:(fO P σ T x y).1):Vv P σ T x y (fO P σ T x y).2:=by
 unfold fO at hc⊢;unfold Vv;split at hc
 ·rename_i t c O;split at hc
  ·rename_i E ho;obtain⟨M,Z,h3,h4,h5,h6⟩:=hc;first|(rw[O];simp only[ho])|simp only[ho]
   exact⟨M,Z,h3,h4,E,rfl,h5,h6,rfl⟩
  ·exact hc.elim
 ·rename_i t j i c O;split at hc
  ·rename_i q X Q ho;obtain⟨⟨M,Z,h3,h4,h5,h6,h7,h8⟩,h9,al⟩:=hc;obtain⟨ds,z⟩:=Option.isSome_iff_exists.1 h5;first|(rw[O];simp only[ho])|simp only[ho]
   refine⟨M,Z,h3,h4,q,X,Q,ds,rfl,h9,z,h6,?_,h8,fun hq=>?_,?_⟩
   ·rw[z]at h7;exact h7
   ·have:=al hq;rw[z]at this;exact this
   ·rw[z];rfl
  ·exact hc.elim
 ·exact hc.elim
def fL:List At->Bool
 |[]=>false
 |.nil _::_=>true
 |_::xs=>fL xs
def dK(P:Program)(T:TypeId):Bool:=match P8 P 12 (C P T)with|some z=>fL z|none=>false
def gC:List At->Bool
 |[]=>true
 |.d (.sl _ _)::_=>false
 |.d _::xs=>gC xs
 |_=>false
def gh(P:Program)(σ:J)(T:TypeId)(x y:Operand):Bool:=
 match unc (look P σ 0 x)with
 |.one (.ptr t j _ _)=>(match σ.ob t j with|.arr true _ _=>!gC (unc (look P σ T y)).cells|_=>false)
 |.one (.Z _ _ _ _ (some _))=>true
 |_=>false
def eD(P:Program)(ah:Oper->Bool)(o:Oper):Bool:=
 match o.op with
 |.call ⟨.value _,_,_⟩=>true
 |.call ⟨.builtin .append,_,⟨t::_⟩⟩=>dK P t
 |.buildSlice T _ _=>dK P T||hq ah o
 |.makeSlice T _ _=>dK P T
 |.makeFunc _ _ _=>true
 |.convert _ T _=>(cQ P T).isNone
 |.indexAddr _ _ _=>o.guard.isSome
 |.index _ _ _=>o.guard.isSome
 |.slice _ _ _ _ _=>o.guard.isSome
 |_=>false
def U8(P:Program)(N:Array Oper)(ah:Oper->Bool)(o:Oper)(ai:List Oper)(σ:J)(af:J->Prop):Prop:=∃σ',kp P N ah o σ σ'/\im P N ah ai σ' af
def Ev(P:Program)(N:Array Oper)(ah:Oper->Bool):List Oper->J->(J->Prop)->Prop
 |[],σ,af=>af σ
 |o::ai,σ,af=>
  if eD P ah o then U8 P N ah o ai σ af else
  match o.guard with
  |none=>
   (match o.dst with
   |some d=>(bw P σ o d).1/\Ev P N ah ai (bw P σ o d).2 af
   |none=>(match o.op with|.store T x y=>if gh P σ T x y then U8 P N ah o ai σ af else(fO P σ T x y).1/\Ev P N ah ai (fO P σ T x y).2 af|_=>False))
  |some (j,aM)=>
   (match(N[j]?).bind (·.dst),o.dst with
   |some E,some d=>(match TK aM (σ.get E)with
    |some g=>(E<σ.length/\(g=true->(aP P σ o.op o.type).1/\ap (aP P σ o.op o.type).2=true/\(unc (aP P σ o.op o.type).2).flat=true))/\Ev P N ah ai (σ.put d (.E g (unc (aP P σ o.op o.type).2))) af
    |none=>False)
   |_,_=>False)
theorem Kh{P:Program}{N:Array Oper}{ah:Oper->Bool}:∀{l:List Oper}{σ:J}{af:J->Prop},Ev P N ah l σ af->im P N ah l σ af
 |[],_,_,h=>h
 |o::ai,σ,af,h=>by
  unfold Ev at h;split at h
  ·exact h
  ·rename_i ar;have a:∀c,o.op= .call c->∀f,c.callee≠ .value (.func f):=by intro c A f b;obtain⟨cc,G,W⟩:=c;simp only at b;subst b;exact ar (by simp[eD,A])
   split at h
   ·rename_i hg;split at h
    ·rename_i d hd;refine⟨_,.inl ?_,Kh h.2⟩;unfold X8;simp only[hg,hd];exact iQ a h.1
    ·rename_i hd;split at h
     ·rename_i T x y A;split at h
      ·exact h
      ·refine⟨_,.inl ?_,Kh h.2⟩;unfold X8;simp only[hg,hd,A];exact pf h.1
     ·exact h.elim
   ·rename_i j aM hg;split at h
    ·rename_i E d i hd;split at h
     ·rename_i g C;refine⟨_,.inl ?_,Kh h.2⟩;unfold X8;simp only[hg];refine⟨E,d,g,_,i,h.1.1,hd,C,fun p=>?_,rfl⟩;obtain⟨M,Z,h3⟩:=h.1.2 p;have ay:∃z,XV P σ o.op o.type z/\ap z=true/\unc (aP P σ o.op o.type).2=unc z/\(unc (aP P σ o.op o.type).2).flat=true:=⟨_,fS M,Z,rfl,h3⟩
      unfold wS;split
      ·rename_i c A;split
       ·rename_i f b;exact absurd b (a c A f)
       ·exact ay
      ·exact ay
     ·exact h.elim
    ·exact h.elim
theorem n6{af:Exit->J->Prop}{l:List Oper}(h:Ev P l.toArray ah l σ (af .normal)):aX P (.region ri l.toArray false) af σ:=Bn (Kh h)
theorem rj{c:Call}{own:Bool}(A:o.op= .call c)(hc:c.callee= .value (.func f))(hg:o.guard=none)(hd:o.dst=some d)
  (am:Jx P σ c.args.toList c.argTypes.toList Q) (U:KJ P f own Q ag) (ar:XB P σ c.args.toList c.argTypes.toList=true\/yl own ag) (h:Ev P N ah ai (σ.put d (SW ag)) af):U8 P N ah o ai σ af:=by
 refine⟨_,.inl ?_,Kh h⟩;unfold X8;simp only[hg,hd];unfold aD;rw[A];simp only[hc];exact .inl ⟨own,ag,⟨Q,am,U,ar⟩,rfl⟩
theorem Lx{c:Call}(A:o.op= .call c)(hc:c.callee= .value (.func f))(hg:o.guard=none)(hd:o.dst=some d)
  (am:Jx P σ c.args.toList c.argTypes.toList Q) (U:KJ P f true Q ag) (ar:XB P σ c.args.toList c.argTypes.toList=true\/yl true ag) (hf:σ.fresh d=true) (h:Ev P N ah ai (σ.new d (Mz d ag) (UK ag.flatten)) af):U8 P N ah o ai σ af:=by
 refine⟨_,.inl ?_,Kh h⟩;unfold X8;simp only[hg,hd];unfold aD;rw[A];simp only[hc];exact .inr (.inl ⟨ag,⟨Q,am,U,ar⟩,hf,rfl⟩)
theorem tb{c:Call}{own:Bool}{ag:List D}(A:o.op= .call c)(hc:c.callee= .value (.func f))(hg:o.guard=some (j,aM))(hd:o.dst=some d)
  (i:(N[j]?).bind (·.dst)=some E) (ac:E<σ.length) (C:TK aM (σ.get E)=some g)
  (am:g=true->Jx P σ c.args.toList c.argTypes.toList Q) (U:g=true->KJ P f own Q [ag]) (ar:XB P σ c.args.toList c.argTypes.toList=true\/yl own [ag]) (h:Ev P N ah ai (σ.put d (.E g (SW [ag]))) af):U8 P N ah o ai σ af:=by
 refine⟨_,.inl ?_,Kh h⟩;unfold X8;simp only[hg];refine⟨E,d,g,_,i,ac,hd,C,fun p=>?_,rfl⟩;unfold wS;rw[A];simp only[hc];exact⟨own,ag,⟨Q,am p,U p,ar⟩,rfl⟩
theorem s5{S T:TypeId}{l:List UInt8}(A:o.op= .convert S T x)(hg:o.guard=none)(hd:o.dst=some d)
  (M:ap (look P σ S x)=true) (Z:F4 P S=true) (h3:L4 P T=true) (h4:y9 σ (unc (look P σ S x)) 1 (y8 l)) (h:Ev P N ah ai (σ.put d (.one (.d (.str ⟨l.toArray⟩)))) af):U8 P N ah o ai σ af:=by
 refine⟨_,.inl ?_,Kh h⟩;unfold X8;simp only[hg,hd];unfold aD;rw[A];exact .inr (.inl ⟨l,M,Z,h3,h4,rfl⟩)
theorem ln{S T:TypeId}{s:ByteArray}(A:o.op= .convert S T x)(hg:o.guard=none)(hd:o.dst=some d)
  (M:ap (look P σ S x)=true) (Z:L4 P S=true) (h3:F4 P T=true) (h4:unc (look P σ S x)= .one (.d (.str s))) (h5:s.size<=9223372036854775807) (h:Ev P N ah ai (σ.put d (.one (.d (.sl 1 (y8 s.data.toList))))) af):U8 P N ah o ai σ af:=by
 refine⟨_,.inl ?_,Kh h⟩;unfold X8;simp only[hg,hd];unfold aD;rw[A];exact .inr (.inr ⟨s,M,Z,h3,h4,h5,rfl⟩)
theorem p1(a:∀c,o.op= .call c->∀f,c.callee≠ .value (.func f))(hg:o.guard=none)(hd:o.dst=some d)
  (M:(bw P σ o d).1) (h:Ev P N ah ai (bw P σ o d).2 af):U8 P N ah o ai σ af:=by
 refine⟨_,.inl ?_,Kh h⟩;unfold X8;simp only[hg,hd];exact iQ a M
theorem pk{c:Call}(qs:List Bool)(A:o.op= .call c)(hc:c.callee= .value (.func f))(hg:o.guard=none)(hd:o.dst=some d)
  (am:Jx P σ c.args.toList c.argTypes.toList Q) (U:Z7 P f Q ag) (hq:Re qs ag.flatten) (hf:σ.fresh d=true) (h:Ev P N ah ai (σ.new d (Mz d ag) (Ya qs ag.flatten)) af):U8 P N ah o ai σ af:=by
 refine⟨_,.inl ?_,Kh h⟩;unfold X8;simp only[hg,hd];unfold aD;rw[A];simp only[hc];exact .inr (.inr ⟨Q,ag,qs,am,U,hq,hf,rfl⟩)
def qT(P:Program)(σ:J)(T:TypeId)(X:Nat):List (Nat×Operand)->Nat->Prop×List (List At)
 |[],_=>(True,[])
 |(i,x)::R,k=>((i=k/\ap (look P σ T x)=true/\(unc (look P σ T x)).flat=true/\(unc (look P σ T x)).cells.length=X)/\(qT P σ T X R (k+1)).1,(unc (look P σ T x)).cells::(qT P σ T X R (k+1)).2)
theorem sn{P:Program}{σ:J}{T:TypeId}{X:Nat}:∀{R:List (Nat×Operand)}{k:Nat},(qT P σ T X R k).1->Bi P σ T X R k (qT P σ T X R k).2
 |[],_,_=>rfl
 |(_,x)::_,_,h=>by obtain⟨⟨M,Z,h3,h4⟩,h7⟩:=h;exact⟨M,Z,h3,h4,_,sn h7,rfl⟩
theorem Ac{T:TypeId}(A:o.op= .buildSlice T n parts)(hg:o.guard=none)(hd:o.dst=some d)
  (M:σ.fresh d=true/\Xr P T=true/\JN P (C P T)=true/\0<P.cellsOf (C P T)/\parts.toList.length=n/\n*P.cellsOf (C P T)<=16777216) (Z:(qT P σ (C P T) (P.cellsOf (C P T)) parts.toList 0).1)
  (h3:U d (qT P σ (C P T) (P.cellsOf (C P T)) parts.toList 0).2.flatten=false)
  (h:Ev P N ah ai (σ.new d (.one (.E d 0 0 (qT P σ (C P T) (P.cellsOf (C P T)) parts.toList 0).2.length)) [.lit (P.cellsOf (C P T)) (qT P σ (C P T) (P.cellsOf (C P T)) parts.toList 0).2]) af):U8 P N ah o ai σ af:=by
 refine⟨_,.inl ?_,Kh h⟩;unfold X8;simp only[hg,hd];unfold aD;rw[A];exact .inl ⟨M.1,M.2.1,M.2.2.1,M.2.2.2.1,M.2.2.2.2.1,M.2.2.2.2.2,.inr ⟨_,sn Z,h3,rfl⟩⟩
def Ma(σ:J)(x:V)(X:Nat):Prop×List (List D)×List (Nat×Nat):=
 match x with
 |.one (.nil _)=>(True,[],[])
 |.one (.E t j lo ae)=>(match σ.ob t j with|.arr true s au=>(s=X/\lo=0/\ae=au.length,au,[(t,j)])|_=>(False,[],[]))
 |_=>(False,[],[])
theorem mm{x:V}(h:(Ma σ x X).1):dc σ x X (Ma σ x X).2.1 (Ma σ x X).2.2:=by
 unfold Ma at h⊢;split at h
 ·exact⟨rfl,rfl⟩
 ·rename_i t j lo ae;split at h
  ·rename_i s au ho;obtain⟨rfl,rfl,rfl⟩:=h;exact⟨ho,rfl,rfl,rfl⟩
  ·exact h.elim
 ·exact h.elim
def MU(σ:J)(x:V)(X:Nat):Prop×List (List D)×List (Nat×Nat):=
 match x with
 |.one (.E t j lo ae)=>(match σ.ob t j with|.lit s Q=>((s=X/\lo=0/\ae=Q.length)/\(jg σ Q).isSome=true/\y3 σ Q,(jg σ Q).getD [],Ye Q.flatten)|_=>(False,[],[]))
 |_=>(False,[],[])
theorem nF{x:V}(h:(MU σ x X).1):cM σ x X (MU σ x X).2.1 (MU σ x X).2.2:=by
 unfold MU at h⊢;split at h
 ·rename_i t j lo ae;split at h
  ·rename_i s Q ho;obtain⟨⟨rfl,rfl,rfl⟩,M,Z⟩:=h;obtain⟨b,a⟩:=Option.isSome_iff_exists.1 M;exact⟨Q,ho,rfl,rfl,by rw[a];rfl,Z,rfl⟩
  ·exact h.elim
 ·exact h.elim
theorem IH:∀(σ:J)(d:Nat)(v:V)(t:Nat),(σ.put d v)[t]?=if t=d then(σ[t]?).map (fun e=>(v,e.2))else σ[t]?
 |[],_,_,_=>by simp[J.put]
 |e::σ,0,v,t=>by cases t<;>simp[J.put]
 |e::σ,d+1,v,t=>by
  cases t with
  |zero=>simp[J.put]
  |succ t=>have:=IH σ d v t;simpa[J.put]using this
theorem SC:∀(σ:J)(d:Nat)(v:V)(aa:List Ob)(t:Nat),(σ.new d v aa)[t]?=if t=d then(σ[t]?).map (fun _=>(v,aa))else σ[t]?
 |[],_,_,_,_=>by simp[J.new]
 |e::σ,0,v,aa,t=>by cases t<;>simp[J.new]
 |e::σ,d+1,v,aa,t=>by
  cases t with
  |zero=>simp[J.new]
  |succ t=>have:=SC σ d v aa t;simpa[J.new]using this
theorem Ta:∀(σ:J)(a j:Nat)(o:Ob)(t:Nat),(σ.Yg a j o)[t]?=if t=a then(σ[t]?).map (fun e=>(e.1,e.2.set j o))else σ[t]?
 |[],_,_,_,_=>by simp[J.Yg]
 |e::σ,0,j,o,t=>by cases t<;>simp[J.Yg]
 |e::σ,a+1,j,o,t=>by
  cases t with
  |zero=>simp[J.Yg]
  |succ t=>have:=Ta σ a j o t;simpa[J.Yg]using this
theorem Iu:Ql σ d=true↔σ[d]?=some (.any,[])\/∃x,σ[d]?=some (.one (.d x),[]):=by
 unfold Ql;constructor
 ·intro h;split at h
  ·rename_i M;exact .inl M
  ·rename_i x M;exact .inr ⟨x,M⟩
  ·cases h
 ·rintro(h|⟨x,h⟩)<;>rw[h]
theorem KK{a:Nat}{o:Ob}(h:Ql σ d=true):Ql (σ.Yg a j o) d=true:=by
 rw[Iu]at*;rw[Ta];rcases h with h|⟨x,h⟩
 ·left;rw[h];split<;>rfl
 ·right;refine⟨x,?_⟩;rw[h];split<;>rfl
theorem Jt:∀{l:List (Nat×Nat)}{σ:J}{d:Nat},Ql σ d=true->Ql (σ.YC l) d=true
 |[],_,_,h=>h
 |p::l,σ,d,h=>by rw[J.YC];exact Jt (l:=l) (KK h)
theorem Nn(W:d≠d')(h:Ql σ d=true):Ql (σ.new d' v aa) d=true:=by unfold Ql at*;simp only[SC,if_neg W];exact h
theorem X1{T:TypeId}(h:Vs d x=false):look P (σ.put d v) T x=look P σ T x:=by
 cases x with
 |tmp t=>
  have W:t≠d:=fun e=>by subst e;simp[Vs]at h
  simp[look,J.js,W]
 |const c=>rfl
 |global g=>rfl
 |func f=>rfl
theorem U0:∀(σ:J)(d:Nat)(v:V)(t j:Nat)(o:Ob),(σ.put d v).Yg t j o=(σ.Yg t j o).put d v
 |[],_,_,_,_,_=>rfl
 |e::σ,0,v,0,j,o=>rfl
 |e::σ,d+1,v,0,j,o=>rfl
 |e::σ,0,v,t+1,j,o=>rfl
 |e::σ,d+1,v,t+1,j,o=>by simp[J.put,J.Yg,U0 σ d v t j o]
theorem M8{d:Nat}{v:V}:∀(l:List (Nat×Nat))(σ:J),(σ.put d v).YC l=(σ.YC l).put d v
 |[],_=>rfl
 |p::l,σ=>by rw[J.YC,J.YC,U0,M8 l]
theorem wy{σ:J}{d:Nat}{v:V}:∀(xs:List At),JF (σ.put d v) xs=JF σ xs
 |[]=>rfl
 |x::xs=>by
  have:a2 (σ.put d v) x=a2 σ x:=by cases x<;>simp[a2,J.Ku]
  simp only[JF,this,wy xs]
theorem EJ{σ:J}{d:Nat}{v:V}:∀(xs:List At),QQ (σ.put d v) xs=QQ σ xs
 |[]=>rfl
 |x::xs=>by
  have:tM (σ.put d v) x=tM σ x:=by cases x<;>simp[tM,J.Ku]
  simp only[QQ,this,EJ xs]
theorem Es:∀(l:List (Nat×V))(σ:J),(σ.Ks l).ob=σ.ob
 |[],_=>rfl
 |p::l,σ=>by rw[J.Ks,Es l,J.Ku]
theorem PI{P:Program}{T:TypeId}{x:Operand}:∀(l:List (Nat×V))(σ:J),(∀p∈l,Vs p.1 x=false)->look P (σ.Ks l) T x=look P σ T x
 |[],_,_=>rfl
 |p::l,σ,h=>by rw[J.Ks,PI l _ (fun q hq=>h q (by simp[hq])),X1 (h p ab)]
theorem T5{t j:Nat}{o:Ob}:∀(l:List (Nat×V))(σ:J),(σ.Ks l).Yg t j o=(σ.Yg t j o).Ks l
 |[],_=>rfl
 |p::l,σ=>by rw[J.Ks,T5 l,U0,J.Ks]
theorem WQ{L:List (Nat×Nat)}:∀(l:List (Nat×V))(σ:J),(σ.Ks l).YC L=(σ.YC L).Ks l
 |[],_=>rfl
 |p::l,σ=>by rw[J.Ks,WQ l,M8,J.Ks]
theorem gs:∀{σ:J}{t d:Nat}{v U:V}{aa:List Ob},t≠d->(σ.put t U).new d v aa=(σ.new d v aa).put t U
 |[],_,_,_,_,_,_=>rfl
 |e::σ,0,0,_,_,_,h=>absurd rfl h
 |e::σ,0,d+1,_,_,_,_=>rfl
 |e::σ,t+1,0,_,_,_,_=>rfl
 |e::σ,t+1,d+1,v,U,aa,h=>by simp[J.put,J.new,gs (σ:=σ) (v:=v) (U:=U) (aa:=aa) (fun hh=>h (congrArg (·+1) hh))]
theorem iS{d:Nat}{v:V}{aa:List Ob}:∀(l:List (Nat×V))(σ:J),(∀p∈l,p.1≠d)->(σ.Ks l).new d v aa=(σ.new d v aa).Ks l
 |[],_,_=>rfl
 |p::l,σ,h=>by rw[J.Ks,iS l _ (fun q hq=>h q (by simp[hq])),gs (h p ab),J.Ks]
theorem Dj{d:Nat}{v:V}(hv:v.ref d=false):∀{σ:J}{k t:Nat},jt d k σ=true->jt d k (σ.put t v)=true
 |[],_,_,h=>h
 |e::σ,k,0,h=>by simp only[jt,J.put,Bool.and_eq_true,Bool.or_eq_true,Bool.not_eq_true']at h⊢;exact⟨h.1.imp id (fun hh=>⟨hv,hh.2⟩),h.2⟩
 |e::σ,k,t+1,h=>by simp only[jt,J.put,Bool.and_eq_true]at h⊢;exact⟨h.1,Dj hv h.2⟩
theorem H7{d:Nat}:∀(l:List (Nat×V)){σ:J},(∀p∈l,p.2.ref d=false)->σ.fresh d=true->(σ.Ks l).fresh d=true
 |[],_,_,h=>h
 |p::l,σ,hl,h=>by refine H7 l (fun q hq=>hl q (by simp[hq])) ?_;simp only[J.fresh,Bool.and_eq_true,decide_eq_true_eq,J.zP]at h⊢;exact⟨h.1,Dj (hl p ab) h.2⟩
theorem Nu{t:TypeId}(A:o.op= .call ⟨.builtin .append,#[x,y],#[t,t]⟩)(h:Dh o n=true):Vs n x=false/\Vs n y=false:=by
 have O:x∈o.op.operands.toList:=by rw[A];simp[Op.operands,Call.operands]
 have hy:y∈o.op.operands.toList:=by rw[A];simp[Op.operands,Call.operands]
 simp only[Dh,Bool.not_eq_true']at h;exact⟨Bool.eq_false_iff.2 (List.any_eq_false.1 h x O),Bool.eq_false_iff.2 (List.any_eq_false.1 h y hy)⟩
theorem kw{σ σ':J}(h:σ'.ob=σ.ob):∀(xs:List At),JF σ' xs=JF σ xs
 |[]=>rfl
 |x::xs=>by
  have:a2 σ' x=a2 σ x:=by cases x<;>simp[a2,h]
  simp only[JF,this,kw h xs]
theorem po{σ σ':J}(h:σ'.ob=σ.ob):∀(xs:List At),QQ σ' xs=QQ σ xs
 |[]=>rfl
 |x::xs=>by
  have:tM σ' x=tM σ x:=by cases x<;>simp[tM,h]
  simp only[QQ,this,po h xs]
theorem mr{σ σ':J}(h:σ'.ob=σ.ob):∀(xs:List (List At)),jg σ' xs=jg σ xs
 |[]=>rfl
 |x::xs=>by simp only[jg,kw h,mr h xs]
theorem vk{σ σ':J}(h:σ'.ob=σ.ob):∀(xs:List (List At)),y3 σ' xs=y3 σ xs
 |[]=>rfl
 |x::xs=>by simp only[y3,po h,vk h xs]
theorem z1(h:σ'.ob=σ.ob){x:V}(hd:dc σ x X au l):dc σ' x X au l:=by unfold dc at*;rw[h];exact hd
theorem m5(h:σ'.ob=σ.ob){x:V}(hd:cM σ x X am l):cM σ' x X am l:=by unfold cM at*;simp only[h,mr h,vk h];exact hd
theorem yt(h:σ'.ob=σ.ob){x:V}(hd:dB σ x X au l):dB σ' x X au l:=by unfold dB at*;rw[h];exact hd
theorem lG{d:Nat}:∀{aa:List Ob}{j:Nat}{E:List At},Xi d aa=false->Y6 aa j= .box E->U d E=false
 |[],j,E,_,h=>by simp[Y6]at h
 |o::aa,0,E,hr,h=>by simp only[Y6,List.getElem?_cons_zero]at h;subst h;simp only[Xi,Bool.or_eq_false_iff]at hr;exact hr.1
 |o::aa,j+1,E,hr,h=>by have h':Y6 aa j= .box E:=dl;refine lG (aa:=aa) (j:=j) ?_ h';cases o<;>simp only[Xi,Bool.or_eq_false_iff]at hr<;>first|exact hr.2|exact hr
theorem su{ad:J}(hd:o.dst=some d)(az:ad.length=σ.length)(af:∀t,ad.get t=σ.get t)(B:∀t j E,ad.ob t j= .box E->σ.ob t j= .box E)
  (L:∀t j q s Q,ad.ob t j= .arr q s Q->∃aD,σ.ob t j= .arr q s aD) (hf:ad.fresh d=true)
  (U:∀l:List (Nat×V),(∀p∈l,p.1≠d/\Dh o p.1=true/\p.2.ref d=false)->LP P N o (σ.Ks l) ((ad.Ks l).new d v aa)) (hc:∀l:List (Nat×V),CU o (σ.Ks l) ((ad.Ks l).new d v aa)):gF P N o σ (ad.new d v aa):=by
 have ac:=J.Vo hf;have a:∀t e,ad[t]?=some e->t≠d->e.1.ref d=false/\Xi d e.2=false:=fun t e he W=>by have M:=hf;simp only[J.fresh,Bool.and_eq_true]at M;exact VD M.2 t e he Y
 refine⟨d,hd,by rw[J.Mi,az],fun t W=>?_,fun t j E W G=>?_,fun t j q s Q W G=>?_,fun l hl=>?_⟩
 ·rw[J.Lo,if_neg (fun hh=>W hh.1),af];refine⟨rfl,?_⟩;rw[<-af];unfold J.get;cases he:ad[t]? with
  |none=>rfl
  |some e=>exact(a t e he W).1
 ·rw[J.qK,if_neg (fun hh=>W hh.1)]at G;refine⟨B t j E G,?_⟩;unfold J.ob at G;cases he:ad[t]? with
  |none=>rw[he]at G;cases G
  |some e=>rw[he]at G;exact lG (a t e he W).2 G
 ·rw[J.qK,if_neg (fun hh=>W hh.1)]at G;exact L t j q s Q G
 ·have e:=iS (d:=d) (v:=v) (aa:=aa) l ad (fun p hp=>(hl p hp).1);rw[<-e];exact⟨U l hl,hc l⟩
theorem rC{E:List At}(h:(σ.YC L).ob t j= .box E):σ.ob t j= .box E:=by
 rw[J.y0]at h;split at h
 ·cases h
 ·exact h
theorem pQ{s:Nat}(h:(σ.YC L).ob t j= .arr q s Q):σ.ob t j= .arr q s Q:=by
 rw[J.y0]at h;split at h
 ·cases h
 ·exact h
theorem w1{t:TypeId}(A:o.op= .call ⟨.builtin .append,#[x,y],#[t,t]⟩)(hg:o.guard=none)(hd:o.dst=some d)(b:ah o=true)
  (aB:X=P.cellsOf (C P t)) (M:ap (look P σ t x)=true/\ap (look P σ t y)=true/\Xr P t=true/\JN P (C P t)=true/\0<P.cellsOf (C P t))
  (Z:(Ma σ (unc (look P σ t x)) X).1/\(Ma σ (unc (look P σ t x)) X).2=(au,l1)) (h3:(MU σ (unc (look P σ t y)) X).1/\(MU σ (unc (look P σ t y)) X).2=(am,l2))
  (h4:(l1++l2).Nodup/\(σ.YC (l1++l2)).fresh d=true) (h5:(au.length+am.length)*P.bytesOf (C P t)<=140737488355328/\au.length+am.length<=9223372036854775807)
  (h:Ev P N ah ai ((σ.YC (l1++l2)).new d (.one (.E d 0 0 (au.length+am.length))) [.arr true X (au++am)]) af):U8 P N ah o ai σ af:=by
 subst aB;have H:=mm Z.1
 have e2:=nF h3.1;rw[Z.2]at H;rw[h3.2]at e2;have cl:∀k:J,CU o k ((k.YC (l1++l2)).new d (.one (.E d 0 0 (au.length+am.length))) [.arr true (P.cellsOf (C P t)) (au++am)]):=fun k d' m hc=>Nn (fun e=>m cr) (Jt hc);have z:∀l:List (Nat×V),(∀p∈l,p.1≠d/\Dh o p.1=true/\p.2.ref d=false)->LP P N o (σ.Ks l) (((σ.Ks l).YC (l1++l2)).new d (.one (.E d 0 0 (au.length+am.length))) [.arr true (P.cellsOf (C P t)) (au++am)]):=by
  rintro l hl T0 B a w K F ⟨ad,hh,r⟩ hK;have hw:Region.wanted o (yielded N a.tmps)=true:=cA
  rw[if_pos hw];have lx:look P (σ.Ks l) t x=look P σ t x:=PI l σ (fun p hp=>(Nu A (hl p hp).2.1).1)
  have c:look P (σ.Ks l) t y=look P σ t y:=PI l σ (fun p hp=>(Nu A (hl p hp).2.1).2);refine If r A hd (by rw[lx];exact M.1) (by rw[c];exact M.2.1) M.2.2.1 M.2.2.2.1 M.2.2.2.2 (by rw[lx];exact z1 (Es l σ) H) (by rw[c];exact m5 (Es l σ) e2) h4.1 ?_ h5.1 h5.2 hK;rw[WQ];exact H7 l (fun p hp=>(hl p hp).2.2) h4.2
 have g:LP P N o σ ((σ.YC (l1++l2)).new d (.one (.E d 0 0 (au.length+am.length))) [.arr true (P.cellsOf (C P t)) (au++am)]):=z [] (fun p hp=>by cases hp);refine⟨_,.inr ⟨b,g,cl σ,fun hh=>by simp[GP,A]at hh,fun _=>su hd (J.yh _ _) (fun t=>J.kg _ _ t) (fun t j E G=>rC G) (fun t j q s Q G=>⟨Q,pQ G⟩) h4.2 (fun l hl=>?_) (fun l=>?_),fun hh _=>by first|(simp[VX,A]at hh;done)|(unfold VX at hh;rw[A]at hh;split at hh<;>simp_all)⟩,Kh h⟩
 ·rw[<-WQ];exact z l hl
 ·rw[<-WQ];exact cl _
theorem x1{t:TypeId}{u ae lo:Nat}(A:o.op= .call ⟨.builtin .append,#[x,y],#[t,t]⟩)(hg:o.guard=none)(hd:o.dst=some d)(b:ah o=true)
  (aB:X=P.cellsOf (C P t)) (M:ap (look P σ t x)=true/\ap (look P σ t y)=true/\Xr P t=true/\JN P (C P t)=true/\0<P.cellsOf (C P t))
  (Z:unc (look P σ t x)= .one (.E u j 0 ae)) (h3:unc (look P σ t y)= .one (.E u j lo n)) (ho:σ.ob u j= .arr true X Q) (aA:ae<=lo) (H:lo+n<=Q.length)
  (f:cut Q lo n=am) (h4:(σ.Yg u j .none).fresh d=true) (h5:(ae+n)*P.bytesOf (C P t)<=140737488355328/\ae+n<=9223372036854775807)
  (h:Ev P N ah ai ((σ.Yg u j .none).new d (.one (.E d 0 0 ((Q.take ae).length+am.length))) [.arr true X (Q.take ae++am)]) af):U8 P N ah o ai σ af:=by
 subst aB;subst f;rw[Xj _ _ _ H,List.length_take,Nat.min_eq_left Y]at h;have cl:∀k:J,CU o k ((k.Yg u j .none).new d (.one (.E d 0 0 (ae+n))) [.arr true (P.cellsOf (C P t)) (Q.take ae++cut Q lo n)]):=fun k d' m hc=>Nn (fun e=>m cr) (KK hc)
 have z:∀l:List (Nat×V),(∀p∈l,p.1≠d/\Dh o p.1=true/\p.2.ref d=false)->LP P N o (σ.Ks l) (((σ.Ks l).Yg u j .none).new d (.one (.E d 0 0 (ae+n))) [.arr true (P.cellsOf (C P t)) (Q.take ae++cut Q lo n)]):=by
  rintro l hl T0 B a w K F ⟨ad,hh,r⟩ hK;have hw:Region.wanted o (yielded N a.tmps)=true:=cA
  rw[if_pos hw];have lx:look P (σ.Ks l) t x=look P σ t x:=PI l σ (fun p hp=>(Nu A (hl p hp).2.1).1)
  have c:look P (σ.Ks l) t y=look P σ t y:=PI l σ (fun p hp=>(Nu A (hl p hp).2.1).2);refine v5 r A hd (by rw[lx];exact M.1) (by rw[c];exact M.2.1) M.2.2.1 M.2.2.2.1 M.2.2.2.2 (by rw[lx];exact Z) (by rw[c];exact h3) (by rw[Es];exact ho) aA H ?_ h5.1 h5.2 hK;show((σ.Ks l).Yg u j .none).fresh d=true
  rw[T5];exact H7 l (fun p hp=>(hl p hp).2.2) h4
 have g:LP P N o σ ((σ.Yg u j .none).new d (.one (.E d 0 0 (ae+n))) [.arr true (P.cellsOf (C P t)) (Q.take ae++cut Q lo n)]):=z [] (fun p hp=>by cases hp);refine⟨_,.inr ⟨b,g,cl σ,fun hh=>by simp[GP,A]at hh,fun _=>su hd (J.JQ _ _ _ _) (fun t=>J.JR _ _ _ _ t) (fun t i E G=>rC (L:=[(u,j)]) G) (fun t i q s Q G=>⟨Q,pQ (L:=[(u,j)]) G⟩) h4 (fun l hl=>?_) (fun l=>?_),fun hh _=>by first|(simp[VX,A]at hh;done)|(unfold VX at hh;rw[A]at hh;split at hh<;>simp_all)⟩,Kh h⟩
 ·rw[<-T5];exact z l hl
 ·rw[<-T5];exact cl _
theorem n3{t:TypeId}{u lo:Nat}(A:o.op= .call ⟨.builtin .append,#[x,y],#[t,t]⟩)(hg:o.guard=none)(hd:o.dst=some d)(b:ah o=true)
  (aB:X=P.cellsOf (C P t)) (M:ap (look P σ t x)=true/\ap (look P σ t y)=true/\Xr P t=true/\JN P (C P t)=true/\0<P.cellsOf (C P t))
  (Z:dB σ (unc (look P σ t x)) X au l1) (h3:unc (look P σ t y)= .one (.E u j lo n)) (ho:σ.ob u j= .arr true X Q) (aj:(u,j)∉l1) (aA:lo+n<=Q.length) (f:cut Q lo n=am)
  (h4:((σ.Yg u j (.arr true X (zJ Q lo n))).YC l1).fresh d=true) (h5:(au.length+n)*P.bytesOf (C P t)<=140737488355328/\au.length+n<=9223372036854775807)
  (h:Ev P N ah ai (((σ.Yg u j (.arr true X (zJ Q lo n))).YC l1).new d (.one (.E d 0 0 (au.length+am.length))) [.arr true X (au++am)]) af):U8 P N ah o ai σ af:=by
 subst aB;subst f;rw[Xj _ _ _ aA]at h;have cl:∀k:J,CU o k (((k.Yg u j (.arr true (P.cellsOf (C P t)) (zJ Q lo n))).YC l1).new d (.one (.E d 0 0 (au.length+n))) [.arr true (P.cellsOf (C P t)) (au++cut Q lo n)]):=fun k d' m hc=>Nn (fun e=>m cr) (Jt (KK hc))
 have z:∀l:List (Nat×V),(∀p∈l,p.1≠d/\Dh o p.1=true/\p.2.ref d=false)->LP P N o (σ.Ks l) ((((σ.Ks l).Yg u j (.arr true (P.cellsOf (C P t)) (zJ Q lo n))).YC l1).new d (.one (.E d 0 0 (au.length+n))) [.arr true (P.cellsOf (C P t)) (au++cut Q lo n)]):=by
  rintro l hl T0 B a w K F ⟨ad,hh,r⟩ hK;have hw:Region.wanted o (yielded N a.tmps)=true:=cA
  rw[if_pos hw];have lx:look P (σ.Ks l) t x=look P σ t x:=PI l σ (fun p hp=>(Nu A (hl p hp).2.1).1)
  have c:look P (σ.Ks l) t y=look P σ t y:=PI l σ (fun p hp=>(Nu A (hl p hp).2.1).2);refine q5 r A hd (by rw[lx];exact M.1) (by rw[c];exact M.2.1) M.2.2.1 M.2.2.2.1 M.2.2.2.2 (by rw[lx];exact yt (Es l σ) Z) (by rw[c];exact h3) (by rw[Es];exact ho) aA aj ?_ h5.1 h5.2 hK;rw[T5,WQ];exact H7 l (fun p hp=>(hl p hp).2.2) h4
 have an:σ.ob u j≠ .none:=bq;have g:LP P N o σ (((σ.Yg u j (.arr true (P.cellsOf (C P t)) (zJ Q lo n))).YC l1).new d (.one (.E d 0 0 (au.length+n))) [.arr true (P.cellsOf (C P t)) (au++cut Q lo n)]):=z [] (fun p hp=>by cases hp);refine⟨_,.inr ⟨b,g,cl σ,fun hh=>by simp[GP,A]at hh,fun _=>su hd (by rw[J.yh,J.JQ]) (fun t=>by rw[J.kg,J.JR]) (fun t i E G=>?_) (fun t i q s aD G=>?_) h4 (fun l hl=>?_) (fun l=>?_),fun hh _=>by first|(simp[VX,A]at hh;done)|(unfold VX at hh;rw[A]at hh;split at hh<;>simp_all)⟩,Kh h⟩
 ·have G:=rC G;rw[J.ze σ u j _ t i an]at G;split at G
  ·cases G
  ·exact G
 ·have G:=pQ G;rw[J.ze σ u j _ t i an]at G;split at G
  ·rename_i hc;cases G;rw[hc.1,hc.2];exact⟨Q,ho⟩
  ·exact⟨aD,G⟩
 ·rw[<-WQ,<-T5];exact z l hl
 ·rw[<-WQ,<-T5];exact cl _
theorem iD{f:At->Bool}{v:V}(hv:v.zo f=false):∀{σ:J}{d:Nat},σ.zo f=false->(σ.put d v).zo f=false
 |[],_,_=>rfl
 |e::σ,0,h=>by simp only[J.zo,Bool.or_eq_false_iff]at h;simp[J.put,J.zo,hv,h.1.2,h.2]
 |e::σ,d+1,h=>by simp only[J.zo,Bool.or_eq_false_iff]at h;simp[J.put,J.zo,h.1.1,h.1.2,iD hv h.2]
theorem vU{σ:J}:∀{xs:List At}{ds:List D},JF σ xs=some ds->∀p∈Ye xs,∃q s Q,σ.ob p.1 p.2= .arr q s Q
 |[],_,_,p,hp=>by cases hp
 |x::xs,ds,h,p,hp=>by
  simp only[JF]at h;split at h
  ·rename_i d g M Z;have ih:=vU Z
   cases x with
   |E t j lo ae=>
    simp only[Ye,List.mem_cons]at hp;rcases hp with rfl|hp
    ·simp only[a2]at M;split at M
     ·rename_i q s Q ho;exact⟨q,s,Q,ho⟩
     ·cases M
    ·exact ih p hp
   |_=>exact ih p hp
  ·cases h
theorem AW{t' aJ:Nat}{q':Bool}{aD:List (List D)}{E:List At}{xs:List At}(hm:JF σ xs=some ds)(hL:Ye xs=L)(ho:σ.ob t j= .arr q X Q)(hn:(t,j)∉L)(G:σ.ob t' 0= .box E):
  ((σ.YC L).Yg t j (.arr q' aJ aD)).ob t' 0= .box E:=by
 have M:(σ.YC L).ob t j≠ .none:=by rw[J.y0,if_neg hn,ho];simp
 rw[J.ze _ t j _ t' 0 M];split
 ·rename_i hc;rw[hc.1,hc.2,ho]at G;cases G
 ·rw[J.y0];split
  ·rename_i hc;obtain⟨q,s,Q,he⟩:=vU hm (t',0) (by rw[hL];exact hc);rw[he]at G;cases G
  ·exact G
structure cp(P:Program)(σ:J)(T:TypeId)(x y:Operand)(t j i c X:Nat)(Q:List (List D))(ds:List D)(l:List (Nat×Nat)):Prop where
 o:unc (look P σ 0 x)= .one (.ptr t j i c)
 b:σ.ob t j= .arr true X Q
 e:i<Q.length
 g:Uh P T=true/\ap (look P σ 0 x)=true/\ap (look P σ T y)=true/\(unc (look P σ T y)).flat=true
 d:JF σ (unc (look P σ T y)).cells=some ds
 m:QQ σ (unc (look P σ T y)).cells
 f:Ye (unc (look P σ T y)).cells=l
 a:l.Nodup/\(t,j)∉l/\(σ.YC l).zo (At.isT t)=false
 h:ds.length=P.cellsOf T/\c+P.cellsOf T<=X
theorem cp.Ks{P:Program}{o:Oper}{T:TypeId}{x y:Operand}(A:o.op= .store T x y){t j i c X:Nat}{Q:List (List D)}{ds:List D}{l:List (Nat×Nat)}:∀(q:List (Nat×V)){σ:J},(∀p∈q,NU o p.1=true/\wm p.2=true)->cp P σ T x y t j i c X Q ds l->cp P (σ.Ks q) T x y t j i c X Q ds l
 |[],_,_,h=>h
 |p::q,σ,hq,h=>by
  refine cp.Ks A q (fun p' aJ=>hq p' (by simp[aJ])) ?_;obtain⟨F,hp⟩:=hq p ab;simp only[NU,A,Bool.and_eq_true,Bool.not_eq_true']at F;have hv:p.2.zo (At.isT t)=false:=by generalize p.2=v at hp;unfold wm at hp;split at hp<;>first|rfl|cases hp
  refine⟨?_,?_,h.e,?_,?_,?_,?_,⟨h.a.1,h.a.2.1,?_⟩,h.h⟩
  ·rw[X1 F.1];exact h.o
  ·rw[J.Ku];exact h.b
  ·rw[X1 F.1,X1 F.2];exact h.g
  ·rw[X1 F.2,wy];exact h.d
  ·rw[X1 F.2,EJ];exact h.m
  ·rw[X1 F.2];exact h.f
  ·rw[M8];exact iD hv h.a.2.2
theorem Bz{l:List (Nat×Nat)}{t j:Nat}{ai:Ob}:∀(q:List (Nat×V))(σ:J),((σ.Ks q).YC l).Yg t j ai=((σ.YC l).Yg t j ai).Ks q
 |[],_=>rfl
 |p::q,σ=>by rw[J.Ks,J.Ks,Bz q,M8,U0]
theorem wC{T:TypeId}{c:Nat}(A:o.op= .store T x y)(hg:o.guard=none)(hd:o.dst=none)(h:cp P σ T x y t j i c X Q ds l):
  LP P N o σ ((σ.YC l).Yg t j (.arr true X (Q.set i (place (rowAt Q i) c ds)))):=by
 obtain⟨O,ho,hi,M,Z,h3,h4,h5,h6⟩:=h;subst h4;rintro T0 B a w K F ⟨ad,hh,r⟩ hK;have hw:Region.wanted o (yielded N a.tmps)=true:=cA
 rw[if_pos hw];exact va r A hd M.1 M.2.1 M.2.2.1 O ho hi M.2.2.2 Z h3 h5.1 h5.2.1 h5.2.2 h6.1 h6.2 hK
theorem na{T:TypeId}{c:Nat}(A:o.op= .store T x y)(hg:o.guard=none)(hd:o.dst=none)(b:ah o=true)
  (O:unc (look P σ 0 x)= .one (.ptr t j i c)) (ho:σ.ob t j= .arr true X Q) (hi:i<Q.length) (M:Uh P T=true/\ap (look P σ 0 x)=true/\ap (look P σ T y)=true/\(unc (look P σ T y)).flat=true)
  (Z:JF σ (unc (look P σ T y)).cells=some ds) (h3:QQ σ (unc (look P σ T y)).cells) (h4:Ye (unc (look P σ T y)).cells=l) (h5:l.Nodup/\(t,j)∉l/\(σ.YC l).zo (At.isT t)=false) (h6:ds.length=P.cellsOf T/\c+P.cellsOf T<=X)
  (h:Ev P N ah ai ((σ.YC l).Yg t j (.arr true X (Q.set i (place (rowAt Q i) c ds)))) af):U8 P N ah o ai σ af:=by
 have hm:cp P σ T x y t j i c X Q ds l:=⟨O,ho,hi,M,Z,h3,h4,h5,h6⟩;refine⟨_,.inr ⟨b,wC A hg hd hm,fun d' _ hc=>KK (Jt hc),fun _=>.inl ⟨⟨by rw[J.JQ,J.yh],fun u=>by rw[J.JR,J.kg]⟩,fun q hq=>?_,fun t' E G=>?_⟩,fun hh=>by simp[Nf,A]at hh,fun hh _=>by simp[VX,A]at hh⟩,Kh h⟩
 ·rw[<-Bz];exact⟨wC A hg hd (hm.Ks A q hq),fun d' _ hc=>KK (Jt hc)⟩
 ·exact AW hm.d hm.f hm.b hm.a.2.1 G
theorem mw{T:TypeId}(A:o.op= .store T x y)(hg:o.guard=none)(hd:o.dst=none)(az:ds.length=X)(h:cp P σ T x y t j i 0 X Q ds l):
  LP P N o σ ((σ.YC l).Yg t j (.arr true X (Q.set i ds))):=by
 rintro T0 B a w K F ⟨ad,hh,r⟩ hK;refine wC A hg hd h T0 B a w K F ⟨ad,hh,r⟩ ?_;have h0:=r.obj t j
 rw[h.b]at h0;obtain⟨_,_,_,hz,_⟩:=h0;have e:place (rowAt Q i) 0 ds=ds:=by
  have hr:(rowAt Q i).length=X:=by
   have:rowAt Q i=Q[i]'h.e:=by simp[rowAt,List.getD_eq_getElem?_getD,List.getElem?_eq_getElem h.e]
   rw[this];exact hz _ (List.getElem_mem h.e)
  unfold place;rw[List.take_zero,List.nil_append,List.drop_eq_nil_of_le Y,List.append_nil]
 rw[e];exact hK
theorem lo{T:TypeId}(A:o.op= .store T x y)(hg:o.guard=none)(hd:o.dst=none)(b:ah o=true)
  (O:unc (look P σ 0 x)= .one (.ptr t j i 0)) (ho:σ.ob t j= .arr true X Q) (hi:i<Q.length) (M:Uh P T=true/\ap (look P σ 0 x)=true/\ap (look P σ T y)=true/\(unc (look P σ T y)).flat=true)
  (Z:JF σ (unc (look P σ T y)).cells=some ds) (h3:QQ σ (unc (look P σ T y)).cells) (h4:Ye (unc (look P σ T y)).cells=l) (h5:l.Nodup/\(t,j)∉l/\(σ.YC l).zo (At.isT t)=false) (h6:ds.length=P.cellsOf T/\P.cellsOf T=X)
  (h:Ev P N ah ai ((σ.YC l).Yg t j (.arr true X (Q.set i ds))) af):U8 P N ah o ai σ af:=by
 have hm:cp P σ T x y t j i 0 X Q ds l:=⟨O,ho,hi,M,Z,h3,h4,h5,h6.1,Y⟩;have hf:ds.length=X:=Y;refine⟨_,.inr ⟨b,mw A hg hd hf hm,fun d' _ hc=>KK (Jt hc),fun _=>.inl ⟨⟨by rw[J.JQ,J.yh],fun u=>by rw[J.JR,J.kg]⟩,fun q hq=>?_,fun t' E G=>?_⟩,fun hh=>by simp[Nf,A]at hh,fun hh _=>by simp[VX,A]at hh⟩,Kh h⟩
 ·rw[<-Bz];exact⟨mw A hg hd hf (hm.Ks A q hq),fun d' _ hc=>KK (Jt hc)⟩
 ·exact AW hm.d hm.f hm.b hm.a.2.1 G
structure c1(P:Program)(σ:J)(T:TypeId)(x y:Operand)(t j i c k q n X:Nat)(s Q:List (List D))(ds:List D)(l:List (Nat×Nat)):Prop where
 o:unc (look P σ 0 x)= .one (.Z t j i c (some (k*n+q)))
 b:σ.ob t j= .arr true X Q
 e:i<Q.length
 r:(Q.getD i [])[c]?=some (.sl n s)
 p:k<s.length
 g:Uh P T=true/\ap (look P σ 0 x)=true/\ap (look P σ T y)=true/\(unc (look P σ T y)).flat=true
 d:JF σ (unc (look P σ T y)).cells=some ds
 m:QQ σ (unc (look P σ T y)).cells
 f:Ye (unc (look P σ T y)).cells=l
 a:l.Nodup/\(t,j)∉l
 h:ds.length=P.cellsOf T/\q+P.cellsOf T<=n
theorem c1.Ks{P:Program}{o:Oper}{T:TypeId}{x y:Operand}(A:o.op= .store T x y){t j i c k u n X:Nat}{s Q:List (List D)}{ds:List D}{l:List (Nat×Nat)}:∀(q:List (Nat×V)){σ:J},(∀p∈q,NU o p.1=true/\wm p.2=true)->c1 P σ T x y t j i c k u n X s Q ds l->c1 P (σ.Ks q) T x y t j i c k u n X s Q ds l
 |[],_,_,h=>h
 |p::q,σ,hq,h=>by
  refine c1.Ks A q (fun p' aJ=>hq p' (by simp[aJ])) ?_;obtain⟨F,hp⟩:=hq p ab;simp only[NU,A,Bool.and_eq_true,Bool.not_eq_true']at F;refine⟨?_,?_,h.e,h.r,h.p,?_,?_,?_,?_,h.a,h.h⟩
  ·rw[X1 F.1];exact h.o
  ·rw[J.Ku];exact h.b
  ·rw[X1 F.1,X1 F.2];exact h.g
  ·rw[X1 F.2,wy];exact h.d
  ·rw[X1 F.2,EJ];exact h.m
  ·rw[X1 F.2];exact h.f
theorem mj{T:TypeId}{c q:Nat}(A:o.op= .store T x y)(hg:o.guard=none)(hd:o.dst=none)(h:c1 P σ T x y t j i c k q n X s Q ds l):
  LP P N o σ ((σ.YC l).Yg t j (.arr true X (Q.set i (place (rowAt Q i) c [.sl n (s.set k (place (rowAt s k) q ds))])))):=by
 obtain⟨O,ho,hi,hc,hk,M,Z,h3,h4,h5,h6⟩:=h;subst h4;rintro T0 B a w K F ⟨ad,hh,r⟩ hK;have hw:Region.wanted o (yielded N a.tmps)=true:=cA
 rw[if_pos hw];exact vG r A hd M.1 M.2.1 M.2.2.1 O ho hi hc hk M.2.2.2 Z h3 h5.1 h5.2 h6.1 h6.2 hK
theorem l6{T:TypeId}{c q:Nat}(A:o.op= .store T x y)(hg:o.guard=none)(hd:o.dst=none)(b:ah o=true)
  (hm:c1 P σ T x y t j i c k q n X s Q ds l)
  (h:Ev P N ah ai ((σ.YC l).Yg t j (.arr true X (Q.set i (place (rowAt Q i) c [.sl n (s.set k (place (rowAt s k) q ds))])))) af):U8 P N ah o ai σ af:=by
 refine⟨_,.inr ⟨b,mj A hg hd hm,fun d' _ hc=>KK (Jt hc),fun _=>.inl ⟨⟨by rw[J.JQ,J.yh],fun u=>by rw[J.JR,J.kg]⟩,fun q hq=>?_,fun t' E G=>?_⟩,fun hh=>by simp[Nf,A]at hh,fun hh _=>by simp[VX,A]at hh⟩,Kh h⟩
 ·rw[<-Bz];exact⟨mj A hg hd (hm.Ks A q hq),fun d' _ hc=>KK (Jt hc)⟩
 ·exact AW hm.d hm.f hm.b hm.a.2 G
open Go.RowKit
def CE(P:Program)(σ:J):ResultVar->Prop×List At
 |.tmp t=>(match σ.get t with
  |.one x=>(t<σ.length,[x])
  |.agg []=>(t<σ.length,[])
  |.agg (x::y::xs)=>(t<σ.length,x::y::xs)
  |_=>(False,[]))
 |.cell t T=>(match σ.get t with
  |.one (.O u c)=>(match σ.ob u 0 with
    |.box E=>(Uh P T=true/\Ie P T=true/\P.cellsOf T≠1/\c+P.cellsOf T<=E.length,cut E c (P.cellsOf T))
    |_=>(False,[]))
  |_=>(False,[]))
def y4(P:Program)(σ:J):List ResultVar->Prop×List (List At)
 |[]=>(True,[])
 |r::rs=>((CE P σ r).1/\(y4 P σ rs).1,(CE P σ r).2::(y4 P σ rs).2)
theorem nb(h:(CE P σ r).1):rT P σ r (CE P σ r).2:=by
 cases r with
 |tmp t=>
  simp only[CE]at h⊢;simp only[rT];cases O:σ.get t with
  |one x=>rw[O]at h;exact⟨rfl,h⟩
  |agg xs=>
   rw[O]at h;match xs,h with
   |[],h=>exact⟨rfl,h⟩
   |[x],h=>exact h.elim
   |x::y::xs,h=>exact⟨rfl,h⟩
  |any=>rw[O]at h;exact h.elim
  |O xs=>rw[O]at h;exact h.elim
  |E g x=>rw[O]at h;exact h.elim
  |fix u x=>rw[O]at h;exact h.elim
 |cell t T=>
  simp only[CE]at h⊢;split at h
  ·rename_i u c O;split at h
   ·rename_i E ho;exact⟨u,c,E,O,ho,h.1,h.2.1,h.2.2.1,h.2.2.2,rfl⟩
   ·exact h.elim
  ·exact h.elim
theorem I4{P:Program}{σ:J}:∀{rs:List ResultVar},(y4 P σ rs).1->GY P σ rs (y4 P σ rs).2
 |[],_=>rfl
 |_::_,h=>⟨_,_,nb h.1,I4 h.2,rfl⟩
theorem hv(hf:fn.results=rv.toArray)(h:(y4 P σ rv).1/\GM σ (y4 P σ rv).2=some ag):fP P fn false ag .ret σ:=
 ⟨.inl rfl,_,by rw[hf];exact I4 h.1,by simpa using h.2⟩
theorem n4(hf:fn.results=rv.toArray)(h:(y4 P σ rv).1/\Lu σ (y4 P σ rv).2=some ag/\(Ye (y4 P σ rv).2.flatten).Nodup):fP P fn true ag .ret σ:=
 ⟨.inl rfl,_,by rw[hf];exact I4 h.1,by simpa using h.2⟩
theorem BL(hf:fn.results=rv.toArray)(h:(y4 P σ rv).1/\jg σ (y4 P σ rv).2=some ag/\y3 σ (y4 P σ rv).2/\(Ye (y4 P σ rv).2.flatten).Nodup):c0 P fn ag .ret σ:=
 ⟨.inl rfl,_,by rw[hf];exact I4 h.1,h.2⟩
attribute [simp] dB jg JF a2 y3 QQ tM Ya Re qT Ma MU J.YC fL dK gC gh Mj Fz m9 J.zo V.zo V.mI lK Oe qX At.isT
attribute [simp] ev dT Ev eD hq fd bw fO aP lH fe F8 FX ku GC GK Gc BG ao b5 Vm.look cL unc ap TK V.flat V.cells J.put J.Yg J.new J.ZCE J.fb J.ZDF J.gM mo PN oq
 sc F1 bm cut place rowOf kK qZ At.gG Jx V.qS XB SW Mz ld aZ Qz UK y4 CE GM Lu dg PC Ye Oq FK U At.ref D.scalar yl D.gd zD dJ J4
open Go.RowKit
variable{ts:List TypeId}{aC:List At}
def hx(w:World)(S:Nat->Prop)(I:List Value)(aG:List D)(x:D)(e:Ending)(w':World):Prop:=
 ∃u,e= .returned u/\Rd (fun _ _=>False) w' u x/\Xv (fun b=>b<w.heap.size/\¬S b) w w'/\z6 w' I aG (fun b=>S b\/(w.heap.size<=b/\b<w'.heap.size))
def Aj(P:Program)(f:FuncId)(L:List D)(aA:List (List D))(aG:List D)(x:D):Prop:=
 Ly P f=true/\∀(T:CS)(S:Nat->Prop)(w:World)(v:Value)(I ar:List Value),(∀b k,T b k->b<w.heap.size/\¬S b)->(∀b,S b->b<w.heap.size)->xK v I->z6 w I L S->
  Yd (fun v L=>∃I,xK v I/\Yd (Rd T w) I L) ar aA->Calls P f (v::ar).toArray w (hx w S I aG x)
theorem av.ZDZ(r:av T0 B σ a w ad h)(σ':J)(az:σ'.length=σ.length)(af:∀t,σ'.get t=σ.get t)(L:Nat->Nat->Prop)(hL:∀t j,L t j->σ.ob t j≠ .none)(an:∀t j,¬L t j->σ'.ob t j=σ.ob t j)(I:∀t j,L t j->(σ.ob t j).ai (σ'.ob t j))
  (aB:w.heap.size<=w'.heap.size) (hw:∀k,k<w.heap.size->(∀t j,L t j->¬(h t j).u k)->w'.heap[k]?=w.heap[k]?)
  (h':Nat->Nat->Hd) (hh:∀t j,¬L t j->h' t j=h t j) (hv:∀t j,L t j->(h' t j).v=(h t j).v) (F:∀t j b,L t j->(h' t j).u b->(∃t' j',L t' j'/\(h t' j').u b)\/(w.heap.size<=b/\b<w'.heap.size))
  (au:∀t j b,L t j->blk (h' t j).v=some b->(h' t j).u b) (am:∀t j t' j' b,L t j->L t' j'->(h' t j).u b->(h' t' j').u b->t=t'/\j=j')
  (p:At->Bool) (hp:σ.zo p=false) (hn:∀t j,L t j->(∀i c o,p (.Z t j i c o)=true)\/(h' t j).n=(h t j).n)
  (ac:∀t j,L t j->zf (al T0 ad) h' σ'.ob w' (h' t j) (σ'.ob t j)):av T0 B σ' a w' ad h':=by
 have hT:∀b k v,al T0 ad b k->w.cell? ⟨b,k,none⟩=some v->w'.cell? ⟨b,k,none⟩=some v/\al T0 ad b k:=by
  intro b k v G ai;refine⟨?_,G⟩;have hk:∀t j,L t j->¬(h t j).u b:=by
   intro t j hl aH;have aq:=r.own t j b (hL t j hl) aH
   rcases G with G|G
   ·exact aq.1 (r.f _ _ G)
   ·exact aq.2.1 G
  rw[World.cell?_of_block (hw b (r.Tlt G) hk)];exact ai
 have P:∀u i,(h' u i).v=(h u i).v:=by
  intro u i;by_cases hc:L u i
  ·exact hv u i hc
  ·rw[hh u i hc]
 have ab:∀u i q X Q,σ'.ob u i= .arr q X Q->∃aL,σ.ob u i= .arr q X aL/\aL.length=Q.length:=by
  intro u i q X Q ho;by_cases hc:L u i
  ·have M:=I u i hc;rw[ho]at M;cases C:σ.ob u i with
   |arr q0 N r0=>rw[C]at M;obtain⟨rfl,rfl,hl⟩:=M;exact⟨r0,rfl,hl⟩
   |none=>rw[C]at M;exact M.elim
   |box c=>rw[C]at M;exact M.elim
   |lit s r=>rw[C]at M;exact M.elim
  ·rw[an u i hc]at ho;exact⟨Q,ho,rfl⟩
 have ax:∀u i X Q,σ'.ob u i= .lit X Q->∃aL,σ.ob u i= .lit X aL/\aL.length=Q.length:=by
  intro u i X Q ho;by_cases hc:L u i
  ·have M:=I u i hc;rw[ho]at M;cases C:σ.ob u i with
   |arr q0 N r0=>rw[C]at M;exact M.elim
   |none=>rw[C]at M;exact M.elim
   |box c=>rw[C]at M;exact M.elim
   |lit s r=>rw[C]at M;obtain⟨rfl,hl⟩:=M;exact⟨r,rfl,hl⟩
  ·rw[an u i hc]at ho;exact⟨Q,ho,rfl⟩
 have V:∀u i E,σ'.ob u i= .box E->∃K,σ.ob u i= .box K:=by
  intro u i E ho;by_cases hc:L u i
  ·have M:=I u i hc;rw[ho]at M;cases C:σ.ob u i with
   |arr q0 N r0=>rw[C]at M;exact M.elim
   |none=>rw[C]at M;exact M.elim
   |box c=>exact⟨c,rfl⟩
   |lit s r=>rw[C]at M;exact M.elim
  ·rw[an u i hc]at ho;exact⟨E,ho⟩
 have ah:∀{x:At}{v:Value},p x=false->Yk (al T0 ad) h σ.ob w x v->Yk (al T0 ad) h' σ'.ob w' x v:=by
  intro x v y n;cases x with
  |any=>exact n
  |d x=>exact Rd.mono hT n
  |nil s=>exact n
  |E u i lo ae=>
   refine⟨n.1,fun q X Q ho=>?_,fun X Q ho=>?_⟩
   ·obtain⟨aL,C,hl⟩:=ab u i q X Q ho;rw[P,<-hl];exact n.2.1 q X aL C
   ·obtain⟨aL,C,hl⟩:=ax u i X Q ho;rw[P,<-hl];exact n.2.2 X aL C
  |ptr u i k c=>refine⟨n.1,fun q X Q ho=>?_⟩;obtain⟨aL,C,hl⟩:=ab u i q X Q ho;rw[P];exact n.2 q X aL C
  |O u c=>refine⟨n.1,fun E ho=>?_⟩;obtain⟨K,C⟩:=V u 0 E ho;rw[P];exact n.2 K C
  |fn f u=>refine⟨n.1,fun E ho=>?_⟩;obtain⟨K,C⟩:=V u 0 E ho;rw[P];exact n.2 K C
  |Z u i k c o=>
   refine⟨n.1,fun X Q ho=>?_⟩;obtain⟨aL,C,hl⟩:=ab u i true X Q ho;have M:=n.2 X aL C
   by_cases hc:L u i
   ·rcases hn u i hc with hn|hn
    ·rw[hn]at y;cases y
    ·rw[hn];exact M
   ·rw[hh u i hc];exact M
  |ac R c=>obtain⟨b,aw,g,e,hk⟩:=n;exact⟨b,aw,g,e,fun k d hd=>⟨(hT _ _ _ (hk k d hd).2.1 (hk k d hd).1).1,(hk k d hd).2.1,Rd.mono hT (hk k d hd).2.2⟩⟩
 have D:∀u i,σ'.ob u i≠ .none->σ.ob u i≠ .none:=by
  intro u i A;by_cases aH:L u i
  ·exact hL u i aH
  ·rw[an u i aH]at A;exact A
 refine⟨by rw[r.size,az],r.defers,fun b G=>Nat.lt_of_lt_of_le (r.d b G) aB,fun b G=>⟨(r.e b G).1,Nat.lt_of_lt_of_le (r.e b G).2 aB⟩,r.f,fun u aH=>?_,fun u i=>?_,fun u i b' W aj=>?_,fun u i b' W aj=>?_,fun u i l i' b' W aI ag ak=>?_⟩
 ·rw[az]at aH;rw[af];exact KA.map ah (J.I9 hp u) (r.slot u aH)
 ·by_cases hc:L u i
  ·exact ac u i hc
  ·rw[an u i hc,hh u i hc];exact zf.map ah hT (fun ho b=>r.c u i b ho) (fun ho b G=>hw b (r.own u i b ho G).2.2 (fun t j hl aa=>by
    obtain⟨H,e2⟩:=r.inj u i t j b ho (hL t j hl) G aa;rw[H,e2]at hc;exact hc hl)) (J.El hp u i) (r.obj u i)
 ·by_cases hc:L u i
  ·exact au u i b' hc aj
  ·rw[hh u i hc]at aj⊢;exact r.c u i b' (D u i W) aj
 ·by_cases hc:L u i
  ·rcases F u i b' hc aj with⟨t,j,hl,M⟩|M
   ·have:=r.own t j b' (hL t j hl) M;exact⟨this.1,this.2.1,Y⟩
   ·exact⟨fun G=>by have:=r.d b' G;omega,fun O=>by have:=(r.e b' O).2;omega,M.2⟩
  ·rw[hh u i hc]at aj;have:=r.own u i b' (D u i W) aj;exact⟨this.1,this.2.1,Y⟩
 ·by_cases hc:L u i
  ·by_cases z:L l i'
   ·exact am u i l i' b' hc z ag ak
   ·rw[hh l i' z]at ak;rcases F u i b' hc ag with⟨t,j,hl,M⟩|M
    ·obtain⟨H,e2⟩:=r.inj t j l i' b' (hL t j hl) (D l i' aI) M ak;rw[H,e2]at hl;exact absurd hl z
    ·have:=r.own l i' b' (D l i' aI) ak;omega
  ·rw[hh u i hc]at ag;by_cases z:L l i'
   ·rcases F l i' b' z ak with⟨t,j,hl,M⟩|M
    ·obtain⟨H,e2⟩:=r.inj t j u i b' (hL t j hl) (D u i W) M ag;rw[H,e2]at hl;exact absurd hl hc
    ·have:=r.own u i b' (D u i W) ag;omega
   ·rw[hh l i' z]at ak;exact r.inj u i l i' b' (D u i W) (D l i' aI) ag ak
theorem sO{L:List D}(ho:z6 w I L S):∃(hf:Nat->Hd)(l:Nat->Nat->Prop),(∀j c,I[j]?=some c->(hf j).v=c)/\(∀k b,l k b->S b)/\(∀i j b,l i b->l j b->i=j)/\
  ∀j X Q,L[j]?=some (.sl X Q)->(∀b,(hf j).u b->l j b)/\(∀b,blk (hf j).v=some b->(hf j).u b)/\∀T h ai,zf T h ai w (hf j) (.arr true X Q):=by
 obtain⟨hl,l,M,Z,h3⟩:=ho;have aw:∀j,∃hd:Hd,(∀c,I[j]?=some c->hd.v=c)/\(∀X Q,L[j]?=some (.sl X Q)->(∀b,hd.u b->l j b)/\(∀b,blk hd.v=some b->hd.u b)/\∀T h ai,zf T h ai w hd (.arr true X Q)):=by
  intro j;cases hj:L[j]? with
  |none=>exact⟨Hd.of ((I[j]?).getD undef),fun c z=>by simp[Hd.of,z],fun X Q hh=>by cases hh⟩
  |some dd=>
   have aC:j<I.length:=by rw[hl];exact(List.getElem?_eq_some_iff.1 hj).1
   have p:I[j]?=some I[j]:=List.getElem?_eq_getElem aC;cases dd with
   |int k n=>exact⟨Hd.of I[j],fun c z=>by rw[p]at z;cases z;rfl,fun X Q hh=>by cases hh⟩
   |bool k=>exact⟨Hd.of I[j],fun c z=>by rw[p]at z;cases z;rfl,fun X Q hh=>by cases hh⟩
   |str k=>exact⟨Hd.of I[j],fun c z=>by rw[p]at z;cases z;rfl,fun X Q hh=>by cases hh⟩
   |unk=>exact⟨Hd.of I[j],fun c z=>by rw[p]at z;cases z;rfl,fun X Q hh=>by cases hh⟩
   |sl X Q=>
    have ho:=M j _ _ p hj;generalize hv:I[j]=v at ho;cases ho with
    |sl v X Q S e xs F ho hz G hl hk aB m=>refine⟨⟨v,fun k=>(xs[k]?).getD undef,l j⟩,fun c z=>by rw[p,hv]at z;cases z;rfl,fun aJ aD hh=>?_⟩;cases hh;exact⟨fun b G=>G,G,fun T h ai=>⟨e,xs,ho,hz,⟨hl,F,hk,fun k b G=>aB k b G,m⟩,fun k x d O _ _=>by simp[O]⟩⟩
 obtain⟨hf,H⟩:=Classical.axiomOfChoice aw;exact⟨hf,l,fun j=>(H j).1,Z,h3,fun j=>(H j).2⟩
theorem z6.top{L:List D}(ho:z6 w I L S):Yd (NO T w) I L:=by
 obtain⟨hl,l,M,Z,h3⟩:=ho;refine Yd.V8 hl (fun k x d O hd=>?_);have ho:=M k x d O hd
 cases ho with
 |int k n=>exact Rd.int _ _
 |bool b=>exact Rd.bool _
 |str s=>exact Rd.str _
 |unk v h=>exact Rd.unk _ h
 |sl v X Q S e xs F ho hz G hl hk aB m=>exact⟨e,xs,ho⟩
theorem ko:∀(ds:List D)(k:Nat)(X:Nat)(Q:List (List D)),ds[k]?=some (.sl X Q)->Y6 (Ya [] ds) k= .arr true X Q
 |[],k,X,Q,h=>cb
 |.sl s r::ds,0,X,Q,h=>by simp at h;obtain⟨rfl,rfl⟩:=h;rfl
 |.int _ _::ds,0,X,Q,h=>cb
 |.bool _::ds,0,X,Q,h=>cb
 |.str _::ds,0,X,Q,h=>cb
 |.unk::ds,0,X,Q,h=>cb
 |.sl s r::ds,k+1,X,Q,h=>du
 |.int _ _::ds,k+1,X,Q,h=>du
 |.bool _::ds,k+1,X,Q,h=>du
 |.str _::ds,k+1,X,Q,h=>du
 |.unk::ds,k+1,X,Q,h=>du
theorem Ur:∀(ds:List D)(k:Nat),Y6 (Ya [] ds) k≠ .none->∃X Q,ds[k]?=some (.sl X Q)
 |[],k,h=>dr
 |.sl s r::ds,0,h=>⟨s,r,rfl⟩
 |.int _ _::ds,0,h=>dr
 |.bool _::ds,0,h=>dr
 |.str _::ds,0,h=>dr
 |.unk::ds,0,h=>dr
 |.sl s r::ds,k+1,h=>dm
 |.int _ _::ds,k+1,h=>dm
 |.bool _::ds,k+1,h=>dm
 |.str _::ds,k+1,h=>dm
 |.unk::ds,k+1,h=>dm
theorem mi{σ:J}{t:Nat}:∀(ds:List D)(k:Nat),(∀i X Q,ds[i]?=some (.sl X Q)->σ.ob t (k+i)= .arr true X Q)->
  JF σ (Qz t k ds)=some ds/\QQ σ (Qz t k ds)/\(Ye (Qz t k ds)).Nodup/\∀p∈Ye (Qz t k ds),p.1=t/\k<=p.2
 |[],k,_=>⟨rfl,trivial,List.nodup_nil,fun p hp=>by cases hp⟩
 |d::ds,k,ho=>by
  obtain⟨M,Z,h3,h4⟩:=mi ds (k+1) (fun i X Q hi=>by rw[show k+1+i=k+(i+1)by omega];exact ho (i+1) X Q (by simpa using hi));cases d with
  |sl X Q=>
   have h0:=ho 0 X Q ab;rw[Nat.add_zero]at h0;refine⟨by simp[Qz,JF,a2,h0,M],⟨by simp[tM,h0],Z⟩,?_,fun p hp=>?_⟩
   ·simp only[Qz,Ye,List.nodup_cons];exact⟨fun hm=>by have:=(h4 _ hm).2;simp at this;omega,h3⟩
   ·simp only[Qz,Ye,List.mem_cons]at hp;rcases hp with rfl|hp
    ·exact⟨rfl,Nat.le_refl _⟩
    ·have:=h4 p hp;exact⟨this.1,Y⟩
  |int k' n=>exact⟨by simp[Qz,JF,a2,M],⟨trivial,Z⟩,h3,fun p hp=>by have:=h4 p hp;exact⟨this.1,Y⟩⟩
  |bool b=>exact⟨by simp[Qz,JF,a2,M],⟨trivial,Z⟩,h3,fun p hp=>by have:=h4 p hp;exact⟨this.1,Y⟩⟩
  |str s=>exact⟨by simp[Qz,JF,a2,M],⟨trivial,Z⟩,h3,fun p hp=>by have:=h4 p hp;exact⟨this.1,Y⟩⟩
  |unk=>exact⟨by simp[Qz,JF,a2,M],⟨trivial,Z⟩,h3,fun p hp=>by have:=h4 p hp;exact⟨this.1,Y⟩⟩
def F3(n:Nat)(v:Value)(L:List D)(aA:List (List D)):J:=(.fix v (aZ (Qz 0 0 L)),Ya [] L)::(FK aA++List.replicate (n-(aA.length+1)) (V.any,[]))
theorem mb{v:Value}{L:List D}(hT:∀b k,T b k->b<w.heap.size/\¬S b)(y:∀b,S b->b<w.heap.size)(hf:xK v I)(ho:z6 w I L S)
  (ha:Yd (fun v L=>∃I,xK v I/\Yd (Rd T w) I L) ar aA):
  yO T (fun b=>b<w.heap.size/\¬S b) (F3 n v L aA) {tmps:=(v::ar).toArray++Array.replicate (n-(v::ar).toArray.size) undef,defers:=[]} w:=by
 have hl:=ha.length;obtain⟨aO,l,k1,k2,k3,k4⟩:=sO ho;refine⟨fun _=>False,fun t j=>if t=0 then aO j else Hd.of undef,?_⟩;have ak:∀j,(F3 n v L aA).ob 0 j=Y6 (Ya [] L) j:=fun j=>rfl;have Z:∀t j,(F3 n v L aA).ob (t+1) j= .none:=by
  intro t j;unfold J.ob F3;rw[List.getElem?_cons_succ];rcases Nat.lt_or_ge t aA.length with h|h
  ·rw[List.getElem?_append_left cy,Mq,List.getElem?_eq_getElem h];simp[Y6]
  ·rw[List.getElem?_append_right cy,List.getElem?_replicate];split
   ·rename_i e he;split at he
    ·cases he;simp[Y6]
    ·cases he
   ·rfl
 have hz:∀t j,(F3 n v L aA).ob t j≠ .none->t=0/\∃X Q,L[j]?=some (.sl X Q):=by
  intro t j W;cases t with
  |zero=>exact⟨rfl,Ur L j W⟩
  |succ t=>exact absurd (Z t j) W
 have P:∀b k v,T b k->w.cell? ⟨b,k,none⟩=some v->w.cell? ⟨b,k,none⟩=some v/\al T (fun _=>False) b k:=fun b k v G hc=>⟨hc,.inl G⟩;refine⟨by simp[F3,QY,hl];omega,rfl,(fun b G=>G.1),(fun b G=>G.elim),hT,fun t ht=>?_,fun t j=>?_,fun t j b W G=>?_,fun t j b W G=>?_,fun t j t' j' b W aI G aj=>?_⟩
 ·cases t with
  |zero=>
   have d:((v::ar).toArray++Array.replicate (n-(v::ar).toArray.size) undef).getD 0 undef=v:=by rw[Array.getD_eq_getD_getElem?,Array.getElem?_append_left ab];simp
   rw[d];refine⟨rfl,Eo hf (N1 ho.top (fun i X Q hi=>⟨true,?_⟩) (fun i c hc=>?_))⟩
   ·rw[Nat.zero_add,ak];exact ko L i X Q hi
   ·rw[Nat.zero_add];simp only[if_true];exact k1 i c hc
  |succ t=>
   unfold J.get F3;rw[List.getElem?_cons_succ];rcases Nat.lt_or_ge t aA.length with ac|aN
   ·rw[List.getElem?_append_left (by rw[QY];exact ac),Mq,List.getElem?_eq_getElem ac];obtain⟨U,aF,aW,m,z⟩:=ha.get' t aA[t] (List.getElem?_eq_getElem ac);have d:((v::ar).toArray++Array.replicate (n-(v::ar).toArray.size) undef).getD (t+1) undef=U:=by rw[Array.getD_eq_getD_getElem?,Array.getElem?_append_left a0];simp[aF]
    simp only[d];exact(Eo m (Ek (z.imp fun _ _=>Rd.mono P))).up
   ·rw[List.getElem?_append_right (by rw[QY];exact aN),List.getElem?_replicate];split
    ·rename_i e he;split at he
     ·cases he;trivial
     ·cases he
    ·trivial
 ·by_cases W:(F3 n v L aA).ob t j= .none
  ·rw[W];trivial
  ·obtain⟨rfl,X,Q,hj⟩:=hz t j W;rw[ak,ko L j X Q hj];simp only[if_true];exact(k4 j X Q hj).2.2 _ _ _
 ·obtain⟨rfl,X,Q,hj⟩:=hz t j W;simp only[if_true]at G⊢;exact(k4 j X Q hj).2.1 b G
 ·obtain⟨rfl,X,Q,hj⟩:=hz t j W;simp only[if_true]at G;have:=k2 j b ((k4 j X Q hj).1 b G)
  exact⟨fun hh=>hh.2 this,fun hh=>hh,y b this⟩
 ·obtain⟨rfl,X,Q,hj⟩:=hz t j W;obtain⟨rfl,aJ,aD,aH⟩:=hz t' j' aI;simp only[if_true]at G aj;exact⟨rfl,k3 j j' b ((k4 j X Q hj).1 b G) ((k4 j' aJ aD aH).1 b aj)⟩
def fA(P:Program)(fn:Func)(v:Value)(aG:List D)(x:D)(e:Exit)(σ:J):Prop:=
 (e= .ret\/e= .normal)/\GY P σ fn.results.toList [[.d x]]/\x.scalar=true/\σ.head?=some (.fix v (aZ (Qz 0 0 aG)),Ya [] aG)
theorem sA{v:Value}{aW:List Value}(M:xK v I)(Z:xK v aW):I=aW:=by
 rcases M with⟨c,rfl,rfl,ho⟩|⟨hn,rfl⟩
 ·rcases Z with⟨c',rfl,rfl,_⟩|⟨A,rfl⟩
  ·rfl
  ·cases ho
 ·rcases Z with⟨c',rfl,rfl,p⟩|⟨A,he⟩
  ·cases p
  ·injection he with he;simpa using he
theorem ry(hf:P.funcs[f]?=some fn)(G:fn.body=some c)(ao:Ly P f=true){L:List D}{x:D}
  (hw:∀v,aX P c (fA P fn v aG x) (F3 fn.ntmps v L aA)):Aj P f L aA aG x:=by
 refine⟨ao,fun T S w v I ar hT y aM aq am=>calls_of_wp hf G ?_⟩;refine wp_mono (hw v T (fun b=>b<w.heap.size/\¬S b) _ w (mb hT y aM aq am)) ?_;rintro e a' w' ⟨σ',⟨he,af,N,d⟩,⟨ad,h,r⟩,ab⟩;obtain⟨vs,g,aE,a,aa⟩:=OD r af;cases aa with
 |cons M aa=>
  cases aa;cases M with
  |@cons _ c0 _ _ O M=>
   cases M;cases a with
   |@cons u _ _ _ F hn=>
    cases hn;have aH:u=c0:=by
     rcases F with⟨c',Z,rfl,_⟩|⟨hn,_⟩
     ·cases Z;rfl
     ·simp at hn
    subst aH;have K:a'.defers=[]/\∃v,(results fn a'.tmps).run P w'= .ok v w'/\hx w S I aG x (.returned v) w':=by
     refine⟨r.defers,_,aE,u,rfl,?_,ab,?_⟩
     ·cases O with
      |int k n=>exact .int _ _
      |bool b=>exact .bool _
      |str s=>exact .str _
      |unk v h=>exact .unk _ h
      |nil=>cases N
      |sl=>cases N
     ·have aK:0<σ'.length:=by
       cases σ' with
       |nil=>simp at d
       |cons e σ=>simp
      have a0:σ'.get 0= .fix v (aZ (Qz 0 0 aG)):=by
       cases σ' with
       |nil=>simp at d
       |cons e σ=>simp at d;simp[J.get,d]
      have C:∀j,σ'.ob 0 j=Y6 (Ya [] aG) j:=by
       intro j;cases σ' with
       |nil=>simp at d
       |cons e σ=>simp at d;simp[J.ob,d]
      have al:=r.slot 0 aK;rw[a0]at al;obtain⟨av,B⟩:=al;rw[av]at B;obtain⟨aW,m,z⟩:=iU B.up;rw[sA m aM]at z;obtain⟨q,m2,m3,_⟩:=mi (σ:=σ') (t:=0) aG 0 (fun i X Q hi=>by rw[Nat.zero_add,C];exact ko aG i X Q hi);refine(Mn r z q m2 m3).mono (fun b G=>?_);have:=r.zj _ b G;by_cases U:S b
      ·exact .inl U
      ·refine .inr ⟨?_,this.2.2.1⟩;rcases Nat.lt_or_ge b w.heap.size with h|h
       ·exact absurd ⟨h,U⟩ this.1
       ·exact h
    rcases he with rfl|rfl
    ·exact K
    ·exact K
def J.OP:J->List At->List D->J
 |σ,.E t j _ _::xs,.sl X Q::ds=>J.OP (σ.Yg t j (.arr true X Q)) xs ds
 |σ,_::xs,_::ds=>J.OP σ xs ds
 |σ,_,_=>σ
def Uy:List D->List D->Prop
 |.sl s r::ds,.sl J r'::g=>s=J/\r.length=r'.length/\Uy ds g
 |.sl _ _::_,_=>False
 |_::ds,_::g=>Uy ds g
 |[],[]=>True
 |_,_=>False
def ED(σ:J):List At->Prop
 |[]=>True
 |.E t j _ _::xs=>(match σ.ob t j with|.arr true _ _=>True|_=>False)/\ED σ xs
 |_::xs=>ED σ xs
def At.AR:At->Bool
 |.Z _ _ _ _ _=>true
 |_=>false
theorem S0:∀{ds g:List D},Uy ds g->ds.length=g.length/\∀(k s:Nat)(r:List (List D)),ds[k]?=some (D.sl s r)->∃r':List (List D),g[k]?=some (D.sl s r')/\r.length=r'.length
 |[],[],_=>⟨rfl,fun k s r h=>by simp at h⟩
 |[],_::_,h=>by simp[Uy]at h
 |.sl s r::ds,[],h=>by simp[Uy]at h
 |.int _ _::ds,[],h=>by simp[Uy]at h
 |.bool _::ds,[],h=>by simp[Uy]at h
 |.str _::ds,[],h=>by simp[Uy]at h
 |.unk::ds,[],h=>by simp[Uy]at h
 |.sl s r::ds,d'::g,h=>by
  cases d' with
  |sl J r'=>
   obtain⟨rfl,Z,h3⟩:=h;obtain⟨w,V⟩:=S0 h3;refine⟨by simp[w],fun k N r0 hk=>?_⟩;cases k with
   |zero=>simp at hk;obtain⟨rfl,rfl⟩:=hk;exact⟨r',ab,Z⟩
   |succ k=>simpa using V k N r0 bV
  |int _ _=>exact h.elim
  |bool _=>exact h.elim
  |str _=>exact h.elim
  |unk=>exact h.elim
 |.int _ _::ds,d'::g,h=>by
  obtain⟨w,V⟩:=S0 (ds:=ds) (g:=g) h;refine⟨by simp[w],fun k N r0 hk=>?_⟩;cases k with
  |zero=>simp at hk
  |succ k=>simpa using V k N r0 bV
 |.bool _::ds,d'::g,h=>by
  obtain⟨w,V⟩:=S0 (ds:=ds) (g:=g) h;refine⟨by simp[w],fun k N r0 hk=>?_⟩;cases k with
  |zero=>simp at hk
  |succ k=>simpa using V k N r0 bV
 |.str _::ds,d'::g,h=>by
  obtain⟨w,V⟩:=S0 (ds:=ds) (g:=g) h;refine⟨by simp[w],fun k N r0 hk=>?_⟩;cases k with
  |zero=>simp at hk
  |succ k=>simpa using V k N r0 bV
 |.unk::ds,d'::g,h=>by
  obtain⟨w,V⟩:=S0 (ds:=ds) (g:=g) h;refine⟨by simp[w],fun k N r0 hk=>?_⟩;cases k with
  |zero=>simp at hk
  |succ k=>simpa using V k N r0 bV
theorem sV:∀{xs:List At},ED σ xs->∀(k t j lo ae:Nat),xs[k]?=some (At.E t j lo ae)->∃X Q,σ.ob t j= .arr true X Q
 |[],_,k,t,j,lo,ae,hk=>by simp at hk
 |x::xs,h,0,t,j,lo,ae,hk=>by
  simp at hk;subst hk;have:=h.1
  split at this
  ·rename_i s r e;exact⟨s,r,e⟩
  ·exact this.elim
 |x::xs,h,k+1,t,j,lo,ae,hk=>by
  have h':ED σ xs:=by cases x<;>first|exact h|exact h.2
  exact sV h' k t j lo ae bV
theorem HS:∀{xs:List At}{t j:Nat},(t,j)∈Ye xs->∃(k lo ae:Nat),xs[k]?=some (At.E t j lo ae)
 |[],t,j,h=>aY
 |x::xs,t,j,h=>by
  cases x with
  |E t' j' lo ae=>
   simp only[Ye,List.mem_cons,Prod.mk.injEq]at h;rcases h with⟨rfl,rfl⟩|h
   ·exact⟨0,lo,ae,rfl⟩
   ·obtain⟨k,lo,ae,hk⟩:=HS h;exact⟨k+1,lo,ae,by simpa using hk⟩
  |_=>obtain⟨k,lo,ae,hk⟩:=HS (xs:=xs) h;exact⟨k+1,lo,ae,by simpa using hk⟩
theorem J.Lv:∀(xs:List At)(ds:List D)(σ:J),(σ.OP xs ds).length=σ.length
 |[],ds,σ=>by cases ds<;>rfl
 |x::xs,[],σ=>by cases x<;>rfl
 |x::xs,d::ds,σ=>by cases x<;>first|exact J.Lv xs ds σ|(cases d<;>first|exact J.Lv xs ds σ|(rw[J.OP,J.Lv xs ds,J.JQ]))
theorem J.Cl:∀(xs:List At)(ds:List D)(σ:J)(t:Nat),(σ.OP xs ds).get t=σ.get t
 |[],ds,σ,t=>by cases ds<;>rfl
 |x::xs,[],σ,t=>by cases x<;>rfl
 |x::xs,d::ds,σ,t=>by cases x<;>first|exact J.Cl xs ds σ t|(cases d<;>first|exact J.Cl xs ds σ t|(rw[J.OP,J.Cl xs ds,J.JR]))
theorem J.sI:∀(xs:List At)(ds:List D)(σ:J),(Ye xs).Nodup->(∀p∈Ye xs,σ.ob p.1 p.2≠ .none)->
  (∀t j,(t,j)∉Ye xs->(σ.OP xs ds).ob t j=σ.ob t j)/\(∀(k t j lo ae X:Nat)(Q:List (List D)),xs[k]?=some (At.E t j lo ae)->ds[k]?=some (D.sl X Q)->(σ.OP xs ds).ob t j= .arr true X Q)
 |[],ds,σ,_,_=>⟨fun t j _=>by cases ds<;>rfl,fun k t j lo ae X Q h=>by simp at h⟩
 |x::xs,[],σ,_,_=>⟨fun t j _=>by cases x<;>rfl,fun k t j lo ae X Q _ h=>by simp at h⟩
 |x::xs,d::ds,σ,aw,W=>by
  have e:∀(O:Ye (x::xs)=Ye xs)(hm:σ.OP (x::xs) (d::ds)=σ.OP xs ds)(_:∀t j lo ae,x≠ .E t j lo ae),
    (∀t j,(t,j)∉Ye (x::xs)->(σ.OP (x::xs) (d::ds)).ob t j=σ.ob t j)/\(∀(k t j lo ae X:Nat)(Q:List (List D)),(x::xs)[k]?=some (At.E t j lo ae)->(d::ds)[k]?=some (D.sl X Q)->(σ.OP (x::xs) (d::ds)).ob t j= .arr true X Q):=by
   intro O hm a;rw[O]at aw W;obtain⟨w,V⟩:=J.sI xs ds σ aw W;rw[O,hm];refine⟨w,fun k t j lo ae X Q hk c=>?_⟩;cases k with
   |zero=>simp at hk;exact absurd hk (a _ _ _ _)
   |succ k=>exact V k t j lo ae X Q bV (by simpa using c)
  cases x with
  |E t0 b g f=>
   simp only[Ye,List.nodup_cons]at aw;have h0:σ.ob t0 b≠ .none:=W (t0,b) (by simp[Ye])
   have i:∀(hm:σ.OP (.E t0 b g f::xs) (d::ds)=σ.OP xs ds)(_:∀s r,d≠ .sl s r),
     (∀t j,(t,j)∉Ye (.E t0 b g f::xs)->(σ.OP (.E t0 b g f::xs) (d::ds)).ob t j=σ.ob t j)/\(∀(k t j lo ae X:Nat)(Q:List (List D)),(At.E t0 b g f::xs)[k]?=some (At.E t j lo ae)->(d::ds)[k]?=some (D.sl X Q)->(σ.OP (.E t0 b g f::xs) (d::ds)).ob t j= .arr true X Q):=by
    intro hm a;obtain⟨w,V⟩:=J.sI xs ds σ aw.2 (fun p hp=>W p (by simp[Ye,hp]));rw[hm];refine⟨fun t j hn=>w t j (fun hh=>hn (by simp[Ye,hh])),fun k t j lo ae X Q hk c=>?_⟩;cases k with
    |zero=>simp at c;exact absurd c (a _ _)
    |succ k=>exact V k t j lo ae X Q bV (by simpa using c)
   cases d with
   |sl X Q=>
    have Z:∀t j,(σ.Yg t0 b (.arr true X Q)).ob t j=if t=t0/\j=b then .arr true X Q else σ.ob t j:=fun t j=>J.ze σ t0 b _ t j h0;obtain⟨w,V⟩:=J.sI xs ds (σ.Yg t0 b (.arr true X Q)) aw.2 (fun p hp=>by
     rw[Z];split
     ·simp
     ·exact W p (by simp[Ye,hp]))
    refine⟨fun t j hn=>?_,fun k t j lo ae aJ aD hk c=>?_⟩
    ·simp only[Ye,List.mem_cons,Prod.mk.injEq,not_or]at hn;rw[J.OP,w t j hn.2,Z,if_neg hn.1]
    ·rw[J.OP];cases k with
     |zero=>simp at hk c;obtain⟨rfl,rfl,_,_⟩:=hk;obtain⟨rfl,rfl⟩:=c;rw[w _ _ aw.1,Z];simp
     |succ k=>exact V k t j lo ae aJ aD bV (by simpa using c)
   |int _ _=>exact i rfl (fun _ _ h=>by cases h)
   |bool _=>exact i rfl (fun _ _ h=>by cases h)
   |str _=>exact i rfl (fun _ _ h=>by cases h)
   |unk=>exact i rfl (fun _ _ h=>by cases h)
  |any=>exact e rfl rfl (fun _ _ _ _ h=>by cases h)
  |d _=>exact e rfl rfl (fun _ _ _ _ h=>by cases h)
  |nil _=>exact e rfl rfl (fun _ _ _ _ h=>by cases h)
  |ptr _ _ _ _=>exact e rfl rfl (fun _ _ _ _ h=>by cases h)
  |O _ _=>exact e rfl rfl (fun _ _ _ _ h=>by cases h)
  |fn _ _=>exact e rfl rfl (fun _ _ _ _ h=>by cases h)
  |ac _ _=>exact e rfl rfl (fun _ _ _ _ h=>by cases h)
  |Z _ _ _ _ _=>exact e rfl rfl (fun _ _ _ _ h=>by cases h)
theorem nK(r:av T0 B σ a w ad h){xs:List Operand}{t0:TypeId}{L:List D}{y:D}(A:o.op= .call cl)(hc:cl.callee= .value (.func f))(hd:o.dst=some d)
  (ha:cl.args.toList=x0::xs) (hg:ap (look P σ t0 x0)=true) (O:unc (look P σ t0 x0)=aZ aC) (Y:JF σ aC=some L) (S:ED σ aC) (aw:(Ye aC).Nodup) (ag:σ.zo At.AR=false)
  (am:Jx P σ xs ts aL) (ar:XB P σ xs ts=true) (U:Aj P f L aL aG y) (c:Uy L aG)
  {af:Exit->Act->World->Prop} (hK:∀a' w',yO T0 B ((σ.OP aC aG).put d (.one (.d y))) a' w'->Xv B w w'->K a' w'):o.wp P a w K af:=by
 obtain⟨I,aM,aa⟩:=iU (r.arg (P:=P) t0 x0 O hg);have ao:QQ σ aC:=by
  clear O Y aw aa hK;induction aC with
  |nil=>trivial
  |cons x aC ih=>
   cases x with
   |E t j lo ae=>
    refine⟨?_,ih S.2⟩;have:=S.1
    simp only[tM];split at this
    ·rename_i e;rw[e];trivial
    ·exact this.elim
   |_=>exact⟨trivial,ih S⟩
 have aq:=Mn r aa Y ao aw;obtain⟨ax,c⟩:=S0 c;obtain⟨aO,Y⟩:=Pc Y;have n:=r.Jx true am (fun _=>ar);simp only[if_true]at n;have aN:=r.zj (Ye aC);unfold Oper.wp;rw[MB A hc U.1,Oper.upon_enter];rw[show(cl.args.toList.map a.eval).toArray=(a.eval x0::xs.map a.eval).toArray by rw[ha];rfl];have hT:∀b k,al T0 ad b k->b<w.heap.size/\¬zb σ h (Ye aC) b:=by
  intro b k G;refine⟨r.Tlt G,fun aB=>?_⟩;have:=aN b aB
  rcases G with G|G
  ·exact this.1 (r.f _ _ G)
  ·exact this.2.1 G
 refine(U.2 (al T0 ad) (zb σ h (Ye aC)) w _ I _ hT (fun b G=>(aN b G).2.2.1) aM aq n).mono ?_;rintro e' w' ⟨u,rfl,F,ab,a0⟩;rw[hd];have ah:Xv B w w':=⟨ab.os,ab.tape,ab.output,ab.size,fun b G=>ab.block b ⟨r.d b G,fun aB=>(aN b aB).1 G⟩⟩
 obtain⟨hf,l,k1,k2,k3,k4⟩:=sO a0;have s:∀t j,(t,j)∈Ye aC->∃(k X:Nat)(Q aD:List (List D)),aC[k]?=some (At.E t j 0 Q.length)/\σ.ob t j= .arr true X Q/\aG[k]?=some (D.sl X aD)/\Q.length=aD.length/\I[k]?=some (h t j).v:=by
  intro t j hm;obtain⟨k,lo,ae,hk⟩:=HS hm;obtain⟨X,Q,ho⟩:=sV S k t j lo ae hk;have ac:k<L.length:=by rw[<-aO];exact(List.getElem?_eq_some_iff.1 hk).1
  have m:=Y k _ _ hk (List.getElem?_eq_getElem ac);simp only[a2,ho]at m;split at m
  ·rename_i z;obtain⟨rfl,rfl⟩:=z;have ay:L[k]?=some (.sl X Q):=by rw[List.getElem?_eq_getElem ac];exact m.symm▸rfl
   obtain⟨aD,aF,aE⟩:=c k X Q ay;obtain⟨v,hv,g⟩:=aa.get k _ hk;obtain⟨_,az,_⟩:=g.2.1 true X Q ho;exact⟨k,X,Q,aD,hk,ho,aF,aE,by rw[hv,az rfl rfl]⟩
  ·cases m
 have W:∀p∈Ye aC,σ.ob p.1 p.2≠ .none:=by intro p hp;obtain⟨k,X,Q,aD,_,ho,_⟩:=s p.1 p.2 hp;rw[ho];simp
 obtain⟨q,m2⟩:=J.sI aC aG σ aw W;have ak:∀p:Nat×Nat,∃hd:Hd,(p∉Ye aC->hd=h p.1 p.2)/\(p∈Ye aC->∃k lo ae:Nat,aC[k]?=some (At.E p.1 p.2 lo ae)/\hd=hf k):=by
  intro p;by_cases hp:p∈Ye aC
  ·obtain⟨k,lo,ae,hk⟩:=HS (t:=p.1) (j:=p.2) hp;exact⟨hf k,fun hh=>absurd hp hh,fun _=>⟨k,lo,ae,hk,rfl⟩⟩
  ·exact⟨h p.1 p.2,fun _=>rfl,fun hh=>absurd hh hp⟩
 obtain⟨hh,Z⟩:=Classical.axiomOfChoice ak;have au:∀t j,(t,j)∈Ye aC->∃(k X:Nat)(Q aD:List (List D)),aC[k]?=some (At.E t j 0 Q.length)/\σ.ob t j= .arr true X Q/\aG[k]?=some (D.sl X aD)/\Q.length=aD.length/\I[k]?=some (h t j).v/\hh (t,j)=hf k/\(σ.OP aC aG).ob t j= .arr true X aD:=by
  intro t j hm;obtain⟨k,X,Q,aD,C,E,N,T,a5⟩:=s t j hm;obtain⟨k',lo,ae,V,b2⟩:=(Z (t,j)).2 hm;have:k=k':=Fq aC k k' t j 0 Q.length lo ae aw C V
  subst this;exact⟨k,X,Q,aD,C,E,N,T,a5,b2,m2 k t j 0 Q.length X aD C N⟩
 have R:=r.ZDZ (w':=w') (σ.OP aC aG) (J.Lv _ _ _) (fun t=>J.Cl _ _ _ t) (fun t j=>(t,j)∈Ye aC) (fun t j hm=>W (t,j) hm) (fun t j hm=>q t j hm)
  (fun t j hm=>by obtain⟨k,X,Q,aD,_,E,_,T,_,_,M⟩:=au t j hm;rw[E,M];exact⟨rfl,rfl,T⟩)
  ab.size (fun k hk aH=>ab.block k ⟨hk,fun⟨p,hp,_,ai⟩=>aH p.1 p.2 hp ai⟩) (fun t j=>hh (t,j)) (fun t j hm=>(Z (t,j)).1 hm)
  (fun t j hm=>by obtain⟨k,X,Q,aD,_,_,_,_,a5,i,_⟩:=au t j hm;rw[i];exact k1 k _ a5)
  (fun t j b hm G=>by
   obtain⟨k,X,Q,aD,_,_,N,_,_,i,_⟩:=au t j hm;rw[i]at G;rcases k2 k b ((k4 k X aD N).1 b G)with⟨p,hp,_,ai⟩|G
   ·exact .inl ⟨p.1,p.2,hp,ai⟩
   ·exact .inr G)
  (fun t j b hm G=>by
   obtain⟨k,X,Q,aD,_,_,N,_,_,i,_⟩:=au t j hm;rw[i]at G⊢;exact(k4 k X aD N).2.1 b G)
  (fun t j t' j' b hm aA G aj=>by
   obtain⟨k,X,Q,aD,C,_,N,_,_,i,_⟩:=au t j hm;obtain⟨k',aJ,an,aI,c1,_,c3,_,_,c6,_⟩:=au t' j' aA;rw[i]at G;rw[c6]at aj;have:=k3 k k' b ((k4 k X aD N).1 b G) ((k4 k' aJ aI c3).1 b aj)
   subst this;rw[C]at c1;injection c1 with c1;injection c1 with H e2;exact⟨H,e2⟩)
  At.AR ag (fun t j _=>.inl (fun _ _ _=>rfl))
  (fun t j hm=>by
   obtain⟨k,X,Q,aD,_,_,N,_,_,i,M⟩:=au t j hm;rw[M,i];exact(k4 k X aD N).2.2 _ _ _)
 refine hK _ _ ⟨ad,_,R.put d (.one (.d y)) u ?_⟩ ah;exact Rd.mono (fun _ _ _ hh=>hh.elim) F
theorem wz(W:d≠d')(h:Ql σ d=true):Ql (σ.put d' v) d=true:=by unfold Ql at*;simp only[IH,if_neg W];exact h
theorem GU:∀(xs:List At)(ds:List D)(σ:J){d:Nat},Ql σ d=true->Ql (σ.OP xs ds) d=true
 |[],ds,σ,d,h=>by cases ds<;>exact h
 |x::xs,[],σ,d,h=>by cases x<;>exact h
 |x::xs,e::ds,σ,d,h=>by cases x<;>first|exact GU xs ds σ h|(cases e<;>first|exact GU xs ds σ h|(rw[J.OP];exact GU xs ds _ (KK h)))
theorem nr{xs:List Operand}{t0:TypeId}{L:List D}{y:D}(A:o.op= .call cl)(hc:cl.callee= .value (.func f))(n:o.guard=none)(hd:o.dst=some d)(b:ah o=true)
  (ha:cl.args.toList=x0::xs) (hg:ap (look P σ t0 x0)=true) (O:unc (look P σ t0 x0)=aZ aC) (Y:JF σ aC=some L) (S:ED σ aC) (aw:(Ye aC).Nodup) (ag:σ.zo At.AR=false)
  (am:Jx P σ xs ts aL) (ar:XB P σ xs ts=true) (U:Aj P f L aL aG y) (c:Uy L aG) (g:VX P o=false)
  (h:Ev P N ah ai ((σ.OP aC aG).put d (.one (.d y))) af):U8 P N ah o ai σ af:=by
 refine⟨_,.inr ⟨b,?_,fun d' m R=>wz (fun e=>m cr) (GU _ _ _ R),fun hh=>by simp[GP,A]at hh,fun hh=>by first|(simp[Nf,A]at hh;done)|(unfold Nf at hh;rw[A]at hh;split at hh<;>simp_all),fun hh _=>by rw[g]at hh;cases hh⟩,Kh h⟩;rintro T0 B a w K F ⟨ad,hh,r⟩ hK;have hw:Region.wanted o (yielded N a.tmps)=true:=eA
 rw[if_pos hw];exact nK r A hc hd ha hg O Y S aw ag am ar U c hK
end Go.Vm
