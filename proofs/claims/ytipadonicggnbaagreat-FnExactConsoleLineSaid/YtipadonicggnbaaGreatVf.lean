/- An abstract machine Hb the model of Go, by value, and that it is sound: part Vf. No condition. -/
import Derived.Test.YtipadonicggnbaaGreatVb
set_option linter.unusedVariables false
set_option linter.unusedSimpArgs false
namespace Go.Vm
open Go.RowKit
variable{P:Program}{σ σ':U}{N:Array Oper}{ah:Oper->Bool}{o:Oper}{M H ax aH aq al s s':List (List D)}{d Q n j t ri i d' ai G k:Nat}{af:U->Prop}{x y x0:Operand}{K:Act->World->Prop}{f:FuncId}{ds aB zr:List D}{v:V}{h:Nat->Nat->Hd}{c:Code}{B S X' ad:Nat->Prop}{T T0:CS}{parts:Array (Nat×Operand)}{aK z:List At}{a:Act}{F:Exit->U->Prop}{w' w:World}{aN g b:Bool}{r:ResultVar}{an:Value}
def iY(P:Program)(σ:U)(c:Call)(f:FuncId)(own:Bool)(H:List (List D)):Prop:=
 ∃M,JD P σ c.args.toList c.argTypes.toList M/\JT P f own M H/\(Yz P σ c.args.toList c.argTypes.toList=true\/zu own H)
def aQ(P:Program)(o:Oper)(d:Nat)(σ σ':U):Prop:=
 match o.op with
 |.alloc T=>σ.fresh d=true/\Qq P T=true/\∃ac,TG P 12 T=some ac/\σ'=σ.new d (.one (.Z d 0)) [.box ac]
 |.box T x=>σ.fresh d=true/\am (look P σ T x)=true/\(unc (look P σ T x)).flat=true/\Y6 d (unc (look P σ T x)).cells=false/\σ'=σ.new d (.one (.Z d 0)) [.box (unc (look P σ T x)).cells]
 |.buildSlice T n parts=>(σ.fresh d=true/\Xo P T=true/\Qq P (E P T)=true/\0<P.cellsOf (E P T)/\parts.toList.length=n/\n*P.cellsOf (E P T)<=16777216/\
   ((∃M,Ed P σ (E P T) (P.cellsOf (E P T)) parts.toList 0 M/\σ'=σ.new d (.one (.O d 0 0 M.length)) [.arr false (P.cellsOf (E P T)) M])\/
   (∃M,F1 P σ (E P T) (P.cellsOf (E P T)) parts.toList 0 M/\Y6 d M.flatten=false/\σ'=σ.new d (.one (.O d 0 0 M.length)) [.lit (P.cellsOf (E P T)) M])))\/
   ((Xo P T=true/\Qq P (E P T)=true/\0<P.cellsOf (E P T)/\parts.toList.length=n/\n*P.cellsOf (E P T)<=16777216)/\∃M,Ed P σ (E P T) (P.cellsOf (E P T)) parts.toList 0 M/\σ'=σ.put d (.one (.d (.sl (P.cellsOf (E P T)) M))))
 |.makeSlice T x y=>x=y/\σ.fresh d=true/\Xo P T=true/\Qq P (E P T)=true/\0<P.cellsOf (E P T)/\
   ∃q z zr k n,(q=true->C0 z=true)/\TG P 12 (E P T)=some z/\zD z=some zr/\Pk P σ x k (n:Nat)/\P.bytesOf (E P T)*n<=281474976710656/\n<=9223372036854775807/\σ'=σ.new d (.one (.O d 0 0 n)) [.arr q (P.cellsOf (E P T)) (List.replicate n zr)]
 |.call c=>
  (match c.callee with
  |.builtin .append=>∃x y t,c.args=#[x,y]/\c.argTypes=#[t,t]/\am (look P σ t x)=true/\am (look P σ t y)=true/\Xo P t=true/\Qq P (E P t)=true/\0<P.cellsOf (E P t)/\
    ∃aq al σ1,MR σ (unc (look P σ t x)) (P.cellsOf (E P t)) aq σ1/\yh σ (unc (look P σ t y)) (P.cellsOf (E P t)) al/\σ1.fresh d=true/\
     (aq.length+al.length)*P.bytesOf (E P t)<=140737488355328/\aq.length+al.length<=9223372036854775807/\σ'=σ1.new d (.one (.O d 0 0 (aq.length+al.length))) [.arr false (P.cellsOf (E P t)) (aq++al)]
  |.value (.func f)=>(∃own H,iY P σ c f own H/\σ'=σ.put d (VO H))\/(∃H,iY P σ c f true H/\σ.fresh d=true/\σ'=σ.new d (Px d H) (kp H.flatten))\/
    (∃M H qs,JD P σ c.args.toList c.argTypes.toList M/\YJ P f M H/\Uz qs H.flatten/\σ.fresh d=true/\σ'=σ.new d (Px d H) (Yg qs H.flatten))
  |_=>∃v,Xa P σ o.op o.type v/\σ'=σ.put d v)
 |.convert S T x=>
   (∃v,Xa P σ o.op o.type v/\σ'=σ.put d v)\/
   (∃l,am (look P σ S x)=true/\Ig P S=true/\Oo P T=true/\yh σ (unc (look P σ S x)) 1 (yY l)/\σ'=σ.put d (.one (.d (.str ⟨l.toArray⟩))))\/
   (∃s,am (look P σ S x)=true/\Oo P S=true/\Ig P T=true/\unc (look P σ S x)= .one (.d (.str s))/\s.size<=9223372036854775807/\σ'=σ.put d (.one (.d (.sl 1 (yY s.data.toList)))))
 |_=>∃v,Xa P σ o.op o.type v/\σ'=σ.put d v
def ke(P:Program)(σ:U)(T:TypeId)(x y:Operand)(σ':U):Prop:=
 Wj P T=true/\am (look P σ 0 x)=true/\am (look P σ T y)=true/\(unc (look P σ T y)).flat=true/\
  (match unc (look P σ 0 x)with
  |.one (.Z t c)=>∃G,σ.ob t 0= .box G/\(unc (look P σ T y)).cells.length=P.cellsOf T/\c+P.cellsOf T<=G.length/\σ'=σ.Yj t 0 (.box (place G c (unc (look P σ T y)).cells))
  |.one (.ptr t j i c)=>∃q Q M ds,σ.ob t j= .arr q Q M/\i<M.length/\rowOf σ (unc (look P σ T y)).cells=some ds/\xY (unc (look P σ T y)).cells=true/\ds.length=P.cellsOf T/\c+P.cellsOf T<=Q/\
    (q=true->ds.all D.scalar=true/\(cut (M.getD i []) c (P.cellsOf T)).all D.scalar=true)/\σ'=σ.Yj t j (.arr q Q (M.set i (place (M.getD i []) c ds)))
  |_=>False)
def VT(aN:Bool):V->Option Bool
 |.one (.d (.bool b))=>some (b==aN)
 |.O g (.one (.d (.bool b)))=>some (g&&(b==aN))
 |.O false _=>some false
 |_=>none
def D5(P:Program)(o:Oper)(σ:U)(v:V):Prop:=
 match o.op with
 |.call c=>
  (match c.callee with
  |.value (.func f)=>∃own H,iY P σ c f own [H]/\v=VO [H]
  |_=>∃v0,Xa P σ o.op o.type v0/\am v0=true/\v=unc v0/\v.flat=true)
 |_=>∃v0,Xa P σ o.op o.type v0/\am v0=true/\v=unc v0/\v.flat=true
def X5(P:Program)(N:Array Oper)(o:Oper)(σ σ':U):Prop:=
 match o.guard with
 |none=>
  (match o.dst with
  |some d=>aQ P o d σ σ'
  |none=>(match o.op with|.store T x y=>ke P σ T x y σ'|_=>False))
 |some (j,aN)=>∃G d g v,(N[j]?).bind (·.dst)=some G/\G<σ.length/\o.dst=some d/\VT aN (σ.get G)=some g/\(g=true->D5 P o σ v)/\σ'=σ.put d (.O g v)
def OM(P:Program)(N:Array Oper)(o:Oper)(σ σ':U):Prop:=
 ∀(T0:CS)(B:Nat->Prop)(a:Act)(w:World)(K:Act->World->Prop)(af:Exit->Act->World->Prop),zh T0 B σ a w->(∀a' w',zh T0 B σ' a' w'->Xl B w w'->K a' w')->
  if Region.wanted o (yielded N a.tmps)then o.wp P a w K af else K (a.put o.dst undef) w
def Qg(σ:U)(d:Nat):Bool:=match σ[d]? with|some (.any,[])=>true|some (.one (.d _),[])=>true|_=>false
def Gf(o:Oper)(σ σ':U):Prop:=∀d,o.dst≠some d->Qg σ d=true->Qg σ' d=true
def NS(o:Oper):Bool:=match o.op with|.store _ _ _=>true|_=>false
def WK(d:Nat):Operand->Bool
 |.tmp t=>t==d
 |_=>false
def RZ(o:Oper)(d:Nat):Bool:=match o.op with|.store _ p q=>!WK d p&&!WK d q|_=>false
def D0:V->Bool
 |.any=>true
 |.one (.d _)=>true
 |_=>false
def U.Ki:U->List (Nat×V)->U
 |σ,[]=>σ
 |σ,p::l=>U.Ki (σ.put p.1 p.2) l
def j4(P:Program)(N:Array Oper)(o:Oper)(σ σ':U):Prop:=
 (σ'.length=σ.length/\∀u,σ'.get u=σ.get u)/\(∀l:List (Nat×V),(∀p∈l,RZ o p.1=true/\D0 p.2=true)->OM P N o (σ.Ki l) (σ'.Ki l)/\Gf o (σ.Ki l) (σ'.Ki l))/\∀t G,σ.ob t 0= .box G->σ'.ob t 0= .box G
def SO(o:Oper):Bool:=match o.op with|.call ⟨.builtin .append,_,_⟩=>true|_=>false
theorem mi(h:NS o=true):SO o=false:=by
 unfold NS at h;split at h
 ·rename_i A;simp[SO,A]
 ·cases h
def H8(o:Oper)(d:Nat):Bool:=!(o.op.operands.toList.any (WK d))
def gv(P:Program)(N:Array Oper)(o:Oper)(σ σ':U):Prop:=
 ∃d,o.dst=some d/\σ'.length=σ.length/\(∀t,t≠d->σ'.get t=σ.get t/\(σ.get t).ref d=false)/\(∀t j G,t≠d->σ'.ob t j= .box G->σ.ob t j= .box G/\Y6 d G=false)/\
  (∀t j q s M,t≠d->σ'.ob t j= .arr q s M->∃az,σ.ob t j= .arr q s az)/\
  ∀l:List (Nat×V),(∀p∈l,p.1≠d/\H8 o p.1=true/\p.2.ref d=false)->OM P N o (σ.Ki l) (σ'.Ki l)/\Gf o (σ.Ki l) (σ'.Ki l)
def oY(P:Program)(t:TypeId):Bool:=match P.underlying t with|some (.pointer _)=>true|_=>false
def gi(ah:Oper->Bool)(o:Oper):Bool:=!ah {o with dst:=some 1000000007}
def hd(ah:Oper->Bool)(o:Oper):Bool:=(match o.dst with|some d=>ah {o with dst:=some (d+2000000)}|none=>false)&&gi ah o
def qf(P:Program)(o:Oper):Bool:=match o.op with|.call ⟨.value (.func _),_,⟨T::_⟩⟩=>oY P T|_=>false
def nV(P:Program)(N:Array Oper)(o:Oper)(σ σ':U):Prop:=True
theorem i4(h:NS o=true):qf P o=false:=by
 unfold NS at h;split at h
 ·rename_i A;simp[qf,A]
 ·cases h
theorem CD(h:SO o=true):qf P o=false:=by
 unfold SO at h;split at h
 ·rename_i A;simp[qf,A]
 ·cases h
def fh(ah:Oper->Bool)(o:Oper):Bool:=ah {o with dst:=some 1000000009}
def vl(σ σ':U):Prop:=∀u,σ'.get u=σ.get u\/σ'.get u= .any
def jE(P:Program)(N:Array Oper)(ah:Oper->Bool)(o:Oper)(σ σ':U):Prop:=X5 P N o σ σ'\/(ah o=true/\OM P N o σ σ'/\Gf o σ σ'/\(NS o=true->j4 P N o σ σ'\/fh ah o=true/\vl σ σ')/\(SO o=true->gv P N o σ σ')/\(qf P o=true->gi ah o=true->nV P N o σ σ'))
def ny(P:Program)(N:Array Oper)(ah:Oper->Bool):List Oper->U->(U->Prop)->Prop
 |[],σ,af=>af σ
 |o::ap,σ,af=>∃σ',jE P N ah o σ σ'/\ny P N ah ap σ' af
theorem Gr(d:Nat):∀(n:Nat)(t:TypeId)(ac:List At),TG P n t=some ac->Y6 d ac=false:=by
 intro n;induction n with
 |zero=>intro t ac hr;simp[TG]at hr
 |succ n ih=>
  intro t ac hr;have e:∀(rs:List _),(∀r∈rs,Y6 d r=false)->Y6 d rs.flatten=false:=by
   intro rs s;have a:∀(xs ys:List At),Y6 d xs=false->Y6 d ys=false->Y6 d (xs++ys)=false:=by
    intro xs ys O hy;induction xs with
    |nil=>exact hy
    |cons x xs c=>simp only[List.cons_append,Y6,Bool.or_eq_false_iff]at O⊢;exact⟨O.1,c O.2⟩
   induction rs with
   |nil=>rfl
   |cons r rs c=>rw[List.flatten_cons];exact a _ _ (s r ab) (c (fun r hr=>s r aD))
  rw[TG]at hr;split at hr
  ·cases hr;rfl
  ·cases hr;rfl
  ·cases hr;rfl
  ·cases hr;rfl
  ·rename_i E _;simp at hr;obtain⟨rs,s,rfl⟩:=hr;refine e rs ?_;have:∀(l:List Field)(rs:List _),l.mapM (fun f=>TG P n f.type)=some rs->∀r∈rs,Y6 d r=false:=by
    intro l;induction l with
    |nil=>intro rs hh r hr;simp at hh;subst hh;cases hr
    |cons f l c=>
     intro rs hh r hr;simp only[List.mapM_cons,Option.bind_eq_bind,Option.bind_eq_some_iff]at hh;obtain⟨r0,ah,b,M,hh⟩:=hh;simp at hh;subst hh;rcases List.mem_cons.1 hr with rfl|hr
     ·exact ih f.type _ ah
     ·exact c b M r hr
   grind
  ·simp at hr;obtain⟨r0,ah,rfl⟩:=hr;grind
  ·cases hr
theorem P3(r:ar T0 B σ a w ad h)(hd:o.dst=some d)(V:∃an,(execOp a.eval o).run P w= .ok (.value an) w/\J8 (ak T0 ad) h σ.ob w v an)
  {af:Exit->Act->World->Prop} (hK:∀a' w',zh T0 B (σ.put d v) a' w'->Xl B w w'->K a' w'):o.wp P a w K af:=by
 obtain⟨an,aH,hv⟩:=V;unfold Oper.wp;rw[aH,Oper.upon_value,hd];exact hK _ _ ⟨ad,h,r.put d v an hv⟩ (Xl.refl _ _)
theorem ls(r:ar T0 B σ a w ad h)(hd:o.dst=some d)(hs:aQ P o d σ σ'){af:Exit->Act->World->Prop}
  (hK:∀a' w',zh T0 B σ' a' w'->Xl B w w'->K a' w'):o.wp P a w K af:=by
 have ai:(∃v,Xa P σ o.op o.type v/\σ'=σ.put d v)->o.wp P a w K af:=by rintro⟨v,hv,rfl⟩;exact P3 r hd (BB r hv) hK
 unfold aQ at hs;split at hs
 ·rename_i T A;obtain⟨hf,hz,ac,aA,rfl⟩:=hs;exact AP r A hd hf hz aA (Gr d _ _ _ aA) hK
 ·rename_i T x A;obtain⟨hf,hg,aJ,hr,rfl⟩:=hs;exact oy r A hd hf hg aJ hr hK
 ·rename_i T n parts A;rcases hs with⟨hf,I,X,h3,h4,h5,⟨M,h6,rfl⟩|⟨M,h6,h7,rfl⟩⟩|⟨⟨I,X,h3,h4,h5⟩,M,h6,rfl⟩
  ·exact Dm r A hd hf I X h3 h4 h5 h6 hK
  ·exact Lu r A hd hf I X h3 h4 h5 h6 h7 hK
  ·exact vS r A hd I X h3 h4 h5 h6 hK
 ·rename_i T x y A;obtain⟨rfl,hf,I,X,h3,q,z,zr,k,n,hq,h4,h5,h6,h7,h8,rfl⟩:=hs;cases q with
  |false=>exact Bz r A hd hf I X h4 h5 h3 h6 h7 h8 hK
  |true=>exact vD r A hd hf I X h4 h5 (hq rfl) h3 h6 h7 h8 hK
 ·rename_i c A;split at hs
  ·rename_i Z;obtain⟨x,y,t,ha,aw,I,X,h3,h4,h5,aq,al,σ1,h6,h7,h8,h9,ak,rfl⟩:=hs;refine o9 r ?_ hd I X h3 h4 h5 h6 h7 h8 h9 ak hK;rw[A];obtain⟨cc,L,J⟩:=c;simp only at Z ha aw;grind
  ·rename_i f Z;rcases hs with⟨own,H,⟨M,ha,hs,m⟩,rfl⟩|⟨H,⟨M,ha,hs,m⟩,hf,rfl⟩|⟨M,H,qs,ha,hs,hq,hf,rfl⟩
   ·rcases m with m|m
    ·exact RT r A Z hd ha true (fun _=>m) (fun hh=>by cases hh) hs hK
    ·exact RT r A Z hd ha false (fun hh=>by cases hh) (fun _=>m) hs hK
   ·rcases m with m|m
    ·exact Hu r A Z hd hf ha true (fun _=>m) (fun hh=>by cases hh) hs hK
    ·exact Hu r A Z hd hf ha false (fun hh=>by cases hh) (fun _=>m) hs hK
   ·exact vp r qs A Z hd hf ha hs hq hK
  ·exact ai hs
 ·rename_i S T x A;rcases hs with hs|⟨l,I,X,h3,h4,rfl⟩|⟨s,I,X,h3,h4,h5,rfl⟩
  ·exact ai hs
  ·exact P3 r hd (HW r A I X h3 h4) hK
  ·exact Hh r A hd I X h3 h4 h5 hK
 ·exact ai hs
theorem sQ(r:ar T0 B σ a w ad h){T:TypeId}(A:o.op= .store T x y)(hd:o.dst=none)(hs:ke P σ T x y σ'){af:Exit->Act->World->Prop}
  (hK:∀a' w',zh T0 B σ' a' w'->Xl B w w'->K a' w'):o.wp P a w K af:=by
 obtain⟨ht,aZ,a0,aJ,hs⟩:=hs;split at hs
 ·rename_i t c O;obtain⟨G,ho,hl,aF,rfl⟩:=hs;exact vj r A hd ht aZ a0 O ho aJ hl aF hK
 ·rename_i t j i c O;obtain⟨q,Q,M,ds,ho,hi,S,au,hl,aF,hq,rfl⟩:=hs;refine vg r A hd ht aZ a0 O ho hi aJ S au hl aF (fun hh=>⟨fun d m=>?_,fun k d hk m=>?_⟩) hK
  ·exact List.all_eq_true.1 (hq hh).1 d m
  ·refine List.all_eq_true.1 (hq hh).2 d (List.mem_of_getElem? (i:=k) ?_);simp only[cut,List.getElem?_take,if_pos hk,List.getElem?_drop];exact m
 ·exact hs.elim
theorem Cw{ai:Nat->Nat->Ob}(hf:(unc v).flat=true)(hv:J8 T h ai w (unc v) an):y9 T h ai w (unc v) an:=by
 cases F:unc v with
 |one x=>rw[F]at hv;exact hv
 |agg xs=>rw[F]at hv;exact hv
 |any=>rw[F]at hf;cases hf
 |Z xs=>rw[F]at hf;cases hf
 |O g x=>rw[F]at hf;cases hf
 |fix u x=>rw[F]at hf;cases hf
theorem rF(r:ar T0 B σ a w ad h)(q:o.guard=some (j,aN))(i:(N[j]?).bind (·.dst)=some G)(ag:G<σ.length)(hg:VT aN (σ.get G)=some g):
  Region.wanted o (yielded N a.tmps)=g:=by
 have aI:G<a.tmps.size:=by rw[r.size];exact ag
 have hv:=r.slot G ag;have d:a.tmps.getD G undef=a.tmps[G]:=by simp[aI]
 rw[d]at hv;have hy:yielded N a.tmps j=(match a.tmps[G]with|.bool b=>some b|_=>none):=by unfold yielded;rw[i];simp only[Option.bind_some,Array.getElem?_eq_getElem aI];cases a.tmps[G]<;>rfl
 simp only[Region.wanted,q,hy];unfold VT at hg;split at hg
 ·rename_i b c;rw[c]at hv;rw[Ub hv];cases hg;cases b<;>cases aN<;>rfl
 ·rename_i g0 b c;rw[c]at hv;cases hg;cases g0 with
  |true=>rw[Ub (hv.1 rfl)];cases b<;>cases aN<;>rfl
  |false=>rw[hv.2 rfl];simp[undef]
 ·rename_i c;rw[c]at hv;cases hg;rw[hv.2 rfl];simp[undef]
 ·cases hg
theorem yU(r:ar T0 B σ a w ad h)(hs:X5 P N o σ σ'){af:Exit->Act->World->Prop}
  (hK:∀a' w',zh T0 B σ' a' w'->Xl B w w'->K a' w'):if Region.wanted o (yielded N a.tmps)then o.wp P a w K af else K (a.put o.dst undef) w:=by
 unfold X5 at hs;split at hs
 ·rename_i hg;have hw:Region.wanted o (yielded N a.tmps)=true:=c8
  rw[if_pos hw];split at hs
  ·rename_i d hd;exact ls r hd hs hK
  ·rename_i hd;split at hs
   ·rename_i T x y A;exact sQ r A hd hs hK
   ·exact hs.elim
 ·rename_i j aN hg;obtain⟨G,d,g,v,i,ag,hd,C,hs,rfl⟩:=hs;rw[rF r hg i ag C];cases g with
  |false=>rw[hd];exact hK _ _ ⟨ad,h,r.put d _ _ ⟨(fun hh=>by cases hh),fun _=>rfl⟩⟩ (Xl.refl _ _)
  |true=>
   have n:=hs rfl;clear hs;have ai:(∃v0,Xa P σ o.op o.type v0/\am v0=true/\v=unc v0/\v.flat=true)->o.wp P a w K af:=by rintro⟨v0,al,aS,rfl,aJ⟩;obtain⟨an,aH,hv⟩:=BB r al;refine P3 (v:=.O true _) r hd ⟨an,aH,⟨fun _=>Cw aJ (hv.unc aS),fun hh=>by cases hh⟩⟩ hK
   unfold D5 at n;split at n
   ·rename_i c A;split at n
    ·rename_i f Z;obtain⟨own,H,⟨M,ha,hs,m⟩,rfl⟩:=n;have fin:∀a' w',zh T0 B (σ.put d (VO [H])) a' w'->Xl B w w'->K a' w':=by
      rintro a' w' ⟨X',h',r'⟩ J;refine hK a' w' ⟨X',h',?_⟩ J;refine⟨by rw[r'.size,U.K9,U.K9],r'.defers,r'.d,r'.e,r'.f,fun t ht=>?_,fun t j=>?_,fun t j b=>?_,fun t j b=>?_,fun t j t' j' b=>?_⟩
      ·rw[U.K9]at ht;have h0:=r'.slot t (by rw[U.K9];exact ht)
       rw[U.Kr]at h0⊢;rw[U.qM]at h0⊢;by_cases hh:t=d/\d<σ.length
       ·rw[if_pos hh]at h0⊢;refine⟨fun _=>?_,fun hh=>by cases hh⟩;have aJ:(unc (a2 (H.map At.d))).flat=true:=by
         match H.map At.d with
         |[]=>rfl
         |[x]=>rfl
         |x::y::xs=>rfl
        have F:unc (a2 (H.map At.d))=a2 (H.map At.d):=by
         match H.map At.d with
         |[]=>rfl
         |[x]=>rfl
         |x::y::xs=>rfl
        have:=Cw aJ (by rw[F];exact h0);rw[F]at this;exact this
       ·rw[if_neg hh]at h0⊢;exact h0
      ·have:=r'.obj t j;rw[U.Kr]at this⊢;exact this
      ·have:=r'.c t j b;rw[U.Kr]at this⊢;exact this
      ·have:=r'.own t j b;rw[U.Kr]at this⊢;exact this
      ·have:=r'.inj t j t' j' b;rw[U.Kr]at this⊢;exact this
     rcases m with m|m
     ·exact RT r A Z hd ha true (fun _=>m) (fun hh=>by cases hh) hs fin
     ·exact RT r A Z hd ha false (fun hh=>by cases hh) (fun _=>m) hs fin
    ·exact ai n
   ·exact ai n
theorem C4(hs:jE P N ah o σ σ'):OM P N o σ σ':=by
 rcases hs with hs|hs
 ·rintro T0 B a w K af ⟨ad,h,r⟩ hK;exact yU r hs hK
 ·exact hs.2.1
theorem wc{N:Array Oper}{ah:Oper->Bool}:∀{l:List Oper}{σ:U}{a:Act}{w:World}{af:U->Prop}{F:Exit->Act->World->Prop},ny P N ah l σ af->zh T0 B σ a w->
  (∀σ' a' w',af σ'->zh T0 B σ' a' w'->Xl B w w'->F .normal a' w')->wpList P N F l a w
 |[],σ,a,w,af,F,hr,f,hK=>hK σ a w hr f (Xl.refl _ _)
 |o::l,σ,a,w,af,F,⟨σ',hs,hr⟩,f,hK=>by refine wpList_step fun K b=>?_;exact C4 hs _ _ _ _ _ _ f (fun a' w' f J=>b _ _ (wc hr f (fun σ2 G w2 hq ag aD=>hK σ2 G w2 hq ag (J.trans aD))))
open Go.RowKit
variable{C au:List Value}
def a3(P:Program)(c:Code)(af:Exit->U->Prop)(σ:U):Prop:=
 ∀(T0:CS)(B:Nat->Prop)(a:Act)(w:World),zh T0 B σ a w->c.wp P (fun e a' w'=>∃σ',af e σ'/\zh T0 B σ' a' w'/\Xl B w w') a w
def Wk(σ σ':U):Prop:=∀(T0:CS)(B:Nat->Prop)(a:Act)(w:World),zh T0 B σ a w->zh T0 B σ' a w
def wP(next:U->Prop)(af:Exit->U->Prop):Exit->U->Prop
 |.normal,σ=>next σ
 |e,σ=>af e σ
def Ic(ri:Nat)(af:Exit->U->Prop):Exit->U->Prop
 |.exit b,σ=>if b=ri then af .normal σ else af (.exit b) σ
 |e,σ=>af e σ
section
variable{af:Exit->U->Prop}
theorem Wk.refl(σ:U):Wk σ σ:=fun _ _ _ _ h=>h
theorem Wk.trans{e:U}(h:Wk σ σ')(k:Wk σ' e):Wk σ e:=fun _ _ _ _ r=>k _ _ _ _ (h _ _ _ _ r)
theorem lG(h:∀e σ,af e σ->F e σ)(k:a3 P c af σ):a3 P c F σ:=
 fun T0 B a w r=>wp_mono (k T0 B a w r) fun e _ _ ⟨σ',hq,hr⟩=>⟨σ',h e σ' hq,hr⟩
theorem mZ(h:af .normal σ):a3 P .skip af σ:=fun _ B _ w r=>wp_skip ⟨σ,h,r,Xl.refl B w⟩
theorem lI(h:af (.exit ri) σ):a3 P (.exit ri) af σ:=fun _ B _ w r=>wp_exit ⟨σ,h,r,Xl.refl B w⟩
theorem m4(h:af .ret σ):a3 P .ret af σ:=fun _ B _ w r=>wp_ret ⟨σ,h,r,Xl.refl B w⟩
theorem mQ{l:List Oper}(h:ny P l.toArray ah l σ (af .normal)):a3 P (.region ri l.toArray false) af σ:=
 fun _ _ _ _ r=>wp_region_lit (wc h r fun σ' _ _ hq hr J=>⟨σ',hq,hr,J⟩)
theorem xJ{x y:Code}(h:a3 P x (wP (a3 P y af) af) σ):a3 P (.seq x y) af σ:=by
 intro T0 B a w r;refine wp_seq (wp_mono (h T0 B a w r) ?_);rintro e a' w' ⟨σ',hq,hr,J⟩;cases e with
 |normal=>exact wp_mono (hq T0 B a' w' hr) fun e _ _ ⟨σ2,I,X,h3⟩=>⟨σ2,I,X,J.trans h3⟩
 |exit ri=>exact⟨σ',hq,hr,J⟩
 |goto l=>exact⟨σ',hq,hr,J⟩
 |ret=>exact⟨σ',hq,hr,J⟩
 |panic p=>exact⟨σ',hq,hr,J⟩
 |outgrown=>exact⟨σ',hq,hr,J⟩
theorem rm{c:Operand}{x y:Code}(Z:look P σ 0 c= .one (.d (.bool b)))(ht:b=true->a3 P x af σ)(hf:b=false->a3 P y af σ):a3 P (.cond c x y) af σ:=by
 intro T0 B a w r;obtain⟨ad,h,rr⟩:=r;have hv:=rr.look (P:=P) 0 c
 rw[Z]at hv;exact wp_cond_split (Ub hv) (fun J=>ht J T0 B a w ⟨ad,h,rr⟩) (fun J=>hf J T0 B a w ⟨ad,h,rr⟩)
theorem px(h:a3 P c (Ic ri af) σ):a3 P (.block ri c) af σ:=by
 intro T0 B a w r;refine wp_block (wp_mono (h T0 B a w r) ?_);rintro e a' w' ⟨σ',hq,hr,J⟩;cases e with
 |exit b=>
  simp only[Ic]at hq;simp only[Exit.inBlock];split at hq
  ·rename_i hh;rw[if_pos hh];exact⟨σ',hq,hr,J⟩
  ·rename_i hh;rw[if_neg hh];exact⟨σ',hq,hr,J⟩
 |normal=>exact⟨σ',hq,hr,J⟩
 |goto l=>exact⟨σ',hq,hr,J⟩
 |ret=>exact⟨σ',hq,hr,J⟩
 |panic p=>exact⟨σ',hq,hr,J⟩
 |outgrown=>exact⟨σ',hq,hr,J⟩
theorem Uh{ι:Type}(S:ι->U)(μ:ι->Nat)(j:ι)(h0:Wk σ (S j))
  (m:∀i,a3 P c (wP (fun σ'=>∃i',μ i'<μ i/\Wk σ' (S i')) af) (S i)):a3 P (.loop c) af σ:=by
 intro T0 B a w r b k C;have ai:∀n i a w,μ i=n->zh T0 B (S i) a w->
   ∃e a' w',(∃σ',af e σ'/\zh T0 B σ' a' w'/\Xl B w w')/\Arrives P (lone (b.at a (.code c:: .inLoop c::k)) C w) b k C e a' w':=by
  intro n;induction n using Nat.strongRecOn with
  |_ n ih=>
   intro i a w hn hr;obtain⟨e,d,f,⟨o,hq,h,g⟩,E⟩:=m i T0 B a w hr b _ C;cases e with
   |normal=>obtain⟨i',ag,t⟩:=hq;obtain⟨q,s,y,⟨x,z,A,v⟩,u⟩:=ih _ (hn▸ag) i' d f rfl (t T0 B d f h);exact⟨q,s,y,⟨x,z,A,g.trans v⟩,.of_steps (Steps.trans E (.one step_inLoop)) u⟩
   |exit ri=>exact⟨_,d,f,⟨o,hq,h,g⟩,.pass rfl (fun _ _=>.inl ab) E⟩
   |goto l=>exact⟨_,d,f,⟨o,hq,h,g⟩,.pass rfl (fun _ _=>.inl ab) E⟩
   |ret=>exact⟨_,d,f,⟨o,hq,h,g⟩,.pass rfl (fun _ _=>.inl ab) E⟩
   |panic p=>exact⟨_,d,f,⟨o,hq,h,g⟩,.pass rfl (fun _ _=>.inl ab) E⟩
   |outgrown=>exact⟨_,d,f,⟨o,hq,h,g⟩,.pass rfl (fun _ _=>.inl ab) E⟩
 obtain⟨e,a',w',hq,E⟩:=ai _ j a w rfl (h0 T0 B a w r);exact⟨e,a',w',hq,.of_steps (.one step_loop) E⟩
end
/-! ### entering a function, and leaving it -/
def Lk:List (List D)->U
 |[]=>[]
 |r::rs=>(a2 (r.map .d),[])::Lk rs
def TW(n:Nat)(ax:List (List D)):U:=Lk ax++List.replicate (n-ax.length) (V.any,[])
def vP(P:Program)(σ:U):ResultVar->List At->Prop
 |.tmp t,xs=>(σ.get t=a2 xs)/\t<σ.length
 |.cell t T,xs=>∃u c G,σ.get t= .one (.Z u c)/\σ.ob u 0= .box G/\Wj P T=true/\Ow P T=true/\P.cellsOf T≠1/\c+P.cellsOf T<=G.length/\xs=cut G c (P.cellsOf T)
def MF(P:Program)(σ:U):List ResultVar->List (List At)->Prop
 |[],A=>A=[]
 |r::rs,A=>∃xs ap,vP P σ r xs/\MF P σ rs ap/\A=xs::ap
def MA(σ:U):List (List At)->Option (List (List D))
 |[]=>some []
 |xs::ap=>(match rowOf σ xs,MA σ ap with|some r,some rs=>some (r::rs)|_,_=>none)
def TK(σ:U):At->Option D
 |.d (.sl _ _)=>none
 |.d x=>some x
 |.nil s=>some (.sl s [])
 |.O t j lo ae=>(match σ.ob t j with|.arr false Q M=>if lo=0/\ae=M.length then some (.sl Q M)else none|_=>none)
 |_=>none
def dA(σ:U):List At->Option (List D)
 |[]=>some []
 |x::xs=>(match TK σ x,dA σ xs with|some d,some ds=>some (d::ds)|_,_=>none)
def Oa(σ:U):List (List At)->Option (List (List D))
 |[]=>some []
 |xs::ap=>(match dA σ xs,Oa σ ap with|some r,some rs=>some (r::rs)|_,_=>none)
def nO(P:Program)(fn:Func)(own:Bool)(H:List (List D))(e:Exit)(σ:U):Prop:=
 (e= .ret\/e= .normal)/\∃A,MF P σ fn.results.toList A/\(if own then Oa σ A=some H/\(Yp A.flatten).Nodup else MA σ A=some H)
def de(P:Program)(fn:Func)(H:List (List D))(e:Exit)(σ:U):Prop:=
 (e= .ret\/e= .normal)/\∃A,MF P σ fn.results.toList A/\qe σ A=some H/\xB σ A/\(Yp A.flatten).Nodup
open Go.RowKit
variable{ap:List Oper}{fn:Func}{rv:List ResultVar}{A:List (List At)}
theorem PL:∀(ax:List (List D))(t:Nat),(Lk ax)[t]?=(ax[t]?).map fun r=>(a2 (r.map .d),[])
 |[],t=>by simp[Lk]
 |r::rs,0=>by simp[Lk]
 |r::rs,t+1=>by simpa[Lk]using PL rs t
theorem QX(ax:List (List D)):(Lk ax).length=ax.length:=by
 induction ax with
 |nil=>rfl
 |cons r rs ih=>simp[Lk,ih]
theorem m5(hT:∀b k,T b k->b<w.heap.size)(ha:Yn (fun v ac=>∃C,yg v C/\Yn (Rd T w) C ac) au ax):
  zh T (fun b=>b<w.heap.size) (TW n ax) {tmps:=au.toArray++Array.replicate (n-au.toArray.size) undef,defers:=[]} w:=by
 have hl:=ha.length;refine⟨fun _=>False,fun _ _=>Hd.of undef,?_⟩;have ao:∀t j,(TW n ax).ob t j= .none:=by
  intro t j;unfold U.ob TW;rcases Nat.lt_or_ge t ax.length with h|h
  ·rw[List.getElem?_append_left da,PL,List.getElem?_eq_getElem h];simp[XG]
  ·rw[List.getElem?_append_right da,List.getElem?_replicate];split
   ·rename_i e he;split at he
    ·cases he;simp[XG]
    ·cases he
   ·rfl
 have P:∀b k v,T b k->w.cell? _=some v->w.cell? ⟨b,k,none⟩=some v/\ak T (fun _=>False) b k:=fun b k v J Z=>⟨Z,.inl J⟩;refine⟨by simp[TW,QX,hl],rfl,(fun b J=>J),(fun b J=>J.elim),hT,fun t ht=>?_,fun t j=>by rw[ao];trivial,fun t j b W=>absurd (ao t j) W,fun t j b W=>absurd (ao t j) W,fun t j t' j' b W=>absurd (ao t j) W⟩;unfold U.get TW;rcases Nat.lt_or_ge t ax.length with ag|aG
 ·rw[List.getElem?_append_left (by rw[QX];exact ag),PL,List.getElem?_eq_getElem ag];obtain⟨v,hv,C,hf,aa⟩:=ha.get' t ax[t] (List.getElem?_eq_getElem ag);have d:(au.toArray++Array.replicate (n-au.toArray.size) undef).getD t undef=v:=by rw[Array.getD_eq_getD_getElem?,Array.getElem?_append_left a0];simp[hv]
  simp only[d];exact(HP hf (HE (aa.imp fun _ _=>Rd.mono P))).up
 ·rw[List.getElem?_append_right (by rw[QX];exact aG),List.getElem?_replicate];split
  ·rename_i e he;split at he
   ·cases he;trivial
   ·cases he
  ·trivial
theorem mj{ai:Nat->Nat->Ob}{xs:List At}{v:Value}(hv:J8 T h ai w (a2 xs) v):∃C,yg v C/\Yn (Ys T h ai w) xs C:=by
 match xs,hv with
 |[],hv=>obtain⟨C,rfl,aa⟩:=hv;exact⟨C.toList,.inr ⟨by rw[<-aa.length];simp,ab⟩,aa⟩
 |[x],hv=>exact⟨[v],.inl ⟨v,rfl,rfl,Ys.Qe hv⟩,.cons hv .nil⟩
 |x::y::xs,hv=>obtain⟨C,rfl,aa⟩:=hv;exact⟨C.toList,.inr ⟨by rw[<-aa.length];simp,ab⟩,aa⟩
theorem iu(r:ar T0 B σ a w ad h):∀{rs:List ResultVar}{A:List (List At)},MF P σ rs A->
  ∃vs E,(rs.mapM (m:=Sem) fun|.tmp t=>pure (a.tmps.getD t undef)|.cell u t=>do loadVar t (<-asAddr (a.tmps.getD u undef))).run P w= .ok vs w/\Yn yg vs E/\Yn (fun xs C=>Yn (Ys (ak T0 ad) h σ.ob w) xs C) A E
 |[],A,hr=>by cases hr;exact⟨[],[],ab,.nil,.nil⟩
 |rv::rs,A,hr=>by
  obtain⟨xs,ap,I,X,rfl⟩:=hr;obtain⟨vs,E,aH,hf,aa⟩:=iu r X;have i:∃v C,(match rv with|.tmp t=>(pure (a.tmps.getD t undef):Sem Value)|.cell u t=>do loadVar t (<-asAddr (a.tmps.getD u undef))).run P w= .ok v w/\yg v C/\Yn (Ys (ak T0 ad) h σ.ob w) xs C:=by
   cases rv with
   |tmp t=>
    obtain⟨hg,ag⟩:=I;have hv:=r.slot t ag
    rw[hg]at hv;obtain⟨C,hf,aa⟩:=mj hv;exact⟨_,C,ab,hf,aa⟩
   |cell t T=>
    obtain⟨u,c,G,hg,ho,aj,k,W,aF,rfl⟩:=I;have hv:=r.get t
    rw[hg]at hv;obtain⟨b,C,e,J,he,hh,aa⟩:=r.box ho hv;have aC:=aa.length
    obtain⟨an,d,g,_⟩:=gR (P:=P) (w:=w) aj (b:=b) (aw:=c) (Xh _ _ _ Y) (fun j u F=>xO hh _ _ (xn _ _ _ _ _ F));refine⟨an,cut C.toList c _,?_,.inr ⟨by rw[Xh _ _ _ Y];exact W,g k⟩,aa.cut _ _⟩;simp only[he,asAddr,Sem.run_pure];exact d
  obtain⟨v,C,n,l,f⟩:=i;refine⟨v::vs,C::E,?_,.cons l hf,.cons f aa⟩;simp_all
theorem SC(r:ar T0 B σ a w ad h)(hr:MF P σ fn.results.toList A):
  ∃vs E,(results fn a.tmps).run P w= .ok (wa vs) w/\Yn yg vs E/\Yn (fun xs C=>Yn (Ys (ak T0 ad) h σ.ob w) xs C) A E:=by
 obtain⟨vs,E,aH,hf,aa⟩:=iu r hr;refine⟨vs,E,?_,hf,aa⟩;unfold results;rw[Array.mapM_eq_mapM_toList];change(((fn.results.toList.mapM (m:=Sem) fun|.tmp t=>pure (a.tmps.getD t undef)|.cell u t=>do loadVar t (<-asAddr (a.tmps.getD u undef)))>>=fun l=>pure l.toArray)>>=fun(vs:Array Value)=>pure _).run P w=_;simp only[Sem.run_bind,aH,Sem.run_pure];congr 1;match vs with
 |[]=>rfl
 |[v]=>rfl
 |v::v'::vs=>simp[wa]
theorem Eo(r:ar T0 B σ a w ad h){T:CS}(hT:∀b k,E6 T0 ad h σ b k->T b k):∀{A:List (List At)}{E:List (List Value)}{H:List (List D)},MA σ A=some H->Yn (fun xs C=>Yn (Ys (ak T0 ad) h σ.ob w) xs C) A E->
  Yn (fun C ac=>Yn (U6 false T w) C ac) E H
 |[],E,H,hr,aa=>by cases aa;simp[MA]at hr;subst hr;exact .nil
 |xs::A,E,H,hr,aa=>by
  cases aa with
  |cons I aa=>
   simp only[MA]at hr;split at hr
   ·rename_i ac rs aA s;cases hr;refine .cons ?_ (Eo r hT s aa);have:=r.rowOf false aA I (fun hh=>by cases hh)
    refine this.imp fun v d hd=>?_;exact Rd.mono (fun b k v J Z=>⟨Z,hT b k J⟩) hd
   ·cases hr
theorem uo:∀{xs:List At}{ds:List D},dA σ xs=some ds->Yn (fun x d=>TK σ x=some d) xs ds
 |[],ds,hr=>by simp[dA]at hr;subst hr;exact .nil
 |x::xs,ds,hr=>by
  simp only[dA]at hr;split at hr
  ·rename_i d g I X;cases hr;exact .cons I (uo X)
  ·cases hr
theorem Ct:∀{A:List (List At)}{H:List (List D)},Oa σ A=some H->Yn (fun xs ac=>Yn (fun x d=>TK σ x=some d) xs ac) A H
 |[],H,hr=>by simp[Oa]at hr;subst hr;exact .nil
 |xs::A,H,hr=>by
  simp only[Oa]at hr;split at hr
  ·rename_i d g I X;cases hr;exact .cons (uo I) (Ct X)
  ·cases hr
theorem MM(r:ar T0 B σ a w ad h){x:At}{d:D}{v:Value}(O:TK σ x=some d)(hv:Ys (ak T0 ad) h σ.ob w x v):zm (ak T0 ad) w v d/\(∀b,d.scalar=false->blk v=some b->∃t j lo ae,x= .O t j lo ae/\σ.ob t j≠ .none/\(h t j).u b):=by
 cases x with
 |d x=>
  cases x with
  |sl s M=>simp[TK]at O
  |int k n=>simp[TK]at O;subst O;exact⟨hv,fun b J=>by cases J⟩
  |bool b=>simp[TK]at O;subst O;exact⟨hv,fun b J=>by cases J⟩
  |str s=>simp[TK]at O;subst O;exact⟨hv,fun b J=>by cases J⟩
  |unk=>simp[TK]at O;subst O;exact⟨hv,fun b J=>by cases J⟩
 |nil s=>simp[TK]at O;subst O;cases hv;exact⟨⟨0,[],World.ownsRow_nil w 0 0 s,ab,.nil⟩,fun b _ J=>by cases J⟩
 |O t j lo ae=>
  simp only[TK]at O;split at O
  ·rename_i Q M ho;split at O
   ·rename_i Z;obtain⟨rfl,rfl⟩:=Z;cases O;obtain⟨_,aG,_⟩:=hv.2.1 _ Q M ho;have he:=aG rfl rfl
    have h0:=r.obj t j;have aM:=r.c t j;rw[ho]at h0 aM;refine⟨by rw[he];exact h0,fun b _ J=>⟨t,j,0,M.length,rfl,by rw[ho];simp,aM b ab aD⟩⟩
   ·cases O
  ·cases O
 |any=>simp[TK]at O
 |ptr=>simp[TK]at O
 |Z=>simp[TK]at O
 |fn=>simp[TK]at O
 |am=>simp[TK]at O
 |ac=>simp[TK]at O
theorem mL(hf:P.funcs[f]?=some fn)(J:fn.body=some c)(ap:R7 P f=true){own:Bool}
  (hw:a3 P c (nO P fn own H) (TW fn.ntmps ax)):JT P f own ax H:=by
 refine⟨ap,fun T w au hT al=>calls_of_wp hf J ?_⟩;refine wp_mono (hw T (fun b=>b<w.heap.size) _ w (m5 hT al)) ?_;rintro e a' w' ⟨σ',⟨he,A,K,aB⟩,⟨ad,h,r⟩,ab⟩;have p:Below w.heap.size w w':=⟨ab.os,ab.tape,ab.output,ab.size,ab.block⟩
 obtain⟨vs,E,aH,aT,aa⟩:=SC r K;have o:a'.defers=[]/\∃v,(results fn a'.tmps).run P w'= .ok v w'/\hC own T w H (.returned v) w':=by
  refine⟨r.defers,_,aH,?_⟩;cases own with
  |false=>
   refine⟨vs,E,fun b=>w.heap.size<=b/\b<w'.heap.size,rfl,p,fun b J=>J,aT,?_,fun hh=>by cases hh⟩;refine Eo r (fun b k J=>?_) aD aa;rcases J with J|⟨t,j,q,Q,M,ho,J⟩
   ·rcases J with J|J
    ·exact .inl J
    ·have:=r.e b J;exact .inr ⟨Y,this.2⟩
   ·have:=r.own t j b aD J;exact .inr ⟨Y,this.2.2⟩
  |true=>
   obtain⟨av,aE⟩:=aB;have C:=Ct av
   have s:=U5 C;have n:=U5 aa;refine⟨vs,E,ad,rfl,p,(fun b J=>by have:=r.e b J;exact⟨Y,this.2⟩),aT,?_,fun _=>⟨fun i cc d b Z hd aG J=>?_,fun i j cc F d d' b Z hd an m aG af J aj=>?_⟩⟩
   ·clear s n aT aH K av aE he hw;induction C generalizing E with
    |nil=>cases aa;exact .nil
    |cons hr _ ih=>
     cases aa with
     |cons ag aa=>refine .cons ?_ (ih _ aa);refine Yn.ka (by rw[<-ag.length,hr.length]) (fun i v d hv hd=>?_);obtain⟨x,O,l⟩:=hr.get' i d hd;obtain⟨v',G,g⟩:=ag.get i x O;rw[hv]at G;cases G;exact(MM r l g).1
   ·obtain⟨x,O,l⟩:=s.get' i d hd;obtain⟨v',G,g⟩:=n.get i x O;rw[Z]at G;cases G;obtain⟨t,j,lo,ae,_,W,aA⟩:=(MM r l g).2 b aG J;have:=r.own t j b W aA
    grind
   ·obtain⟨x,O,l⟩:=s.get' i d hd;obtain⟨v',G,g⟩:=n.get i x O;rw[Z]at G;cases G;obtain⟨y,a,B⟩:=s.get' j d' m;obtain⟨V,aI,z⟩:=n.get j y a;rw[an]at aI;cases aI;obtain⟨t,u,lo,ae,rfl,W,aA⟩:=(MM r l g).2 b aG J;obtain⟨t2,L,bh,aC,rfl,aS,D⟩:=(MM r B z).2 b af aj;obtain⟨rfl,rfl⟩:=r.inj t u t2 L b W aS aA D;exact Iu _ i j t u lo ae bh aC aE O a
 rcases he with rfl|rfl
 ·exact o
 ·exact o
theorem tb(hf:P.funcs[f]?=some fn)(J:fn.body=some c)(ap:R7 P f=true)
  (hw:a3 P c (de P fn H) (TW fn.ntmps ax)):YJ P f ax H:=by
 refine⟨ap,fun T w au hT al=>calls_of_wp hf J ?_⟩;refine wp_mono (hw T (fun b=>b<w.heap.size) _ w (m5 hT al)) ?_;rintro e a' w' ⟨σ',⟨he,A,K,Y,aC,aE⟩,⟨ad,h,r⟩,ab⟩;have p:Below w.heap.size w w':=⟨ab.os,ab.tape,ab.output,ab.size,ab.block⟩
 obtain⟨vs,E,aH,aT,aa⟩:=SC r K;have o:a'.defers=[]/\∃v,(results fn a'.tmps).run P w'= .ok v w'/\hR w H (.returned v) w':=by
  refine⟨r.defers,_,aH,vs,E,rfl,p,aT,?_,?_⟩
  ·clear aE aC K aH aT hw;induction aa generalizing H with
   |nil=>simp[qe]at Y;subst Y;exact .nil
   |cons I _ ih=>
    simp only[qe]at Y;split at Y
    ·rename_i ac rs aA s;cases Y;exact .cons (by rw[<-I.length];exact(TT aA).1) (ih s)
    ·cases Y
  ·refine(PG r (U5 aa) (P1 Y).1 (Tv aC) aE).mono (fun b J=>?_);have:=r.zZ _ b J
   grind
 rcases he with rfl|rfl
 ·exact o
 ·exact o
open Go.RowKit
variable{aa:List Ob}{op:BinOp}
theorem U.cz(e:bD)(σ:U):U.get (e::σ) 0=e.1:=rfl
theorem U.lk(e:bD)(σ:U)(n:Nat):U.get (e::σ) (n+1)=U.get σ n:=by simp[U.get]
theorem U.aw(e:bD)(σ:U)(j:Nat):U.ob (e::σ) 0 j=XG e.2 j:=rfl
theorem U.oY(e:bD)(σ:U)(n j:Nat):U.ob (e::σ) (n+1) j=U.ob σ n j:=by simp[U.ob]
theorem pM(o:Ob)(aa:List Ob):XG (o::aa) 0=o:=rfl
theorem TN(o:Ob)(aa:List Ob)(n:Nat):XG (o::aa) (n+1)=XG aa n:=by simp[XG]
theorem s1(n:Nat):XG [] n= .none:=by simp[XG]
def aP(P:Program)(σ:U)(x:Operand):Prop×Int:=
 match unc (look P σ 0 x)with
 |.one (.d (.int _ n))=>(am (look P σ 0 x)=true,n)
 |_=>(False,0)
def ci(P:Program)(σ:U)(x:Operand):IntKind:=
 match unc (look P σ 0 x)with
 |.one (.d (.int k _))=>k
 |_=>.i64
theorem Tc(h:(aP P σ x).1):Pk P σ x (ci P σ x) (aP P σ x).2:=by
 unfold aP at h⊢;unfold ci;unfold Pk;split at h
 ·rename_i k n heq;rw[heq];exact⟨h,rfl⟩
 ·exact h.elim
def jN(P:Program)(σ:U)(ai:Nat):Option Operand->Prop×Nat
 |none=>(True,ai)
 |some x=>((aP P σ x).1/\0<=(aP P σ x).2,(aP P σ x).2.toNat)
theorem Nl{x:Option Operand}(h:(jN P σ ai x).1):bm P σ ai x (jN P σ ai x).2:=by
 cases x with
 |none=>rfl
 |some x=>have I:=Tc h.1;exact⟨_,_,I.1,I.2,h.2,rfl⟩
def rowAt(M:List (List D))(i:Nat):List D:=M.getD i []
def bk(s:ByteArray)(i:Nat):Nat:=(s.data.toList.getD i 0).toNat
def Lv(P:Program)(σ:U)(T:TypeId)(x ix:Operand):Prop×V:=
 match unc (look P σ 0 x)with
 |.one (.d (.sl Q M))=>((am (look P σ 0 x)=true/\(aP P σ ix).1)/\0<=(aP P σ ix).2/\(Xo P T=true/\Q=P.cellsOf (E P T)/\0<Q)/\(aP P σ ix).2<(M.length:Int),.one (.am (rowAt M (aP P σ ix).2.toNat) 0))
 |.one (.O t j lo ae)=>((am (look P σ 0 x)=true/\(aP P σ ix).1)/\0<=(aP P σ ix).2/\(Xo P T=true/\0<P.cellsOf (E P T)/\(match σ.ob t j with|.arr _ Q _=>Q=P.cellsOf (E P T)|_=>False))/\(aP P σ ix).2<(ae:Int),.one (.ptr t j (lo+(aP P σ ix).2.toNat) 0))
 |.one (.ac t j m c none)=>((am (look P σ 0 x)=true/\(aP P σ ix).1)/\0<=(aP P σ ix).2/\(Xo P T=true/\0<P.cellsOf (E P T))/\(match σ.ob t j with|.arr true _ M=>m<M.length/\(match(rowAt M m)[c]? with|some (.sl n s)=>n=P.cellsOf (E P T)/\(aP P σ ix).2<(s.length:Int)|_=>False)|_=>False),.one (.ac t j m c (some ((aP P σ ix).2.toNat*P.cellsOf (E P T)))))
 |.one (.Z t c)=>((am (look P σ 0 x)=true/\(aP P σ ix).1)/\0<=(aP P σ ix).2/\(match σ.ob t 0 with|.box _=>True|_=>False)/\(match Bm P T with|some n=>1<n/\(aP P σ ix).2<(n:Int)|none=>False),.one (.Z t (c+(aP P σ ix).2.toNat*P.cellsOf (E P T))))
 |_=>(False,.any)
def gG(P:Program)(σ:U)(T:TypeId)(x:Operand):Prop×V:=
 match unc (look P σ 0 x)with
 |.one (.Z t c)=>(match σ.ob t 0 with|.box G=>(am (look P σ 0 x)=true/\Wj P T=true/\c+P.cellsOf T<=G.length,bt P T (cut G c (P.cellsOf T)))|_=>(False,.any))
 |.one (.ptr t j i c)=>(match σ.ob t j with|.arr q Q M=>((am (look P σ 0 x)=true/\Wj P T=true/\c+P.cellsOf T<=Q)/\i<M.length,bt P T (HC q t j i c (cut (rowAt M i) c (P.cellsOf T))))|_=>(False,.any))
 |.one (.am r c)=>(am (look P σ 0 x)=true/\Wj P T=true/\c+P.cellsOf T<=r.length,bt P T ((cut r c (P.cellsOf T)).map .d))
 |.one (.ac t j i c (some k))=>(match σ.ob t j with
  |.arr true _ M=>(match(rowAt M i)[c]? with
   |some (.sl 1 s)=>((am (look P σ 0 x)=true/\Wj P T=true)/\i<M.length/\P.cellsOf T=1/\k<s.length/\(rowAt s k).all D.scalar=true,bt P T ((rowAt s k).map .d))
   |_=>(False,.any))
  |_=>(False,.any))
 |_=>(False,.any)
def IG(P:Program)(σ:U)(T:TypeId)(x:Operand)(f:Nat):Prop×V:=
 match unc (look P σ 0 x)with
 |.one (.Z t c)=>(am (look P σ 0 x)=true/\U4 P T f=true/\(match σ.ob t 0 with|.box _=>True|_=>False),.one (.Z t (c+KJ P T f)))
 |.one (.ptr t j i c)=>(am (look P σ 0 x)=true/\U4 P T f=true/\(match σ.ob t j with|.arr _ _ _=>True|_=>False),.one (.ptr t j i (c+KJ P T f)))
 |.one (.am r c)=>(am (look P σ 0 x)=true/\U4 P T f=true,.one (.am r (c+KJ P T f)))
 |.one (.ac t j i c (some k))=>(am (look P σ 0 x)=true/\U4 P T f=true/\(match σ.ob t j with|.arr true _ _=>True|_=>False),.one (.ac t j i c (some (k+KJ P T f))))
 |_=>(False,.any)
def pJ(P:Program)(op:BinOp)(T:TypeId)(x y:V):Prop×V:=
 match op,x,y with
 |.eql,.one (.d (.int k m)),.one (.d (.int k' n))=>(k'=k,.one (.d (.bool (m==n))))
 |.neq,.one (.d (.int k m)),.one (.d (.int k' n))=>(k'=k,.one (.d (.bool (m !=n))))
 |.lss,.one (.d (.int k m)),.one (.d (.int k' n))=>(k'=k,.one (.d (.bool (decide (m<n)))))
 |.leq,.one (.d (.int k m)),.one (.d (.int k' n))=>(k'=k,.one (.d (.bool (decide (m<=n)))))
 |.gtr,.one (.d (.int k m)),.one (.d (.int k' n))=>(k'=k,.one (.d (.bool (decide (m>n)))))
 |.geq,.one (.d (.int k m)),.one (.d (.int k' n))=>(k'=k,.one (.d (.bool (decide (m>=n)))))
 |.add,.one (.d (.int k m)),.one (.d (.int k' n))=>(k'=k,.one (.d (.int k (k.wrap (m+n)))))
 |.sub,.one (.d (.int k m)),.one (.d (.int k' n))=>(k'=k,.one (.d (.int k (k.wrap (m-n)))))
 |.mul,.one (.d (.int k m)),.one (.d (.int k' n))=>(k'=k,.one (.d (.int k (k.wrap (m*n)))))
 |.quo,.one (.d (.int k m)),.one (.d (.int k' n))=>(k'=k/\n≠0,.one (.d (.int k (k.wrap (m.tdiv n)))))
 |.rem,.one (.d (.int k m)),.one (.d (.int k' n))=>(k'=k/\n≠0,.one (.d (.int k (m.tmod n))))
 |.and,.one (.d (.int k m)),.one (.d (.int k' n))=>(k'=k,.one (.d (.int k (fy k m n))))
 |.or,.one (.d (.int k m)),.one (.d (.int k' n))=>(k'=k,.one (.d (.int k (fK k m n))))
 |.xor,.one (.d (.int k m)),.one (.d (.int k' n))=>(k'=k,.one (.d (.int k (fj k m n))))
 |.shl,.one (.d (.int k m)),.one (.d (.int _ n))=>(0<=n,.one (.d (.int k (k.wrap (m*2^min n.toNat k.bits)))))
 |.shr,.one (.d (.int k m)),.one (.d (.int _ n))=>(0<=n,.one (.d (.int k (m.fdiv (2^min n.toNat k.bits)))))
 |.add,.one (.d (.str m)),.one (.d (.str n))=>(((m.size+n.size:Nat):Int)<=9223372036854775807,.one (.d (.str (m++n))))
 |.eql,.one (.d (.str m)),.one (.d (.str n))=>(True,.one (.d (.bool (decide (m=n)))))
 |.neq,.one (.d (.str m)),.one (.d (.str n))=>(True,.one (.d (.bool (!decide (m=n)))))
 |.eql,.one (.d (.bool m)),.one (.d (.bool n))=>(Cu P T=true,.one (.d (.bool (m==n))))
 |.neq,.one (.d (.bool m)),.one (.d (.bool n))=>(Cu P T=true,.one (.d (.bool (!(m==n)))))
 |.eql,.agg xs,.agg ys=>(PR P T=true/\(J2 P (Kq P T) xs ys).isSome=true,.one (.d (.bool ((J2 P (Kq P T) xs ys).getD false))))
 |.neq,.agg xs,.agg ys=>(PR P T=true/\(J2 P (Kq P T) xs ys).isSome=true,.one (.d (.bool (!(J2 P (Kq P T) xs ys).getD false))))
 |_,_,_=>(False,.any)
def MX(P:Program)(σ:U)(T:TypeId):List (Nat×Operand)->List At->Prop×List At
 |[],r=>(True,r)
 |(i,x)::K,r=>((bb P T i=true/\am (look P σ (aV P T i) x)=true/\(unc (look P σ (aV P T i) x)).flat=true/\
   (unc (look P σ (aV P T i) x)).cells.length=P.cellsOf (aV P T i)/\VU P T i+P.cellsOf (aV P T i)<=r.length)/\(MX P σ T K (place r (VU P T i) (unc (look P σ (aV P T i) x)).cells)).1,
   (MX P σ T K (place r (VU P T i) (unc (look P σ (aV P T i) x)).cells)).2)
theorem vc{P:Program}{σ:U}{T:TypeId}:∀{K:List (Nat×Operand)}{r:List At},(MX P σ T K r).1->Ou P σ T K r (MX P σ T K r).2
 |[],_,_=>rfl
 |(_,_)::_,_,h=>⟨h.1.1,h.1.2.1,h.1.2.2.1,h.1.2.2.2.1,h.1.2.2.2.2,vc h.2⟩
def em:V->Bool
 |.one (.d (.bool _))=>true
 |_=>false
def e5:V->Bool
 |.one (.d (.bool b))=>b
 |_=>false
theorem gS:∀{v:V},em v=true->v= .one (.d (.bool (e5 v)))
 |.one (.d (.bool _)),_=>rfl
def aU(P:Program)(σ:U)(op:Op)(A:TypeId):Prop×V:=
 match op with
 |.move x=>(True,look P σ A x)
 |.assign x=>(True,look P σ A x)
 |.pick c a b=>
  (match unc (look P σ A c)with
  |.one (.d (.bool g))=>((am (look P σ A c)=true/\(g=true->em (unc (look P σ A a))=true)/\(g=false->em (unc (look P σ A b))=true))/\(g=true->am (look P σ A a)=true)/\(g=false->am (look P σ A b)=true),.one (.d (.bool (cond g (e5 (unc (look P σ A a))) (e5 (unc (look P σ A b)))))))
  |_=>(False,.any))
 |.load T x=>gG P σ T x
 |.fieldAddr T x f=>IG P σ T x f
 |.nilCheck x=>(match unc (look P σ 0 x)with
  |.one (.Z t c)=>(am (look P σ 0 x)=true/\(match σ.ob t 0 with|.box _=>True|_=>False),.one (.Z t c))
  |_=>(False,.any))
 |.indexAddr T x ix=>Lv P σ T x ix
 |.index T x ix=>
  (match unc (look P σ 0 x)with
  |.one (.d (.str s))=>((am (look P σ 0 x)=true/\(aP P σ ix).1)/\0<=(aP P σ ix).2/\Oo P T=true/\(aP P σ ix).2<(s.size:Int),.one (.d (.int .u8 (bk s (aP P σ ix).2.toNat))))
  |.agg xs=>((am (look P σ 0 x)=true/\(aP P σ ix).1)/\0<=(aP P σ ix).2/\(match Bm P T with|some n=>(aP P σ ix).2<(n:Int)|none=>False)/\Wj P (E P T)=true/\(aP P σ ix).2.toNat*P.cellsOf (E P T)+P.cellsOf (E P T)<=xs.length,
    bt P (E P T) (cut xs ((aP P σ ix).2.toNat*P.cellsOf (E P T)) (P.cellsOf (E P T))))
  |_=>(False,.any))
 |.slice T x lo hi none=>
  (match unc (look P σ 0 x)with
  |.one (.d (.str s))=>((am (look P σ 0 x)=true/\Oo P T=true/\(jN P σ 0 lo).1/\(jN P σ s.size hi).1)/\(jN P σ 0 lo).2<=(jN P σ s.size hi).2/\(jN P σ s.size hi).2<=s.size,.one (.d (.str (s.extract (jN P σ 0 lo).2 (jN P σ s.size hi).2))))
  |.one (.d (.sl Q M))=>((am (look P σ 0 x)=true/\Xo P T=true/\Q=P.cellsOf (E P T)/\(jN P σ 0 lo).1/\(jN P σ M.length hi).1)/\(jN P σ 0 lo).2<=(jN P σ M.length hi).2/\(jN P σ M.length hi).2<=M.length,
    .one (.d (.sl Q (cut M (jN P σ 0 lo).2 ((jN P σ M.length hi).2-(jN P σ 0 lo).2)))))
  |.one (.O t j o ae)=>((am (look P σ 0 x)=true/\Xo P T=true/\(match σ.ob t j with|.arr _ Q _=>Q=P.cellsOf (E P T)|_=>False)/\(jN P σ 0 lo).1/\(jN P σ ae hi).1)/\(jN P σ 0 lo).2<=(jN P σ ae hi).2/\(jN P σ ae hi).2<=ae,
    .one (.O t j (o+(jN P σ 0 lo).2) ((jN P σ ae hi).2-(jN P σ 0 lo).2)))
  |_=>(False,.any))
 |.binOp op T x y _=>((am (look P σ T x)=true/\am (look P σ T y)=true)/\(pJ P op T (unc (look P σ T x)) (unc (look P σ T y))).1,(pJ P op T (unc (look P σ T x)) (unc (look P σ T y))).2)
 |.unOp .not _ x=>(match unc (look P σ 0 x)with|.one (.d (.bool b))=>(am (look P σ 0 x)=true,.one (.d (.bool (!b))))|_=>(False,.any))
 |.unOp .neg _ x=>(match unc (look P σ 0 x)with|.one (.d (.int k n))=>(am (look P σ 0 x)=true,.one (.d (.int k (k.wrap (-n)))))|_=>(False,.any))
 |.convert S T x=>(match unc (look P σ 0 x),fU P T with|.one (.d (.int _ n)),some k=>(am (look P σ 0 x)=true/\(P.underlying S).isSome=true,.one (.d (.int k (k.wrap n))))|_,_=>(False,.any))
 |.extract x i=>(match unc (look P σ 0 x)with|.Z xs=>(am (look P σ 0 x)=true/\i<xs.length/\(xs.getD i .any).flat=true,xs.getD i .any)|_=>(False,.any))
 |.field T x f=>
  (match unc (look P σ 0 x)with
  |.agg xs=>(am (look P σ 0 x)=true/\U4 P T f=true/\Wj P (Wc P T f)=true/\KJ P T f+P.cellsOf (Wc P T f)<=xs.length,bt P (Wc P T f) (cut xs (KJ P T f) (P.cellsOf (Wc P T f))))
  |_=>(False,.any))
 |.build T parts=>(match TG P 12 T with|some z=>((Qq P T=true/\Ow P T=true)/\(MX P σ T parts.toList z).1,.agg (MX P σ T parts.toList z).2)|none=>(False,.any))
 |.call ⟨.builtin .len,⟨[x]⟩,⟨[t]⟩⟩=>
  (match unc (look P σ t x)with
  |.one (.d (.str s))=>(am (look P σ t x)=true/\Oo P t=true,.one (.d (.int .i64 s.size)))
  |.one (.d (.sl _ M))=>(am (look P σ t x)=true/\Xo P t=true,.one (.d (.int .i64 M.length)))
  |.one (.nil _)=>(am (look P σ t x)=true/\Xo P t=true,.one (.d (.int .i64 0)))
  |.one (.O u j _ ae)=>(am (look P σ t x)=true/\Xo P t=true/\(match σ.ob u j with|.arr _ _ _=>True|.lit _ _=>True|_=>False),.one (.d (.int .i64 ae)))
  |.one (.ac u j i c none)=>(match σ.ob u j with
   |.arr true _ M=>(match(rowAt M i)[c]? with
    |some (.sl _ s)=>((am (look P σ t x)=true/\Xo P t=true)/\i<M.length,.one (.d (.int .i64 s.length)))
    |_=>(False,.any))
   |_=>(False,.any))
  |_=>(False,.any))
 |.call ⟨.builtin .max,⟨[x,y]⟩,_⟩=>((aP P σ x).1/\(aP P σ y).1/\ci P σ y=ci P σ x,.one (.d (.int (ci P σ x) (if(aP P σ y).2>(aP P σ x).2 then(aP P σ y).2 else(aP P σ x).2))))
 |.call ⟨.builtin .min,⟨[x,y]⟩,_⟩=>((aP P σ x).1/\(aP P σ y).1/\ci P σ y=ci P σ x,.one (.d (.int (ci P σ x) (if(aP P σ y).2<(aP P σ x).2 then(aP P σ y).2 else(aP P σ x).2))))
 |_=>(False,.any)
theorem fC{o:Ob}(h:(match o with|.box _=>True|_=>False)):∃G,o= .box G:=by
 cases o with
 |box c=>exact⟨c,rfl⟩
 |none=>exact h.elim
 |arr q s r=>exact h.elim
 |lit s r=>exact h.elim
theorem pu{o:Ob}(h:(match o with|.arr _ _ _=>True|_=>False)):∃q Q M,o= .arr q Q M:=by
 cases o with
 |arr q s r=>exact⟨q,s,r,rfl⟩
 |none=>exact h.elim
 |box c=>exact h.elim
 |lit s r=>exact h.elim
theorem nx{o:Ob}(h:(match o with|.arr _ _ _=>True|.lit _ _=>True|_=>False)):(∃q Q M,o= .arr q Q M)\/∃Q M,o= .lit Q M:=by
 cases o with
 |arr q s r=>exact .inl ⟨q,s,r,rfl⟩
 |none=>exact h.elim
 |box c=>exact h.elim
 |lit s r=>exact .inr ⟨s,r,rfl⟩
theorem hg{o:Ob}(h:(match o with|.arr _ Q _=>Q=n|_=>False)):∃q M,o= .arr q n M:=by
 cases o with
 |arr q s r=>simp at h;subst h;exact⟨q,r,rfl⟩
 |none=>exact h.elim
 |box c=>exact h.elim
 |lit s r=>exact h.elim
theorem Do{T:TypeId}{x y:V}(Z:(pJ P op T x y).1):iM P op T x y (pJ P op T x y).2:=by
 unfold pJ at Z⊢;split at Z;all_goals first
  |exact Z.elim
  |exact⟨.inr Z,rfl⟩
  |exact⟨.inr Z.1,Z.2,rfl⟩
  |exact⟨.inl (.inl rfl),Z,rfl⟩
  |exact⟨.inl (.inr rfl),Z,rfl⟩
  |exact⟨Z,rfl⟩
  |rfl
  |(obtain⟨q,hq⟩:=Option.isSome_iff_exists.1 Z.2;exact⟨Z.1,q,hq,.inl ⟨rfl,by rw[hq];rfl⟩⟩)
  |(obtain⟨q,hq⟩:=Option.isSome_iff_exists.1 Z.2;exact⟨Z.1,q,hq,.inr ⟨rfl,by rw[hq];rfl⟩⟩)
theorem gP{op:Op}{A:TypeId}(Z:(aU P σ op A).1):Xa P σ op A (aU P σ op A).2:=by
 unfold aU at Z⊢;split at Z
 ·rfl
 ·rfl
 ·rename_i c a b;split at Z
  ·rename_i g I;exact⟨g,_,_,Z.1.1,I,(fun hh=>gS (Z.1.2.1 hh)),(fun hh=>gS (Z.1.2.2 hh)),Z.2.1,Z.2.2,a5⟩
  ·exact Z.elim
 ·rename_i T x;unfold gG at Z⊢;simp only[Xa];split at Z
  ·rename_i t c O;split at Z
   ·rename_i G ho;simp only[O,ho];exact⟨Z.1,Z.2.1,G,rfl,Z.2.2,a5⟩
   ·exact Z.elim
  ·rename_i t j i c O;split at Z
   ·rename_i Q M ho;simp only[O,ho];exact⟨Z.1.1,Z.1.2.1,_,Q,M,rfl,Z.2,Z.1.2.2,a5⟩
   ·exact Z.elim
  ·rename_i r c O;simp only[O];exact⟨Z.1,Z.2.1,Z.2.2,a5⟩
  ·rename_i t j i c k O;split at Z
   ·rename_i Q M ho;split at Z
    ·rename_i s aB;simp only[O,ho,aB];exact⟨Z.1.1,Z.1.2,Q,M,s,rfl,Z.2.1,aB,Z.2.2.1,Z.2.2.2.1,Z.2.2.2.2,a5⟩
    ·exact Z.elim
   ·exact Z.elim
  ·exact Z.elim
 ·rename_i T x f;unfold IG at Z⊢;simp only[Xa];split at Z
  ·rename_i t c O;simp only[O];exact⟨Z.1,Z.2.1,fC Z.2.2,a5⟩
  ·rename_i t j i c O;simp only[O];exact⟨Z.1,Z.2.1,pu Z.2.2,a5⟩
  ·rename_i r c O;simp only[O];exact⟨Z.1,Z.2,a5⟩
  ·rename_i t j i c k O;have h3:=Z.2.2
   split at h3
   ·rename_i Q M ho;simp only[O];exact⟨Z.1,Z.2.1,⟨Q,M,ho⟩,a5⟩
   ·exact h3.elim
  ·exact Z.elim
 ·rename_i x;simp only[Xa];split at Z
  ·rename_i t c O;simp only[O];exact⟨Z.1,fC Z.2,a5⟩
  ·exact Z.elim
 ·rename_i T x ix;unfold Lv at Z⊢;simp only[Xa];split at Z
  ·rename_i Q M O;simp only[O];exact⟨_,_,Tc Z.1.2,Z.2.1,Z.1.1,Z.2.2.1.1,Z.2.2.1.2.1,Z.2.2.1.2.2,Z.2.2.2,a5⟩
  ·rename_i t j lo ae O;simp only[O];exact⟨_,_,Tc Z.1.2,Z.2.1,Z.1.1,Z.2.2.1.1,Z.2.2.1.2.1,hg Z.2.2.1.2.2,Z.2.2.2,a5⟩
  ·rename_i t j m c O;have h3:=Z.2.2.2
   split at h3
   ·rename_i Q M ho;obtain⟨hm,h4⟩:=h3;split at h4
    ·rename_i n s hr;obtain⟨rfl,ag⟩:=h4;simp only[O];exact⟨_,_,Tc Z.1.2,Z.2.1,Z.1.1,Z.2.2.1.1,Z.2.2.1.2,⟨Q,M,s,ho,hm,hr,ag⟩,a5⟩
    ·exact h4.elim
   ·exact h3.elim
  ·rename_i t c O;simp only[O];refine⟨_,_,Tc Z.1.2,Z.2.1,Z.1.1,fC Z.2.2.1,?_,a5⟩;have:=Z.2.2.2
   split at this
   ·rename_i n hn;exact⟨n,hn,this.1,this.2⟩
   ·exact this.elim
  ·exact Z.elim
 ·rename_i T x ix;simp only[Xa];split at Z
  ·rename_i s O;simp only[O];exact⟨_,_,Tc Z.1.2,Z.2.1,Z.1.1,Z.2.2.1,Z.2.2.2,a5⟩
  ·rename_i xs O;simp only[O];refine⟨_,_,Tc Z.1.2,Z.2.1,Z.1.1,?_,Z.2.2.2.1,Z.2.2.2.2,a5⟩;have:=Z.2.2.1
   split at this
   ·rename_i n hn;exact⟨n,hn,this⟩
   ·exact this.elim
  ·exact Z.elim
 ·rename_i T x lo hi;simp only[Xa];split at Z
  ·rename_i s O;simp only[O];exact⟨Z.1.1,Z.1.2.1,_,_,Nl Z.1.2.2.1,Nl Z.1.2.2.2,Z.2.1,Z.2.2,a5⟩
  ·rename_i Q M O;simp only[O];exact⟨Z.1.1,Z.1.2.1,Z.1.2.2.1,_,_,Nl Z.1.2.2.2.1,Nl Z.1.2.2.2.2,Z.2.1,Z.2.2,a5⟩
  ·rename_i t j o ae O;simp only[O];exact⟨Z.1.1,Z.1.2.1,hg Z.1.2.2.1,_,_,Nl Z.1.2.2.2.1,Nl Z.1.2.2.2.2,Z.2.1,Z.2.2,a5⟩
  ·exact Z.elim
 ·exact⟨Z.1.1,Z.1.2,Do Z.2⟩
 ·simp only[Xa];split at Z
  ·rename_i b O;simp only[O];exact⟨Z,a5⟩
  ·exact Z.elim
 ·simp only[Xa];split at Z
  ·rename_i k n O;simp only[O];exact⟨Z,a5⟩
  ·exact Z.elim
 ·rename_i S T x;simp only[Xa];split at Z
  ·rename_i d n k O hk;simp only[O,hk];exact⟨Z.1,Z.2,k,rfl,a5⟩
  ·exact Z.elim
 ·rename_i x i;simp only[Xa];split at Z
  ·rename_i xs O;simp only[O];exact⟨Z.1,by simp[List.getD_eq_getElem?_getD,List.getElem?_eq_getElem Z.2.1],Z.2.2⟩
  ·exact Z.elim
 ·simp only[Xa];split at Z
  ·rename_i xs O;simp only[O];exact⟨Z.1,Z.2.1,Z.2.2.1,Z.2.2.2,a5⟩
  ·exact Z.elim
 ·simp only[Xa];split at Z
  ·rename_i z hz;exact⟨Z.1.1,Z.1.2,z,_,hz,vc Z.2,a5⟩
  ·exact Z.elim
 ·simp only[Xa];split at Z
  ·rename_i s O;simp only[O];exact⟨Z.1,Z.2,a5⟩
  ·rename_i s M O;simp only[O];exact⟨Z.1,Z.2,a5⟩
  ·rename_i s O;simp only[O];exact⟨Z.1,Z.2,a5⟩
  ·rename_i u j lo ae O;simp only[O];exact⟨Z.1,Z.2.1,nx Z.2.2,a5⟩
  ·rename_i u j i c O;split at Z
   ·rename_i M ho;split at Z
    ·rename_i s aB;simp only[O,ho,aB];exact⟨Z.1.1,Z.1.2,_,M,_,s,rfl,Z.2,aB,a5⟩
    ·exact Z.elim
   ·exact Z.elim
  ·exact Z.elim
 ·simp only[Xa];have hy:=Tc Z.2.1
  rw[Z.2.2]at hy;exact⟨_,_,_,Tc Z.1,hy,a5⟩
 ·simp only[Xa];have hy:=Tc Z.2.1
  rw[Z.2.2]at hy;exact⟨_,_,_,Tc Z.1,hy,a5⟩
 ·exact Z.elim
open Go.RowKit
variable{L l1 l2:List (Nat×Nat)}{cl:Call}
def Ml(P:Program)(σ:U)(T:TypeId)(Q:Nat):List (Nat×Operand)->Nat->Prop×List (List D)
 |[],_=>(True,[])
 |(i,x)::K,k=>((i=k/\am (look P σ T x)=true/\(unc (look P σ T x)).flat=true/\xY (unc (look P σ T x)).cells=true/\(rowOf σ (unc (look P σ T x)).cells).isSome=true/\((rowOf σ (unc (look P σ T x)).cells).getD []).length=Q)/\(Ml P σ T Q K (k+1)).1,
   (rowOf σ (unc (look P σ T x)).cells).getD []::(Ml P σ T Q K (k+1)).2)
theorem pI{P:Program}{σ:U}{T:TypeId}{Q:Nat}:∀{K:List (Nat×Operand)}{k:Nat},(Ml P σ T Q K k).1->Ed P σ T Q K k (Ml P σ T Q K k).2
 |[],_,_=>rfl
 |(_,x)::_,_,h=>by
  obtain⟨⟨I,X,h3,h4,h5,h6⟩,h7⟩:=h;obtain⟨r,hr⟩:=Option.isSome_iff_exists.1 h5;refine⟨I,X,h3,h4,r,_,hr,?_,pI h7,?_⟩
  ·rw[hr]at h6;exact h6
  ·simp only[Ml,hr,Option.getD_some]
def Li(σ:U)(x:V)(Q:Nat):Prop×List (List D)×U:=
 match x with
 |.one (.nil _)=>(True,[],σ)
 |.one (.O t j lo ae)=>(match σ.ob t j with|.arr false s aq=>(s=Q/\lo=0/\ae=aq.length,aq,σ.Yj t j .none)|_=>(False,[],σ))
 |_=>(False,[],σ)
theorem Fk{x:V}(h:(Li σ x Q).1):MR σ x Q (Li σ x Q).2.1 (Li σ x Q).2.2:=by
 unfold Li at h⊢;split at h
 ·exact⟨rfl,rfl⟩
 ·rename_i t j lo ae;split at h
  ·rename_i s aq ho;obtain⟨rfl,rfl,rfl⟩:=h;exact⟨aq,ho,rfl,Nat.le_refl _,(List.take_length).symm,rfl⟩
  ·exact h.elim
 ·exact h.elim
def FL(σ:U)(x:V)(Q:Nat):Prop×List (List D):=
 match x with
 |.one (.d (.sl s M))=>(s=Q,M)
 |.one (.nil _)=>(True,[])
 |.one (.O t j lo ae)=>(match σ.ob t j with|.arr false s M=>(s=Q/\lo+ae<=M.length,cut M lo ae)|_=>(False,[]))
 |_=>(False,[])
theorem nM{x:V}(h:(FL σ x Q).1):yh σ x Q (FL σ x Q).2:=by
 unfold FL at h⊢;split at h
 ·exact⟨h,rfl⟩
 ·rfl
 ·rename_i t j lo ae;split at h
  ·rename_i s M ho;obtain⟨rfl,aF⟩:=h;exact⟨M,ho,aF,rfl⟩
  ·exact h.elim
 ·exact h.elim
def bF(P:Program)(σ:U)(o:Oper)(d:Nat):Prop×U:=
 match o.op with
 |.alloc T=>(match TG P 12 T with|some ac=>(σ.fresh d=true/\Qq P T=true,σ.new d (.one (.Z d 0)) [.box ac])|none=>(False,σ))
 |.box T x=>(σ.fresh d=true/\am (look P σ T x)=true/\(unc (look P σ T x)).flat=true/\Y6 d (unc (look P σ T x)).cells=false,σ.new d (.one (.Z d 0)) [.box (unc (look P σ T x)).cells])
 |.buildSlice T n parts=>((σ.fresh d=true/\Xo P T=true/\Qq P (E P T)=true/\0<P.cellsOf (E P T)/\parts.toList.length=n/\n*P.cellsOf (E P T)<=16777216)/\(Ml P σ (E P T) (P.cellsOf (E P T)) parts.toList 0).1,
   σ.new d (.one (.O d 0 0 (Ml P σ (E P T) (P.cellsOf (E P T)) parts.toList 0).2.length)) [.arr false (P.cellsOf (E P T)) (Ml P σ (E P T) (P.cellsOf (E P T)) parts.toList 0).2])
 |.makeSlice T x y=>(match TG P 12 (E P T)with
   |some z=>(match zD z with
    |some zr=>((x=y/\σ.fresh d=true/\Xo P T=true/\Qq P (E P T)=true/\0<P.cellsOf (E P T)/\(aP P σ x).1)/\0<=(aP P σ x).2/\P.bytesOf (E P T)*(aP P σ x).2.toNat<=281474976710656/\(aP P σ x).2<=9223372036854775807,
      σ.new d (.one (.O d 0 0 (aP P σ x).2.toNat)) [.arr false (P.cellsOf (E P T)) (List.replicate (aP P σ x).2.toNat zr)])
    |none=>(False,σ))
   |none=>(False,σ))
 |.call ⟨.builtin .append,⟨[x,y]⟩,⟨[t,t']⟩⟩=>
   (((t=t'/\am (look P σ t x)=true/\am (look P σ t y)=true/\Xo P t=true/\Qq P (E P t)=true/\0<P.cellsOf (E P t))/\(Li σ (unc (look P σ t x)) (P.cellsOf (E P t))).1/\(FL σ (unc (look P σ t y)) (P.cellsOf (E P t))).1/\(Li σ (unc (look P σ t x)) (P.cellsOf (E P t))).2.2.fresh d=true)/\
    ((Li σ (unc (look P σ t x)) (P.cellsOf (E P t))).2.1.length+(FL σ (unc (look P σ t y)) (P.cellsOf (E P t))).2.length)*P.bytesOf (E P t)<=140737488355328/\
    (Li σ (unc (look P σ t x)) (P.cellsOf (E P t))).2.1.length+(FL σ (unc (look P σ t y)) (P.cellsOf (E P t))).2.length<=9223372036854775807,
   (Li σ (unc (look P σ t x)) (P.cellsOf (E P t))).2.2.new d (.one (.O d 0 0 ((Li σ (unc (look P σ t x)) (P.cellsOf (E P t))).2.1.length+(FL σ (unc (look P σ t y)) (P.cellsOf (E P t))).2.length)))
    [.arr false (P.cellsOf (E P t)) ((Li σ (unc (look P σ t x)) (P.cellsOf (E P t))).2.1++(FL σ (unc (look P σ t y)) (P.cellsOf (E P t))).2)])
 |op=>((aU P σ op o.type).1,σ.put d (aU P σ op o.type).2)
def iO(P:Program)(σ:U)(T:TypeId)(x y:Operand):Prop×U:=
 match unc (look P σ 0 x)with
 |.one (.Z t c)=>(match σ.ob t 0 with
  |.box G=>(Wj P T=true/\am (look P σ 0 x)=true/\am (look P σ T y)=true/\(unc (look P σ T y)).flat=true/\(unc (look P σ T y)).cells.length=P.cellsOf T/\c+P.cellsOf T<=G.length,σ.Yj t 0 (.box (place G c (unc (look P σ T y)).cells)))
  |_=>(False,σ))
 |.one (.ptr t j i c)=>(match σ.ob t j with
  |.arr q Q M=>((Wj P T=true/\am (look P σ 0 x)=true/\am (look P σ T y)=true/\(unc (look P σ T y)).flat=true/\(rowOf σ (unc (look P σ T y)).cells).isSome=true/\xY (unc (look P σ T y)).cells=true/\((rowOf σ (unc (look P σ T y)).cells).getD []).length=P.cellsOf T/\c+P.cellsOf T<=Q)/\i<M.length/\(q=true->((rowOf σ (unc (look P σ T y)).cells).getD []).all D.scalar=true/\(cut (rowAt M i) c (P.cellsOf T)).all D.scalar=true),
    σ.Yj t j (.arr q Q (M.set i (place (rowAt M i) c ((rowOf σ (unc (look P σ T y)).cells).getD [])))))
  |_=>(False,σ))
 |_=>(False,σ)
theorem hX(e:∀c,o.op= .call c->∀f,c.callee≠ .value (.func f))(Z:(bF P σ o d).1):aQ P o d σ (bF P σ o d).2:=by
 unfold bF at Z⊢;split at Z
 ·rename_i T A;unfold aQ;rw[A];split at Z
  ·rename_i ac aA;simp only[aA];exact⟨Z.1,Z.2,ac,rfl,rfl⟩
  ·exact Z.elim
 ·rename_i T x A;unfold aQ;rw[A];exact⟨Z.1,Z.2.1,Z.2.2.1,Z.2.2.2,rfl⟩
 ·rename_i T n parts A;unfold aQ;rw[A];obtain⟨⟨I,X,h3,h4,h5,h6⟩,h7⟩:=Z;exact .inl ⟨I,X,h3,h4,h5,h6,.inl ⟨_,pI h7,rfl⟩⟩
 ·rename_i T x y A;unfold aQ;rw[A];split at Z
  ·rename_i z hz;split at Z
   ·rename_i zr D;obtain⟨⟨I,X,h3,h4,h5,h6⟩,h7,h8,h9⟩:=Z;have hl:=Tc h6
    simp only[hz];refine⟨I,X,h3,h4,h5,false,z,zr,ci P σ x,(aP P σ x).2.toNat,(fun hh=>by cases hh),rfl,D,?_,h8,Y,rfl⟩;rw[Int.toNat_of_nonneg h7];exact hl
   ·exact Z.elim
  ·exact Z.elim
 ·rename_i x y t t' A;unfold aQ;rw[A];obtain⟨⟨⟨rfl,I,X,h3,h4,h5⟩,h6,h7,h8⟩,h9,ak⟩:=Z;exact⟨x,y,t,rfl,rfl,I,X,h3,h4,h5,_,_,_,Fk h6,nM h7,h8,h9,ak,rfl⟩
 ·rename_i op I X h3 h4 h5;have hv:=gP Z
  unfold aQ;split
  ·rename_i T A;exact absurd A (I T)
  ·rename_i T x A;exact absurd A (X T x)
  ·rename_i T n K A;exact absurd A (h3 T n K)
  ·rename_i T x y A;exact absurd A (h4 T x y)
  ·rename_i c A;split
   ·rename_i a;rw[A]at hv;simp only[Xa]at hv;split at hv
    ·rename_i q _ _;rw[a]at q;cases q
    ·rename_i q _;rw[a]at q;cases q
    ·rename_i q _;rw[a]at q;cases q
    ·exact hv.elim
   ·rename_i f a;exact absurd a (e c A f)
   ·exact⟨_,hv,rfl⟩
  ·exact .inl ⟨_,hv,rfl⟩
  ·exact⟨_,hv,rfl⟩
theorem k8{T:TypeId}(Z:(iO P σ T x y).1):ke P σ T x y (iO P σ T x y).2:=by
 unfold iO at Z⊢;unfold ke;split at Z
 ·rename_i t c O;split at Z
  ·rename_i G ho;obtain⟨I,X,h3,h4,h5,h6⟩:=Z;first|(rw[O];simp only[ho])|simp only[ho]
   exact⟨I,X,h3,h4,G,rfl,h5,h6,rfl⟩
  ·exact Z.elim
 ·rename_i t j i c O;split at Z
  ·rename_i q Q M ho;obtain⟨⟨I,X,h3,h4,h5,h6,h7,h8⟩,h9,ak⟩:=Z;obtain⟨ds,S⟩:=Option.isSome_iff_exists.1 h5;first|(rw[O];simp only[ho])|simp only[ho]
   refine⟨I,X,h3,h4,q,Q,M,ds,rfl,h9,S,h6,?_,h8,fun hq=>?_,?_⟩
   ·rw[S]at h7;exact h7
   ·have:=ak hq;rw[S]at this;exact this
   ·rw[S];rfl
  ·exact Z.elim
 ·exact Z.elim
def fV:List At->Bool
 |[]=>false
 |.nil _::_=>true
 |_::xs=>fV xs
def ev(P:Program)(T:TypeId):Bool:=match TG P 12 (E P T)with|some z=>fV z|none=>false
def mv:List At->Bool
 |[]=>true
 |.d (.sl _ _)::_=>false
 |.d _::xs=>mv xs
 |_=>false
def fL(P:Program)(σ:U)(T:TypeId)(x y:Operand):Bool:=
 match unc (look P σ 0 x)with
 |.one (.ptr t j _ _)=>(match σ.ob t j with|.arr true _ _=>!mv (unc (look P σ T y)).cells|_=>false)
 |.one (.ac _ _ _ _ (some _))=>true
 |_=>false
def ew(P:Program)(ah:Oper->Bool)(o:Oper):Bool:=
 match o.op with
 |.call ⟨.value _,_,_⟩=>true
 |.call ⟨.builtin .append,_,⟨t::_⟩⟩=>ev P t
 |.buildSlice T _ _=>ev P T||hd ah o
 |.makeSlice T _ _=>ev P T
 |.makeFunc _ _ _=>true
 |.convert _ T _=>(fU P T).isNone
 |.indexAddr _ _ _=>o.guard.isSome
 |.index _ _ _=>o.guard.isSome
 |.slice _ _ _ _ _=>o.guard.isSome
 |_=>false
def kU(P:Program)(N:Array Oper)(ah:Oper->Bool)(o:Oper)(ap:List Oper)(σ:U)(af:U->Prop):Prop:=∃σ',jE P N ah o σ σ'/\ny P N ah ap σ' af
def Ev(P:Program)(N:Array Oper)(ah:Oper->Bool):List Oper->U->(U->Prop)->Prop
 |[],σ,af=>af σ
 |o::ap,σ,af=>
  if ew P ah o then kU P N ah o ap σ af else
  match o.guard with
  |none=>
   (match o.dst with
   |some d=>(bF P σ o d).1/\Ev P N ah ap (bF P σ o d).2 af
   |none=>(match o.op with|.store T x y=>if fL P σ T x y then kU P N ah o ap σ af else(iO P σ T x y).1/\Ev P N ah ap (iO P σ T x y).2 af|_=>False))
  |some (j,aN)=>
   (match(N[j]?).bind (·.dst),o.dst with
   |some G,some d=>(match VT aN (σ.get G)with
    |some g=>(G<σ.length/\(g=true->(aU P σ o.op o.type).1/\am (aU P σ o.op o.type).2=true/\(unc (aU P σ o.op o.type).2).flat=true))/\Ev P N ah ap (σ.put d (.O g (unc (aU P σ o.op o.type).2))) af
    |none=>False)
   |_,_=>False)
theorem J7{P:Program}{N:Array Oper}{ah:Oper->Bool}:∀{l:List Oper}{σ:U}{af:U->Prop},Ev P N ah l σ af->ny P N ah l σ af
 |[],_,_,h=>h
 |o::ap,σ,af,h=>by
  unfold Ev at h;split at h
  ·exact h
  ·rename_i au;have e:∀c,o.op= .call c->∀f,c.callee≠ .value (.func f):=by intro c A f a;obtain⟨cc,L,J⟩:=c;simp only at a;subst a;exact au (by simp[ew,A])
   split at h
   ·rename_i hg;split at h
    ·rename_i d hd;refine⟨_,.inl ?_,J7 h.2⟩;unfold X5;simp only[hg,hd];exact hX e h.1
    ·rename_i hd;split at h
     ·rename_i T x y A;split at h
      ·exact h
      ·refine⟨_,.inl ?_,J7 h.2⟩;unfold X5;simp only[hg,hd,A];exact k8 h.1
     ·exact h.elim
   ·rename_i j aN hg;split at h
    ·rename_i G d i hd;split at h
     ·rename_i g C;refine⟨_,.inl ?_,J7 h.2⟩;unfold X5;simp only[hg];refine⟨G,d,g,_,i,h.1.1,hd,C,fun b=>?_,rfl⟩;obtain⟨I,X,h3⟩:=h.1.2 b;have aA:∃v0,Xa P σ o.op o.type v0/\am v0=true/\unc (aU P σ o.op o.type).2=unc v0/\(unc (aU P σ o.op o.type).2).flat=true:=⟨_,gP I,X,rfl,h3⟩
      unfold D5;split
      ·rename_i c A;split
       ·rename_i f a;exact absurd a (e c A f)
       ·exact aA
      ·exact aA
     ·exact h.elim
    ·exact h.elim
theorem mo{af:Exit->U->Prop}{l:List Oper}(h:Ev P l.toArray ah l σ (af .normal)):a3 P (.region ri l.toArray false) af σ:=mQ (J7 h)
theorem n2{c:Call}{own:Bool}(A:o.op= .call c)(Z:c.callee= .value (.func f))(hg:o.guard=none)(hd:o.dst=some d)
  (al:JD P σ c.args.toList c.argTypes.toList M) (hs:JT P f own M H) (au:Yz P σ c.args.toList c.argTypes.toList=true\/zu own H) (h:Ev P N ah ap (σ.put d (VO H)) af):kU P N ah o ap σ af:=by
 refine⟨_,.inl ?_,J7 h⟩;unfold X5;simp only[hg,hd];unfold aQ;rw[A];simp only[Z];exact .inl ⟨own,H,⟨M,al,hs,au⟩,rfl⟩
theorem r5{c:Call}(A:o.op= .call c)(Z:c.callee= .value (.func f))(hg:o.guard=none)(hd:o.dst=some d)
  (al:JD P σ c.args.toList c.argTypes.toList M) (hs:JT P f true M H) (au:Yz P σ c.args.toList c.argTypes.toList=true\/zu true H) (hf:σ.fresh d=true) (h:Ev P N ah ap (σ.new d (Px d H) (kp H.flatten)) af):kU P N ah o ap σ af:=by
 refine⟨_,.inl ?_,J7 h⟩;unfold X5;simp only[hg,hd];unfold aQ;rw[A];simp only[Z];exact .inr (.inl ⟨H,⟨M,al,hs,au⟩,hf,rfl⟩)
theorem lH{c:Call}{own:Bool}{H:List D}(A:o.op= .call c)(Z:c.callee= .value (.func f))(hg:o.guard=some (j,aN))(hd:o.dst=some d)
  (i:(N[j]?).bind (·.dst)=some G) (ag:G<σ.length) (C:VT aN (σ.get G)=some g)
  (al:g=true->JD P σ c.args.toList c.argTypes.toList M) (hs:g=true->JT P f own M [H]) (au:Yz P σ c.args.toList c.argTypes.toList=true\/zu own [H]) (h:Ev P N ah ap (σ.put d (.O g (VO [H]))) af):kU P N ah o ap σ af:=by
 refine⟨_,.inl ?_,J7 h⟩;unfold X5;simp only[hg];refine⟨G,d,g,_,i,ag,hd,C,fun b=>?_,rfl⟩;unfold D5;rw[A];simp only[Z];exact⟨own,H,⟨M,al b,hs b,au⟩,rfl⟩
theorem A3{S T:TypeId}{l:List UInt8}(A:o.op= .convert S T x)(hg:o.guard=none)(hd:o.dst=some d)
  (I:am (look P σ S x)=true) (X:Ig P S=true) (h3:Oo P T=true) (h4:yh σ (unc (look P σ S x)) 1 (yY l)) (h:Ev P N ah ap (σ.put d (.one (.d (.str ⟨l.toArray⟩)))) af):kU P N ah o ap σ af:=by
 refine⟨_,.inl ?_,J7 h⟩;unfold X5;simp only[hg,hd];unfold aQ;rw[A];exact .inr (.inl ⟨l,I,X,h3,h4,rfl⟩)
theorem Lm{S T:TypeId}{s:ByteArray}(A:o.op= .convert S T x)(hg:o.guard=none)(hd:o.dst=some d)
  (I:am (look P σ S x)=true) (X:Oo P S=true) (h3:Ig P T=true) (h4:unc (look P σ S x)= .one (.d (.str s))) (h5:s.size<=9223372036854775807) (h:Ev P N ah ap (σ.put d (.one (.d (.sl 1 (yY s.data.toList))))) af):kU P N ah o ap σ af:=by
 refine⟨_,.inl ?_,J7 h⟩;unfold X5;simp only[hg,hd];unfold aQ;rw[A];exact .inr (.inr ⟨s,I,X,h3,h4,h5,rfl⟩)
theorem lB(e:∀c,o.op= .call c->∀f,c.callee≠ .value (.func f))(hg:o.guard=none)(hd:o.dst=some d)
  (I:(bF P σ o d).1) (h:Ev P N ah ap (bF P σ o d).2 af):kU P N ah o ap σ af:=by
 refine⟨_,.inl ?_,J7 h⟩;unfold X5;simp only[hg,hd];exact hX e I
theorem ox{c:Call}(qs:List Bool)(A:o.op= .call c)(Z:c.callee= .value (.func f))(hg:o.guard=none)(hd:o.dst=some d)
  (al:JD P σ c.args.toList c.argTypes.toList M) (hs:YJ P f M H) (hq:Uz qs H.flatten) (hf:σ.fresh d=true) (h:Ev P N ah ap (σ.new d (Px d H) (Yg qs H.flatten)) af):kU P N ah o ap σ af:=by
 refine⟨_,.inl ?_,J7 h⟩;unfold X5;simp only[hg,hd];unfold aQ;rw[A];simp only[Z];exact .inr (.inr ⟨M,H,qs,al,hs,hq,hf,rfl⟩)
def xK(P:Program)(σ:U)(T:TypeId)(Q:Nat):List (Nat×Operand)->Nat->Prop×List (List At)
 |[],_=>(True,[])
 |(i,x)::K,k=>((i=k/\am (look P σ T x)=true/\(unc (look P σ T x)).flat=true/\(unc (look P σ T x)).cells.length=Q)/\(xK P σ T Q K (k+1)).1,(unc (look P σ T x)).cells::(xK P σ T Q K (k+1)).2)
theorem wm{P:Program}{σ:U}{T:TypeId}{Q:Nat}:∀{K:List (Nat×Operand)}{k:Nat},(xK P σ T Q K k).1->F1 P σ T Q K k (xK P σ T Q K k).2
 |[],_,_=>rfl
 |(_,x)::_,_,h=>by obtain⟨⟨I,X,h3,h4⟩,h7⟩:=h;exact⟨I,X,h3,h4,_,wm h7,rfl⟩
theorem w5{T:TypeId}(A:o.op= .buildSlice T n parts)(hg:o.guard=none)(hd:o.dst=some d)
  (I:σ.fresh d=true/\Xo P T=true/\Qq P (E P T)=true/\0<P.cellsOf (E P T)/\parts.toList.length=n/\n*P.cellsOf (E P T)<=16777216) (X:(xK P σ (E P T) (P.cellsOf (E P T)) parts.toList 0).1)
  (h3:Y6 d (xK P σ (E P T) (P.cellsOf (E P T)) parts.toList 0).2.flatten=false)
  (h:Ev P N ah ap (σ.new d (.one (.O d 0 0 (xK P σ (E P T) (P.cellsOf (E P T)) parts.toList 0).2.length)) [.lit (P.cellsOf (E P T)) (xK P σ (E P T) (P.cellsOf (E P T)) parts.toList 0).2]) af):kU P N ah o ap σ af:=by
 refine⟨_,.inl ?_,J7 h⟩;unfold X5;simp only[hg,hd];unfold aQ;rw[A];exact .inl ⟨I.1,I.2.1,I.2.2.1,I.2.2.2.1,I.2.2.2.2.1,I.2.2.2.2.2,.inr ⟨_,wm X,h3,rfl⟩⟩
theorem k6{T:TypeId}(A:o.op= .makeSlice T x x)(hg:o.guard=none)(hd:o.dst=some d)
  (hz:TG P 12 (E P T)=some z) (D:zD z=some zr) (j:C0 z=true) (I:σ.fresh d=true/\Xo P T=true/\Qq P (E P T)=true/\0<P.cellsOf (E P T)/\(aP P σ x).1) (hn:(aP P σ x).2=(n:Int)) (J:P.bytesOf (E P T)*n<=281474976710656) (hm:n<=9223372036854775807)
  (h:Ev P N ah ap (σ.new d (.one (.O d 0 0 n)) [.arr true (P.cellsOf (E P T)) (List.replicate n zr)]) af):kU P N ah o ap σ af:=by
 refine⟨_,.inl ?_,J7 h⟩;unfold X5;simp only[hg,hd];unfold aQ;rw[A];have hl:=Tc I.2.2.2.2
 rw[hn]at hl;exact⟨rfl,I.1,I.2.1,I.2.2.1,I.2.2.2.1,true,z,zr,_,n,fun _=>j,hz,D,hl,J,hm,rfl⟩
def Pp(σ:U)(x:V)(Q:Nat):Prop×List (List D)×List (Nat×Nat):=
 match x with
 |.one (.nil _)=>(True,[],[])
 |.one (.O t j lo ae)=>(match σ.ob t j with|.arr true s aq=>(s=Q/\lo=0/\ae=aq.length,aq,[(t,j)])|_=>(False,[],[]))
 |_=>(False,[],[])
theorem j2{x:V}(h:(Pp σ x Q).1):dK σ x Q (Pp σ x Q).2.1 (Pp σ x Q).2.2:=by
 unfold Pp at h⊢;split at h
 ·exact⟨rfl,rfl⟩
 ·rename_i t j lo ae;split at h
  ·rename_i s aq ho;obtain⟨rfl,rfl,rfl⟩:=h;exact⟨ho,rfl,rfl,rfl⟩
  ·exact h.elim
 ·exact h.elim
def PK(σ:U)(x:V)(Q:Nat):Prop×List (List D)×List (Nat×Nat):=
 match x with
 |.one (.O t j lo ae)=>(match σ.ob t j with|.lit s M=>((s=Q/\lo=0/\ae=M.length)/\(qe σ M).isSome=true/\xB σ M,(qe σ M).getD [],Yp M.flatten)|_=>(False,[],[]))
 |_=>(False,[],[])
theorem sq{x:V}(h:(PK σ x Q).1):dg σ x Q (PK σ x Q).2.1 (PK σ x Q).2.2:=by
 unfold PK at h⊢;split at h
 ·rename_i t j lo ae;split at h
  ·rename_i s M ho;obtain⟨⟨rfl,rfl,rfl⟩,I,X⟩:=h;obtain⟨a,e⟩:=Option.isSome_iff_exists.1 I;exact⟨M,ho,rfl,rfl,by rw[e];rfl,X,rfl⟩
  ·exact h.elim
 ·exact h.elim
theorem On:∀(σ:U)(d:Nat)(v:V)(t:Nat),(σ.put d v)[t]?=if t=d then(σ[t]?).map (fun e=>(v,e.2))else σ[t]?
 |[],_,_,_=>by simp[U.put]
 |e::σ,0,v,t=>by cases t<;>simp[U.put]
 |e::σ,d+1,v,t=>by
  cases t with
  |zero=>simp[U.put]
  |succ t=>have:=On σ d v t;simpa[U.put]using this
theorem Vy:∀(σ:U)(d:Nat)(v:V)(aa:List Ob)(t:Nat),(σ.new d v aa)[t]?=if t=d then(σ[t]?).map (fun _=>(v,aa))else σ[t]?
 |[],_,_,_,_=>by simp[U.new]
 |e::σ,0,v,aa,t=>by cases t<;>simp[U.new]
 |e::σ,d+1,v,aa,t=>by
  cases t with
  |zero=>simp[U.new]
  |succ t=>have:=Vy σ d v aa t;simpa[U.new]using this
theorem VH:∀(σ:U)(a j:Nat)(o:Ob)(t:Nat),(σ.Yj a j o)[t]?=if t=a then(σ[t]?).map (fun e=>(e.1,e.2.set j o))else σ[t]?
 |[],_,_,_,_=>by simp[U.Yj]
 |e::σ,0,j,o,t=>by cases t<;>simp[U.Yj]
 |e::σ,a+1,j,o,t=>by
  cases t with
  |zero=>simp[U.Yj]
  |succ t=>have:=VH σ a j o t;simpa[U.Yj]using this
theorem Np:Qg σ d=true↔σ[d]?=some (.any,[])\/∃x,σ[d]?=some (.one (.d x),[]):=by
 unfold Qg;constructor
 ·intro h;split at h
  ·rename_i I;exact .inl I
  ·rename_i x I;exact .inr ⟨x,I⟩
  ·cases h
 ·rintro(h|⟨x,h⟩)<;>rw[h]
theorem Jf{a:Nat}{o:Ob}(h:Qg σ d=true):Qg (σ.Yj a j o) d=true:=by
 rw[Np]at*;rw[VH];rcases h with h|⟨x,h⟩
 ·left;rw[h];split<;>rfl
 ·right;refine⟨x,?_⟩;rw[h];split<;>rfl
theorem Jo:∀{l:List (Nat×Nat)}{σ:U}{d:Nat},Qg σ d=true->Qg (σ.YI l) d=true
 |[],_,_,h=>h
 |p::l,σ,d,h=>by rw[U.YI];exact Jo (l:=l) (Jf h)
theorem Ru(W:d≠d')(h:Qg σ d=true):Qg (σ.new d' v aa) d=true:=by unfold Qg at*;simp only[Vy,if_neg W];exact h
theorem X4{T:TypeId}(h:WK d x=false):look P (σ.put d v) T x=look P σ T x:=by
 cases x with
 |tmp t=>
  have W:t≠d:=fun e=>by subst e;simp[WK]at h
  simp[look,U.qM,W]
 |const c=>rfl
 |global g=>rfl
 |func f=>rfl
theorem WQ:∀(σ:U)(d:Nat)(v:V)(t j:Nat)(o:Ob),(σ.put d v).Yj t j o=(σ.Yj t j o).put d v
 |[],_,_,_,_,_=>rfl
 |e::σ,0,v,0,j,o=>rfl
 |e::σ,d+1,v,0,j,o=>rfl
 |e::σ,0,v,t+1,j,o=>rfl
 |e::σ,d+1,v,t+1,j,o=>by simp[U.put,U.Yj,WQ σ d v t j o]
theorem P2{d:Nat}{v:V}:∀(l:List (Nat×Nat))(σ:U),(σ.put d v).YI l=(σ.YI l).put d v
 |[],_=>rfl
 |p::l,σ=>by rw[U.YI,U.YI,WQ,P2 l]
theorem DZ{σ:U}{d:Nat}{v:V}:∀(xs:List At),JA (σ.put d v) xs=JA σ xs
 |[]=>rfl
 |x::xs=>by
  have:a6 (σ.put d v) x=a6 σ x:=by cases x<;>simp[a6,U.Kr]
  simp only[JA,this,DZ xs]
theorem Lz{σ:U}{d:Nat}{v:V}:∀(xs:List At),QO (σ.put d v) xs=QO σ xs
 |[]=>rfl
 |x::xs=>by
  have:B9 (σ.put d v) x=B9 σ x:=by cases x<;>simp[B9,U.Kr]
  simp only[QO,this,Lz xs]
theorem HS:∀(l:List (Nat×V))(σ:U),(σ.Ki l).ob=σ.ob
 |[],_=>rfl
 |p::l,σ=>by rw[U.Ki,HS l,U.Kr]
theorem TU{P:Program}{T:TypeId}{x:Operand}:∀(l:List (Nat×V))(σ:U),(∀p∈l,WK p.1 x=false)->look P (σ.Ki l) T x=look P σ T x
 |[],_,_=>rfl
 |p::l,σ,h=>by rw[U.Ki,TU l _ (fun q hq=>h q (by simp[hq])),X4 (h p ab)]
theorem Vl{t j:Nat}{o:Ob}:∀(l:List (Nat×V))(σ:U),(σ.Ki l).Yj t j o=(σ.Yj t j o).Ki l
 |[],_=>rfl
 |p::l,σ=>by rw[U.Ki,Vl l,WQ,U.Ki]
theorem jk{L:List (Nat×Nat)}:∀(l:List (Nat×V))(σ:U),(σ.Ki l).YI L=(σ.YI L).Ki l
 |[],_=>rfl
 |p::l,σ=>by rw[U.Ki,jk l,P2,U.Ki]
theorem hQ:∀{σ:U}{t d:Nat}{v v':V}{aa:List Ob},t≠d->(σ.put t v').new d v aa=(σ.new d v aa).put t v'
 |[],_,_,_,_,_,_=>rfl
 |e::σ,0,0,_,_,_,h=>absurd rfl h
 |e::σ,0,d+1,_,_,_,_=>rfl
 |e::σ,t+1,0,_,_,_,_=>rfl
 |e::σ,t+1,d+1,v,v',aa,h=>by simp[U.put,U.new,hQ (σ:=σ) (v:=v) (v':=v') (aa:=aa) (fun hh=>h (congrArg (·+1) hh))]
theorem lT{d:Nat}{v:V}{aa:List Ob}:∀(l:List (Nat×V))(σ:U),(∀p∈l,p.1≠d)->(σ.Ki l).new d v aa=(σ.new d v aa).Ki l
 |[],_,_=>rfl
 |p::l,σ,h=>by rw[U.Ki,lT l _ (fun q hq=>h q (by simp[hq])),hQ (h p ab),U.Ki]
theorem GH{d:Nat}{v:V}(hv:v.ref d=false):∀{σ:U}{k t:Nat},qp d k σ=true->qp d k (σ.put t v)=true
 |[],_,_,h=>h
 |e::σ,k,0,h=>by simp only[qp,U.put,Bool.and_eq_true,Bool.or_eq_true,Bool.not_eq_true']at h⊢;exact⟨h.1.imp id (fun hh=>⟨hv,hh.2⟩),h.2⟩
 |e::σ,k,t+1,h=>by simp only[qp,U.put,Bool.and_eq_true]at h⊢;exact⟨h.1,GH hv h.2⟩
theorem MG{d:Nat}:∀(l:List (Nat×V)){σ:U},(∀p∈l,p.2.ref d=false)->σ.fresh d=true->(σ.Ki l).fresh d=true
 |[],_,_,h=>h
 |p::l,σ,hl,h=>by refine MG l (fun q hq=>hl q (by simp[hq])) ?_;simp only[U.fresh,Bool.and_eq_true,decide_eq_true_eq,U.K9]at h⊢;exact⟨h.1,GH (hl p ab) h.2⟩
theorem Rv{t:TypeId}(A:o.op= .call ⟨.builtin .append,#[x,y],#[t,t]⟩)(h:H8 o n=true):WK n x=false/\WK n y=false:=by
 have O:x∈o.op.operands.toList:=by rw[A];simp[Op.operands,Call.operands]
 have hy:y∈o.op.operands.toList:=by rw[A];simp[Op.operands,Call.operands]
 simp only[H8,Bool.not_eq_true']at h;exact⟨Bool.eq_false_iff.2 (List.any_eq_false.1 h x O),Bool.eq_false_iff.2 (List.any_eq_false.1 h y hy)⟩
theorem lO{σ σ':U}(h:σ'.ob=σ.ob):∀(xs:List At),JA σ' xs=JA σ xs
 |[]=>rfl
 |x::xs=>by
  have:a6 σ' x=a6 σ x:=by cases x<;>simp[a6,h]
  simp only[JA,this,lO h xs]
theorem uN{σ σ':U}(h:σ'.ob=σ.ob):∀(xs:List At),QO σ' xs=QO σ xs
 |[]=>rfl
 |x::xs=>by
  have:B9 σ' x=B9 σ x:=by cases x<;>simp[B9,h]
  simp only[QO,this,uN h xs]
theorem pn{σ σ':U}(h:σ'.ob=σ.ob):∀(xs:List (List At)),qe σ' xs=qe σ xs
 |[]=>rfl
 |x::xs=>by simp only[qe,lO h,pn h xs]
theorem CX{σ σ':U}(h:σ'.ob=σ.ob):∀(xs:List (List At)),xB σ' xs=xB σ xs
 |[]=>rfl
 |x::xs=>by simp only[xB,uN h,CX h xs]
theorem u1(h:σ'.ob=σ.ob){x:V}{l:List (Nat×Nat)}(hd:dK σ x Q aq l):dK σ' x Q aq l:=by unfold dK at*;rw[h];exact hd
theorem A4(h:σ'.ob=σ.ob){x:V}{l:List (Nat×Nat)}(hd:dg σ x Q al l):dg σ' x Q al l:=by unfold dg at*;simp only[h,pn h,CX h];exact hd
theorem sc(h:σ'.ob=σ.ob){x:V}{l:List (Nat×Nat)}(hd:l4 σ x Q aq l):l4 σ' x Q aq l:=by unfold l4 at*;rw[h];exact hd
theorem pb{d:Nat}:∀{aa:List Ob}{j:Nat}{G:List At},Xi d aa=false->XG aa j= .box G->Y6 d G=false
 |[],j,G,_,h=>by simp[XG]at h
 |o::aa,0,G,hr,h=>by simp only[XG,List.getElem?_cons_zero]at h;subst h;simp only[Xi,Bool.or_eq_false_iff]at hr;exact hr.1
 |o::aa,j+1,G,hr,h=>by have h':XG aa j= .box G:=dU;refine pb (aa:=aa) (j:=j) ?_ h';cases o<;>simp only[Xi,Bool.or_eq_false_iff]at hr<;>first|exact hr.2|exact hr
theorem wx{ad:U}(hd:o.dst=some d)(aC:ad.length=σ.length)(am:∀t,ad.get t=σ.get t)(B:∀t j G,ad.ob t j= .box G->σ.ob t j= .box G)
  (E:∀t j q s M,ad.ob t j= .arr q s M->∃az,σ.ob t j= .arr q s az) (hf:ad.fresh d=true)
  (hs:∀l:List (Nat×V),(∀p∈l,p.1≠d/\H8 o p.1=true/\p.2.ref d=false)->OM P N o (σ.Ki l) ((ad.Ki l).new d v aa)) (Z:∀l:List (Nat×V),Gf o (σ.Ki l) ((ad.Ki l).new d v aa)):gv P N o σ (ad.new d v aa):=by
 have ag:=U.kh hf;have a:∀t e,ad[t]?=some e->t≠d->e.1.ref d=false/\Xi d e.2=false:=fun t e he W=>by have I:=hf;simp only[U.fresh,Bool.and_eq_true]at I;exact kD I.2 t e he Y
 refine⟨d,hd,by rw[U.Rz,aC],fun t W=>?_,fun t j G W J=>?_,fun t j q s M W J=>?_,fun l hl=>?_⟩
 ·rw[U.P7,if_neg (fun hh=>W hh.1),am];refine⟨rfl,?_⟩;rw[<-am];unfold U.get;cases he:ad[t]? with
  |none=>rfl
  |some e=>exact(a t e he W).1
 ·rw[U.xG,if_neg (fun hh=>W hh.1)]at J;refine⟨B t j G J,?_⟩;unfold U.ob at J;cases he:ad[t]? with
  |none=>rw[he]at J;cases J
  |some e=>rw[he]at J;exact pb (a t e he W).2 J
 ·rw[U.xG,if_neg (fun hh=>W hh.1)]at J;exact E t j q s M J
 ·have e:=lT (d:=d) (v:=v) (aa:=aa) l ad (fun p hp=>(hl p hp).1);rw[<-e];exact⟨hs l hl,Z l⟩
theorem vd{G:List At}(h:(σ.YI L).ob t j= .box G):σ.ob t j= .box G:=by
 rw[U.yU]at h;split at h
 ·cases h
 ·exact h
theorem wZ{q:Bool}{s:Nat}(h:(σ.YI L).ob t j= .arr q s M):σ.ob t j= .arr q s M:=by
 rw[U.yU]at h;split at h
 ·cases h
 ·exact h
theorem u2{t:TypeId}(A:o.op= .call ⟨.builtin .append,#[x,y],#[t,t]⟩)(hg:o.guard=none)(hd:o.dst=some d)(g:ah o=true)
  (aI:Q=P.cellsOf (E P t)) (I:am (look P σ t x)=true/\am (look P σ t y)=true/\Xo P t=true/\Qq P (E P t)=true/\0<P.cellsOf (E P t))
  (X:(Pp σ (unc (look P σ t x)) Q).1/\(Pp σ (unc (look P σ t x)) Q).2=(aq,l1)) (h3:(PK σ (unc (look P σ t y)) Q).1/\(PK σ (unc (look P σ t y)) Q).2=(al,l2))
  (h4:(l1++l2).Nodup/\(σ.YI (l1++l2)).fresh d=true) (h5:(aq.length+al.length)*P.bytesOf (E P t)<=140737488355328/\aq.length+al.length<=9223372036854775807)
  (h:Ev P N ah ap ((σ.YI (l1++l2)).new d (.one (.O d 0 0 (aq.length+al.length))) [.arr true Q (aq++al)]) af):kU P N ah o ap σ af:=by
 subst aI;have H:=j2 X.1
 have e2:=sq h3.1;rw[X.2]at H;rw[h3.2]at e2;have cl:∀b:U,Gf o b ((b.YI (l1++l2)).new d (.one (.O d 0 0 (aq.length+al.length))) [.arr true (P.cellsOf (E P t)) (aq++al)]):=fun b d' m Z=>Ru (fun e=>m cy) (Jo Z);have z:∀l:List (Nat×V),(∀p∈l,p.1≠d/\H8 o p.1=true/\p.2.ref d=false)->OM P N o (σ.Ki l) (((σ.Ki l).YI (l1++l2)).new d (.one (.O d 0 0 (aq.length+al.length))) [.arr true (P.cellsOf (E P t)) (aq++al)]):=by
  rintro l hl T0 B a w K F ⟨ad,hh,r⟩ hK;have hw:Region.wanted o (yielded N a.tmps)=true:=c8
  rw[if_pos hw];have lx:look P (σ.Ki l) t x=look P σ t x:=TU l σ (fun p hp=>(Rv A (hl p hp).2.1).1)
  have c:look P (σ.Ki l) t y=look P σ t y:=TU l σ (fun p hp=>(Rv A (hl p hp).2.1).2);refine rM r A hd (by rw[lx];exact I.1) (by rw[c];exact I.2.1) I.2.2.1 I.2.2.2.1 I.2.2.2.2 (by rw[lx];exact u1 (HS l σ) H) (by rw[c];exact A4 (HS l σ) e2) h4.1 ?_ h5.1 h5.2 hK;rw[jk];exact MG l (fun p hp=>(hl p hp).2.2) h4.2
 have k:OM P N o σ ((σ.YI (l1++l2)).new d (.one (.O d 0 0 (aq.length+al.length))) [.arr true (P.cellsOf (E P t)) (aq++al)]):=z [] (fun p hp=>by cases hp);refine⟨_,.inr ⟨g,k,cl σ,fun hh=>by simp[NS,A]at hh,fun _=>wx hd (U.z7 _ _) (fun t=>U.jD _ _ t) (fun t j G J=>vd J) (fun t j q s M J=>⟨M,wZ J⟩) h4.2 (fun l hl=>?_) (fun l=>?_),fun hh _=>by first|(simp[qf,A]at hh;done)|(unfold qf at hh;rw[A]at hh;split at hh<;>simp_all)⟩,J7 h⟩
 ·rw[<-jk];exact z l hl
 ·rw[<-jk];exact cl _
theorem xc{t:TypeId}{u ae lo:Nat}(A:o.op= .call ⟨.builtin .append,#[x,y],#[t,t]⟩)(hg:o.guard=none)(hd:o.dst=some d)(g:ah o=true)
  (aI:Q=P.cellsOf (E P t)) (I:am (look P σ t x)=true/\am (look P σ t y)=true/\Xo P t=true/\Qq P (E P t)=true/\0<P.cellsOf (E P t))
  (X:unc (look P σ t x)= .one (.O u j 0 ae)) (h3:unc (look P σ t y)= .one (.O u j lo n)) (ho:σ.ob u j= .arr true Q M) (aF:ae<=lo) (H:lo+n<=M.length)
  (f:cut M lo n=al) (h4:(σ.Yj u j .none).fresh d=true) (h5:(ae+n)*P.bytesOf (E P t)<=140737488355328/\ae+n<=9223372036854775807)
  (h:Ev P N ah ap ((σ.Yj u j .none).new d (.one (.O d 0 0 ((M.take ae).length+al.length))) [.arr true Q (M.take ae++al)]) af):kU P N ah o ap σ af:=by
 subst aI;subst f;rw[Xh _ _ _ H,List.length_take,Nat.min_eq_left Y]at h;have cl:∀b:U,Gf o b ((b.Yj u j .none).new d (.one (.O d 0 0 (ae+n))) [.arr true (P.cellsOf (E P t)) (M.take ae++cut M lo n)]):=fun b d' m Z=>Ru (fun e=>m cy) (Jf Z)
 have z:∀l:List (Nat×V),(∀p∈l,p.1≠d/\H8 o p.1=true/\p.2.ref d=false)->OM P N o (σ.Ki l) (((σ.Ki l).Yj u j .none).new d (.one (.O d 0 0 (ae+n))) [.arr true (P.cellsOf (E P t)) (M.take ae++cut M lo n)]):=by
  rintro l hl T0 B a w K F ⟨ad,hh,r⟩ hK;have hw:Region.wanted o (yielded N a.tmps)=true:=c8
  rw[if_pos hw];have lx:look P (σ.Ki l) t x=look P σ t x:=TU l σ (fun p hp=>(Rv A (hl p hp).2.1).1)
  have c:look P (σ.Ki l) t y=look P σ t y:=TU l σ (fun p hp=>(Rv A (hl p hp).2.1).2);refine uh r A hd (by rw[lx];exact I.1) (by rw[c];exact I.2.1) I.2.2.1 I.2.2.2.1 I.2.2.2.2 (by rw[lx];exact X) (by rw[c];exact h3) (by rw[HS];exact ho) aF H ?_ h5.1 h5.2 hK;show((σ.Ki l).Yj u j .none).fresh d=true
  rw[Vl];exact MG l (fun p hp=>(hl p hp).2.2) h4
 have k:OM P N o σ ((σ.Yj u j .none).new d (.one (.O d 0 0 (ae+n))) [.arr true (P.cellsOf (E P t)) (M.take ae++cut M lo n)]):=z [] (fun p hp=>by cases hp);refine⟨_,.inr ⟨g,k,cl σ,fun hh=>by simp[NS,A]at hh,fun _=>wx hd (U.Qs _ _ _ _) (fun t=>U.JI _ _ _ _ t) (fun t i G J=>vd (L:=[(u,j)]) J) (fun t i q s M J=>⟨M,wZ (L:=[(u,j)]) J⟩) h4 (fun l hl=>?_) (fun l=>?_),fun hh _=>by first|(simp[qf,A]at hh;done)|(unfold qf at hh;rw[A]at hh;split at hh<;>simp_all)⟩,J7 h⟩
 ·rw[<-Vl];exact z l hl
 ·rw[<-Vl];exact cl _
theorem r8{t:TypeId}{u lo:Nat}(A:o.op= .call ⟨.builtin .append,#[x,y],#[t,t]⟩)(hg:o.guard=none)(hd:o.dst=some d)(g:ah o=true)
  (aI:Q=P.cellsOf (E P t)) (I:am (look P σ t x)=true/\am (look P σ t y)=true/\Xo P t=true/\Qq P (E P t)=true/\0<P.cellsOf (E P t))
  (X:l4 σ (unc (look P σ t x)) Q aq l1) (h3:unc (look P σ t y)= .one (.O u j lo n)) (ho:σ.ob u j= .arr true Q M) (aj:(u,j)∉l1) (aF:lo+n<=M.length) (f:cut M lo n=al)
  (h4:((σ.Yj u j (.arr true Q (K6 M lo n))).YI l1).fresh d=true) (h5:(aq.length+n)*P.bytesOf (E P t)<=140737488355328/\aq.length+n<=9223372036854775807)
  (h:Ev P N ah ap (((σ.Yj u j (.arr true Q (K6 M lo n))).YI l1).new d (.one (.O d 0 0 (aq.length+al.length))) [.arr true Q (aq++al)]) af):kU P N ah o ap σ af:=by
 subst aI;subst f;rw[Xh _ _ _ aF]at h;have cl:∀b:U,Gf o b (((b.Yj u j (.arr true (P.cellsOf (E P t)) (K6 M lo n))).YI l1).new d (.one (.O d 0 0 (aq.length+n))) [.arr true (P.cellsOf (E P t)) (aq++cut M lo n)]):=fun b d' m Z=>Ru (fun e=>m cy) (Jo (Jf Z))
 have z:∀l:List (Nat×V),(∀p∈l,p.1≠d/\H8 o p.1=true/\p.2.ref d=false)->OM P N o (σ.Ki l) ((((σ.Ki l).Yj u j (.arr true (P.cellsOf (E P t)) (K6 M lo n))).YI l1).new d (.one (.O d 0 0 (aq.length+n))) [.arr true (P.cellsOf (E P t)) (aq++cut M lo n)]):=by
  rintro l hl T0 B a w K F ⟨ad,hh,r⟩ hK;have hw:Region.wanted o (yielded N a.tmps)=true:=c8
  rw[if_pos hw];have lx:look P (σ.Ki l) t x=look P σ t x:=TU l σ (fun p hp=>(Rv A (hl p hp).2.1).1)
  have c:look P (σ.Ki l) t y=look P σ t y:=TU l σ (fun p hp=>(Rv A (hl p hp).2.1).2);refine tk r A hd (by rw[lx];exact I.1) (by rw[c];exact I.2.1) I.2.2.1 I.2.2.2.1 I.2.2.2.2 (by rw[lx];exact sc (HS l σ) X) (by rw[c];exact h3) (by rw[HS];exact ho) aF aj ?_ h5.1 h5.2 hK;rw[Vl,jk];exact MG l (fun p hp=>(hl p hp).2.2) h4
 have ao:σ.ob u j≠ .none:=bv;have k:OM P N o σ (((σ.Yj u j (.arr true (P.cellsOf (E P t)) (K6 M lo n))).YI l1).new d (.one (.O d 0 0 (aq.length+n))) [.arr true (P.cellsOf (E P t)) (aq++cut M lo n)]):=z [] (fun p hp=>by cases hp);refine⟨_,.inr ⟨g,k,cl σ,fun hh=>by simp[NS,A]at hh,fun _=>wx hd (by rw[U.z7,U.Qs]) (fun t=>by rw[U.jD,U.JI]) (fun t i G J=>?_) (fun t i q s az J=>?_) h4 (fun l hl=>?_) (fun l=>?_),fun hh _=>by first|(simp[qf,A]at hh;done)|(unfold qf at hh;rw[A]at hh;split at hh<;>simp_all)⟩,J7 h⟩
 ·have J:=vd J;rw[U.Kg σ u j _ t i ao]at J;split at J
  ·cases J
  ·exact J
 ·have J:=wZ J;rw[U.Kg σ u j _ t i ao]at J;split at J
  ·rename_i Z;cases J;rw[Z.1,Z.2];exact⟨M,ho⟩
  ·exact⟨az,J⟩
 ·rw[<-jk,<-Vl];exact z l hl
 ·rw[<-jk,<-Vl];exact cl _
theorem iI{f:At->Bool}{v:V}(hv:v.zX f=false):∀{σ:U}{d:Nat},σ.zX f=false->(σ.put d v).zX f=false
 |[],_,_=>rfl
 |e::σ,0,h=>by simp only[U.zX,Bool.or_eq_false_iff]at h;simp[U.put,U.zX,hv,h.1.2,h.2]
 |e::σ,d+1,h=>by simp only[U.zX,Bool.or_eq_false_iff]at h;simp[U.put,U.zX,h.1.1,h.1.2,iI hv h.2]
theorem Ce{σ:U}:∀{xs:List At}{ds:List D},JA σ xs=some ds->∀p∈Yp xs,∃q s M,σ.ob p.1 p.2= .arr q s M
 |[],_,_,p,hp=>by cases hp
 |x::xs,ds,h,p,hp=>by
  simp only[JA]at h;split at h
  ·rename_i d g I X;have ih:=Ce X
   cases x with
   |O t j lo ae=>
    simp only[Yp,List.mem_cons]at hp;rcases hp with rfl|hp
    ·simp only[a6]at I;split at I
     ·rename_i q s M ho;exact⟨q,s,M,ho⟩
     ·cases I
    ·exact ih p hp
   |_=>exact ih p hp
  ·cases h
theorem Dv{t' aN:Nat}{q q':Bool}{az:List (List D)}{G:List At}{xs:List At}(hm:JA σ xs=some ds)(N:Yp xs=L)(ho:σ.ob t j= .arr q Q M)(hn:(t,j)∉L)(J:σ.ob t' 0= .box G):
  ((σ.YI L).Yj t j (.arr q' aN az)).ob t' 0= .box G:=by
 have I:(σ.YI L).ob t j≠ .none:=by rw[U.yU,if_neg hn,ho];simp
 rw[U.Kg _ t j _ t' 0 I];split
 ·rename_i Z;rw[Z.1,Z.2,ho]at J;cases J
 ·rw[U.yU];split
  ·rename_i Z;obtain⟨q,s,M,he⟩:=Ce hm (t',0) (by rw[N];exact Z);rw[he]at J;cases J
  ·exact J
structure cT(P:Program)(σ:U)(T:TypeId)(x y:Operand)(t j i c Q:Nat)(M:List (List D))(ds:List D)(l:List (Nat×Nat)):Prop where
 o:unc (look P σ 0 x)= .one (.ptr t j i c)
 b:σ.ob t j= .arr true Q M
 e:i<M.length
 g:Wj P T=true/\am (look P σ 0 x)=true/\am (look P σ T y)=true/\(unc (look P σ T y)).flat=true
 d:JA σ (unc (look P σ T y)).cells=some ds
 h:QO σ (unc (look P σ T y)).cells
 f:Yp (unc (look P σ T y)).cells=l
 a:l.Nodup/\(t,j)∉l/\(σ.YI l).zX (At.isT t)=false
 m:ds.length=P.cellsOf T/\c+P.cellsOf T<=Q
theorem cT.Ki{P:Program}{o:Oper}{T:TypeId}{x y:Operand}(A:o.op= .store T x y){t j i c Q:Nat}{M:List (List D)}{ds:List D}{l:List (Nat×Nat)}:∀(q:List (Nat×V)){σ:U},(∀p∈q,RZ o p.1=true/\D0 p.2=true)->cT P σ T x y t j i c Q M ds l->cT P (σ.Ki q) T x y t j i c Q M ds l
 |[],_,_,h=>h
 |p::q,σ,hq,h=>by
  refine cT.Ki A q (fun R az=>hq R (by simp[az])) ?_;obtain⟨F,hp⟩:=hq p ab;simp only[RZ,A,Bool.and_eq_true,Bool.not_eq_true']at F;have hv:p.2.zX (At.isT t)=false:=by generalize p.2=v at hp;unfold D0 at hp;split at hp<;>first|rfl|cases hp
  refine⟨?_,?_,h.e,?_,?_,?_,?_,⟨h.a.1,h.a.2.1,?_⟩,h.m⟩
  ·rw[X4 F.1];exact h.o
  ·rw[U.Kr];exact h.b
  ·rw[X4 F.1,X4 F.2];exact h.g
  ·rw[X4 F.2,DZ];exact h.d
  ·rw[X4 F.2,Lz];exact h.h
  ·rw[X4 F.2];exact h.f
  ·rw[P2];exact iI hv h.a.2.2
theorem F9{l:List (Nat×Nat)}{t j:Nat}{ai:Ob}:∀(q:List (Nat×V))(σ:U),((σ.Ki q).YI l).Yj t j ai=((σ.YI l).Yj t j ai).Ki q
 |[],_=>rfl
 |p::q,σ=>by rw[U.Ki,U.Ki,F9 q,P2,WQ]
theorem CQ{T:TypeId}{c:Nat}{l:List (Nat×Nat)}(A:o.op= .store T x y)(hg:o.guard=none)(hd:o.dst=none)(h:cT P σ T x y t j i c Q M ds l):
  OM P N o σ ((σ.YI l).Yj t j (.arr true Q (M.set i (place (rowAt M i) c ds)))):=by
 obtain⟨O,ho,hi,I,X,h3,h4,h5,h6⟩:=h;subst h4;rintro T0 B a w K F ⟨ad,hh,r⟩ hK;have hw:Region.wanted o (yielded N a.tmps)=true:=c8
 rw[if_pos hw];exact BZ r A hd I.1 I.2.1 I.2.2.1 O ho hi I.2.2.2 X h3 h5.1 h5.2.1 h5.2.2 h6.1 h6.2 hK
theorem ro{T:TypeId}{c:Nat}{l:List (Nat×Nat)}(A:o.op= .store T x y)(hg:o.guard=none)(hd:o.dst=none)(g:ah o=true)
  (O:unc (look P σ 0 x)= .one (.ptr t j i c)) (ho:σ.ob t j= .arr true Q M) (hi:i<M.length) (I:Wj P T=true/\am (look P σ 0 x)=true/\am (look P σ T y)=true/\(unc (look P σ T y)).flat=true)
  (X:JA σ (unc (look P σ T y)).cells=some ds) (h3:QO σ (unc (look P σ T y)).cells) (h4:Yp (unc (look P σ T y)).cells=l) (h5:l.Nodup/\(t,j)∉l/\(σ.YI l).zX (At.isT t)=false) (h6:ds.length=P.cellsOf T/\c+P.cellsOf T<=Q)
  (h:Ev P N ah ap ((σ.YI l).Yj t j (.arr true Q (M.set i (place (rowAt M i) c ds)))) af):kU P N ah o ap σ af:=by
 have hm:cT P σ T x y t j i c Q M ds l:=⟨O,ho,hi,I,X,h3,h4,h5,h6⟩;refine⟨_,.inr ⟨g,CQ A hg hd hm,fun d' _ Z=>Jf (Jo Z),fun _=>.inl ⟨⟨by rw[U.Qs,U.z7],fun u=>by rw[U.JI,U.jD]⟩,fun q hq=>?_,fun t' G J=>?_⟩,fun hh=>by simp[SO,A]at hh,fun hh _=>by simp[qf,A]at hh⟩,J7 h⟩
 ·rw[<-F9];exact⟨CQ A hg hd (hm.Ki A q hq),fun d' _ Z=>Jf (Jo Z)⟩
 ·exact Dv hm.d hm.f hm.b hm.a.2.1 J
theorem pj{T:TypeId}{l:List (Nat×Nat)}(A:o.op= .store T x y)(hg:o.guard=none)(hd:o.dst=none)(aG:ds.length=Q)(h:cT P σ T x y t j i 0 Q M ds l):
  OM P N o σ ((σ.YI l).Yj t j (.arr true Q (M.set i ds))):=by
 rintro T0 B a w K F ⟨ad,hh,r⟩ hK;refine CQ A hg hd h T0 B a w K F ⟨ad,hh,r⟩ ?_;have h0:=r.obj t j
 rw[h.b]at h0;obtain⟨_,_,_,hz,_⟩:=h0;have e:place (rowAt M i) 0 ds=ds:=by
  have hr:(rowAt M i).length=Q:=by
   have:rowAt M i=M[i]'h.e:=by simp[rowAt,List.getD_eq_getElem?_getD,List.getElem?_eq_getElem h.e]
   rw[this];exact hz _ (List.getElem_mem h.e)
  unfold place;rw[List.take_zero,List.nil_append,List.drop_eq_nil_of_le Y,List.append_nil]
 rw[e];exact hK
theorem sz{T:TypeId}{l:List (Nat×Nat)}(A:o.op= .store T x y)(hg:o.guard=none)(hd:o.dst=none)(g:ah o=true)
  (O:unc (look P σ 0 x)= .one (.ptr t j i 0)) (ho:σ.ob t j= .arr true Q M) (hi:i<M.length) (I:Wj P T=true/\am (look P σ 0 x)=true/\am (look P σ T y)=true/\(unc (look P σ T y)).flat=true)
  (X:JA σ (unc (look P σ T y)).cells=some ds) (h3:QO σ (unc (look P σ T y)).cells) (h4:Yp (unc (look P σ T y)).cells=l) (h5:l.Nodup/\(t,j)∉l/\(σ.YI l).zX (At.isT t)=false) (h6:ds.length=P.cellsOf T/\P.cellsOf T=Q)
  (h:Ev P N ah ap ((σ.YI l).Yj t j (.arr true Q (M.set i ds))) af):kU P N ah o ap σ af:=by
 have hm:cT P σ T x y t j i 0 Q M ds l:=⟨O,ho,hi,I,X,h3,h4,h5,h6.1,Y⟩;have hf:ds.length=Q:=Y;refine⟨_,.inr ⟨g,pj A hg hd hf hm,fun d' _ Z=>Jf (Jo Z),fun _=>.inl ⟨⟨by rw[U.Qs,U.z7],fun u=>by rw[U.JI,U.jD]⟩,fun q hq=>?_,fun t' G J=>?_⟩,fun hh=>by simp[SO,A]at hh,fun hh _=>by simp[qf,A]at hh⟩,J7 h⟩
 ·rw[<-F9];exact⟨pj A hg hd hf (hm.Ki A q hq),fun d' _ Z=>Jf (Jo Z)⟩
 ·exact Dv hm.d hm.f hm.b hm.a.2.1 J
structure dx(P:Program)(σ:U)(T:TypeId)(x y:Operand)(t j i c k q n Q:Nat)(s M:List (List D))(ds:List D)(l:List (Nat×Nat)):Prop where
 o:unc (look P σ 0 x)= .one (.ac t j i c (some (k*n+q)))
 b:σ.ob t j= .arr true Q M
 e:i<M.length
 p:(M.getD i [])[c]?=some (.sl n s)
 r:k<s.length
 g:Wj P T=true/\am (look P σ 0 x)=true/\am (look P σ T y)=true/\(unc (look P σ T y)).flat=true
 d:JA σ (unc (look P σ T y)).cells=some ds
 h:QO σ (unc (look P σ T y)).cells
 f:Yp (unc (look P σ T y)).cells=l
 a:l.Nodup/\(t,j)∉l
 m:ds.length=P.cellsOf T/\q+P.cellsOf T<=n
theorem dx.Ki{P:Program}{o:Oper}{T:TypeId}{x y:Operand}(A:o.op= .store T x y){t j i c k u n Q:Nat}{s M:List (List D)}{ds:List D}{l:List (Nat×Nat)}:∀(q:List (Nat×V)){σ:U},(∀p∈q,RZ o p.1=true/\D0 p.2=true)->dx P σ T x y t j i c k u n Q s M ds l->dx P (σ.Ki q) T x y t j i c k u n Q s M ds l
 |[],_,_,h=>h
 |p::q,σ,hq,h=>by
  refine dx.Ki A q (fun R az=>hq R (by simp[az])) ?_;obtain⟨F,hp⟩:=hq p ab;simp only[RZ,A,Bool.and_eq_true,Bool.not_eq_true']at F;refine⟨?_,?_,h.e,h.p,h.r,?_,?_,?_,?_,h.a,h.m⟩
  ·rw[X4 F.1];exact h.o
  ·rw[U.Kr];exact h.b
  ·rw[X4 F.1,X4 F.2];exact h.g
  ·rw[X4 F.2,DZ];exact h.d
  ·rw[X4 F.2,Lz];exact h.h
  ·rw[X4 F.2];exact h.f
theorem pA{T:TypeId}{c q:Nat}{l:List (Nat×Nat)}(A:o.op= .store T x y)(hg:o.guard=none)(hd:o.dst=none)(h:dx P σ T x y t j i c k q n Q s M ds l):
  OM P N o σ ((σ.YI l).Yj t j (.arr true Q (M.set i (place (rowAt M i) c [.sl n (s.set k (place (rowAt s k) q ds))])))):=by
 obtain⟨O,ho,hi,Z,hk,I,X,h3,h4,h5,h6⟩:=h;subst h4;rintro T0 B a w K F ⟨ad,hh,r⟩ hK;have hw:Region.wanted o (yielded N a.tmps)=true:=c8
 rw[if_pos hw];exact Bq r A hd I.1 I.2.1 I.2.2.1 O ho hi Z hk I.2.2.2 X h3 h5.1 h5.2 h6.1 h6.2 hK
theorem md{T:TypeId}{c q:Nat}{l:List (Nat×Nat)}(A:o.op= .store T x y)(hg:o.guard=none)(hd:o.dst=none)(g:ah o=true)
  (hm:dx P σ T x y t j i c k q n Q s M ds l)
  (h:Ev P N ah ap ((σ.YI l).Yj t j (.arr true Q (M.set i (place (rowAt M i) c [.sl n (s.set k (place (rowAt s k) q ds))])))) af):kU P N ah o ap σ af:=by
 refine⟨_,.inr ⟨g,pA A hg hd hm,fun d' _ Z=>Jf (Jo Z),fun _=>.inl ⟨⟨by rw[U.Qs,U.z7],fun u=>by rw[U.JI,U.jD]⟩,fun q hq=>?_,fun t' G J=>?_⟩,fun hh=>by simp[SO,A]at hh,fun hh _=>by simp[qf,A]at hh⟩,J7 h⟩
 ·rw[<-F9];exact⟨pA A hg hd (hm.Ki A q hq),fun d' _ Z=>Jf (Jo Z)⟩
 ·exact Dv hm.d hm.f hm.b hm.a.2 J
open Go.RowKit
def Gy(P:Program)(σ:U):ResultVar->Prop×List At
 |.tmp t=>(match σ.get t with
  |.one x=>(t<σ.length,[x])
  |.agg []=>(t<σ.length,[])
  |.agg (x::y::xs)=>(t<σ.length,x::y::xs)
  |_=>(False,[]))
 |.cell t T=>(match σ.get t with
  |.one (.Z u c)=>(match σ.ob u 0 with
    |.box G=>(Wj P T=true/\Ow P T=true/\P.cellsOf T≠1/\c+P.cellsOf T<=G.length,cut G c (P.cellsOf T))
    |_=>(False,[]))
  |_=>(False,[]))
def yB(P:Program)(σ:U):List ResultVar->Prop×List (List At)
 |[]=>(True,[])
 |r::rs=>((Gy P σ r).1/\(yB P σ rs).1,(Gy P σ r).2::(yB P σ rs).2)
theorem s0(h:(Gy P σ r).1):vP P σ r (Gy P σ r).2:=by
 cases r with
 |tmp t=>
  simp only[Gy]at h⊢;simp only[vP];cases O:σ.get t with
  |one x=>rw[O]at h;exact⟨rfl,h⟩
  |agg xs=>
   rw[O]at h;match xs,h with
   |[],h=>exact⟨rfl,h⟩
   |[x],h=>exact h.elim
   |x::y::xs,h=>exact⟨rfl,h⟩
  |any=>rw[O]at h;exact h.elim
  |Z xs=>rw[O]at h;exact h.elim
  |O g x=>rw[O]at h;exact h.elim
  |fix u x=>rw[O]at h;exact h.elim
 |cell t T=>
  simp only[Gy]at h⊢;split at h
  ·rename_i u c O;split at h
   ·rename_i G ho;exact⟨u,c,G,O,ho,h.1,h.2.1,h.2.2.1,h.2.2.2,rfl⟩
   ·exact h.elim
  ·exact h.elim
theorem Nb{P:Program}{σ:U}:∀{rs:List ResultVar},(yB P σ rs).1->MF P σ rs (yB P σ rs).2
 |[],_=>rfl
 |_::_,h=>⟨_,_,s0 h.1,Nb h.2,rfl⟩
theorem iC(hf:fn.results=rv.toArray)(h:(yB P σ rv).1/\MA σ (yB P σ rv).2=some H):nO P fn false H .ret σ:=
 ⟨.inl rfl,_,by rw[hf];exact Nb h.1,by simpa using h.2⟩
theorem Qa(hf:fn.results=rv.toArray)(h:(yB P σ rv).1/\Oa σ (yB P σ rv).2=some H/\(Yp (yB P σ rv).2.flatten).Nodup):nO P fn true H .ret σ:=
 ⟨.inl rfl,_,by rw[hf];exact Nb h.1,by simpa using h.2⟩
theorem Hg(hf:fn.results=rv.toArray)(h:(yB P σ rv).1/\qe σ (yB P σ rv).2=some H/\xB σ (yB P σ rv).2/\(Yp (yB P σ rv).2.flatten).Nodup):de P fn H .ret σ:=
 ⟨.inl rfl,_,by rw[hf];exact Nb h.1,h.2⟩
attribute [simp] l4 qe JA a6 xB QO B9 Yg Uz xK Pp PK U.YI fV ev mv fL PJ HC C0 U.zX V.zX V.tP pE Sv xM At.isT
attribute [simp] em e5 Ev ew hd gi bF iO aU pJ gG IG Lv jN MX Ml Li FL aP ci Vm.look dB unc am VT V.flat V.cells U.put U.Yj U.new U.cz U.lk U.aw U.oY pM TN s1
 wP Ic bt cut place rowOf qn xY At.nr JD V.xJ Yz VO Px pN a2 Qt kp yB Gy MA Oa dA TK Yp TW Lk Y6 At.ref D.scalar zu D.nw zD eP J2
open Go.RowKit
variable{ts:List TypeId}
def hS(w:World)(S:Nat->Prop)(C:List Value)(aB:List D)(x:D)(e:Ending)(w':World):Prop:=
 ∃u,e= .returned u/\Rd (fun _ _=>False) w' u x/\Xl (fun b=>b<w.heap.size/\¬S b) w w'/\zq w' C aB (fun b=>S b\/(w.heap.size<=b/\b<w'.heap.size))
def yS(P:Program)(f:FuncId)(ac:List D)(ax:List (List D))(aB:List D)(x:D):Prop:=
 R7 P f=true/\∀(T:CS)(S:Nat->Prop)(w:World)(v:Value)(C au:List Value),(∀b k,T b k->b<w.heap.size/\¬S b)->(∀b,S b->b<w.heap.size)->yg v C->zq w C ac S->
  Yn (fun v ac=>∃C,yg v C/\Yn (Rd T w) C ac) au ax->Calls P f (v::au).toArray w (hS w S C aB x)
theorem ar.eV(r:ar T0 B σ a w ad h)(σ':U)(aC:σ'.length=σ.length)(am:∀t,σ'.get t=σ.get t)(L:Nat->Nat->Prop)(N:∀t j,L t j->σ.ob t j≠ .none)(ao:∀t j,¬L t j->σ'.ob t j=σ.ob t j)(X:∀t j,L t j->(σ.ob t j).gz (σ'.ob t j))
  (aI:w.heap.size<=w'.heap.size) (hw:∀k,k<w.heap.size->(∀t j,L t j->¬(h t j).u k)->w'.heap[k]?=w.heap[k]?)
  (h':Nat->Nat->Hd) (hh:∀t j,¬L t j->h' t j=h t j) (hv:∀t j,L t j->(h' t j).v=(h t j).v) (F:∀t j b,L t j->(h' t j).u b->(∃t' j',L t' j'/\(h t' j').u b)\/(w.heap.size<=b/\b<w'.heap.size))
  (aM:∀t j b,L t j->blk (h' t j).v=some b->(h' t j).u b) (az:∀t j t' j' b,L t j->L t' j'->(h' t j).u b->(h' t' j').u b->t=t'/\j=j')
  (p:At->Bool) (hp:σ.zX p=false) (hn:∀t j,L t j->(∀i c o,p (.ac t j i c o)=true)\/(h' t j).n=(h t j).n)
  (ap:∀t j,L t j->zR (ak T0 ad) h' σ'.ob w' (h' t j) (σ'.ob t j)):ar T0 B σ' a w' ad h':=by
 have hT:∀b k v,ak T0 ad b k->w.cell? ⟨b,k,none⟩=some v->w'.cell? ⟨b,k,none⟩=some v/\ak T0 ad b k:=by
  intro b k v J aB;refine⟨?_,J⟩;have hk:∀t j,L t j->¬(h t j).u b:=by
   intro t j hl aL;have av:=r.own t j b (N t j hl) aL
   rcases J with J|J
   ·exact av.1 (r.f _ _ J)
   ·exact av.2.1 J
  rw[World.cell?_of_block (hw b (r.Tlt J) hk)];exact aB
 have ag:∀u i,(h' u i).v=(h u i).v:=by
  intro u i;by_cases Z:L u i
  ·exact hv u i Z
  ·rw[hh u i Z]
 have ai:∀u i q Q M,σ'.ob u i= .arr q Q M->∃aH,σ.ob u i= .arr q Q aH/\aH.length=M.length:=by
  intro u i q Q M ho;by_cases Z:L u i
  ·have I:=X u i Z;rw[ho]at I;cases af:σ.ob u i with
   |arr q0 C r0=>rw[af]at I;obtain⟨rfl,rfl,hl⟩:=I;exact⟨r0,rfl,hl⟩
   |none=>rw[af]at I;exact I.elim
   |box c=>rw[af]at I;exact I.elim
   |lit s r=>rw[af]at I;exact I.elim
  ·rw[ao u i Z]at ho;exact⟨M,ho,rfl⟩
 have aF:∀u i Q M,σ'.ob u i= .lit Q M->∃aH,σ.ob u i= .lit Q aH/\aH.length=M.length:=by
  intro u i Q M ho;by_cases Z:L u i
  ·have I:=X u i Z;rw[ho]at I;cases af:σ.ob u i with
   |arr q0 C r0=>rw[af]at I;exact I.elim
   |none=>rw[af]at I;exact I.elim
   |box c=>rw[af]at I;exact I.elim
   |lit s r=>rw[af]at I;obtain⟨rfl,hl⟩:=I;exact⟨r,rfl,hl⟩
  ·rw[ao u i Z]at ho;exact⟨M,ho,rfl⟩
 have ab:∀u i G,σ'.ob u i= .box G->∃aa,σ.ob u i= .box aa:=by
  intro u i G ho;by_cases Z:L u i
  ·have I:=X u i Z;rw[ho]at I;cases af:σ.ob u i with
   |arr q0 C r0=>rw[af]at I;exact I.elim
   |none=>rw[af]at I;exact I.elim
   |box c=>exact⟨c,rfl⟩
   |lit s r=>rw[af]at I;exact I.elim
  ·rw[ao u i Z]at ho;exact⟨G,ho⟩
 have ac:∀{x:At}{v:Value},p x=false->Ys (ak T0 ad) h σ.ob w x v->Ys (ak T0 ad) h' σ'.ob w' x v:=by
  intro x v R E;cases x with
  |any=>exact E
  |d x=>exact Rd.mono hT E
  |nil s=>exact E
  |O u i lo ae=>
   refine⟨E.1,fun q Q M ho=>?_,fun Q M ho=>?_⟩
   ·obtain⟨aH,af,hl⟩:=ai u i q Q M ho;rw[ag,<-hl];exact E.2.1 q Q aH af
   ·obtain⟨aH,af,hl⟩:=aF u i Q M ho;rw[ag,<-hl];exact E.2.2 Q aH af
  |ptr u i k c=>refine⟨E.1,fun q Q M ho=>?_⟩;obtain⟨aH,af,hl⟩:=ai u i q Q M ho;rw[ag];exact E.2 q Q aH af
  |Z u c=>refine⟨E.1,fun G ho=>?_⟩;obtain⟨aa,af⟩:=ab u 0 G ho;rw[ag];exact E.2 aa af
  |fn f u=>refine⟨E.1,fun G ho=>?_⟩;obtain⟨aa,af⟩:=ab u 0 G ho;rw[ag];exact E.2 aa af
  |ac u i k c o=>
   refine⟨E.1,fun Q M ho=>?_⟩;obtain⟨aH,af,hl⟩:=ai u i true Q M ho;have I:=E.2 Q aH af
   by_cases Z:L u i
   ·rcases hn u i Z with hn|hn
    ·rw[hn]at R;cases R
    ·rw[hn];exact I
   ·rw[hh u i Z];exact I
  |am rr c=>obtain⟨b,aw,g,e,hk⟩:=E;exact⟨b,aw,g,e,fun k d hd=>⟨(hT _ _ _ (hk k d hd).2.1 (hk k d hd).1).1,(hk k d hd).2.1,Rd.mono hT (hk k d hd).2.2⟩⟩
 have l:∀u i,σ'.ob u i≠ .none->σ.ob u i≠ .none:=by
  intro u i A;by_cases aL:L u i
  ·exact N u i aL
  ·rw[ao u i aL]at A;exact A
 refine⟨by rw[r.size,aC],r.defers,fun b J=>Nat.lt_of_lt_of_le (r.d b J) aI,fun b J=>⟨(r.e b J).1,Nat.lt_of_lt_of_le (r.e b J).2 aI⟩,r.f,fun u aL=>?_,fun u i=>?_,fun u i b' W aj=>?_,fun u i b' W aj=>?_,fun u i u' i' b' W aK aJ aD=>?_⟩
 ·rw[aC]at aL;rw[am];exact J8.map ac (U.Nh hp u) (r.slot u aL)
 ·by_cases Z:L u i
  ·exact ap u i Z
  ·rw[ao u i Z,hh u i Z];exact zR.map ac hT (fun ho b=>r.c u i b ho) (fun ho b J=>hw b (r.own u i b ho J).2.2 (fun t j hl au=>by
    obtain⟨H,e2⟩:=r.inj u i t j b ho (N t j hl) J au;rw[H,e2]at Z;exact Z hl)) (U.HQ hp u i) (r.obj u i)
 ·by_cases Z:L u i
  ·exact aM u i b' Z aj
  ·rw[hh u i Z]at aj⊢;exact r.c u i b' (l u i W) aj
 ·by_cases Z:L u i
  ·rcases F u i b' Z aj with⟨t,j,hl,I⟩|I
   ·have:=r.own t j b' (N t j hl) I;exact⟨this.1,this.2.1,Y⟩
   ·exact⟨fun J=>by have:=r.d b' J;omega,fun O=>by have:=(r.e b' O).2;omega,I.2⟩
  ·rw[hh u i Z]at aj;have:=r.own u i b' (l u i W) aj;exact⟨this.1,this.2.1,Y⟩
 ·by_cases Z:L u i
  ·by_cases an:L u' i'
   ·exact az u i u' i' b' Z an aJ aD
   ·rw[hh u' i' an]at aD;rcases F u i b' Z aJ with⟨t,j,hl,I⟩|I
    ·obtain⟨H,e2⟩:=r.inj t j u' i' b' (N t j hl) (l u' i' aK) I aD;rw[H,e2]at hl;exact absurd hl an
    ·have:=r.own u' i' b' (l u' i' aK) aD;omega
  ·rw[hh u i Z]at aJ;by_cases an:L u' i'
   ·rcases F u' i' b' an aD with⟨t,j,hl,I⟩|I
    ·obtain⟨H,e2⟩:=r.inj t j u i b' (N t j hl) (l u i W) I aJ;rw[H,e2]at hl;exact absurd hl Z
    ·have:=r.own u i b' (l u i W) aJ;omega
   ·rw[hh u' i' an]at aD;exact r.inj u i u' i' b' (l u i W) (l u' i' aK) aJ aD
theorem As{ac:List D}(ho:zq w C ac S):∃(hf:Nat->Hd)(l:Nat->Nat->Prop),(∀j c,C[j]?=some c->(hf j).v=c)/\(∀k b,l k b->S b)/\(∀i j b,l i b->l j b->i=j)/\
  ∀j Q M,ac[j]?=some (.sl Q M)->(∀b,(hf j).u b->l j b)/\(∀b,blk (hf j).v=some b->(hf j).u b)/\∀T h ai,zR T h ai w (hf j) (.arr true Q M):=by
 obtain⟨hl,l,I,X,h3⟩:=ho;have V:∀j,∃hd:Hd,(∀c,C[j]?=some c->hd.v=c)/\(∀Q M,ac[j]?=some (.sl Q M)->(∀b,hd.u b->l j b)/\(∀b,blk hd.v=some b->hd.u b)/\∀T h ai,zR T h ai w hd (.arr true Q M)):=by
  intro j;cases hj:ac[j]? with
  |none=>exact⟨Hd.of ((C[j]?).getD undef),fun c an=>by simp[Hd.of,an],fun Q M hh=>by cases hh⟩
  |some dd=>
   have aB:j<C.length:=by rw[hl];exact(List.getElem?_eq_some_iff.1 hj).1
   have g:C[j]?=some C[j]:=List.getElem?_eq_getElem aB;cases dd with
   |int k n=>exact⟨Hd.of C[j],fun c an=>by rw[g]at an;cases an;rfl,fun Q M hh=>by cases hh⟩
   |bool k=>exact⟨Hd.of C[j],fun c an=>by rw[g]at an;cases an;rfl,fun Q M hh=>by cases hh⟩
   |str k=>exact⟨Hd.of C[j],fun c an=>by rw[g]at an;cases an;rfl,fun Q M hh=>by cases hh⟩
   |unk=>exact⟨Hd.of C[j],fun c an=>by rw[g]at an;cases an;rfl,fun Q M hh=>by cases hh⟩
   |sl Q M=>
    have ho:=I j _ _ g hj;generalize hv:C[j]=v at ho;cases ho with
    |sl v Q M S e xs F ho hz J hl hk N m=>refine⟨⟨v,fun k=>(xs[k]?).getD undef,l j⟩,fun c an=>by rw[g,hv]at an;cases an;rfl,fun aN az hh=>?_⟩;cases hh;exact⟨fun b J=>J,J,fun T h ai=>⟨e,xs,ho,hz,⟨hl,F,hk,fun k b J=>N k b J,m⟩,fun k x d O _ _=>by simp[O]⟩⟩
 obtain⟨hf,y⟩:=Classical.axiomOfChoice V;exact⟨hf,l,fun j=>(y j).1,X,h3,fun j=>(y j).2⟩
theorem zq.top{ac:List D}(ho:zq w C ac S):Yn (Rb T w) C ac:=by
 obtain⟨hl,l,I,X,h3⟩:=ho;refine Yn.ka hl (fun k x d O hd=>?_);have ho:=I k x d O hd
 cases ho with
 |int k n=>exact Rd.int _ _
 |bool b=>exact Rd.bool _
 |str s=>exact Rd.str _
 |unk v h=>exact Rd.unk _ h
 |sl v Q M S e xs F ho hz J hl hk N m=>exact⟨e,xs,ho⟩
theorem jJ:∀(ds:List D)(k:Nat)(Q:Nat)(M:List (List D)),ds[k]?=some (.sl Q M)->XG (Yg [] ds) k= .arr true Q M
 |[],k,Q,M,h=>cz
 |.sl s r::ds,0,Q,M,h=>by simp at h;obtain⟨rfl,rfl⟩:=h;rfl
 |.int _ _::ds,0,Q,M,h=>cz
 |.bool _::ds,0,Q,M,h=>cz
 |.str _::ds,0,Q,M,h=>cz
 |.unk::ds,0,Q,M,h=>cz
 |.sl s r::ds,k+1,Q,M,h=>eb
 |.int _ _::ds,k+1,Q,M,h=>eb
 |.bool _::ds,k+1,Q,M,h=>eb
 |.str _::ds,k+1,Q,M,h=>eb
 |.unk::ds,k+1,Q,M,h=>eb
theorem Wo:∀(ds:List D)(k:Nat),XG (Yg [] ds) k≠ .none->∃Q M,ds[k]?=some (.sl Q M)
 |[],k,h=>dY
 |.sl s r::ds,0,h=>⟨s,r,rfl⟩
 |.int _ _::ds,0,h=>dY
 |.bool _::ds,0,h=>dY
 |.str _::ds,0,h=>dY
 |.unk::ds,0,h=>dY
 |.sl s r::ds,k+1,h=>dD
 |.int _ _::ds,k+1,h=>dD
 |.bool _::ds,k+1,h=>dD
 |.str _::ds,k+1,h=>dD
 |.unk::ds,k+1,h=>dD
theorem pS{σ:U}{t:Nat}:∀(ds:List D)(k:Nat),(∀i Q M,ds[i]?=some (.sl Q M)->σ.ob t (k+i)= .arr true Q M)->
  JA σ (Qt t k ds)=some ds/\QO σ (Qt t k ds)/\(Yp (Qt t k ds)).Nodup/\∀p∈Yp (Qt t k ds),p.1=t/\k<=p.2
 |[],k,_=>⟨rfl,trivial,List.nodup_nil,fun p hp=>by cases hp⟩
 |d::ds,k,ho=>by
  obtain⟨I,X,h3,h4⟩:=pS ds (k+1) (fun i Q M hi=>by rw[show k+1+i=k+(i+1)by omega];exact ho (i+1) Q M (by simpa using hi));cases d with
  |sl Q M=>
   have h0:=ho 0 Q M ab;rw[Nat.add_zero]at h0;refine⟨by simp[Qt,JA,a6,h0,I],⟨by simp[B9,h0],X⟩,?_,fun p hp=>?_⟩
   ·simp only[Qt,Yp,List.nodup_cons];exact⟨fun hm=>by have:=(h4 _ hm).2;simp at this;omega,h3⟩
   ·simp only[Qt,Yp,List.mem_cons]at hp;rcases hp with rfl|hp
    ·exact⟨rfl,Nat.le_refl _⟩
    ·have:=h4 p hp;exact⟨this.1,Y⟩
  |int k' n=>exact⟨by simp[Qt,JA,a6,I],⟨trivial,X⟩,h3,fun p hp=>by have:=h4 p hp;exact⟨this.1,Y⟩⟩
  |bool b=>exact⟨by simp[Qt,JA,a6,I],⟨trivial,X⟩,h3,fun p hp=>by have:=h4 p hp;exact⟨this.1,Y⟩⟩
  |str s=>exact⟨by simp[Qt,JA,a6,I],⟨trivial,X⟩,h3,fun p hp=>by have:=h4 p hp;exact⟨this.1,Y⟩⟩
  |unk=>exact⟨by simp[Qt,JA,a6,I],⟨trivial,X⟩,h3,fun p hp=>by have:=h4 p hp;exact⟨this.1,Y⟩⟩
def LG(n:Nat)(v:Value)(ac:List D)(ax:List (List D)):U:=(.fix v (a2 (Qt 0 0 ac)),Yg [] ac)::(Lk ax++List.replicate (n-(ax.length+1)) (V.any,[]))
theorem oJ{v:Value}{ac:List D}(hT:∀b k,T b k->b<w.heap.size/\¬S b)(L:∀b,S b->b<w.heap.size)(hf:yg v C)(ho:zq w C ac S)
  (ha:Yn (fun v ac=>∃C,yg v C/\Yn (Rd T w) C ac) au ax):
  zh T (fun b=>b<w.heap.size/\¬S b) (LG n v ac ax) {tmps:=(v::au).toArray++Array.replicate (n-(v::au).toArray.size) undef,defers:=[]} w:=by
 have hl:=ha.length;obtain⟨aL,l,k1,k2,k3,k4⟩:=As ho;refine⟨fun _=>False,fun t j=>if t=0 then aL j else Hd.of undef,?_⟩;have an:∀j,(LG n v ac ax).ob 0 j=XG (Yg [] ac) j:=fun j=>rfl;have ah:∀t j,(LG n v ac ax).ob (t+1) j= .none:=by
  intro t j;unfold U.ob LG;rw[List.getElem?_cons_succ];rcases Nat.lt_or_ge t ax.length with h|h
  ·rw[List.getElem?_append_left da,PL,List.getElem?_eq_getElem h];simp[XG]
  ·rw[List.getElem?_append_right da,List.getElem?_replicate];split
   ·rename_i e he;split at he
    ·cases he;simp[XG]
    ·cases he
   ·rfl
 have hz:∀t j,(LG n v ac ax).ob t j≠ .none->t=0/\∃Q M,ac[j]?=some (.sl Q M):=by
  intro t j W;cases t with
  |zero=>exact⟨rfl,Wo ac j W⟩
  |succ t=>exact absurd (ah t j) W
 have P:∀b k v,T b k->w.cell? ⟨b,k,none⟩=some v->w.cell? ⟨b,k,none⟩=some v/\ak T (fun _=>False) b k:=fun b k v J Z=>⟨Z,.inl J⟩;refine⟨by simp[LG,QX,hl];omega,rfl,(fun b J=>J.1),(fun b J=>J.elim),hT,fun t ht=>?_,fun t j=>?_,fun t j b W J=>?_,fun t j b W J=>?_,fun t j t' j' b W aK J aj=>?_⟩
 ·cases t with
  |zero=>
   have d:((v::au).toArray++Array.replicate (n-(v::au).toArray.size) undef).getD 0 undef=v:=by rw[Array.getD_eq_getD_getElem?,Array.getElem?_append_left ab];simp
   rw[d];refine⟨rfl,HP hf (Pw ho.top (fun i Q M hi=>⟨true,?_⟩) (fun i c Z=>?_))⟩
   ·rw[Nat.zero_add,an];exact jJ ac i Q M hi
   ·rw[Nat.zero_add];simp only[if_true];exact k1 i c Z
  |succ t=>
   unfold U.get LG;rw[List.getElem?_cons_succ];rcases Nat.lt_or_ge t ax.length with ag|aG
   ·rw[List.getElem?_append_left (by rw[QX];exact ag),PL,List.getElem?_eq_getElem ag];obtain⟨v',G,aV,g,y⟩:=ha.get' t ax[t] (List.getElem?_eq_getElem ag);have d:((v::au).toArray++Array.replicate (n-(v::au).toArray.size) undef).getD (t+1) undef=v':=by rw[Array.getD_eq_getD_getElem?,Array.getElem?_append_left a0];simp[G]
    simp only[d];exact(HP g (HE (y.imp fun _ _=>Rd.mono P))).up
   ·rw[List.getElem?_append_right (by rw[QX];exact aG),List.getElem?_replicate];split
    ·rename_i e he;split at he
     ·cases he;trivial
     ·cases he
    ·trivial
 ·by_cases W:(LG n v ac ax).ob t j= .none
  ·rw[W];trivial
  ·obtain⟨rfl,Q,M,hj⟩:=hz t j W;rw[an,jJ ac j Q M hj];simp only[if_true];exact(k4 j Q M hj).2.2 _ _ _
 ·obtain⟨rfl,Q,M,hj⟩:=hz t j W;simp only[if_true]at J⊢;exact(k4 j Q M hj).2.1 b J
 ·obtain⟨rfl,Q,M,hj⟩:=hz t j W;simp only[if_true]at J;have:=k2 j b ((k4 j Q M hj).1 b J)
  exact⟨fun hh=>hh.2 this,fun hh=>hh,L b this⟩
 ·obtain⟨rfl,Q,M,hj⟩:=hz t j W;obtain⟨rfl,aN,az,ay⟩:=hz t' j' aK;simp only[if_true]at J aj;exact⟨rfl,k3 j j' b ((k4 j Q M hj).1 b J) ((k4 j' aN az ay).1 b aj)⟩
def dW(P:Program)(fn:Func)(v:Value)(aB:List D)(x:D)(e:Exit)(σ:U):Prop:=
 (e= .ret\/e= .normal)/\MF P σ fn.results.toList [[.d x]]/\x.scalar=true/\σ.head?=some (.fix v (a2 (Qt 0 0 aB)),Yg [] aB)
theorem jD{v:Value}{aV:List Value}(I:yg v C)(X:yg v aV):C=aV:=by
 rcases I with⟨c,rfl,rfl,ho⟩|⟨hn,rfl⟩
 ·rcases X with⟨R,rfl,rfl,_⟩|⟨A,rfl⟩
  ·rfl
  ·cases ho
 ·rcases X with⟨R,rfl,rfl,L⟩|⟨A,he⟩
  ·cases L
  ·injection he with he;simpa using he
theorem A7(hf:P.funcs[f]?=some fn)(J:fn.body=some c)(ap:R7 P f=true){ac:List D}{x:D}
  (hw:∀v,a3 P c (dW P fn v aB x) (LG fn.ntmps v ac ax)):yS P f ac ax aB x:=by
 refine⟨ap,fun T S w v C au hT L aT av al=>calls_of_wp hf J ?_⟩;refine wp_mono (hw v T (fun b=>b<w.heap.size/\¬S b) _ w (oJ hT L aT av al)) ?_;rintro e a' w' ⟨σ',⟨he,K,aG,d⟩,⟨ad,h,r⟩,ab⟩;obtain⟨vs,E,aH,l,aa⟩:=SC r K;cases aa with
 |cons I aa=>
  cases aa;cases I with
  |@cons _ c0 _ _ O I=>
   cases I;cases l with
   |@cons u _ _ _ F hn=>
    cases hn;have aL:u=c0:=by
     rcases F with⟨R,an,rfl,_⟩|⟨hn,_⟩
     ·cases an;rfl
     ·simp at hn
    subst aL;have o:a'.defers=[]/\∃v,(results fn a'.tmps).run P w'= .ok v w'/\hS w S C aB x (.returned v) w':=by
     refine⟨r.defers,_,aH,u,rfl,?_,ab,?_⟩
     ·cases O with
      |int k n=>exact .int _ _
      |bool b=>exact .bool _
      |str s=>exact .str _
      |unk v h=>exact .unk _ h
      |nil=>cases aG
      |sl=>cases aG
     ·have aQ:0<σ'.length:=by
       cases σ' with
       |nil=>simp at d
       |cons e σ=>simp
      have aS:σ'.get 0= .fix v (a2 (Qt 0 0 aB)):=by
       cases σ' with
       |nil=>simp at d
       |cons e σ=>simp at d;simp[U.get,d]
      have af:∀j,σ'.ob 0 j=XG (Yg [] aB) j:=by
       intro j;cases σ' with
       |nil=>simp at d
       |cons e σ=>simp at d;simp[U.ob,d]
      have ah:=r.slot 0 aQ;rw[aS]at ah;obtain⟨ak,B⟩:=ah;rw[ak]at B;obtain⟨aV,g,y⟩:=mj B.up;rw[jD g aT]at y;obtain⟨q,m2,a,_⟩:=pS (σ:=σ') (t:=0) aB 0 (fun i Q M hi=>by rw[Nat.zero_add,af];exact jJ aB i Q M hi);refine(PG r y q m2 a).mono (fun b J=>?_);have:=r.zZ _ b J;by_cases hs:S b
      ·exact .inl hs
      ·refine .inr ⟨?_,this.2.2.1⟩;rcases Nat.lt_or_ge b w.heap.size with h|h
       ·exact absurd ⟨h,hs⟩ this.1
       ·exact h
    rcases he with rfl|rfl
    ·exact o
    ·exact o
theorem nb(r:ar T0 B σ a w ad h){xs:List Operand}{t0:TypeId}{y:D}(A:o.op= .call cl)(Z:cl.callee= .value (.func f))(hd:o.dst=some d)
  (ha:cl.args.toList=x0::xs) (H:cl.argTypes.toList=t0::ts) {c:Nat} (hg:am (look P σ t0 x0)=true) (O:unc (look P σ t0 x0)= .one (.ac t j i c none)) (ho:σ.ob t j= .arr true Q M) (hi:i<M.length)
  (aB:(M.getD i [])[c]?=some (.sl n s)) (al:JD P σ xs ts aH) (au:Yz P σ xs ts=true) (hs:yS P f [.sl n s] aH [.sl n s'] y)
  {af:Exit->Act->World->Prop} (hK:∀a' w',zh T0 B ((σ.Yj t j (.arr true Q (M.set i (place (M.getD i []) c [.sl n s'])))).put d (.one (.d y))) a' w'->Xl B w w'->K a' w'):o.wp P a w K af:=by
 have ao:σ.ob t j≠ .none:=bv;have h0:=r.obj t j;rw[ho]at h0;obtain⟨e,vs,aw,hz,⟨hl,l,o1,V,o3⟩,hn⟩:=h0;have aA:M[i]?=some (M.getD i []):=fX;have aM:M.flatten[i*Q+c]?=some (.sl n s):=WB M Q hz i _ aA c _ aB;have ag:i*Q+c<vs.length:=by rw[hl];exact(List.getElem?_eq_some_iff.1 aM).1
 have m:vs[i*Q+c]?=some vs[i*Q+c]:=List.getElem?_eq_getElem ag;have ae:=hn _ _ _ m aM rfl;have ay:=r.arg (P:=P) t0 x0 O hg;have hv:a.eval x0=vs[i*Q+c]:=(ay.2 Q M ho).trans ae;have av:=o1 _ _ _ m aM;have C:∀b,l (i*Q+c) b->(h t j).u b:=fun b J=>(V _ b J).1;have g:=r.JD true al (fun _=>au);simp only[if_true]at g;unfold Oper.wp;rw[Tl A Z hs.1,Oper.upon_enter];rw[show(cl.args.toList.map a.eval).toArray=(vs[i*Q+c]::xs.map a.eval).toArray by rw[ha];simp[hv]];have hT:∀b k,ak T0 ad b k->b<w.heap.size/\¬l (i*Q+c) b:=by
  intro b k J;refine⟨r.Tlt J,fun N=>?_⟩;have:=r.own t j b ao (C b N)
  rcases J with J|J
  ·exact this.1 (r.f _ _ J)
  ·exact this.2.1 J
 refine(hs.2 (ak T0 ad) (l (i*Q+c)) w _ [vs[i*Q+c]] _ hT (fun b J=>(r.own t j b ao (C b J)).2.2) (.inl ⟨_,rfl,rfl,av.Qe⟩)
  ⟨rfl,fun k b=>k=0/\l (i*Q+c) b,fun k x dd O G=>by
   cases k with
   |zero=>simp at O G;subst O;subst G;exact av.mono (fun b J=>⟨rfl,J⟩)
   |succ k=>simp at O,fun k b J=>J.2,fun p q b hp hq=>by rw[hp.1,hq.1]⟩ g).mono ?_
 rintro e' w' ⟨u,rfl,F,ab,a1⟩;rw[hd];obtain⟨_,aa,q1,q2,q3⟩:=a1;have L:=(q1 0 _ _ rfl rfl).mono (q2 0)
 have aI:Xl B w w':=⟨ab.os,ab.tape,ab.output,ab.size,fun b J=>ab.block b ⟨r.d b J,fun N=>(r.own t j b ao (C b N)).1 J⟩⟩;have aK:c+1<=Q:=by have I:=(List.getElem?_eq_some_iff.1 aB).1;have X:=hz _ (List.mem_of_getElem? aA);omega
 have E:=qD Q c [D.sl n s'] (by simpa using aK) M i _ aA hz;have aC:i*Q+c+[D.sl n s'].length<=M.flatten.length:=by rw[<-hl];simp;omega
 have aV:(M.getD i []).length=Q:=hz _ (List.mem_of_getElem? aA);have ac:∀q∈M.set i (place (M.getD i []) c [.sl n s']),q.length=Q:=by
  intro q hq;rcases List.mem_or_eq_of_mem_set hq with hq|hq
  ·exact hz q hq
  ·rw[hq,QB _ _ _ (by rw[aV];simpa using aK),aV]
 have aS:∀b,blk (h t j).v=some b->w'.heap[b]?=w.heap[b]?:=fun b J=>ab.block b ⟨(r.bh ao J).2.2,fun N=>(V _ b N).2 J⟩;have ah:∀u v,¬(u=t/\v=j)->(σ.Yj t j (.arr true Q (M.set i (place (M.getD i []) c [.sl n s'])))).ob u v=σ.ob u v:=fun u v W=>by rw[U.Kg σ t j _ u v ao,if_neg W]
 have aq:(σ.Yj t j (.arr true Q (M.set i (place (M.getD i []) c [.sl n s'])))).ob t j= .arr true Q (M.set i (place (M.getD i []) c [.sl n s'])):=by rw[U.Kg σ t j _ t j ao];simp
 have R:=r.eV (w':=w') (σ.Yj t j (.arr true Q (M.set i (place (M.getD i []) c [.sl n s'])))) (U.Qs _ _ _ _) (fun u=>U.JI _ _ _ _ u) (fun u v=>u=t/\v=j) (fun u v hh=>by rw[hh.1,hh.2];exact ao) ah (fun u v hh=>by rw[hh.1,hh.2,aq,ho];simp[Ob.gz])
  ab.size (fun k hk aL=>ab.block k ⟨hk,fun N=>aL t j ⟨rfl,rfl⟩ (C k N)⟩)
  (fun u v=>if u=t/\v=j then⟨(h t j).v,(h t j).n,fun b=>(h t j).u b\/(w.heap.size<=b/\b<w'.heap.size)⟩else h u v) (fun u v hh=>by simp[hh]) (fun u v hh=>by simp[hh])
  (fun u v b hh J=>by
   simp only[hh,and_self,if_true]at J;rcases J with J|J
   ·exact .inl ⟨t,j,⟨rfl,rfl⟩,J⟩
   ·exact .inr J)
  (fun u v b hh J=>by simp only[hh,and_self,if_true]at J⊢;exact .inl (r.c t j b ao J))
  (fun u v u' v' b hh aF _ _=>⟨by rw[hh.1,aF.1],by rw[hh.2,aF.2]⟩)
  (fun _=>false) (U.kd σ) (fun u v hh=>.inr (by simp[hh]))
  (fun u v hh=>by
   obtain⟨rfl,rfl⟩:=hh;rw[aq];simp only[and_self,if_true];refine⟨e,vs,by rw[List.length_set];exact j8 aS aw,ac,⟨?_,fun k=>if k=i*Q+c then(fun b=>l (i*Q+c) b\/(w.heap.size<=b/\b<w'.heap.size))else l k,fun k x dd O G=>?_,fun k b J=>?_,fun p q b hp hq=>?_⟩,fun k x dd O G aG=>?_⟩
   ·rw[E,QB _ _ _ aC,hl]
   ·rw[E]at G;rcases Wf _ _ _ aC k dd G with⟨k1,k2,k3⟩|⟨k1,k3⟩
    ·have hk:k=i*Q+c:=by simp at k2;omega
     subst hk;rw[m]at O;cases O;simp at k3;subst k3;simp only[if_true];exact L
    ·have hk:¬k=i*Q+c:=fun hk=>k1 ⟨Y,by simp;omega⟩;simp only[hk,if_false];refine(o1 k x dd O k3).Gi (fun b J=>ab.block b ⟨(r.own u v b ao (V k b J).1).2.2,fun N=>hk (o3 k _ b J N)⟩)
   ·by_cases hk:k=i*Q+c
    ·simp only[hk,if_true]at J;rcases J with J|J
     ·exact⟨.inl (V _ b J).1,(V _ b J).2⟩
     ·exact⟨.inr J,fun hh=>by have:=(r.bh ao hh).2.2;omega⟩
    ·simp only[hk,if_false]at J;exact⟨.inl (V k b J).1,(V k b J).2⟩
   ·by_cases az:p=i*Q+c
    ·by_cases z:q=i*Q+c
     ·rw[az,z]
     ·simp only[az,if_true]at hp;simp only[z,if_false]at hq;rcases hp with hp|hp
      ·rw[az];exact(o3 _ _ b hp hq)
      ·have:=(r.own u v b ao (V q b hq).1).2.2;omega
    ·simp only[az,if_false]at hp;by_cases z:q=i*Q+c
     ·simp only[z,if_true]at hq;rcases hq with hq|hq
      ·rw[z];exact(o3 _ _ b hp hq)
      ·have:=(r.own u v b ao (V p b hp).1).2.2;omega
     ·simp only[z,if_false]at hq;exact o3 p q b hp hq
   ·rw[E]at G;rcases Wf _ _ _ aC k dd G with⟨k1,k2,k3⟩|⟨k1,k3⟩
    ·have hk:k=i*Q+c:=by simp at k2;omega
     subst hk;rw[m]at O;cases O;exact ae
    ·exact hn k x dd O k3 aG)
 refine hK _ _ ⟨ad,_,R.put d (.one (.d y)) u ?_⟩ aI;exact Rd.mono (fun _ _ _ hh=>hh.elim) F
def U.TV:U->List At->List D->U
 |σ,.O t j _ _::xs,.sl Q M::ds=>U.TV (σ.Yj t j (.arr true Q M)) xs ds
 |σ,_::xs,_::ds=>U.TV σ xs ds
 |σ,_,_=>σ
def kT:List D->List D->Prop
 |.sl s r::ds,.sl s' r'::g=>s=s'/\r.length=r'.length/\kT ds g
 |.sl _ _::_,_=>False
 |_::ds,_::g=>kT ds g
 |[],[]=>True
 |_,_=>False
def Ma(σ:U):List At->Prop
 |[]=>True
 |.O t j _ _::xs=>(match σ.ob t j with|.arr true _ _=>True|_=>False)/\Ma σ xs
 |_::xs=>Ma σ xs
def At.Er:At->Bool
 |.ac _ _ _ _ _=>true
 |_=>false
theorem UG:∀{ds g:List D},kT ds g->ds.length=g.length/\∀(k s:Nat)(r:List (List D)),ds[k]?=some (D.sl s r)->∃r':List (List D),g[k]?=some (D.sl s r')/\r.length=r'.length
 |[],[],_=>⟨rfl,fun k s r h=>by simp at h⟩
 |[],_::_,h=>by simp[kT]at h
 |.sl s r::ds,[],h=>by simp[kT]at h
 |.int _ _::ds,[],h=>by simp[kT]at h
 |.bool _::ds,[],h=>by simp[kT]at h
 |.str _::ds,[],h=>by simp[kT]at h
 |.unk::ds,[],h=>by simp[kT]at h
 |.sl s r::ds,d'::g,h=>by
  cases d' with
  |sl s' r'=>
   obtain⟨rfl,X,h3⟩:=h;obtain⟨N,i2⟩:=UG h3;refine⟨by simp[N],fun k C r0 hk=>?_⟩;cases k with
   |zero=>simp at hk;obtain⟨rfl,rfl⟩:=hk;exact⟨r',ab,X⟩
   |succ k=>simpa using i2 k C r0 cc
  |int _ _=>exact h.elim
  |bool _=>exact h.elim
  |str _=>exact h.elim
  |unk=>exact h.elim
 |.int _ _::ds,d'::g,h=>by
  obtain⟨N,i2⟩:=UG (ds:=ds) (g:=g) h;refine⟨by simp[N],fun k C r0 hk=>?_⟩;cases k with
  |zero=>simp at hk
  |succ k=>simpa using i2 k C r0 cc
 |.bool _::ds,d'::g,h=>by
  obtain⟨N,i2⟩:=UG (ds:=ds) (g:=g) h;refine⟨by simp[N],fun k C r0 hk=>?_⟩;cases k with
  |zero=>simp at hk
  |succ k=>simpa using i2 k C r0 cc
 |.str _::ds,d'::g,h=>by
  obtain⟨N,i2⟩:=UG (ds:=ds) (g:=g) h;refine⟨by simp[N],fun k C r0 hk=>?_⟩;cases k with
  |zero=>simp at hk
  |succ k=>simpa using i2 k C r0 cc
 |.unk::ds,d'::g,h=>by
  obtain⟨N,i2⟩:=UG (ds:=ds) (g:=g) h;refine⟨by simp[N],fun k C r0 hk=>?_⟩;cases k with
  |zero=>simp at hk
  |succ k=>simpa using i2 k C r0 cc
theorem vm:∀{xs:List At},Ma σ xs->∀(k t j lo ae:Nat),xs[k]?=some (At.O t j lo ae)->∃Q M,σ.ob t j= .arr true Q M
 |[],_,k,t,j,lo,ae,hk=>by simp at hk
 |x::xs,h,0,t,j,lo,ae,hk=>by
  simp at hk;subst hk;have:=h.1
  split at this
  ·rename_i s r e;exact⟨s,r,e⟩
  ·exact this.elim
 |x::xs,h,k+1,t,j,lo,ae,hk=>by
  have h':Ma σ xs:=by cases x<;>first|exact h|exact h.2
  exact vm h' k t j lo ae cc
theorem Ni:∀{xs:List At}{t j:Nat},(t,j)∈Yp xs->∃(k lo ae:Nat),xs[k]?=some (At.O t j lo ae)
 |[],t,j,h=>aX
 |x::xs,t,j,h=>by
  cases x with
  |O t' j' lo ae=>
   simp only[Yp,List.mem_cons,Prod.mk.injEq]at h;rcases h with⟨rfl,rfl⟩|h
   ·exact⟨0,lo,ae,rfl⟩
   ·obtain⟨k,lo,ae,hk⟩:=Ni h;exact⟨k+1,lo,ae,by simpa using hk⟩
  |_=>obtain⟨k,lo,ae,hk⟩:=Ni (xs:=xs) h;exact⟨k+1,lo,ae,by simpa using hk⟩
theorem U.OJ:∀(xs:List At)(ds:List D)(σ:U),(σ.TV xs ds).length=σ.length
 |[],ds,σ=>by cases ds<;>rfl
 |x::xs,[],σ=>by cases x<;>rfl
 |x::xs,d::ds,σ=>by cases x<;>first|exact U.OJ xs ds σ|(cases d<;>first|exact U.OJ xs ds σ|(rw[U.TV,U.OJ xs ds,U.Qs]))
theorem U.FT:∀(xs:List At)(ds:List D)(σ:U)(t:Nat),(σ.TV xs ds).get t=σ.get t
 |[],ds,σ,t=>by cases ds<;>rfl
 |x::xs,[],σ,t=>by cases x<;>rfl
 |x::xs,d::ds,σ,t=>by cases x<;>first|exact U.FT xs ds σ t|(cases d<;>first|exact U.FT xs ds σ t|(rw[U.TV,U.FT xs ds,U.JI]))
theorem U.Aw:∀(xs:List At)(ds:List D)(σ:U),(Yp xs).Nodup->(∀p∈Yp xs,σ.ob p.1 p.2≠ .none)->
  (∀t j,(t,j)∉Yp xs->(σ.TV xs ds).ob t j=σ.ob t j)/\(∀(k t j lo ae Q:Nat)(M:List (List D)),xs[k]?=some (At.O t j lo ae)->ds[k]?=some (D.sl Q M)->(σ.TV xs ds).ob t j= .arr true Q M)
 |[],ds,σ,_,_=>⟨fun t j _=>by cases ds<;>rfl,fun k t j lo ae Q M h=>by simp at h⟩
 |x::xs,[],σ,_,_=>⟨fun t j _=>by cases x<;>rfl,fun k t j lo ae Q M _ h=>by simp at h⟩
 |x::xs,d::ds,σ,aE,W=>by
  have q:∀(O:Yp (x::xs)=Yp xs)(hm:σ.TV (x::xs) (d::ds)=σ.TV xs ds)(_:∀t j lo ae,x≠ .O t j lo ae),
    (∀t j,(t,j)∉Yp (x::xs)->(σ.TV (x::xs) (d::ds)).ob t j=σ.ob t j)/\(∀(k t j lo ae Q:Nat)(M:List (List D)),(x::xs)[k]?=some (At.O t j lo ae)->(d::ds)[k]?=some (D.sl Q M)->(σ.TV (x::xs) (d::ds)).ob t j= .arr true Q M):=by
   intro O hm e;rw[O]at aE W;obtain⟨N,i2⟩:=U.Aw xs ds σ aE W;rw[O,hm];refine⟨N,fun k t j lo ae Q M hk m=>?_⟩;cases k with
   |zero=>simp at hk;exact absurd hk (e _ _ _ _)
   |succ k=>exact i2 k t j lo ae Q M cc (by simpa using m)
  cases x with
  |O t0 l G A=>
   simp only[Yp,List.nodup_cons]at aE;have h0:σ.ob t0 l≠ .none:=W (t0,l) (by simp[Yp])
   have C:∀(hm:σ.TV (.O t0 l G A::xs) (d::ds)=σ.TV xs ds)(_:∀s r,d≠ .sl s r),
     (∀t j,(t,j)∉Yp (.O t0 l G A::xs)->(σ.TV (.O t0 l G A::xs) (d::ds)).ob t j=σ.ob t j)/\(∀(k t j lo ae Q:Nat)(M:List (List D)),(At.O t0 l G A::xs)[k]?=some (At.O t j lo ae)->(d::ds)[k]?=some (D.sl Q M)->(σ.TV (.O t0 l G A::xs) (d::ds)).ob t j= .arr true Q M):=by
    intro hm e;obtain⟨N,i2⟩:=U.Aw xs ds σ aE.2 (fun p hp=>W p (by simp[Yp,hp]));rw[hm];refine⟨fun t j hn=>N t j (fun hh=>hn (by simp[Yp,hh])),fun k t j lo ae Q M hk m=>?_⟩;cases k with
    |zero=>simp at m;exact absurd m (e _ _)
    |succ k=>exact i2 k t j lo ae Q M cc (by simpa using m)
   cases d with
   |sl Q M=>
    have ah:∀t j,(σ.Yj t0 l (.arr true Q M)).ob t j=if t=t0/\j=l then .arr true Q M else σ.ob t j:=fun t j=>U.Kg σ t0 l _ t j h0;obtain⟨N,i2⟩:=U.Aw xs ds (σ.Yj t0 l (.arr true Q M)) aE.2 (fun p hp=>by
     rw[ah];split
     ·simp
     ·exact W p (by simp[Yp,hp]))
    refine⟨fun t j hn=>?_,fun k t j lo ae aN az hk m=>?_⟩
    ·simp only[Yp,List.mem_cons,Prod.mk.injEq,not_or]at hn;rw[U.TV,N t j hn.2,ah,if_neg hn.1]
    ·rw[U.TV];cases k with
     |zero=>simp at hk m;obtain⟨rfl,rfl,_,_⟩:=hk;obtain⟨rfl,rfl⟩:=m;rw[N _ _ aE.1,ah];simp
     |succ k=>exact i2 k t j lo ae aN az cc (by simpa using m)
   |int _ _=>exact C rfl (fun _ _ h=>by cases h)
   |bool _=>exact C rfl (fun _ _ h=>by cases h)
   |str _=>exact C rfl (fun _ _ h=>by cases h)
   |unk=>exact C rfl (fun _ _ h=>by cases h)
  |any=>exact q rfl rfl (fun _ _ _ _ h=>by cases h)
  |d _=>exact q rfl rfl (fun _ _ _ _ h=>by cases h)
  |nil _=>exact q rfl rfl (fun _ _ _ _ h=>by cases h)
  |ptr _ _ _ _=>exact q rfl rfl (fun _ _ _ _ h=>by cases h)
  |Z _ _=>exact q rfl rfl (fun _ _ _ _ h=>by cases h)
  |fn _ _=>exact q rfl rfl (fun _ _ _ _ h=>by cases h)
  |am _ _=>exact q rfl rfl (fun _ _ _ _ h=>by cases h)
  |ac _ _ _ _ _=>exact q rfl rfl (fun _ _ _ _ h=>by cases h)
theorem rr(r:ar T0 B σ a w ad h){xs:List Operand}{t0:TypeId}{ac:List D}{y:D}(A:o.op= .call cl)(Z:cl.callee= .value (.func f))(hd:o.dst=some d)
  (ha:cl.args.toList=x0::xs) (hg:am (look P σ t0 x0)=true) (O:unc (look P σ t0 x0)=a2 aK) (Y:JA σ aK=some ac) (c:Ma σ aK) (aE:(Yp aK).Nodup) (n:σ.zX At.Er=false)
  (al:JD P σ xs ts aH) (au:Yz P σ xs ts=true) (hs:yS P f ac aH aB y) (s:kT ac aB)
  {af:Exit->Act->World->Prop} (hK:∀a' w',zh T0 B ((σ.TV aK aB).put d (.one (.d y))) a' w'->Xl B w w'->K a' w'):o.wp P a w K af:=by
 obtain⟨C,aT,aa⟩:=mj (r.arg (P:=P) t0 x0 O hg);have ap:QO σ aK:=by
  clear O Y aE aa hK;induction aK with
  |nil=>trivial
  |cons x aK ih=>
   cases x with
   |O t j lo ae=>
    refine⟨?_,ih c.2⟩;have:=c.1
    simp only[B9];split at this
    ·rename_i e;rw[e];trivial
    ·exact this.elim
   |_=>exact⟨trivial,ih c⟩
 have av:=PG r aa Y ap aE;obtain⟨aF,s⟩:=UG s;obtain⟨aC,Y⟩:=TT Y;have g:=r.JD true al (fun _=>au);simp only[if_true]at g;have aR:=r.zZ (Yp aK);unfold Oper.wp;rw[Tl A Z hs.1,Oper.upon_enter];rw[show(cl.args.toList.map a.eval).toArray=(a.eval x0::xs.map a.eval).toArray by rw[ha];rfl];have hT:∀b k,ak T0 ad b k->b<w.heap.size/\¬zO σ h (Yp aK) b:=by
  intro b k J;refine⟨r.Tlt J,fun N=>?_⟩;have:=aR b N
  rcases J with J|J
  ·exact this.1 (r.f _ _ J)
  ·exact this.2.1 J
 refine(hs.2 (ak T0 ad) (zO σ h (Yp aK)) w _ C _ hT (fun b J=>(aR b J).2.2.1) aT av g).mono ?_;rintro e' w' ⟨u,rfl,F,ab,a1⟩;rw[hd];have aI:Xl B w w':=⟨ab.os,ab.tape,ab.output,ab.size,fun b J=>ab.block b ⟨r.d b J,fun N=>(aR b N).1 J⟩⟩
 obtain⟨hf,l,k1,k2,k3,k4⟩:=As a1;have L:∀t j,(t,j)∈Yp aK->∃(k Q:Nat)(M az:List (List D)),aK[k]?=some (At.O t j 0 M.length)/\σ.ob t j= .arr true Q M/\aB[k]?=some (D.sl Q az)/\M.length=az.length/\C[k]?=some (h t j).v:=by
  intro t j hm;obtain⟨k,lo,ae,hk⟩:=Ni hm;obtain⟨Q,M,ho⟩:=vm c k t j lo ae hk;have ag:k<ac.length:=by rw[<-aC];exact(List.getElem?_eq_some_iff.1 hk).1
  have m:=Y k _ _ hk (List.getElem?_eq_getElem ag);simp only[a6,ho]at m;split at m
  ·rename_i an;obtain⟨rfl,rfl⟩:=an;have aA:ac[k]?=some (.sl Q M):=by rw[List.getElem?_eq_getElem ag];exact m.symm▸rfl
   obtain⟨az,ax,aq⟩:=s k Q M aA;obtain⟨v,hv,ay⟩:=aa.get k _ hk;obtain⟨_,aG,_⟩:=ay.2.1 true Q M ho;exact⟨k,Q,M,az,hk,ho,ax,aq,by rw[hv,aG rfl rfl]⟩
  ·cases m
 have W:∀p∈Yp aK,σ.ob p.1 p.2≠ .none:=by intro p hp;obtain⟨k,Q,M,az,_,ho,_⟩:=L p.1 p.2 hp;rw[ho];simp
 obtain⟨q,m2⟩:=U.Aw aK aB σ aE W;have I:∀p:Nat×Nat,∃hd:Hd,(p∉Yp aK->hd=h p.1 p.2)/\(p∈Yp aK->∃k lo ae:Nat,aK[k]?=some (At.O p.1 p.2 lo ae)/\hd=hf k):=by
  intro p;by_cases hp:p∈Yp aK
  ·obtain⟨k,lo,ae,hk⟩:=Ni (t:=p.1) (j:=p.2) hp;exact⟨hf k,fun hh=>absurd hp hh,fun _=>⟨k,lo,ae,hk,rfl⟩⟩
  ·exact⟨h p.1 p.2,fun _=>rfl,fun hh=>absurd hh hp⟩
 obtain⟨hh,z⟩:=Classical.axiomOfChoice I;have ao:∀t j,(t,j)∈Yp aK->∃(k Q:Nat)(M az:List (List D)),aK[k]?=some (At.O t j 0 M.length)/\σ.ob t j= .arr true Q M/\aB[k]?=some (D.sl Q az)/\M.length=az.length/\C[k]?=some (h t j).v/\hh (t,j)=hf k/\(σ.TV aK aB).ob t j= .arr true Q az:=by
  intro t j hm;obtain⟨k,Q,M,az,E,G,V,a4,a5⟩:=L t j hm;obtain⟨k',lo,ae,b1,b2⟩:=(z (t,j)).2 hm;have:k=k':=Iu aK k k' t j 0 M.length lo ae aE E b1
  subst this;exact⟨k,Q,M,az,E,G,V,a4,a5,b2,m2 k t j 0 M.length Q az E V⟩
 have R:=r.eV (w':=w') (σ.TV aK aB) (U.OJ _ _ _) (fun t=>U.FT _ _ _ t) (fun t j=>(t,j)∈Yp aK) (fun t j hm=>W (t,j) hm) (fun t j hm=>q t j hm)
  (fun t j hm=>by obtain⟨k,Q,M,az,_,G,_,a4,_,_,T⟩:=ao t j hm;rw[G,T];exact⟨rfl,rfl,a4⟩)
  ab.size (fun k hk aL=>ab.block k ⟨hk,fun⟨p,hp,_,ai⟩=>aL p.1 p.2 hp ai⟩) (fun t j=>hh (t,j)) (fun t j hm=>(z (t,j)).1 hm)
  (fun t j hm=>by obtain⟨k,Q,M,az,_,_,_,_,a5,i,_⟩:=ao t j hm;rw[i];exact k1 k _ a5)
  (fun t j b hm J=>by
   obtain⟨k,Q,M,az,_,_,V,_,_,i,_⟩:=ao t j hm;rw[i]at J;rcases k2 k b ((k4 k Q az V).1 b J)with⟨p,hp,_,ai⟩|J
   ·exact .inl ⟨p.1,p.2,hp,ai⟩
   ·exact .inr J)
  (fun t j b hm J=>by
   obtain⟨k,Q,M,az,_,_,V,_,_,i,_⟩:=ao t j hm;rw[i]at J⊢;exact(k4 k Q az V).2.1 b J)
  (fun t j t' j' b hm S J aj=>by
   obtain⟨k,Q,M,az,E,_,V,_,_,i,_⟩:=ao t j hm;obtain⟨k',aN,ah,X,c1,_,c3,_,_,c6,_⟩:=ao t' j' S;rw[i]at J;rw[c6]at aj;have:=k3 k k' b ((k4 k Q az V).1 b J) ((k4 k' aN X c3).1 b aj)
   subst this;rw[E]at c1;injection c1 with c1;injection c1 with H e2;exact⟨H,e2⟩)
  At.Er n (fun t j _=>.inl (fun _ _ _=>rfl))
  (fun t j hm=>by
   obtain⟨k,Q,M,az,_,_,V,_,_,i,T⟩:=ao t j hm;rw[T,i];exact(k4 k Q az V).2.2 _ _ _)
 refine hK _ _ ⟨ad,_,R.put d (.one (.d y)) u ?_⟩ aI;exact Rd.mono (fun _ _ _ hh=>hh.elim) F
theorem HM(W:d≠d')(h:Qg σ d=true):Qg (σ.put d' v) d=true:=by unfold Qg at*;simp only[On,if_neg W];exact h
theorem Mq:∀(xs:List At)(ds:List D)(σ:U){d:Nat},Qg σ d=true->Qg (σ.TV xs ds) d=true
 |[],ds,σ,d,h=>by cases ds<;>exact h
 |x::xs,[],σ,d,h=>by cases x<;>exact h
 |x::xs,e::ds,σ,d,h=>by cases x<;>first|exact Mq xs ds σ h|(cases e<;>first|exact Mq xs ds σ h|(rw[U.TV];exact Mq xs ds _ (Jf h)))
theorem pm{xs:List Operand}{t0:TypeId}{y:D}{c:Nat}(A:o.op= .call cl)(Z:cl.callee= .value (.func f))(q:o.guard=none)(hd:o.dst=some d)(g:ah o=true)
  (ha:cl.args.toList=x0::xs) (aw:cl.argTypes.toList=t0::ts) (hg:am (look P σ t0 x0)=true) (O:unc (look P σ t0 x0)= .one (.ac t j i c none)) (ho:σ.ob t j= .arr true Q M) (hi:i<M.length)
  (aB:(rowAt M i)[c]?=some (.sl n s)) (al:JD P σ xs ts aH) (au:Yz P σ xs ts=true) (hs:yS P f [.sl n s] aH [.sl n s'] y) (v:qf P o=false)
  (h:Ev P N ah ap ((σ.Yj t j (.arr true Q (M.set i (place (rowAt M i) c [.sl n s'])))).put d (.one (.d y))) af):kU P N ah o ap σ af:=by
 refine⟨_,.inr ⟨g,?_,fun d' m R=>HM (fun e=>m cy) (Jf R),fun hh=>by simp[NS,A]at hh,fun hh=>by first|(simp[SO,A]at hh;done)|(unfold SO at hh;rw[A]at hh;split at hh<;>simp_all),fun hh _=>by rw[v]at hh;cases hh⟩,J7 h⟩;rintro T0 B a w K F ⟨ad,hh,r⟩ hK;have hw:Region.wanted o (yielded N a.tmps)=true:=dN
 rw[if_pos hw];exact nb r A Z hd ha aw hg O ho hi aB al au hs hK
theorem Tk{xs:List Operand}{t0:TypeId}{ac:List D}{y:D}(A:o.op= .call cl)(Z:cl.callee= .value (.func f))(q:o.guard=none)(hd:o.dst=some d)(g:ah o=true)
  (ha:cl.args.toList=x0::xs) (hg:am (look P σ t0 x0)=true) (O:unc (look P σ t0 x0)=a2 aK) (Y:JA σ aK=some ac) (c:Ma σ aK) (aE:(Yp aK).Nodup) (n:σ.zX At.Er=false)
  (al:JD P σ xs ts aH) (au:Yz P σ xs ts=true) (hs:yS P f ac aH aB y) (s:kT ac aB) (v:qf P o=false)
  (h:Ev P N ah ap ((σ.TV aK aB).put d (.one (.d y))) af):kU P N ah o ap σ af:=by
 refine⟨_,.inr ⟨g,?_,fun d' m R=>HM (fun e=>m cy) (Mq _ _ _ R),fun hh=>by simp[NS,A]at hh,fun hh=>by first|(simp[SO,A]at hh;done)|(unfold SO at hh;rw[A]at hh;split at hh<;>simp_all),fun hh _=>by rw[v]at hh;cases hh⟩,J7 h⟩;rintro T0 B a w K F ⟨ad,hh,r⟩ hK;have hw:Region.wanted o (yielded N a.tmps)=true:=dN
 rw[if_pos hw];exact rr r A Z hd ha hg O Y c aE n al au hs s hK
end Go.Vm
