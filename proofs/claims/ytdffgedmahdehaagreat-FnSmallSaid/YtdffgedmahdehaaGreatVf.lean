/- An abstract machine Uw the model of Go, by value, and that it is sound: part Vf. No condition. -/
import Derived.Test.YtdffgedmahdehaaGreatVb
set_option linter.unusedVariables false
set_option linter.unusedSimpArgs false
namespace Go.Vm
open Go.RowKit
variable{P:Program}{σ σ':St}{ops:Array Oper}{bar:Oper->Bool}{o:Oper}{d size j n id t d' i dj vT:Nat}{rows res args news wD:List (List D)}{Q:St->Prop}{l L l1 l2:List (Nat×Nat)}{x y:Operand}{K:Act->World->Prop}{v:V}{f:FuncId}{ds:List D}{h:Nat->Nat->Hd}{parts:Array (Nat×Operand)}{c:Code}{B S X' X:Nat->Prop}{T T0:CS}{a:Act}{Q':Exit->St->Prop}{w' w:World}{want q g b:Bool}{s:ByteArray}{r:ResultVar}{val:Value}
def PM(P:Program)(σ:St)(c:Call)(f:FuncId)(own:Bool)(res:List (List D)):Prop:=
 ∃rows,Yq P σ c.args.toList c.argTypes.toList rows/\Y0 P f own rows res/\(Zl P σ c.args.toList c.argTypes.toList=true\/X4 own res)
def Step(P:Program)(o:Oper)(d:Nat)(σ σ':St):Prop:=
 match o.op with
 |.alloc T=>σ.fresh d=true/\YR P T=true/\∃row,zk P 12 T=some row/\σ'=σ.new d (.one (.bptr d 0)) [.box row]
 |.box T x=>σ.fresh d=true/\gOf (look P σ T x)=true/\(unc (look P σ T x)).flat=true/\Zd d (unc (look P σ T x)).cells=false/\σ'=σ.new d (.one (.bptr d 0)) [.box (unc (look P σ T x)).cells]
 |.buildSlice T n parts=>(σ.fresh d=true/\Zy P T=true/\YR P (ZD P T)=true/\0<P.cellsOf (ZD P T)/\parts.toList.length=n/\n*P.cellsOf (ZD P T)<=16777216/\
   ((∃rows,WL P σ (ZD P T) (P.cellsOf (ZD P T)) parts.toList 0 rows/\σ'=σ.new d (.one (.sref d 0 0 rows.length)) [.arr false (P.cellsOf (ZD P T)) rows])\/
   (∃rows,Wq P σ (ZD P T) (P.cellsOf (ZD P T)) parts.toList 0 rows/\Zd d rows.flatten=false/\σ'=σ.new d (.one (.sref d 0 0 rows.length)) [.lit (P.cellsOf (ZD P T)) rows])))\/
   ((Zy P T=true/\YR P (ZD P T)=true/\0<P.cellsOf (ZD P T)/\parts.toList.length=n/\n*P.cellsOf (ZD P T)<=16777216)/\∃rows,WL P σ (ZD P T) (P.cellsOf (ZD P T)) parts.toList 0 rows/\σ'=σ.put d (.one (.d (.sl (P.cellsOf (ZD P T)) rows))))
 |.makeSlice T x y=>x=y/\σ.fresh d=true/\Zy P T=true/\YR P (ZD P T)=true/\0<P.cellsOf (ZD P T)/\
   ∃q z zr k n,(q=true->Sb z=true)/\zk P 12 (ZD P T)=some z/\zD z=some zr/\yo P σ x k (n:Nat)/\P.bytesOf (ZD P T)*n<=281474976710656/\n<=9223372036854775807/\σ'=σ.new d (.one (.sref d 0 0 n)) [.arr q (P.cellsOf (ZD P T)) (List.replicate n zr)]
 |.call c=>
  (match c.callee with
  |.builtin .append=>∃x y t,c.args=#[x,y]/\c.argTypes=#[t,t]/\gOf (look P σ t x)=true/\gOf (look P σ t y)=true/\Zy P t=true/\YR P (ZD P t)=true/\0<P.cellsOf (ZD P t)/\
    ∃wD news σ1,qB σ (unc (look P σ t x)) (P.cellsOf (ZD P t)) wD σ1/\zY σ (unc (look P σ t y)) (P.cellsOf (ZD P t)) news/\σ1.fresh d=true/\
     (wD.length+news.length)*P.bytesOf (ZD P t)<=140737488355328/\wD.length+news.length<=9223372036854775807/\σ'=σ1.new d (.one (.sref d 0 0 (wD.length+news.length))) [.arr false (P.cellsOf (ZD P t)) (wD++news)]
  |.value (.func f)=>(∃own res,PM P σ c f own res/\σ'=σ.put d (Ki res))\/(∃res,PM P σ c f true res/\σ.fresh d=true/\σ'=σ.new d (Kp d res) (JV res.flatten))\/
    (∃rows res qs,Yq P σ c.args.toList c.argTypes.toList rows/\Zp P f rows res/\zC qs res.flatten/\σ.fresh d=true/\σ'=σ.new d (Kp d res) (Zr qs res.flatten))
  |_=>∃v,Zj P σ o.op o.type v/\σ'=σ.put d v)
 |.convert S T x=>
   (∃v,Zj P σ o.op o.type v/\σ'=σ.put d v)\/
   (∃l,gOf (look P σ S x)=true/\WX P S=true/\qF P T=true/\zY σ (unc (look P σ S x)) 1 (QG l)/\σ'=σ.put d (.one (.d (.str ⟨l.toArray⟩))))\/
   (∃s,gOf (look P σ S x)=true/\qF P S=true/\WX P T=true/\unc (look P σ S x)= .one (.d (.str s))/\s.size<=9223372036854775807/\σ'=σ.put d (.one (.d (.sl 1 (QG s.data.toList)))))
 |_=>∃v,Zj P σ o.op o.type v/\σ'=σ.put d v
def Jh(P:Program)(σ:St)(T:TypeId)(x y:Operand)(σ':St):Prop:=
 Kk P T=true/\gOf (look P σ 0 x)=true/\gOf (look P σ T y)=true/\(unc (look P σ T y)).flat=true/\
  (match unc (look P σ 0 x)with
  |.one (.bptr t c)=>∃cells,σ.ob t 0= .box cells/\(unc (look P σ T y)).cells.length=P.cellsOf T/\c+P.cellsOf T<=cells.length/\σ'=σ.ZT t 0 (.box (place cells c (unc (look P σ T y)).cells))
  |.one (.ptr t j i c)=>∃q size rows ds,σ.ob t j= .arr q size rows/\i<rows.length/\rowOf σ (unc (look P σ T y)).cells=some ds/\X9 (unc (look P σ T y)).cells=true/\ds.length=P.cellsOf T/\c+P.cellsOf T<=size/\
    (q=true->ds.all D.scalar=true/\(cut (rows.getD i []) c (P.cellsOf T)).all D.scalar=true)/\σ'=σ.ZT t j (.arr q size (rows.set i (place (rows.getD i []) c ds)))
  |_=>False)
def zE(want:Bool):V->Option Bool
 |.one (.d (.bool b))=>some (b==want)
 |.cnd g (.one (.d (.bool b)))=>some (g&&(b==want))
 |.cnd false _=>some false
 |_=>none
def VK(P:Program)(o:Oper)(σ:St)(v:V):Prop:=
 match o.op with
 |.call c=>
  (match c.callee with
  |.value (.func f)=>∃own res,PM P σ c f own [res]/\v=Ki [res]
  |_=>∃v0,Zj P σ o.op o.type v0/\gOf v0=true/\v=unc v0/\v.flat=true)
 |_=>∃v0,Zj P σ o.op o.type v0/\gOf v0=true/\v=unc v0/\v.flat=true
def Z1(P:Program)(ops:Array Oper)(o:Oper)(σ σ':St):Prop:=
 match o.guard with
 |none=>
  (match o.dst with
  |some d=>Step P o d σ σ'
  |none=>(match o.op with|.store T x y=>Jh P σ T x y σ'|_=>False))
 |some (j,want)=>∃dj d g v,(ops[j]?).bind (·.dst)=some dj/\dj<σ.length/\o.dst=some d/\zE want (σ.get dj)=some g/\(g=true->VK P o σ v)/\σ'=σ.put d (.cnd g v)
def qv(P:Program)(ops:Array Oper)(o:Oper)(σ σ':St):Prop:=
 ∀(T0:CS)(B:Nat->Prop)(a:Act)(w:World)(K:Act->World->Prop)(Q:Exit->Act->World->Prop),Xx T0 B σ a w->(∀a' w',Xx T0 B σ' a' w'->YL B w w'->K a' w')->
  if Region.wanted o (yielded ops a.tmps)then o.wp P a w K Q else K (a.put o.dst undef) w
def YG(σ:St)(d:Nat):Bool:=match σ[d]? with|some (.any,[])=>true|some (.one (.d _),[])=>true|_=>false
def kp(o:Oper)(σ σ':St):Prop:=∀d,o.dst≠some d->YG σ d=true->YG σ' d=true
def xM(o:Oper):Bool:=match o.op with|.store _ _ _=>true|_=>false
def JH(d:Nat):Operand->Bool
 |.tmp t=>t==d
 |_=>false
def yG(o:Oper)(d:Nat):Bool:=match o.op with|.store _ p q=>!JH d p&&!JH d q|_=>false
def VY:V->Bool
 |.any=>true
 |.one (.d _)=>true
 |_=>false
def St.XK:St->List (Nat×V)->St
 |σ,[]=>σ
 |σ,p::l=>St.XK (σ.put p.1 p.2) l
def Gk(P:Program)(ops:Array Oper)(o:Oper)(σ σ':St):Prop:=
 (σ'.length=σ.length/\∀u,σ'.get u=σ.get u)/\(∀l:List (Nat×V),(∀p∈l,yG o p.1=true/\VY p.2=true)->qv P ops o (σ.XK l) (σ'.XK l)/\kp o (σ.XK l) (σ'.XK l))/\∀t cells,σ.ob t 0= .box cells->σ'.ob t 0= .box cells
def z6(o:Oper):Bool:=match o.op with|.call ⟨.builtin .append,_,_⟩=>true|_=>false
theorem Rn(h:xM o=true):z6 o=false:=by
 unfold xM at h;split at h
 ·rename_i wA;simp[z6,wA]
 ·cases h
def Ws(o:Oper)(d:Nat):Bool:=!(o.op.operands.toList.any (JH d))
def H4(P:Program)(ops:Array Oper)(o:Oper)(σ σ':St):Prop:=
 ∃d,o.dst=some d/\σ'.length=σ.length/\(∀t,t≠d->σ'.get t=σ.get t/\(σ.get t).ref d=false)/\(∀t j cells,t≠d->σ'.ob t j= .box cells->σ.ob t j= .box cells/\Zd d cells=false)/\
  (∀t j q s rows,t≠d->σ'.ob t j= .arr q s rows->∃wQ,σ.ob t j= .arr q s wQ)/\
  ∀l:List (Nat×V),(∀p∈l,p.1≠d/\Ws o p.1=true/\p.2.ref d=false)->qv P ops o (σ.XK l) (σ'.XK l)/\kp o (σ.XK l) (σ'.XK l)
def Gx(P:Program)(t:TypeId):Bool:=match P.underlying t with|some (.pointer _)=>true|_=>false
def jA(bar:Oper->Bool)(o:Oper):Bool:=!bar {o with dst:=some 1000000007}
def H9(bar:Oper->Bool)(o:Oper):Bool:=(match o.dst with|some d=>bar {o with dst:=some (d+2000000)}|none=>false)&&jA bar o
def QJ(P:Program)(o:Oper):Bool:=match o.op with|.call ⟨.value (.func _),_,⟨T::_⟩⟩=>Gx P T|_=>false
def Qy(t d:Nat)(cs:List At)(v:V):Option (List Ob)->St->St
 |none,σ=>(σ.ZT t 0 (.box cs)).put d v
 |some os,σ=>(σ.ZT t 0 (.box cs)).new d v os
def H6(P:Program)(ops:Array Oper)(o:Oper)(σ σ':St):Prop:=
 ∃d t cells cs v os,o.dst=some d/\σ.ob t 0= .box cells/\(∃z r,(∃f ts,o.op= .call ⟨.value (.func f),⟨z::r⟩,ts⟩)/\∃ty,unc (look P σ ty z)= .one (.bptr t 0))/\(∀u,Zd u cells=false/\Zd u cs=false)/\
  (∀u,(os=none\/u≠d)->v.ref u=false/\∀l,os=some l->Zu u l=false)/\(os≠none->(σ.ZT t 0 (.box cs)).fresh d=true)/\σ'=Qy t d cs v os σ/\
  ∀σ2:St,σ.length=σ2.length->(∀z∈o.op.operands.toList,∀ty,look P σ ty z=look P σ2 ty z)->(∀z∈o.op.operands.toList,∀ty u,(look P σ ty z).ref u=true->∀j,σ.ob u j≠ .none->σ2.ob u j=σ.ob u j)->(os≠none->(σ2.ZT t 0 (.box cs)).fresh d=true)->
   qv P ops o σ2 (Qy t d cs v os σ2)/\kp o σ2 (Qy t d cs v os σ2)
theorem Pe(h:xM o=true):QJ P o=false:=by
 unfold xM at h;split at h
 ·rename_i wA;simp[QJ,wA]
 ·cases h
theorem LW(h:z6 o=true):QJ P o=false:=by
 unfold z6 at h;split at h
 ·rename_i wA;simp[QJ,wA]
 ·cases h
def Oh(bar:Oper->Bool)(o:Oper):Bool:=bar {o with dst:=some 1000000009}
def Gz(σ σ':St):Prop:=∀u,σ'.get u=σ.get u\/σ'.get u= .any
def X1(P:Program)(ops:Array Oper)(bar:Oper->Bool)(o:Oper)(σ σ':St):Prop:=Z1 P ops o σ σ'\/(bar o=true/\qv P ops o σ σ'/\kp o σ σ'/\(xM o=true->Gk P ops o σ σ'\/Oh bar o=true/\Gz σ σ')/\(z6 o=true->H4 P ops o σ σ')/\(QJ P o=true->jA bar o=true->H6 P ops o σ σ'))
def RV(P:Program)(ops:Array Oper)(bar:Oper->Bool):List Oper->St->(St->Prop)->Prop
 |[],σ,Q=>Q σ
 |o::rest,σ,Q=>∃σ',X1 P ops bar o σ σ'/\RV P ops bar rest σ' Q
theorem kq(d:Nat):∀(n:Nat)(t:TypeId)(row:List At),zk P n t=some row->Zd d row=false:=by
 intro n;induction n with
 |zero=>intro t row hr;simp[zk]at hr
 |succ n ih=>
  intro t row hr;have nG:∀(rs:List (List At)),(∀r∈rs,Zd d r=false)->Zd d rs.flatten=false:=by
   intro rs uO;have app:∀(xs ys:List At),Zd d xs=false->Zd d ys=false->Zd d (xs++ys)=false:=by
    intro xs ys hx hy;induction xs with
    |nil=>exact hy
    |cons x xs ry=>simp only[List.cons_append,Zd,Bool.or_eq_false_iff]at hx⊢;exact⟨hx.1,ry hx.2⟩
   induction rs with
   |nil=>rfl
   |cons r rs ry=>rw[List.flatten_cons];exact app _ _ (uO r fM) (ry (fun r hr=>uO r ef))
  rw[zk]at hr;split at hr
  ·cases hr;rfl
  ·cases hr;rfl
  ·cases hr;rfl
  ·cases hr;rfl
  ·rename_i fs _;simp only[Option.map_eq_some_iff]at hr;obtain⟨rs,uO,rfl⟩:=hr;refine nG rs ?_;have:∀(l:List Field)(rs:List (List At)),l.mapM (fun f=>zk P n f.type)=some rs->∀r∈rs,Zd d r=false:=by
    intro l;induction l with
    |nil=>intro rs hh r hr;simp at hh;subst hh;cases hr
    |cons f l ry=>
     intro rs hh r hr;simp only[List.mapM_cons,Option.bind_eq_bind,Option.bind_eq_some_iff]at hh;obtain⟨r0,um,oO,pr,hh⟩:=hh;simp at hh;subst hh;rcases List.mem_cons.1 hr with rfl|hr
     ·exact ih f.type _ um
     ·exact ry oO pr r hr
   exact this fs.toList rs uO
  ·simp only[Option.map_eq_some_iff]at hr;obtain⟨r0,um,rfl⟩:=hr;exact nG _ (fun r hr=>by rw[List.eq_of_mem_replicate hr];exact ih _ _ um)
  ·cases hr
theorem jD(r:Rel T0 B σ a w X h)(hd:o.dst=some d)(hex:∃val,(execOp a.eval o).run P w= .ok (.value val) w/\Yu (Tof T0 X) h σ.ob w v val)
  {Q:Exit->Act->World->Prop} (hK:∀a' w',Xx T0 B (σ.put d v) a' w'->YL B w w'->K a' w'):o.wp P a w K Q:=by
 obtain⟨val,wU,hv⟩:=hex;unfold Oper.wp;rw[wU,Oper.upon_value,hd];exact hK _ _ ⟨X,h,r.put d v val hv⟩ (YL.refl _ _)
theorem O9(r:Rel T0 B σ a w X h)(hd:o.dst=some d)(hs:Step P o d σ σ'){Q:Exit->Act->World->Prop}
  (hK:∀a' w',Xx T0 B σ' a' w'->YL B w w'->K a' w'):o.wp P a w K Q:=by
 have vT:(∃v,Zj P σ o.op o.type v/\σ'=σ.put d v)->o.wp P a w K Q:=by rintro⟨v,hv,rfl⟩;exact jD r hd (V1 r hv) hK
 unfold Step at hs;split at hs
 ·rename_i T wA;obtain⟨hf,hz,row,wg,rfl⟩:=hs;exact P2 r wA hd hf hz wg (kq d _ _ _ wg) hK
 ·rename_i T x wA;obtain⟨hf,hg,vV,hr,rfl⟩:=hs;exact MO r wA hd hf hg vV hr hK
 ·rename_i T n parts wA;rcases hs with⟨hf,h1,h2,h3,h4,h5,⟨rows,h6,rfl⟩|⟨rows,h6,h7,rfl⟩⟩|⟨⟨h1,h2,h3,h4,h5⟩,rows,h6,rfl⟩
  ·exact VV r wA hd hf h1 h2 h3 h4 h5 h6 hK
  ·exact ql r wA hd hf h1 h2 h3 h4 h5 h6 h7 hK
  ·exact RO r wA hd h1 h2 h3 h4 h5 h6 hK
 ·rename_i T x y wA;obtain⟨rfl,hf,h1,h2,h3,q,z,zr,k,n,hq,h4,h5,h6,h7,h8,rfl⟩:=hs;cases q with
  |false=>exact Uj r wA hd hf h1 h2 h4 h5 h3 h6 h7 h8 hK
  |true=>exact U9 r wA hd hf h1 h2 h4 h5 (hq rfl) h3 h6 h7 h8 hK
 ·rename_i c wA;split at hs
  ·rename_i hc;obtain⟨x,y,t,ha,uz,h1,h2,h3,h4,h5,wD,news,σ1,h6,h7,h8,h9,pH,rfl⟩:=hs;refine PE r (t:=t) (x:=x) (y:=y) ?_ hd h1 h2 h3 h4 h5 h6 h7 h8 h9 pH hK;rw[wA];obtain⟨cc,ca,ct⟩:=c;simp only at hc ha uz;rw[hc,ha,uz]
  ·rename_i f hc;rcases hs with⟨own,res,⟨rows,ha,hs,w5⟩,rfl⟩|⟨res,⟨rows,ha,hs,w5⟩,hf,rfl⟩|⟨rows,res,qs,ha,hs,hq,hf,rfl⟩
   ·rcases w5 with w5|w5
    ·exact yJ r wA hc hd ha true (fun _=>w5) (fun hh=>by cases hh) hs hK
    ·exact yJ r wA hc hd ha false (fun hh=>by cases hh) (fun _=>w5) hs hK
   ·rcases w5 with w5|w5
    ·exact kJ r wA hc hd hf ha true (fun _=>w5) (fun hh=>by cases hh) hs hK
    ·exact kJ r wA hc hd hf ha false (fun hh=>by cases hh) (fun _=>w5) hs hK
   ·exact PW r qs wA hc hd hf ha hs hq hK
  ·exact vT hs
 ·rename_i S T x wA;rcases hs with hs|⟨l,h1,h2,h3,h4,rfl⟩|⟨s,h1,h2,h3,h4,h5,rfl⟩
  ·exact vT hs
  ·exact jD r hd (j0 r wA h1 h2 h3 h4) hK
  ·exact j3 r wA hd h1 h2 h3 h4 h5 hK
 ·exact vT hs
theorem RP(r:Rel T0 B σ a w X h){T:TypeId}(wA:o.op= .store T x y)(hd:o.dst=none)(hs:Jh P σ T x y σ'){Q:Exit->Act->World->Prop}
  (hK:∀a' w',Xx T0 B σ' a' w'->YL B w w'->K a' w'):o.wp P a w K Q:=by
 obtain⟨ht,tc,te,vV,hs⟩:=hs;split at hs
 ·rename_i t c hx;obtain⟨cells,ho,hl,hle,rfl⟩:=hs;exact Ux r wA hd ht tc te hx ho vV hl hle hK
 ·rename_i t j i c hx;obtain⟨q,size,rows,ds,ho,hi,sb,wY,hl,hle,hq,rfl⟩:=hs;refine TW r wA hd ht tc te hx ho hi vV sb wY hl hle (fun hh=>⟨fun d wL=>?_,fun k d hk wL=>?_⟩) hK
  ·exact List.all_eq_true.1 (hq hh).1 d wL
  ·refine List.all_eq_true.1 (hq hh).2 d (List.mem_of_getElem? (i:=k) ?_);simp only[cut,List.getElem?_take,if_pos hk,List.getElem?_drop];exact wL
 ·exact hs.elim
theorem V5{ob:Nat->Nat->Ob}(hf:(unc v).flat=true)(hv:Yu T h ob w (unc v) val):X0 T h ob w (unc v) val:=by
 cases hu:unc v with
 |one x=>rw[hu]at hv;exact hv
 |agg xs=>rw[hu]at hv;exact hv
 |any=>rw[hu]at hf;cases hf
 |tup xs=>rw[hu]at hf;cases hf
 |cnd g x=>rw[hu]at hf;cases hf
 |fix u x=>rw[hu]at hf;cases hf
theorem On(r:Rel T0 B σ a w X h)(sK:o.guard=some (j,want))(vk:(ops[j]?).bind (·.dst)=some dj)(wO:dj<σ.length)(hg:zE want (σ.get dj)=some g):
  Region.wanted o (yielded ops a.tmps)=g:=by
 have vK:dj<a.tmps.size:=by rw[r.size];exact wO
 have hv:=r.slot dj wO;have nH:a.tmps.getD dj undef=a.tmps[dj]:=by simp[vK]
 rw[nH]at hv;have hy:yielded ops a.tmps j=(match a.tmps[dj]with|.bool b=>some b|_=>none):=by unfold yielded;rw[vk];simp only[Option.bind_some,Array.getElem?_eq_getElem vK];cases a.tmps[dj]<;>rfl
 simp only[Region.wanted,sK,hy];unfold zE at hg;split at hg
 ·rename_i b nC;rw[nC]at hv;rw[K9 hv];cases hg;cases b<;>cases want<;>rfl
 ·rename_i g0 b nC;rw[nC]at hv;cases hg;cases g0 with
  |true=>rw[K9 (hv.1 rfl)];cases b<;>cases want<;>rfl
  |false=>rw[hv.2 rfl];simp[undef]
 ·rename_i nC;rw[nC]at hv;cases hg;rw[hv.2 rfl];simp[undef]
 ·cases hg
theorem Pw(r:Rel T0 B σ a w X h)(hs:Z1 P ops o σ σ'){Q:Exit->Act->World->Prop}
  (hK:∀a' w',Xx T0 B σ' a' w'->YL B w w'->K a' w'):if Region.wanted o (yielded ops a.tmps)then o.wp P a w K Q else K (a.put o.dst undef) w:=by
 unfold Z1 at hs;split at hs
 ·rename_i hg;have hw:Region.wanted o (yielded ops a.tmps)=true:=eR
  rw[if_pos hw];split at hs
  ·rename_i d hd;exact O9 r hd hs hK
  ·rename_i hd;split at hs
   ·rename_i T x y wA;exact RP r wA hd hs hK
   ·exact hs.elim
 ·rename_i j want hg;obtain⟨dj,d,g,v,vk,wO,hd,vz,hs,rfl⟩:=hs;rw[On r hg vk wO vz];cases g with
  |false=>simp only[Bool.false_eq_true,if_false];rw[hd];exact hK _ _ ⟨X,h,r.put d _ _ ⟨(fun hh=>by cases hh),fun _=>rfl⟩⟩ (YL.refl _ _)
  |true=>
   simp only[if_true];have wy:=hs rfl
   clear hs;have vT:(∃v0,Zj P σ o.op o.type v0/\gOf v0=true/\v=unc v0/\v.flat=true)->o.wp P a w K Q:=by rintro⟨v0,ra,ma,rfl,vV⟩;obtain⟨val,wU,hv⟩:=V1 r ra;refine jD (v:=.cnd true (unc v0)) r hd ⟨val,wU,⟨fun _=>V5 vV (hv.unc ma),fun hh=>by cases hh⟩⟩ hK
   unfold VK at wy;split at wy
   ·rename_i c wA;split at wy
    ·rename_i f hc;obtain⟨own,res,⟨rows,ha,hs,w5⟩,rfl⟩:=wy;have fin:∀a' w',Xx T0 B (σ.put d (Ki [res])) a' w'->YL B w w'->K a' w':=by
      rintro a' w' ⟨X',h',r'⟩ hb;refine hK a' w' ⟨X',h',?_⟩ hb;refine⟨by rw[r'.size,St.YY,St.YY],r'.defers,r'.hB,r'.hX,r'.hT,fun t ht=>?_,fun t j=>?_,fun t j b=>?_,fun t j b=>?_,fun t j t' j' b=>?_⟩
      ·rw[St.YY]at ht;have h0:=r'.slot t (by rw[St.YY];exact ht)
       rw[St.YV]at h0⊢;rw[St.Xm]at h0⊢;by_cases hh:t=d/\d<σ.length
       ·rw[if_pos hh]at h0⊢;refine⟨fun _=>?_,fun hh=>by cases hh⟩;have vV:(unc (vOf (res.map At.d))).flat=true:=by
         match res.map At.d with
         |[]=>rfl
         |[x]=>rfl
         |x::y::xs=>rfl
        have hu:unc (vOf (res.map At.d))=vOf (res.map At.d):=by
         match res.map At.d with
         |[]=>rfl
         |[x]=>rfl
         |x::y::xs=>rfl
        have:=V5 (v:=vOf (res.map At.d)) vV (by rw[hu];exact h0);rw[hu]at this;exact this
       ·rw[if_neg hh]at h0⊢;exact h0
      ·have:=r'.obj t j;rw[St.YV]at this⊢;exact this
      ·have:=r'.ub t j b;rw[St.YV]at this⊢;exact this
      ·have:=r'.own t j b;rw[St.YV]at this⊢;exact this
      ·have:=r'.inj t j t' j' b;rw[St.YV]at this⊢;exact this
     rcases w5 with w5|w5
     ·exact yJ r wA hc hd ha true (fun _=>w5) (fun hh=>by cases hh) hs fin
     ·exact yJ r wA hc hd ha false (fun hh=>by cases hh) (fun _=>w5) hs fin
    ·exact vT wy
   ·exact vT wy
theorem qf(hs:X1 P ops bar o σ σ'):qv P ops o σ σ':=by
 rcases hs with hs|hs
 ·rintro T0 B a w K Q ⟨X,h,r⟩ hK;exact Pw r hs hK
 ·exact hs.2.1
theorem Th{ops:Array Oper}{bar:Oper->Bool}:∀{l:List Oper}{σ:St}{a:Act}{w:World}{Q:St->Prop}{Q':Exit->Act->World->Prop},RV P ops bar l σ Q->Xx T0 B σ a w->
  (∀σ' a' w',Q σ'->Xx T0 B σ' a' w'->YL B w w'->Q' .normal a' w')->wpList P ops Q' l a w
 |[],σ,a,w,Q,Q',hr,vN,hK=>hK σ a w hr vN (YL.refl _ _)
 |o::l,σ,a,w,Q,Q',⟨σ',hs,hr⟩,vN,hK=>by refine wpList_step fun K im=>?_;exact qf hs _ _ _ _ _ _ vN (fun a' w' vN hb=>im _ _ (Th hr vN (fun σ2 a2 w2 hq sY wo=>hK σ2 a2 w2 hq sY (hb.trans wo))))
open Go.RowKit
variable{cs wm:List Value}
def AWP(P:Program)(c:Code)(Q:Exit->St->Prop)(σ:St):Prop:=
 ∀(T0:CS)(B:Nat->Prop)(a:Act)(w:World),Xx T0 B σ a w->c.wp P (fun e a' w'=>∃σ',Q e σ'/\Xx T0 B σ' a' w'/\YL B w w') a w
def Wk(σ σ':St):Prop:=∀(T0:CS)(B:Nat->Prop)(a:Act)(w:World),Xx T0 B σ a w->Xx T0 B σ' a w
def Ut(next:St->Prop)(Q:Exit->St->Prop):Exit->St->Prop
 |.normal,σ=>next σ
 |e,σ=>Q e σ
def qt(id:Nat)(Q:Exit->St->Prop):Exit->St->Prop
 |.exit pt,σ=>if pt=id then Q .normal σ else Q (.exit pt) σ
 |e,σ=>Q e σ
section
variable{Q:Exit->St->Prop}
theorem Wk.refl(σ:St):Wk σ σ:=fun _ _ _ _ h=>h
theorem Wk.trans{σ'':St}(h:Wk σ σ')(k:Wk σ' σ''):Wk σ σ'':=fun _ _ _ _ r=>k _ _ _ _ (h _ _ _ _ r)
theorem Ps(h:∀e σ,Q e σ->Q' e σ)(k:AWP P c Q σ):AWP P c Q' σ:=
 fun T0 B a w r=>wp_mono (k T0 B a w r) fun e _ _ ⟨σ',hq,hr⟩=>⟨σ',h e σ' hq,hr⟩
theorem L1(h:Q .normal σ):AWP P .skip Q σ:=fun _ B _ w r=>wp_skip ⟨σ,h,r,YL.refl B w⟩
theorem L3(h:Q (.exit id) σ):AWP P (.exit id) Q σ:=fun _ B _ w r=>wp_exit ⟨σ,h,r,YL.refl B w⟩
theorem IV(h:Q .ret σ):AWP P .ret Q σ:=fun _ B _ w r=>wp_ret ⟨σ,h,r,YL.refl B w⟩
theorem NV{l:List Oper}(h:RV P l.toArray bar l σ (Q .normal)):AWP P (.region id l.toArray false) Q σ:=
 fun _ _ _ _ r=>wp_region_lit (Th h r fun σ' _ _ hq hr hb=>⟨σ',hq,hr,hb⟩)
theorem Io{x y:Code}(h:AWP P x (Ut (AWP P y Q) Q) σ):AWP P (.seq x y) Q σ:=by
 intro T0 B a w r;refine wp_seq (wp_mono (h T0 B a w r) ?_);rintro e a' w' ⟨σ',hq,hr,hb⟩;cases e with
 |normal=>exact wp_mono (hq T0 B a' w' hr) fun e _ _ ⟨σ2,h1,h2,h3⟩=>⟨σ2,h1,h2,hb.trans h3⟩
 |exit id=>exact⟨σ',hq,hr,hb⟩
 |goto l=>exact⟨σ',hq,hr,hb⟩
 |ret=>exact⟨σ',hq,hr,hb⟩
 |panic ch=>exact⟨σ',hq,hr,hb⟩
 |outgrown=>exact⟨σ',hq,hr,hb⟩
theorem Le{c:Operand}{x y:Code}(hc:look P σ 0 c= .one (.d (.bool b)))(ht:b=true->AWP P x Q σ)(hf:b=false->AWP P y Q σ):AWP P (.cond c x y) Q σ:=by
 intro T0 B a w r;obtain⟨X,h,rr⟩:=r;have hv:=rr.look (P:=P) 0 c
 rw[hc]at hv;exact wp_cond_split (K9 hv) (fun hb=>ht hb T0 B a w ⟨X,h,rr⟩) (fun hb=>hf hb T0 B a w ⟨X,h,rr⟩)
theorem Mw(h:AWP P c (qt id Q) σ):AWP P (.block id c) Q σ:=by
 intro T0 B a w r;refine wp_block (wp_mono (h T0 B a w r) ?_);rintro e a' w' ⟨σ',hq,hr,hb⟩;cases e with
 |exit pt=>
  simp only[qt]at hq;simp only[Exit.inBlock];split at hq
  ·rename_i hh;rw[if_pos hh];exact⟨σ',hq,hr,hb⟩
  ·rename_i hh;rw[if_neg hh];exact⟨σ',hq,hr,hb⟩
 |normal=>exact⟨σ',hq,hr,hb⟩
 |goto l=>exact⟨σ',hq,hr,hb⟩
 |ret=>exact⟨σ',hq,hr,hb⟩
 |panic ch=>exact⟨σ',hq,hr,hb⟩
 |outgrown=>exact⟨σ',hq,hr,hb⟩
theorem yT{ι:Type}(S:ι->St)(μ:ι->Nat)(i0:ι)(h0:Wk σ (S i0))
  (round:∀i,AWP P c (Ut (fun σ'=>∃i',μ i'<μ i/\Wk σ' (S i')) Q) (S i)):AWP P (.loop c) Q σ:=by
 intro T0 B a w r b k cs;have key:∀n i a w,μ i=n->Xx T0 B (S i) a w->
   ∃e a' w',(∃σ',Q e σ'/\Xx T0 B σ' a' w'/\YL B w w')/\Arrives P (lone (b.at a (.code c:: .inLoop c::k)) cs w) b k cs e a' w':=by
  intro n;induction n using Nat.strongRecOn with
  |_ n ih=>
   intro i a w hn hr;obtain⟨e,a₁,w₁,⟨σ₁,hq,oP,oQ⟩,vQ⟩:=round i T0 B a w hr b (.inLoop c::k) cs;cases e with
   |normal=>obtain⟨i',wO,iq⟩:=hq;obtain⟨e₂,a₂,w₂,⟨σ₂,ir,iu,iv⟩,nD⟩:=ih (μ i') (hn▸wO) i' a₁ w₁ rfl (iq T0 B a₁ w₁ oP);exact⟨e₂,a₂,w₂,⟨σ₂,ir,iu,oQ.trans iv⟩,.of_steps (Steps.trans vQ (.one step_inLoop)) nD⟩
   |exit id=>exact⟨_,a₁,w₁,⟨σ₁,hq,oP,oQ⟩,.pass (x:=.inLoop c) rfl (fun _ _=>.inl fM) vQ⟩
   |goto l=>exact⟨_,a₁,w₁,⟨σ₁,hq,oP,oQ⟩,.pass (x:=.inLoop c) rfl (fun _ _=>.inl fM) vQ⟩
   |ret=>exact⟨_,a₁,w₁,⟨σ₁,hq,oP,oQ⟩,.pass (x:=.inLoop c) rfl (fun _ _=>.inl fM) vQ⟩
   |panic ch=>exact⟨_,a₁,w₁,⟨σ₁,hq,oP,oQ⟩,.pass (x:=.inLoop c) rfl (fun _ _=>.inl fM) vQ⟩
   |outgrown=>exact⟨_,a₁,w₁,⟨σ₁,hq,oP,oQ⟩,.pass (x:=.inLoop c) rfl (fun _ _=>.inl fM) vQ⟩
 obtain⟨e,a',w',hq,vQ⟩:=key _ i0 a w rfl (h0 T0 B a w r);exact⟨e,a',w',hq,.of_steps (.one step_loop) vQ⟩
end
/-! ### entering a function, and leaving it -/
def kn:List (List D)->St
 |[]=>[]
 |r::rs=>(vOf (r.map .d),[])::kn rs
def K0(n:Nat)(args:List (List D)):St:=kn args++List.replicate (n-args.length) (V.any,[])
def Tn(P:Program)(σ:St):ResultVar->List At->Prop
 |.tmp t,xs=>(σ.get t=vOf xs)/\t<σ.length
 |.cell t T,xs=>∃u c cells,σ.get t= .one (.bptr u c)/\σ.ob u 0= .box cells/\Kk P T=true/\xW P T=true/\P.cellsOf T≠1/\c+P.cellsOf T<=cells.length/\xs=cut cells c (P.cellsOf T)
def qe(P:Program)(σ:St):List ResultVar->List (List At)->Prop
 |[],vL=>vL=[]
 |r::rs,vL=>∃xs rest,Tn P σ r xs/\qe P σ rs rest/\vL=xs::rest
def zI(σ:St):List (List At)->Option (List (List D))
 |[]=>some []
 |xs::rest=>(match rowOf σ xs,zI σ rest with|some r,some rs=>some (r::rs)|_,_=>none)
def Ky(σ:St):At->Option D
 |.d (.sl _ _)=>none
 |.d x=>some x
 |.nil s=>some (.sl s [])
 |.sref t j lo len=>(match σ.ob t j with|.arr false size rows=>if lo=0/\len=rows.length then some (.sl size rows)else none|_=>none)
 |_=>none
def ownRow(σ:St):List At->Option (List D)
 |[]=>some []
 |x::xs=>(match Ky σ x,ownRow σ xs with|some d,some ds=>some (d::ds)|_,_=>none)
def jn(σ:St):List (List At)->Option (List (List D))
 |[]=>some []
 |xs::rest=>(match ownRow σ xs,jn σ rest with|some r,some rs=>some (r::rs)|_,_=>none)
def Mt(P:Program)(fn:Func)(own:Bool)(res:List (List D))(e:Exit)(σ:St):Prop:=
 (e= .ret\/e= .normal)/\∃vL,qe P σ fn.results.toList vL/\(if own then jn σ vL=some res/\(YF vL.flatten).Nodup else zI σ vL=some res)
def Lz(P:Program)(fn:Func)(res:List (List D))(e:Exit)(σ:St):Prop:=
 (e= .ret\/e= .normal)/\∃vL,qe P σ fn.results.toList vL/\Xn σ vL=some res/\XU σ vL/\(YF vL.flatten).Nodup
open Go.RowKit
variable{rest:List Oper}{fn:Func}{rv:List ResultVar}{vL:List (List At)}
theorem jM:∀(args:List (List D))(t:Nat),(kn args)[t]?=(args[t]?).map fun r=>(vOf (r.map .d),[])
 |[],t=>by simp[kn]
 |r::rs,0=>by simp[kn]
 |r::rs,t+1=>by simpa[kn]using jM rs t
theorem Yz(args:List (List D)):(kn args).length=args.length:=by
 induction args with
 |nil=>rfl
 |cons r rs ih=>simp[kn,ih]
theorem Ta(hT:∀b k,T b k->b<w.heap.size)(ha:ZU (fun v row=>∃cs,Qq v cs/\ZU (Rd T w) cs row) wm args):
  Xx T (fun b=>b<w.heap.size) (K0 n args) {tmps:=wm.toArray++Array.replicate (n-wm.toArray.size) undef,defers:=[]} w:=by
 have hl:=ha.length;refine⟨fun _=>False,fun _ _=>Hd.of undef,?_⟩;have wW:∀t j,(K0 n args).ob t j= .none:=by
  intro t j;unfold St.ob K0;rcases Nat.lt_or_ge t args.length with h|h
  ·rw[List.getElem?_append_left ed,jM,List.getElem?_eq_getElem h];simp[Zq]
  ·rw[List.getElem?_append_right ed,List.getElem?_replicate];split
   ·rename_i e he;split at he
    ·cases he;simp[Zq]
    ·cases he
   ·rfl
 have se:∀b k v,T b k->w.cell? ⟨b,k,none⟩=some v->w.cell? ⟨b,k,none⟩=some v/\Tof T (fun _=>False) b k:=fun b k v hb hc=>⟨hc,.inl hb⟩;refine⟨by simp[K0,Yz,hl],rfl,(fun b hb=>hb),(fun b hb=>hb.elim),hT,fun t ht=>?_,fun t j=>by rw[wW];trivial,fun t j b wC=>absurd (wW t j) wC,fun t j b wC=>absurd (wW t j) wC,fun t j t' j' b wC=>absurd (wW t j) wC⟩;unfold St.get K0;rcases Nat.lt_or_ge t args.length with wO|ur
 ·rw[List.getElem?_append_left (by rw[Yz];exact wO),jM,List.getElem?_eq_getElem wO];obtain⟨v,hv,cs,hf,wE⟩:=ha.get' t args[t] (List.getElem?_eq_getElem wO);have uV:(wm.toArray++Array.replicate (n-wm.toArray.size) undef).getD t undef=v:=by rw[Array.getD_eq_getD_getElem?,Array.getElem?_append_left fc];simp[hv]
  simp only[uV];exact(Uk hf (yS (wE.imp fun _ _=>Rd.mono se))).up
 ·rw[List.getElem?_append_right (by rw[Yz];exact ur),List.getElem?_replicate];split
  ·rename_i e he;split at he
   ·cases he;trivial
   ·cases he
  ·trivial
theorem IT{ob:Nat->Nat->Ob}{xs:List At}{v:Value}(hv:Yu T h ob w (vOf xs) v):∃cs,Qq v cs/\ZU (Zf T h ob w) xs cs:=by
 match xs,hv with
 |[],hv=>obtain⟨cs,rfl,wE⟩:=hv;exact⟨cs.toList,.inr ⟨by rw[<-wE.length];simp,fM⟩,wE⟩
 |[x],hv=>exact⟨[v],.inl ⟨v,rfl,rfl,Zf.YN hv⟩,.cons hv .nil⟩
 |x::y::xs,hv=>obtain⟨cs,rfl,wE⟩:=hv;exact⟨cs.toList,.inr ⟨by rw[<-wE.length];simp,fM⟩,wE⟩
theorem N9(r:Rel T0 B σ a w X h):∀{rs:List ResultVar}{vL:List (List At)},qe P σ rs vL->
  ∃vs wc,(rs.mapM (m:=Sem) fun|.tmp t=>pure (a.tmps.getD t undef)|.cell u t=>do loadVar t (<-asAddr (a.tmps.getD u undef))).run P w= .ok vs w/\ZU Qq vs wc/\ZU (fun xs cs=>ZU (Zf (Tof T0 X) h σ.ob w) xs cs) vL wc
 |[],vL,hr=>by cases hr;exact⟨[],[],fM,.nil,.nil⟩
 |rv::rs,vL,hr=>by
  obtain⟨xs,rest,h1,h2,rfl⟩:=hr;obtain⟨vs,wc,wU,hf,wE⟩:=N9 r h2;have one:∃v cs,(match rv with|.tmp t=>(pure (a.tmps.getD t undef):Sem Value)|.cell u t=>do loadVar t (<-asAddr (a.tmps.getD u undef))).run P w= .ok v w/\Qq v cs/\ZU (Zf (Tof T0 X) h σ.ob w) xs cs:=by
   cases rv with
   |tmp t=>
    obtain⟨hg,wO⟩:=h1;have hv:=r.slot t wO
    rw[hg]at hv;obtain⟨cs,hf,wE⟩:=IT hv;exact⟨_,cs,fM,hf,wE⟩
   |cell t T=>
    obtain⟨u,c,cells,hg,ho,uA,tB,wC,hle,rfl⟩:=h1;have hv:=r.get t
    rw[hg]at hv;obtain⟨b,cs,e,hb,he,hh,wE⟩:=r.box ho hv;have hlen:=wE.length
    obtain⟨val,lp,mb,_⟩:=Lw (P:=P) (w:=w) uA (b:=b) (off:=c) (cs:=cut cs.toList c (P.cellsOf T)) (Yi _ _ _ fJ) (fun j u hu=>Qp hh _ _ (KO _ _ _ _ _ hu));refine⟨val,cut cs.toList c (P.cellsOf T),?_,.inr ⟨by rw[Yi _ _ _ fJ];exact wC,mb tB⟩,wE.cut _ _⟩;simp only[Instr.loadAt,Instr.sureAddr,Sem.run_bind,Sem.run_pure,Result.andThen_ok]at lp;simp only[he,asAddr,Sem.run_bind,Sem.run_pure,Result.andThen_ok];exact lp
  obtain⟨v,cs,nE,iw,mc⟩:=one;refine⟨v::vs,cs::wc,?_,.cons iw hf,.cons mc wE⟩;simp only[List.mapM_cons,Sem.run_bind,nE,Result.andThen_ok,wU,Sem.run_pure]
theorem y9(r:Rel T0 B σ a w X h)(hr:qe P σ fn.results.toList vL):
  ∃vs wc,(results fn a.tmps).run P w= .ok (qz vs) w/\ZU Qq vs wc/\ZU (fun xs cs=>ZU (Zf (Tof T0 X) h σ.ob w) xs cs) vL wc:=by
 obtain⟨vs,wc,wU,hf,wE⟩:=N9 r hr;refine⟨vs,wc,?_,hf,wE⟩;unfold results;rw[Array.mapM_eq_mapM_toList];change(((fn.results.toList.mapM (m:=Sem) fun|.tmp t=>pure (a.tmps.getD t undef)|.cell u t=>do loadVar t (<-asAddr (a.tmps.getD u undef)))>>=fun l=>pure l.toArray)>>=fun(vs:Array Value)=>pure (if h:vs.size=1 then vs[0]else .tuple vs)).run P w=_;simp only[Sem.run_bind,wU,Result.andThen_ok,Sem.run_pure];congr 1;match vs with
 |[]=>rfl
 |[v]=>rfl
 |v::v'::vs=>simp[qz]
theorem qA(r:Rel T0 B σ a w X h){T:CS}(hT:∀b k,ky T0 X h σ b k->T b k):∀{vL:List (List At)}{wc:List (List Value)}{res:List (List D)},zI σ vL=some res->ZU (fun xs cs=>ZU (Zf (Tof T0 X) h σ.ob w) xs cs) vL wc->
  ZU (fun cs row=>ZU (J5 false T w) cs row) wc res
 |[],wc,res,hr,wE=>by cases wE;simp[zI]at hr;subst hr;exact .nil
 |xs::vL,wc,res,hr,wE=>by
  cases wE with
  |cons h1 wE=>
   simp only[zI]at hr;split at hr
   ·rename_i row rs wg uO;cases hr;refine .cons ?_ (qA r hT uO wE);have:=r.rowOf false wg h1 (fun hh=>by cases hh)
    refine this.imp fun v d hd=>?_;simp only[J5,Bool.false_eq_true,if_false]at hd⊢;exact Rd.mono (fun b k v hb hc=>⟨hc,hT b k hb⟩) hd
   ·cases hr
theorem TA:∀{xs:List At}{ds:List D},ownRow σ xs=some ds->ZU (fun x d=>Ky σ x=some d) xs ds
 |[],ds,hr=>by simp[ownRow]at hr;subst hr;exact .nil
 |x::xs,ds,hr=>by
  simp only[ownRow]at hr;split at hr
  ·rename_i d sV h1 h2;cases hr;exact .cons h1 (TA h2)
  ·cases hr
theorem V8:∀{vL:List (List At)}{res:List (List D)},jn σ vL=some res->ZU (fun xs row=>ZU (fun x d=>Ky σ x=some d) xs row) vL res
 |[],res,hr=>by simp[jn]at hr;subst hr;exact .nil
 |xs::vL,res,hr=>by
  simp only[jn]at hr;split at hr
  ·rename_i d sV h1 h2;cases hr;exact .cons (TA h1) (V8 h2)
  ·cases hr
theorem qG(r:Rel T0 B σ a w X h){x:At}{d:D}{v:Value}(hx:Ky σ x=some d)(hv:Zf (Tof T0 X) h σ.ob w x v):XN (Tof T0 X) w v d/\(∀b,d.scalar=false->blk v=some b->∃t j lo len,x= .sref t j lo len/\σ.ob t j≠ .none/\(h t j).u b):=by
 cases x with
 |d x=>
  cases x with
  |sl s rows=>simp[Ky]at hx
  |int k n=>simp[Ky]at hx;subst hx;exact⟨hv,fun b hb=>by cases hb⟩
  |bool b=>simp[Ky]at hx;subst hx;exact⟨hv,fun b hb=>by cases hb⟩
  |str s=>simp[Ky]at hx;subst hx;exact⟨hv,fun b hb=>by cases hb⟩
  |unk=>simp[Ky]at hx;subst hx;exact⟨hv,fun b hb=>by cases hb⟩
 |nil s=>simp[Ky]at hx;subst hx;cases hv;exact⟨⟨0,[],World.ownsRow_nil w 0 0 s,fu,.nil⟩,fun b _ hb=>by cases hb⟩
 |sref t j lo len=>
  simp only[Ky]at hx;split at hx
  ·rename_i size rows ho;split at hx
   ·rename_i hc;obtain⟨rfl,rfl⟩:=hc;cases hx;obtain⟨_,uI,_⟩:=hv.2.1 _ size rows ho;have he:=uI rfl rfl
    have h0:=r.obj t j;have vR:=r.ub t j;rw[ho]at h0 vR;refine⟨by rw[he];exact h0,fun b _ hb=>⟨t,j,0,rows.length,rfl,by rw[ho];simp,vR b fM (by rw[<-he];exact hb)⟩⟩
   ·cases hx
  ·cases hx
 |any=>simp[Ky]at hx
 |ptr=>simp[Ky]at hx
 |bptr=>simp[Ky]at hx
 |fn=>simp[Ky]at hx
 |rptr=>simp[Ky]at hx
 |tref=>simp[Ky]at hx
theorem PD(hf:P.funcs[f]?=some fn)(hb:fn.body=some c)(wT:j4 P f=true){own:Bool}
  (hw:AWP P c (Mt P fn own res) (K0 fn.ntmps args)):Y0 P f own args res:=by
 refine⟨wT,fun T w wm hT wH=>calls_of_wp hf hb ?_⟩;refine wp_mono (hw T (fun b=>b<w.heap.size) _ w (Ta hT wH)) ?_;rintro e a' w' ⟨σ',⟨he,vL,vf,wF⟩,⟨X,h,r⟩,wZ⟩;have vY:Below w.heap.size w w':=⟨wZ.os,wZ.tape,wZ.output,wZ.size,wZ.block⟩
 obtain⟨vs,wc,wU,wj,wE⟩:=y9 r vf;have goal:a'.defers=[]/\∃v,(results fn a'.tmps).run P w'= .ok v w'/\GJ own T w res (.returned v) w':=by
  refine⟨r.defers,_,wU,?_⟩;cases own with
  |false=>
   refine⟨vs,wc,fun b=>w.heap.size<=b/\b<w'.heap.size,rfl,vY,fun b hb=>hb,wj,?_,fun hh=>by cases hh⟩;refine qA r (fun b k hb=>?_) (by simpa using wF) wE;rcases hb with hb|⟨t,j,q,size,rows,ho,hb⟩
   ·rcases hb with hb|hb
    ·exact .inl hb
    ·have:=r.hX b hb;exact .inr ⟨fJ,this.2⟩
   ·have:=r.own t j b fi hb;exact .inr ⟨fJ,this.2.2⟩
  |true=>
   simp only[if_true]at wF;obtain⟨wI,vA⟩:=wF;have wx:=V8 wI
   have tC:ZU (fun x d=>Ky σ' x=some d) vL.flatten res.flatten:=J2 wx;have tD:ZU (Zf (Tof T X) h σ'.ob w') vL.flatten wc.flatten:=J2 wE;refine⟨vs,wc,X,rfl,vY,(fun b hb=>by have:=r.hX b hb;exact⟨fJ,this.2⟩),wj,?_,fun _=>⟨fun i cc d b hc hd vH hb=>?_,fun i j cc gy d d' b hc hd wk wL vH po hb wP=>?_⟩⟩
   ·clear tC tD wj wU vf wI vA he hw;induction wx generalizing wc with
    |nil=>cases wE;exact .nil
    |cons hr _ ih=>
     cases wE with
     |cons sY wE=>refine .cons ?_ (ih _ wE);clear ih wE;refine ZU.Jq (by rw[<-sY.length,hr.length]) (fun i v d hv hd=>?_);obtain⟨x,hx,pG⟩:=hr.get' i d hd;obtain⟨v',tf,nF⟩:=sY.get i x hx;rw[hv]at tf;cases tf;simp only[J5,if_true];exact(qG r pG nF).1
   ·obtain⟨x,hx,pG⟩:=tC.get' i d hd;obtain⟨v',tf,nF⟩:=tD.get i x hx;rw[hc]at tf;cases tf;obtain⟨t,j,lo,len,_,wC,uo⟩:=(qG r pG nF).2 b vH hb;have:=r.own t j b wC uo
    exact⟨fJ,this.2.2,this.2.1⟩
   ·obtain⟨x,hx,pG⟩:=tC.get' i d hd;obtain⟨v',tf,nF⟩:=tD.get i x hx;rw[hc]at tf;cases tf;obtain⟨x2,ou,mf⟩:=tC.get' j d' wL;obtain⟨v2,vF,mg⟩:=tD.get j x2 ou;rw[wk]at vF;cases vF;obtain⟨t,u,lo,len,rfl,wC,uo⟩:=(qG r pG nF).2 b vH hb;obtain⟨t2,u2,iy,mh,rfl,s9,mi⟩:=(qG r mf mg).2 b po wP;obtain⟨rfl,rfl⟩:=r.inj t u t2 u2 b wC s9 uo mi;exact V6 _ i j t u lo len iy mh vA hx ou
 rcases he with rfl|rfl
 ·exact goal
 ·exact goal
theorem SG(hf:P.funcs[f]?=some fn)(hb:fn.body=some c)(wT:j4 P f=true)
  (hw:AWP P c (Lz P fn res) (K0 fn.ntmps args)):Zp P f args res:=by
 refine⟨wT,fun T w wm hT wH=>calls_of_wp hf hb ?_⟩;refine wp_mono (hw T (fun b=>b<w.heap.size) _ w (Ta hT wH)) ?_;rintro e a' w' ⟨σ',⟨he,vL,vf,uC,uq,vA⟩,⟨X,h,r⟩,wZ⟩;have vY:Below w.heap.size w w':=⟨wZ.os,wZ.tape,wZ.output,wZ.size,wZ.block⟩
 obtain⟨vs,wc,wU,wj,wE⟩:=y9 r vf;have goal:a'.defers=[]/\∃v,(results fn a'.tmps).run P w'= .ok v w'/\HJ w res (.returned v) w':=by
  refine⟨r.defers,_,wU,vs,wc,rfl,vY,wj,?_,?_⟩
  ·clear vA uq vf wU wj hw;induction wE generalizing res with
   |nil=>simp[Xn]at uC;subst uC;exact .nil
   |cons h1 _ ih=>
    simp only[Xn]at uC;split at uC
    ·rename_i row rs wg uO;cases uC;exact .cons (by rw[<-h1.length];exact(zP wg).1) (ih uO)
    ·cases uC
  ·refine(Wz r (J2 wE) (Qu uC).1 (QR uq) vA).mono (fun b hb=>?_);have:=r.zN _ b hb
   exact⟨fJ,this.2.2.1⟩
 rcases he with rfl|rfl
 ·exact goal
 ·exact goal
open Go.RowKit
variable{os:List Ob}{op:BinOp}
theorem St.Lo(e:Ent)(σ:St):St.get (e::σ) 0=e.1:=rfl
theorem St.Lb(e:Ent)(σ:St)(n:Nat):St.get (e::σ) (n+1)=St.get σ n:=by simp[St.get]
theorem St.Ip(e:Ent)(σ:St)(j:Nat):St.ob (e::σ) 0 j=Zq e.2 j:=rfl
theorem St.Iq(e:Ent)(σ:St)(n j:Nat):St.ob (e::σ) (n+1) j=St.ob σ n j:=by simp[St.ob]
theorem MY(o:Ob)(os:List Ob):Zq (o::os) 0=o:=rfl
theorem W5(o:Ob)(os:List Ob)(n:Nat):Zq (o::os) (n+1)=Zq os n:=by simp[Zq]
theorem La(n:Nat):Zq [] n= .none:=by simp[Zq]
def lkI(P:Program)(σ:St)(x:Operand):Prop×Int:=
 match unc (look P σ 0 x)with
 |.one (.d (.int _ n))=>(gOf (look P σ 0 x)=true,n)
 |_=>(False,0)
def lkK(P:Program)(σ:St)(x:Operand):IntKind:=
 match unc (look P σ 0 x)with
 |.one (.d (.int k _))=>k
 |_=>.i64
theorem zt(h:(lkI P σ x).1):yo P σ x (lkK P σ x) (lkI P σ x).2:=by
 unfold lkI at h⊢;unfold lkK;unfold yo;split at h
 ·rename_i k n heq;rw[heq];exact⟨h,rfl⟩
 ·exact h.elim
def Qw(P:Program)(σ:St)(vT:Nat):Option Operand->Prop×Nat
 |none=>(True,vT)
 |some x=>((lkI P σ x).1/\0<=(lkI P σ x).2,(lkI P σ x).2.toNat)
theorem xj{x:Option Operand}(h:(Qw P σ vT x).1):bnd P σ vT x (Qw P σ vT x).2:=by
 cases x with
 |none=>rfl
 |some x=>have h1:=zt h.1;exact⟨_,_,h1.1,h1.2,h.2,rfl⟩
def rowAt(rows:List (List D))(i:Nat):List D:=rows.getD i []
def bAt(s:ByteArray)(i:Nat):Nat:=(s.data.toList.getD i 0).toNat
def jZ(P:Program)(σ:St)(T:TypeId)(x ix:Operand):Prop×V:=
 match unc (look P σ 0 x)with
 |.one (.d (.sl size rows))=>((gOf (look P σ 0 x)=true/\(lkI P σ ix).1)/\0<=(lkI P σ ix).2/\(Zy P T=true/\size=P.cellsOf (ZD P T)/\0<size)/\(lkI P σ ix).2<(rows.length:Int),.one (.rptr (rowAt rows (lkI P σ ix).2.toNat) 0))
 |.one (.sref t j lo len)=>((gOf (look P σ 0 x)=true/\(lkI P σ ix).1)/\0<=(lkI P σ ix).2/\(Zy P T=true/\0<P.cellsOf (ZD P T)/\(match σ.ob t j with|.arr _ size _=>size=P.cellsOf (ZD P T)|_=>False))/\(lkI P σ ix).2<(len:Int),.one (.ptr t j (lo+(lkI P σ ix).2.toNat) 0))
 |.one (.tref t j m c none)=>((gOf (look P σ 0 x)=true/\(lkI P σ ix).1)/\0<=(lkI P σ ix).2/\(Zy P T=true/\0<P.cellsOf (ZD P T))/\(match σ.ob t j with|.arr true _ rows=>m<rows.length/\(match(rowAt rows m)[c]? with|some (.sl n s)=>n=P.cellsOf (ZD P T)/\(lkI P σ ix).2<(s.length:Int)|_=>False)|_=>False),.one (.tref t j m c (some ((lkI P σ ix).2.toNat*P.cellsOf (ZD P T)))))
 |.one (.bptr t c)=>((gOf (look P σ 0 x)=true/\(lkI P σ ix).1)/\0<=(lkI P σ ix).2/\(match σ.ob t 0 with|.box _=>True|_=>False)/\(match UK P T with|some n=>1<n/\(lkI P σ ix).2<(n:Int)|none=>False),.one (.bptr t (c+(lkI P σ ix).2.toNat*P.cellsOf (ZD P T))))
 |_=>(False,.any)
def Nh(P:Program)(σ:St)(T:TypeId)(x:Operand):Prop×V:=
 match unc (look P σ 0 x)with
 |.one (.bptr t c)=>(match σ.ob t 0 with|.box cells=>(gOf (look P σ 0 x)=true/\Kk P T=true/\c+P.cellsOf T<=cells.length,ldV P T (cut cells c (P.cellsOf T)))|_=>(False,.any))
 |.one (.ptr t j i c)=>(match σ.ob t j with|.arr q size rows=>((gOf (look P σ 0 x)=true/\Kk P T=true/\c+P.cellsOf T<=size)/\i<rows.length,ldV P T (qM q t j i c (cut (rowAt rows i) c (P.cellsOf T))))|_=>(False,.any))
 |.one (.rptr r c)=>(gOf (look P σ 0 x)=true/\Kk P T=true/\c+P.cellsOf T<=r.length,ldV P T ((cut r c (P.cellsOf T)).map .d))
 |.one (.tref t j i c (some k))=>(match σ.ob t j with
  |.arr true _ rows=>(match(rowAt rows i)[c]? with
   |some (.sl 1 s)=>((gOf (look P σ 0 x)=true/\Kk P T=true)/\i<rows.length/\P.cellsOf T=1/\k<s.length/\(rowAt s k).all D.scalar=true,ldV P T ((rowAt s k).map .d))
   |_=>(False,.any))
  |_=>(False,.any))
 |_=>(False,.any)
def jc(P:Program)(σ:St)(T:TypeId)(x:Operand)(f:Nat):Prop×V:=
 match unc (look P σ 0 x)with
 |.one (.bptr t c)=>(gOf (look P σ 0 x)=true/\Kr P T f=true/\(match σ.ob t 0 with|.box _=>True|_=>False),.one (.bptr t (c+Yg P T f)))
 |.one (.ptr t j i c)=>(gOf (look P σ 0 x)=true/\Kr P T f=true/\(match σ.ob t j with|.arr _ _ _=>True|_=>False),.one (.ptr t j i (c+Yg P T f)))
 |.one (.rptr r c)=>(gOf (look P σ 0 x)=true/\Kr P T f=true,.one (.rptr r (c+Yg P T f)))
 |.one (.tref t j i c (some k))=>(gOf (look P σ 0 x)=true/\Kr P T f=true/\(match σ.ob t j with|.arr true _ _=>True|_=>False),.one (.tref t j i c (some (k+Yg P T f))))
 |_=>(False,.any)
def Sg(P:Program)(op:BinOp)(T:TypeId)(x y:V):Prop×V:=
 match op,x,y with
 |.eql,.one (.d (.int k m)),.one (.d (.int k' n))=>(k'=k,.one (.d (.bool (m==n))))
 |.neq,.one (.d (.int k m)),.one (.d (.int k' n))=>(k'=k,.one (.d (.bool (m !=n))))
 |.lss,.one (.d (.int k m)),.one (.d (.int k' n))=>(k'=k,.one (.d (.bool (decide (m<n)))))
 |.leq,.one (.d (.int k m)),.one (.d (.int k' n))=>(k'=k,.one (.d (.bool (decide (m<=n)))))
 |.gtr,.one (.d (.int k m)),.one (.d (.int k' n))=>(k'=k,.one (.d (.bool (decide (m>n)))))
 |.geq,.one (.d (.int k m)),.one (.d (.int k' n))=>(k'=k,.one (.d (.bool (decide (m>=n)))))
 |.add,.one (.d (.int k m)),.one (.d (.int k' n))=>(k'=k,.one (.d (.int k (k.wrap (m+n)))))
 |.sub,.one (.d (.int k m)),.one (.d (.int k' n))=>(k'=k,.one (.d (.int k (k.wrap (m-n)))))
 |.mul,.one (.d (.int k m)),.one (.d (.int k' n))=>(k'=k,.one (.d (.int k (k.wrap (m*n)))))
 |.quo,.one (.d (.int k m)),.one (.d (.int k' n))=>(k'=k/\n≠0,.one (.d (.int k (k.wrap (m.tdiv n)))))
 |.rem,.one (.d (.int k m)),.one (.d (.int k' n))=>(k'=k/\n≠0,.one (.d (.int k (m.tmod n))))
 |.and,.one (.d (.int k m)),.one (.d (.int k' n))=>(k'=k,.one (.d (.int k (SU k m n))))
 |.or,.one (.d (.int k m)),.one (.d (.int k' n))=>(k'=k,.one (.d (.int k (iOr k m n))))
 |.xor,.one (.d (.int k m)),.one (.d (.int k' n))=>(k'=k,.one (.d (.int k (L6 k m n))))
 |.shl,.one (.d (.int k m)),.one (.d (.int _ n))=>(0<=n,.one (.d (.int k (k.wrap (m*2^min n.toNat k.bits)))))
 |.shr,.one (.d (.int k m)),.one (.d (.int _ n))=>(0<=n,.one (.d (.int k (m.fdiv (2^min n.toNat k.bits)))))
 |.add,.one (.d (.str m)),.one (.d (.str n))=>(((m.size+n.size:Nat):Int)<=9223372036854775807,.one (.d (.str (m++n))))
 |.eql,.one (.d (.str m)),.one (.d (.str n))=>(True,.one (.d (.bool (decide (m=n)))))
 |.neq,.one (.d (.str m)),.one (.d (.str n))=>(True,.one (.d (.bool (!decide (m=n)))))
 |.eql,.one (.d (.bool m)),.one (.d (.bool n))=>(V4 P T=true,.one (.d (.bool (m==n))))
 |.neq,.one (.d (.bool m)),.one (.d (.bool n))=>(V4 P T=true,.one (.d (.bool (!(m==n)))))
 |.eql,.agg xs,.agg ys=>(j5 P T=true/\(Yb P (QO P T) xs ys).isSome=true,.one (.d (.bool ((Yb P (QO P T) xs ys).getD false))))
 |.neq,.agg xs,.agg ys=>(j5 P T=true/\(Yb P (QO P T) xs ys).isSome=true,.one (.d (.bool (!(Yb P (QO P T) xs ys).getD false))))
 |_,_,_=>(False,.any)
def qH(P:Program)(σ:St)(T:TypeId):List (Nat×Operand)->List At->Prop×List At
 |[],r=>(True,r)
 |(i,x)::ps,r=>((bOk P T i=true/\gOf (look P σ (bTy P T i) x)=true/\(unc (look P σ (bTy P T i) x)).flat=true/\
   (unc (look P σ (bTy P T i) x)).cells.length=P.cellsOf (bTy P T i)/\KH P T i+P.cellsOf (bTy P T i)<=r.length)/\(qH P σ T ps (place r (KH P T i) (unc (look P σ (bTy P T i) x)).cells)).1,
   (qH P σ T ps (place r (KH P T i) (unc (look P σ (bTy P T i) x)).cells)).2)
theorem TG{P:Program}{σ:St}{T:TypeId}:∀{ps:List (Nat×Operand)}{r:List At},(qH P σ T ps r).1->xX P σ T ps r (qH P σ T ps r).2
 |[],_,_=>rfl
 |(_,_)::_,_,h=>⟨h.1.1,h.1.2.1,h.1.2.2.1,h.1.2.2.2.1,h.1.2.2.2.2,TG h.2⟩
def isB:V->Bool
 |.one (.d (.bool _))=>true
 |_=>false
def bOf:V->Bool
 |.one (.d (.bool b))=>b
 |_=>false
theorem LC:∀{v:V},isB v=true->v= .one (.d (.bool (bOf v)))
 |.one (.d (.bool _)),_=>rfl
def evV(P:Program)(σ:St)(op:Op)(ty:TypeId):Prop×V:=
 match op with
 |.move x=>(True,look P σ ty x)
 |.assign x=>(True,look P σ ty x)
 |.pick c a b=>
  (match unc (look P σ ty c)with
  |.one (.d (.bool bc))=>((gOf (look P σ ty c)=true/\(bc=true->isB (unc (look P σ ty a))=true)/\(bc=false->isB (unc (look P σ ty b))=true))/\(bc=true->gOf (look P σ ty a)=true)/\(bc=false->gOf (look P σ ty b)=true),.one (.d (.bool (cond bc (bOf (unc (look P σ ty a))) (bOf (unc (look P σ ty b)))))))
  |_=>(False,.any))
 |.load T x=>Nh P σ T x
 |.fieldAddr T x f=>jc P σ T x f
 |.nilCheck x=>(match unc (look P σ 0 x)with
  |.one (.bptr t c)=>(gOf (look P σ 0 x)=true/\(match σ.ob t 0 with|.box _=>True|_=>False),.one (.bptr t c))
  |_=>(False,.any))
 |.indexAddr T x ix=>jZ P σ T x ix
 |.index T x ix=>
  (match unc (look P σ 0 x)with
  |.one (.d (.str s))=>((gOf (look P σ 0 x)=true/\(lkI P σ ix).1)/\0<=(lkI P σ ix).2/\qF P T=true/\(lkI P σ ix).2<(s.size:Int),.one (.d (.int .u8 (bAt s (lkI P σ ix).2.toNat))))
  |.agg xs=>((gOf (look P σ 0 x)=true/\(lkI P σ ix).1)/\0<=(lkI P σ ix).2/\(match UK P T with|some n=>(lkI P σ ix).2<(n:Int)|none=>False)/\Kk P (ZD P T)=true/\(lkI P σ ix).2.toNat*P.cellsOf (ZD P T)+P.cellsOf (ZD P T)<=xs.length,
    ldV P (ZD P T) (cut xs ((lkI P σ ix).2.toNat*P.cellsOf (ZD P T)) (P.cellsOf (ZD P T))))
  |_=>(False,.any))
 |.slice T x lo hi none=>
  (match unc (look P σ 0 x)with
  |.one (.d (.str s))=>((gOf (look P σ 0 x)=true/\qF P T=true/\(Qw P σ 0 lo).1/\(Qw P σ s.size hi).1)/\(Qw P σ 0 lo).2<=(Qw P σ s.size hi).2/\(Qw P σ s.size hi).2<=s.size,.one (.d (.str (s.extract (Qw P σ 0 lo).2 (Qw P σ s.size hi).2))))
  |.one (.d (.sl size rows))=>((gOf (look P σ 0 x)=true/\Zy P T=true/\size=P.cellsOf (ZD P T)/\(Qw P σ 0 lo).1/\(Qw P σ rows.length hi).1)/\(Qw P σ 0 lo).2<=(Qw P σ rows.length hi).2/\(Qw P σ rows.length hi).2<=rows.length,
    .one (.d (.sl size (cut rows (Qw P σ 0 lo).2 ((Qw P σ rows.length hi).2-(Qw P σ 0 lo).2)))))
  |.one (.sref t j o len)=>((gOf (look P σ 0 x)=true/\Zy P T=true/\(match σ.ob t j with|.arr _ size _=>size=P.cellsOf (ZD P T)|_=>False)/\(Qw P σ 0 lo).1/\(Qw P σ len hi).1)/\(Qw P σ 0 lo).2<=(Qw P σ len hi).2/\(Qw P σ len hi).2<=len,
    .one (.sref t j (o+(Qw P σ 0 lo).2) ((Qw P σ len hi).2-(Qw P σ 0 lo).2)))
  |_=>(False,.any))
 |.binOp op T x y _=>((gOf (look P σ T x)=true/\gOf (look P σ T y)=true)/\(Sg P op T (unc (look P σ T x)) (unc (look P σ T y))).1,(Sg P op T (unc (look P σ T x)) (unc (look P σ T y))).2)
 |.unOp .not _ x=>(match unc (look P σ 0 x)with|.one (.d (.bool b))=>(gOf (look P σ 0 x)=true,.one (.d (.bool (!b))))|_=>(False,.any))
 |.unOp .neg _ x=>(match unc (look P σ 0 x)with|.one (.d (.int k n))=>(gOf (look P σ 0 x)=true,.one (.d (.int k (k.wrap (-n)))))|_=>(False,.any))
 |.convert S T x=>(match unc (look P σ 0 x),Nl P T with|.one (.d (.int _ n)),some k=>(gOf (look P σ 0 x)=true/\(P.underlying S).isSome=true,.one (.d (.int k (k.wrap n))))|_,_=>(False,.any))
 |.extract x i=>(match unc (look P σ 0 x)with|.tup xs=>(gOf (look P σ 0 x)=true/\i<xs.length/\(xs.getD i .any).flat=true,xs.getD i .any)|_=>(False,.any))
 |.field T x f=>
  (match unc (look P σ 0 x)with
  |.agg xs=>(gOf (look P σ 0 x)=true/\Kr P T f=true/\Kk P (J0 P T f)=true/\Yg P T f+P.cellsOf (J0 P T f)<=xs.length,ldV P (J0 P T f) (cut xs (Yg P T f) (P.cellsOf (J0 P T f))))
  |_=>(False,.any))
 |.build T parts=>(match zk P 12 T with|some z=>((YR P T=true/\xW P T=true)/\(qH P σ T parts.toList z).1,.agg (qH P σ T parts.toList z).2)|none=>(False,.any))
 |.call ⟨.builtin .len,⟨[x]⟩,⟨[t]⟩⟩=>
  (match unc (look P σ t x)with
  |.one (.d (.str s))=>(gOf (look P σ t x)=true/\qF P t=true,.one (.d (.int .i64 s.size)))
  |.one (.d (.sl _ rows))=>(gOf (look P σ t x)=true/\Zy P t=true,.one (.d (.int .i64 rows.length)))
  |.one (.nil _)=>(gOf (look P σ t x)=true/\Zy P t=true,.one (.d (.int .i64 0)))
  |.one (.sref u j _ len)=>(gOf (look P σ t x)=true/\Zy P t=true/\(match σ.ob u j with|.arr _ _ _=>True|.lit _ _=>True|_=>False),.one (.d (.int .i64 len)))
  |.one (.tref u j i c none)=>(match σ.ob u j with
   |.arr true _ rows=>(match(rowAt rows i)[c]? with
    |some (.sl _ s)=>((gOf (look P σ t x)=true/\Zy P t=true)/\i<rows.length,.one (.d (.int .i64 s.length)))
    |_=>(False,.any))
   |_=>(False,.any))
  |_=>(False,.any))
 |.call ⟨.builtin .max,⟨[x,y]⟩,_⟩=>((lkI P σ x).1/\(lkI P σ y).1/\lkK P σ y=lkK P σ x,.one (.d (.int (lkK P σ x) (if(lkI P σ y).2>(lkI P σ x).2 then(lkI P σ y).2 else(lkI P σ x).2))))
 |.call ⟨.builtin .min,⟨[x,y]⟩,_⟩=>((lkI P σ x).1/\(lkI P σ y).1/\lkK P σ y=lkK P σ x,.one (.d (.int (lkK P σ x) (if(lkI P σ y).2<(lkI P σ x).2 then(lkI P σ y).2 else(lkI P σ x).2))))
 |_=>(False,.any)
theorem NN{o:Ob}(h:(match o with|.box _=>True|_=>False)):∃cells,o= .box cells:=by
 cases o with
 |box c=>exact⟨c,rfl⟩
 |none=>exact h.elim
 |arr q s r=>exact h.elim
 |lit s r=>exact h.elim
theorem Hm{o:Ob}(h:(match o with|.arr _ _ _=>True|_=>False)):∃q size rows,o= .arr q size rows:=by
 cases o with
 |arr q s r=>exact⟨q,s,r,rfl⟩
 |none=>exact h.elim
 |box c=>exact h.elim
 |lit s r=>exact h.elim
theorem Hs{o:Ob}(h:(match o with|.arr _ _ _=>True|.lit _ _=>True|_=>False)):(∃q size rows,o= .arr q size rows)\/∃size rows,o= .lit size rows:=by
 cases o with
 |arr q s r=>exact .inl ⟨q,s,r,rfl⟩
 |none=>exact h.elim
 |box c=>exact h.elim
 |lit s r=>exact .inr ⟨s,r,rfl⟩
theorem Nz{o:Ob}(h:(match o with|.arr _ size _=>size=n|_=>False)):∃q rows,o= .arr q n rows:=by
 cases o with
 |arr q s r=>simp at h;subst h;exact⟨q,r,rfl⟩
 |none=>exact h.elim
 |box c=>exact h.elim
 |lit s r=>exact h.elim
theorem LH{T:TypeId}{x y:V}(hc:(Sg P op T x y).1):OO P op T x y (Sg P op T x y).2:=by
 unfold Sg at hc⊢;split at hc;all_goals first
  |exact hc.elim
  |exact⟨.inr hc,rfl⟩
  |exact⟨.inr hc.1,hc.2,rfl⟩
  |exact⟨.inl (.inl rfl),hc,rfl⟩
  |exact⟨.inl (.inr rfl),hc,rfl⟩
  |exact⟨hc,rfl⟩
  |rfl
  |(obtain⟨q,hq⟩:=Option.isSome_iff_exists.1 hc.2;exact⟨hc.1,q,hq,.inl ⟨rfl,by rw[hq];rfl⟩⟩)
  |(obtain⟨q,hq⟩:=Option.isSome_iff_exists.1 hc.2;exact⟨hc.1,q,hq,.inr ⟨rfl,by rw[hq];rfl⟩⟩)
theorem NM{op:Op}{ty:TypeId}(hc:(evV P σ op ty).1):Zj P σ op ty (evV P σ op ty).2:=by
 unfold evV at hc⊢;split at hc
 ·rfl
 ·rfl
 ·rename_i c a b;split at hc
  ·rename_i bc h1;exact⟨bc,_,_,hc.1.1,h1,(fun hh=>LC (hc.1.2.1 hh)),(fun hh=>LC (hc.1.2.2 hh)),hc.2.1,hc.2.2,fU⟩
  ·exact hc.elim
 ·rename_i T x;unfold Nh at hc⊢;simp only[Zj];split at hc
  ·rename_i t c hx;split at hc
   ·rename_i cells ho;simp only[hx,ho];exact⟨hc.1,hc.2.1,cells,rfl,hc.2.2,fU⟩
   ·exact hc.elim
  ·rename_i t j i c hx;split at hc
   ·rename_i size rows ho;simp only[hx,ho];exact⟨hc.1.1,hc.1.2.1,_,size,rows,rfl,hc.2,hc.1.2.2,fU⟩
   ·exact hc.elim
  ·rename_i r c hx;simp only[hx];exact⟨hc.1,hc.2.1,hc.2.2,fU⟩
  ·rename_i t j i c k hx;split at hc
   ·rename_i size rows ho;split at hc
    ·rename_i s wF;simp only[hx,ho,wF];exact⟨hc.1.1,hc.1.2,size,rows,s,rfl,hc.2.1,wF,hc.2.2.1,hc.2.2.2.1,hc.2.2.2.2,fU⟩
    ·exact hc.elim
   ·exact hc.elim
  ·exact hc.elim
 ·rename_i T x f;unfold jc at hc⊢;simp only[Zj];split at hc
  ·rename_i t c hx;simp only[hx];exact⟨hc.1,hc.2.1,NN hc.2.2,fU⟩
  ·rename_i t j i c hx;simp only[hx];exact⟨hc.1,hc.2.1,Hm hc.2.2,fU⟩
  ·rename_i r c hx;simp only[hx];exact⟨hc.1,hc.2,fU⟩
  ·rename_i t j i c k hx;have h3:=hc.2.2
   split at h3
   ·rename_i size rows ho;simp only[hx];exact⟨hc.1,hc.2.1,⟨size,rows,ho⟩,fU⟩
   ·exact h3.elim
  ·exact hc.elim
 ·rename_i x;simp only[Zj];split at hc
  ·rename_i t c hx;simp only[hx];exact⟨hc.1,NN hc.2,fU⟩
  ·exact hc.elim
 ·rename_i T x ix;unfold jZ at hc⊢;simp only[Zj];split at hc
  ·rename_i size rows hx;simp only[hx];exact⟨_,_,zt hc.1.2,hc.2.1,hc.1.1,hc.2.2.1.1,hc.2.2.1.2.1,hc.2.2.1.2.2,hc.2.2.2,fU⟩
  ·rename_i t j lo len hx;simp only[hx];exact⟨_,_,zt hc.1.2,hc.2.1,hc.1.1,hc.2.2.1.1,hc.2.2.1.2.1,Nz hc.2.2.1.2.2,hc.2.2.2,fU⟩
  ·rename_i t j m c hx;have h3:=hc.2.2.2
   split at h3
   ·rename_i size rows ho;obtain⟨hm,h4⟩:=h3;split at h4
    ·rename_i n s hr;obtain⟨rfl,wO⟩:=h4;simp only[hx];exact⟨_,_,zt hc.1.2,hc.2.1,hc.1.1,hc.2.2.1.1,hc.2.2.1.2,⟨size,rows,s,ho,hm,hr,wO⟩,fU⟩
    ·exact h4.elim
   ·exact h3.elim
  ·rename_i t c hx;simp only[hx];refine⟨_,_,zt hc.1.2,hc.2.1,hc.1.1,NN hc.2.2.1,?_,fU⟩;have:=hc.2.2.2
   split at this
   ·rename_i n hn;exact⟨n,hn,this.1,this.2⟩
   ·exact this.elim
  ·exact hc.elim
 ·rename_i T x ix;simp only[Zj];split at hc
  ·rename_i s hx;simp only[hx];exact⟨_,_,zt hc.1.2,hc.2.1,hc.1.1,hc.2.2.1,hc.2.2.2,fU⟩
  ·rename_i xs hx;simp only[hx];refine⟨_,_,zt hc.1.2,hc.2.1,hc.1.1,?_,hc.2.2.2.1,hc.2.2.2.2,fU⟩;have:=hc.2.2.1
   split at this
   ·rename_i n hn;exact⟨n,hn,this⟩
   ·exact this.elim
  ·exact hc.elim
 ·rename_i T x lo hi;simp only[Zj];split at hc
  ·rename_i s hx;simp only[hx];exact⟨hc.1.1,hc.1.2.1,_,_,xj hc.1.2.2.1,xj hc.1.2.2.2,hc.2.1,hc.2.2,fU⟩
  ·rename_i size rows hx;simp only[hx];exact⟨hc.1.1,hc.1.2.1,hc.1.2.2.1,_,_,xj hc.1.2.2.2.1,xj hc.1.2.2.2.2,hc.2.1,hc.2.2,fU⟩
  ·rename_i t j o len hx;simp only[hx];exact⟨hc.1.1,hc.1.2.1,Nz hc.1.2.2.1,_,_,xj hc.1.2.2.2.1,xj hc.1.2.2.2.2,hc.2.1,hc.2.2,fU⟩
  ·exact hc.elim
 ·exact⟨hc.1.1,hc.1.2,LH hc.2⟩
 ·simp only[Zj];split at hc
  ·rename_i b hx;simp only[hx];exact⟨hc,fU⟩
  ·exact hc.elim
 ·simp only[Zj];split at hc
  ·rename_i k n hx;simp only[hx];exact⟨hc,fU⟩
  ·exact hc.elim
 ·rename_i S T x;simp only[Zj];split at hc
  ·rename_i k0 n k hx hk;simp only[hx,hk];exact⟨hc.1,hc.2,k,rfl,fU⟩
  ·exact hc.elim
 ·rename_i x i;simp only[Zj];split at hc
  ·rename_i xs hx;simp only[hx];exact⟨hc.1,by simp[List.getD_eq_getElem?_getD,List.getElem?_eq_getElem hc.2.1],hc.2.2⟩
  ·exact hc.elim
 ·simp only[Zj];split at hc
  ·rename_i xs hx;simp only[hx];exact⟨hc.1,hc.2.1,hc.2.2.1,hc.2.2.2,fU⟩
  ·exact hc.elim
 ·simp only[Zj];split at hc
  ·rename_i z hz;exact⟨hc.1.1,hc.1.2,z,_,hz,TG hc.2,fU⟩
  ·exact hc.elim
 ·simp only[Zj];split at hc
  ·rename_i s hx;simp only[hx];exact⟨hc.1,hc.2,fU⟩
  ·rename_i s rows hx;simp only[hx];exact⟨hc.1,hc.2,fU⟩
  ·rename_i s hx;simp only[hx];exact⟨hc.1,hc.2,fU⟩
  ·rename_i u j lo len hx;simp only[hx];exact⟨hc.1,hc.2.1,Hs hc.2.2,fU⟩
  ·rename_i u j i c hx;split at hc
   ·rename_i rows ho;split at hc
    ·rename_i s wF;simp only[hx,ho,wF];exact⟨hc.1.1,hc.1.2,_,rows,_,s,rfl,hc.2,wF,fU⟩
    ·exact hc.elim
   ·exact hc.elim
  ·exact hc.elim
 ·simp only[Zj];have hy:=zt hc.2.1
  rw[hc.2.2]at hy;exact⟨_,_,_,zt hc.1,hy,fU⟩
 ·simp only[Zj];have hy:=zt hc.2.1
  rw[hc.2.2]at hy;exact⟨_,_,_,zt hc.1,hy,fU⟩
 ·exact hc.elim
open Go.RowKit
def KV(P:Program)(σ:St)(T:TypeId)(size:Nat):List (Nat×Operand)->Nat->Prop×List (List D)
 |[],_=>(True,[])
 |(i,x)::ps,k=>((i=k/\gOf (look P σ T x)=true/\(unc (look P σ T x)).flat=true/\X9 (unc (look P σ T x)).cells=true/\(rowOf σ (unc (look P σ T x)).cells).isSome=true/\((rowOf σ (unc (look P σ T x)).cells).getD []).length=size)/\(KV P σ T size ps (k+1)).1,
   (rowOf σ (unc (look P σ T x)).cells).getD []::(KV P σ T size ps (k+1)).2)
theorem Vk{P:Program}{σ:St}{T:TypeId}{size:Nat}:∀{ps:List (Nat×Operand)}{k:Nat},(KV P σ T size ps k).1->WL P σ T size ps k (KV P σ T size ps k).2
 |[],_,_=>rfl
 |(_,x)::_,_,h=>by
  obtain⟨⟨h1,h2,h3,h4,h5,h6⟩,h7⟩:=h;obtain⟨r,hr⟩:=Option.isSome_iff_exists.1 h5;refine⟨h1,h2,h3,h4,r,_,hr,?_,Vk h7,?_⟩
  ·rw[hr]at h6;exact h6
  ·simp only[KV,hr,Option.getD_some]
def qZ(σ:St)(x:V)(size:Nat):Prop×List (List D)×St:=
 match x with
 |.one (.nil _)=>(True,[],σ)
 |.one (.sref t j lo len)=>(match σ.ob t j with|.arr false s wD=>(s=size/\lo=0/\len=wD.length,wD,σ.ZT t j .none)|_=>(False,[],σ))
 |_=>(False,[],σ)
theorem LG{x:V}(h:(qZ σ x size).1):qB σ x size (qZ σ x size).2.1 (qZ σ x size).2.2:=by
 unfold qZ at h⊢;split at h
 ·exact⟨rfl,rfl⟩
 ·rename_i t j lo len;split at h
  ·rename_i s wD ho;obtain⟨rfl,rfl,rfl⟩:=h;exact⟨wD,ho,rfl,Nat.le_refl _,(List.take_length).symm,rfl⟩
  ·exact h.elim
 ·exact h.elim
def Wu(σ:St)(x:V)(size:Nat):Prop×List (List D):=
 match x with
 |.one (.d (.sl s rows))=>(s=size,rows)
 |.one (.nil _)=>(True,[])
 |.one (.sref t j lo len)=>(match σ.ob t j with|.arr false s rows=>(s=size/\lo+len<=rows.length,cut rows lo len)|_=>(False,[]))
 |_=>(False,[])
theorem Lh{x:V}(h:(Wu σ x size).1):zY σ x size (Wu σ x size).2:=by
 unfold Wu at h⊢;split at h
 ·exact⟨h,rfl⟩
 ·rfl
 ·rename_i t j lo len;split at h
  ·rename_i s rows ho;obtain⟨rfl,hle⟩:=h;exact⟨rows,ho,hle,rfl⟩
  ·exact h.elim
 ·exact h.elim
def evS(P:Program)(σ:St)(o:Oper)(d:Nat):Prop×St:=
 match o.op with
 |.alloc T=>(match zk P 12 T with|some row=>(σ.fresh d=true/\YR P T=true,σ.new d (.one (.bptr d 0)) [.box row])|none=>(False,σ))
 |.box T x=>(σ.fresh d=true/\gOf (look P σ T x)=true/\(unc (look P σ T x)).flat=true/\Zd d (unc (look P σ T x)).cells=false,σ.new d (.one (.bptr d 0)) [.box (unc (look P σ T x)).cells])
 |.buildSlice T n parts=>((σ.fresh d=true/\Zy P T=true/\YR P (ZD P T)=true/\0<P.cellsOf (ZD P T)/\parts.toList.length=n/\n*P.cellsOf (ZD P T)<=16777216)/\(KV P σ (ZD P T) (P.cellsOf (ZD P T)) parts.toList 0).1,
   σ.new d (.one (.sref d 0 0 (KV P σ (ZD P T) (P.cellsOf (ZD P T)) parts.toList 0).2.length)) [.arr false (P.cellsOf (ZD P T)) (KV P σ (ZD P T) (P.cellsOf (ZD P T)) parts.toList 0).2])
 |.makeSlice T x y=>(match zk P 12 (ZD P T)with
   |some z=>(match zD z with
    |some zr=>((x=y/\σ.fresh d=true/\Zy P T=true/\YR P (ZD P T)=true/\0<P.cellsOf (ZD P T)/\(lkI P σ x).1)/\0<=(lkI P σ x).2/\P.bytesOf (ZD P T)*(lkI P σ x).2.toNat<=281474976710656/\(lkI P σ x).2<=9223372036854775807,
      σ.new d (.one (.sref d 0 0 (lkI P σ x).2.toNat)) [.arr false (P.cellsOf (ZD P T)) (List.replicate (lkI P σ x).2.toNat zr)])
    |none=>(False,σ))
   |none=>(False,σ))
 |.call ⟨.builtin .append,⟨[x,y]⟩,⟨[t,t']⟩⟩=>
   (((t=t'/\gOf (look P σ t x)=true/\gOf (look P σ t y)=true/\Zy P t=true/\YR P (ZD P t)=true/\0<P.cellsOf (ZD P t))/\(qZ σ (unc (look P σ t x)) (P.cellsOf (ZD P t))).1/\(Wu σ (unc (look P σ t y)) (P.cellsOf (ZD P t))).1/\(qZ σ (unc (look P σ t x)) (P.cellsOf (ZD P t))).2.2.fresh d=true)/\
    ((qZ σ (unc (look P σ t x)) (P.cellsOf (ZD P t))).2.1.length+(Wu σ (unc (look P σ t y)) (P.cellsOf (ZD P t))).2.length)*P.bytesOf (ZD P t)<=140737488355328/\
    (qZ σ (unc (look P σ t x)) (P.cellsOf (ZD P t))).2.1.length+(Wu σ (unc (look P σ t y)) (P.cellsOf (ZD P t))).2.length<=9223372036854775807,
   (qZ σ (unc (look P σ t x)) (P.cellsOf (ZD P t))).2.2.new d (.one (.sref d 0 0 ((qZ σ (unc (look P σ t x)) (P.cellsOf (ZD P t))).2.1.length+(Wu σ (unc (look P σ t y)) (P.cellsOf (ZD P t))).2.length)))
    [.arr false (P.cellsOf (ZD P t)) ((qZ σ (unc (look P σ t x)) (P.cellsOf (ZD P t))).2.1++(Wu σ (unc (look P σ t y)) (P.cellsOf (ZD P t))).2)])
 |op=>((evV P σ op o.type).1,σ.put d (evV P σ op o.type).2)
def PZ(P:Program)(σ:St)(T:TypeId)(x y:Operand):Prop×St:=
 match unc (look P σ 0 x)with
 |.one (.bptr t c)=>(match σ.ob t 0 with
  |.box cells=>(Kk P T=true/\gOf (look P σ 0 x)=true/\gOf (look P σ T y)=true/\(unc (look P σ T y)).flat=true/\(unc (look P σ T y)).cells.length=P.cellsOf T/\c+P.cellsOf T<=cells.length,σ.ZT t 0 (.box (place cells c (unc (look P σ T y)).cells)))
  |_=>(False,σ))
 |.one (.ptr t j i c)=>(match σ.ob t j with
  |.arr q size rows=>((Kk P T=true/\gOf (look P σ 0 x)=true/\gOf (look P σ T y)=true/\(unc (look P σ T y)).flat=true/\(rowOf σ (unc (look P σ T y)).cells).isSome=true/\X9 (unc (look P σ T y)).cells=true/\((rowOf σ (unc (look P σ T y)).cells).getD []).length=P.cellsOf T/\c+P.cellsOf T<=size)/\i<rows.length/\(q=true->((rowOf σ (unc (look P σ T y)).cells).getD []).all D.scalar=true/\(cut (rowAt rows i) c (P.cellsOf T)).all D.scalar=true),
    σ.ZT t j (.arr q size (rows.set i (place (rowAt rows i) c ((rowOf σ (unc (look P σ T y)).cells).getD [])))))
  |_=>(False,σ))
 |_=>(False,σ)
theorem LS(tb:∀c,o.op= .call c->∀f,c.callee≠ .value (.func f))(hc:(evS P σ o d).1):Step P o d σ (evS P σ o d).2:=by
 unfold evS at hc⊢;split at hc
 ·rename_i T wA;unfold Step;rw[wA];split at hc
  ·rename_i row wg;simp only[wg];exact⟨hc.1,hc.2,row,rfl,rfl⟩
  ·exact hc.elim
 ·rename_i T x wA;unfold Step;rw[wA];exact⟨hc.1,hc.2.1,hc.2.2.1,hc.2.2.2,rfl⟩
 ·rename_i T n parts wA;unfold Step;rw[wA];obtain⟨⟨h1,h2,h3,h4,h5,h6⟩,h7⟩:=hc;exact .inl ⟨h1,h2,h3,h4,h5,h6,.inl ⟨_,Vk h7,rfl⟩⟩
 ·rename_i T x y wA;unfold Step;rw[wA];split at hc
  ·rename_i z hz;split at hc
   ·rename_i zr uG;obtain⟨⟨h1,h2,h3,h4,h5,h6⟩,h7,h8,h9⟩:=hc;have hl:=zt h6
    simp only[hz];refine⟨h1,h2,h3,h4,h5,false,z,zr,lkK P σ x,(lkI P σ x).2.toNat,(fun hh=>by cases hh),rfl,uG,?_,h8,fJ,rfl⟩;rw[Int.toNat_of_nonneg h7];exact hl
   ·exact hc.elim
  ·exact hc.elim
 ·rename_i x y t t' wA;unfold Step;rw[wA];obtain⟨⟨⟨rfl,h1,h2,h3,h4,h5⟩,h6,h7,h8⟩,h9,pH⟩:=hc;exact⟨x,y,t,rfl,rfl,h1,h2,h3,h4,h5,_,_,_,LG h6,Lh h7,h8,h9,pH,rfl⟩
 ·rename_i op h1 h2 h3 h4 h5;have hv:=NM hc
  unfold Step;split
  ·rename_i T wA;exact absurd wA (h1 T)
  ·rename_i T x wA;exact absurd wA (h2 T x)
  ·rename_i T n ps wA;exact absurd wA (h3 T n ps)
  ·rename_i T x y wA;exact absurd wA (h4 T x y)
  ·rename_i c wA;split
   ·rename_i uk;rw[wA]at hv;simp only[Zj]at hv;split at hv
    ·rename_i tv _ _;rw[uk]at tv;cases tv
    ·rename_i tv _;rw[uk]at tv;cases tv
    ·rename_i tv _;rw[uk]at tv;cases tv
    ·exact hv.elim
   ·rename_i f uk;exact absurd uk (tb c wA f)
   ·exact⟨_,hv,rfl⟩
  ·exact .inl ⟨_,hv,rfl⟩
  ·exact⟨_,hv,rfl⟩
theorem Is{T:TypeId}(hc:(PZ P σ T x y).1):Jh P σ T x y (PZ P σ T x y).2:=by
 unfold PZ at hc⊢;unfold Jh;split at hc
 ·rename_i t c hx;split at hc
  ·rename_i cells ho;obtain⟨h1,h2,h3,h4,h5,h6⟩:=hc;first|(rw[hx];simp only[ho])|simp only[ho]
   exact⟨h1,h2,h3,h4,cells,rfl,h5,h6,rfl⟩
  ·exact hc.elim
 ·rename_i t j i c hx;split at hc
  ·rename_i q size rows ho;obtain⟨⟨h1,h2,h3,h4,h5,h6,h7,h8⟩,h9,pH⟩:=hc;obtain⟨ds,sb⟩:=Option.isSome_iff_exists.1 h5;first|(rw[hx];simp only[ho])|simp only[ho]
   refine⟨h1,h2,h3,h4,q,size,rows,ds,rfl,h9,sb,h6,?_,h8,fun hq=>?_,?_⟩
   ·rw[sb]at h7;exact h7
   ·have:=pH hq;rw[sb]at this;exact this
   ·rw[sb];rfl
  ·exact hc.elim
 ·exact hc.elim
def Nk:List At->Bool
 |[]=>false
 |.nil _::_=>true
 |_::xs=>Nk xs
def MB(P:Program)(T:TypeId):Bool:=match zk P 12 (ZD P T)with|some z=>Nk z|none=>false
def PC:List At->Bool
 |[]=>true
 |.d (.sl _ _)::_=>false
 |.d _::xs=>PC xs
 |_=>false
def HS(P:Program)(σ:St)(T:TypeId)(x y:Operand):Bool:=
 match unc (look P σ 0 x)with
 |.one (.ptr t j _ _)=>(match σ.ob t j with|.arr true _ _=>!PC (unc (look P σ T y)).cells|_=>false)
 |.one (.tref _ _ _ _ (some _))=>true
 |_=>false
def stops(P:Program)(bar:Oper->Bool)(o:Oper):Bool:=
 match o.op with
 |.call ⟨.value _,_,_⟩=>true
 |.call ⟨.builtin .append,_,⟨t::_⟩⟩=>MB P t
 |.buildSlice T _ _=>MB P T||H9 bar o
 |.makeSlice T _ _=>MB P T
 |.makeFunc _ _ _=>true
 |.convert _ T _=>(Nl P T).isNone
 |.indexAddr _ _ _=>o.guard.isSome
 |.index _ _ _=>o.guard.isSome
 |.slice _ _ _ _ _=>o.guard.isSome
 |_=>false
def Ks(P:Program)(ops:Array Oper)(bar:Oper->Bool)(o:Oper)(rest:List Oper)(σ:St)(Q:St->Prop):Prop:=∃σ',X1 P ops bar o σ σ'/\RV P ops bar rest σ' Q
def Ev(P:Program)(ops:Array Oper)(bar:Oper->Bool):List Oper->St->(St->Prop)->Prop
 |[],σ,Q=>Q σ
 |o::rest,σ,Q=>
  if stops P bar o then Ks P ops bar o rest σ Q else
  match o.guard with
  |none=>
   (match o.dst with
   |some d=>(evS P σ o d).1/\Ev P ops bar rest (evS P σ o d).2 Q
   |none=>(match o.op with|.store T x y=>if HS P σ T x y then Ks P ops bar o rest σ Q else(PZ P σ T x y).1/\Ev P ops bar rest (PZ P σ T x y).2 Q|_=>False))
  |some (j,want)=>
   (match(ops[j]?).bind (·.dst),o.dst with
   |some dj,some d=>(match zE want (σ.get dj)with
    |some g=>(dj<σ.length/\(g=true->(evV P σ o.op o.type).1/\gOf (evV P σ o.op o.type).2=true/\(unc (evV P σ o.op o.type).2).flat=true))/\Ev P ops bar rest (σ.put d (.cnd g (unc (evV P σ o.op o.type).2))) Q
    |none=>False)
   |_,_=>False)
theorem XI{P:Program}{ops:Array Oper}{bar:Oper->Bool}:∀{l:List Oper}{σ:St}{Q:St->Prop},Ev P ops bar l σ Q->RV P ops bar l σ Q
 |[],_,_,h=>h
 |o::rest,σ,Q,h=>by
  unfold Ev at h;split at h
  ·exact h
  ·rename_i wY;have tb:∀c,o.op= .call c->∀f,c.callee≠ .value (.func f):=by intro c wA f uk;obtain⟨cc,ca,ct⟩:=c;simp only at uk;subst uk;exact wY (by simp[stops,wA])
   split at h
   ·rename_i hg;split at h
    ·rename_i d hd;refine⟨_,.inl ?_,XI h.2⟩;unfold Z1;simp only[hg,hd];exact LS tb h.1
    ·rename_i hd;split at h
     ·rename_i T x y wA;split at h
      ·exact h
      ·refine⟨_,.inl ?_,XI h.2⟩;unfold Z1;simp only[hg,hd,wA];exact Is h.1
     ·exact h.elim
   ·rename_i j want hg;split at h
    ·rename_i dj d vk hd;split at h
     ·rename_i g vz;refine⟨_,.inl ?_,XI h.2⟩;unfold Z1;simp only[hg];refine⟨dj,d,g,_,vk,h.1.1,hd,vz,fun rn=>?_,rfl⟩;obtain⟨h1,h2,h3⟩:=h.1.2 rn;have base:∃v0,Zj P σ o.op o.type v0/\gOf v0=true/\unc (evV P σ o.op o.type).2=unc v0/\(unc (evV P σ o.op o.type).2).flat=true:=⟨_,NM h1,h2,rfl,h3⟩
      unfold VK;split
      ·rename_i c wA;split
       ·rename_i f uk;exact absurd uk (tb c wA f)
       ·exact base
      ·exact base
     ·exact h.elim
    ·exact h.elim
theorem Hi{Q:Exit->St->Prop}{l:List Oper}(h:Ev P l.toArray bar l σ (Q .normal)):AWP P (.region id l.toArray false) Q σ:=NV (XI h)
theorem Om{c:Call}{own:Bool}(wA:o.op= .call c)(hc:c.callee= .value (.func f))(hg:o.guard=none)(hd:o.dst=some d)
  (wH:Yq P σ c.args.toList c.argTypes.toList rows) (hs:Y0 P f own rows res) (wY:Zl P σ c.args.toList c.argTypes.toList=true\/X4 own res) (h:Ev P ops bar rest (σ.put d (Ki res)) Q):Ks P ops bar o rest σ Q:=by
 refine⟨_,.inl ?_,XI h⟩;unfold Z1;simp only[hg,hd];unfold Step;rw[wA];simp only[hc];exact .inl ⟨own,res,⟨rows,wH,hs,wY⟩,rfl⟩
theorem RW{c:Call}(wA:o.op= .call c)(hc:c.callee= .value (.func f))(hg:o.guard=none)(hd:o.dst=some d)
  (wH:Yq P σ c.args.toList c.argTypes.toList rows) (hs:Y0 P f true rows res) (wY:Zl P σ c.args.toList c.argTypes.toList=true\/X4 true res) (hf:σ.fresh d=true) (h:Ev P ops bar rest (σ.new d (Kp d res) (JV res.flatten)) Q):Ks P ops bar o rest σ Q:=by
 refine⟨_,.inl ?_,XI h⟩;unfold Z1;simp only[hg,hd];unfold Step;rw[wA];simp only[hc];exact .inr (.inl ⟨res,⟨rows,wH,hs,wY⟩,hf,rfl⟩)
theorem Nf{c:Call}{own:Bool}{res:List D}(wA:o.op= .call c)(hc:c.callee= .value (.func f))(hg:o.guard=some (j,want))(hd:o.dst=some d)
  (vk:(ops[j]?).bind (·.dst)=some dj) (wO:dj<σ.length) (vz:zE want (σ.get dj)=some g)
  (wH:g=true->Yq P σ c.args.toList c.argTypes.toList rows) (hs:g=true->Y0 P f own rows [res]) (wY:Zl P σ c.args.toList c.argTypes.toList=true\/X4 own [res]) (h:Ev P ops bar rest (σ.put d (.cnd g (Ki [res]))) Q):Ks P ops bar o rest σ Q:=by
 refine⟨_,.inl ?_,XI h⟩;unfold Z1;simp only[hg];refine⟨dj,d,g,_,vk,wO,hd,vz,fun rn=>?_,rfl⟩;unfold VK;rw[wA];simp only[hc];exact⟨own,res,⟨rows,wH rn,hs rn,wY⟩,rfl⟩
theorem Rm{S T:TypeId}(wA:o.op= .convert S T x)(hg:o.guard=none)(hd:o.dst=some d)
  (h1:gOf (look P σ S x)=true) (h2:qF P S=true) (h3:WX P T=true) (h4:unc (look P σ S x)= .one (.d (.str s))) (h5:s.size<=9223372036854775807) (h:Ev P ops bar rest (σ.put d (.one (.d (.sl 1 (QG s.data.toList))))) Q):Ks P ops bar o rest σ Q:=by
 refine⟨_,.inl ?_,XI h⟩;unfold Z1;simp only[hg,hd];unfold Step;rw[wA];exact .inr (.inr ⟨s,h1,h2,h3,h4,h5,rfl⟩)
theorem Ib(tb:∀c,o.op= .call c->∀f,c.callee≠ .value (.func f))(hg:o.guard=none)(hd:o.dst=some d)
  (h1:(evS P σ o d).1) (h:Ev P ops bar rest (evS P σ o d).2 Q):Ks P ops bar o rest σ Q:=by
 refine⟨_,.inl ?_,XI h⟩;unfold Z1;simp only[hg,hd];exact LS tb h1
theorem O6{c:Call}(qs:List Bool)(wA:o.op= .call c)(hc:c.callee= .value (.func f))(hg:o.guard=none)(hd:o.dst=some d)
  (wH:Yq P σ c.args.toList c.argTypes.toList rows) (hs:Zp P f rows res) (hq:zC qs res.flatten) (hf:σ.fresh d=true) (h:Ev P ops bar rest (σ.new d (Kp d res) (Zr qs res.flatten)) Q):Ks P ops bar o rest σ Q:=by
 refine⟨_,.inl ?_,XI h⟩;unfold Z1;simp only[hg,hd];unfold Step;rw[wA];simp only[hc];exact .inr (.inr ⟨rows,res,qs,wH,hs,hq,hf,rfl⟩)
def X5(P:Program)(σ:St)(T:TypeId)(size:Nat):List (Nat×Operand)->Nat->Prop×List (List At)
 |[],_=>(True,[])
 |(i,x)::ps,k=>((i=k/\gOf (look P σ T x)=true/\(unc (look P σ T x)).flat=true/\(unc (look P σ T x)).cells.length=size)/\(X5 P σ T size ps (k+1)).1,(unc (look P σ T x)).cells::(X5 P σ T size ps (k+1)).2)
theorem U5{P:Program}{σ:St}{T:TypeId}{size:Nat}:∀{ps:List (Nat×Operand)}{k:Nat},(X5 P σ T size ps k).1->Wq P σ T size ps k (X5 P σ T size ps k).2
 |[],_,_=>rfl
 |(_,x)::_,_,h=>by obtain⟨⟨h1,h2,h3,h4⟩,h7⟩:=h;exact⟨h1,h2,h3,h4,_,U5 h7,rfl⟩
theorem LV{T:TypeId}(wA:o.op= .buildSlice T n parts)(hg:o.guard=none)(hd:o.dst=some d)
  (h1:σ.fresh d=true/\Zy P T=true/\YR P (ZD P T)=true/\0<P.cellsOf (ZD P T)/\parts.toList.length=n/\n*P.cellsOf (ZD P T)<=16777216) (h2:(X5 P σ (ZD P T) (P.cellsOf (ZD P T)) parts.toList 0).1)
  (h3:Zd d (X5 P σ (ZD P T) (P.cellsOf (ZD P T)) parts.toList 0).2.flatten=false)
  (h:Ev P ops bar rest (σ.new d (.one (.sref d 0 0 (X5 P σ (ZD P T) (P.cellsOf (ZD P T)) parts.toList 0).2.length)) [.lit (P.cellsOf (ZD P T)) (X5 P σ (ZD P T) (P.cellsOf (ZD P T)) parts.toList 0).2]) Q):Ks P ops bar o rest σ Q:=by
 refine⟨_,.inl ?_,XI h⟩;unfold Z1;simp only[hg,hd];unfold Step;rw[wA];exact .inl ⟨h1.1,h1.2.1,h1.2.2.1,h1.2.2.2.1,h1.2.2.2.2.1,h1.2.2.2.2.2,.inr ⟨_,U5 h2,h3,rfl⟩⟩
theorem Li{T:TypeId}(wA:o.op= .buildSlice T n parts)(hg:o.guard=none)(hd:o.dst=some d)
  (h1:Zy P T=true/\YR P (ZD P T)=true/\0<P.cellsOf (ZD P T)/\parts.toList.length=n/\n*P.cellsOf (ZD P T)<=16777216) (h2:(KV P σ (ZD P T) (P.cellsOf (ZD P T)) parts.toList 0).1)
  (h:Ev P ops bar rest (σ.put d (.one (.d (.sl (P.cellsOf (ZD P T)) (KV P σ (ZD P T) (P.cellsOf (ZD P T)) parts.toList 0).2)))) Q):Ks P ops bar o rest σ Q:=by
 refine⟨_,.inl ?_,XI h⟩;unfold Z1;simp only[hg,hd];unfold Step;rw[wA];exact .inr ⟨h1,_,Vk h2,rfl⟩
def yy(σ:St)(x:V)(size:Nat):Prop×List (List D)×List (Nat×Nat):=
 match x with
 |.one (.nil _)=>(True,[],[])
 |.one (.sref t j lo len)=>(match σ.ob t j with|.arr true s wD=>(s=size/\lo=0/\len=wD.length,wD,[(t,j)])|_=>(False,[],[]))
 |_=>(False,[],[])
theorem MM{x:V}(h:(yy σ x size).1):Mg σ x size (yy σ x size).2.1 (yy σ x size).2.2:=by
 unfold yy at h⊢;split at h
 ·exact⟨rfl,rfl⟩
 ·rename_i t j lo len;split at h
  ·rename_i s wD ho;obtain⟨rfl,rfl,rfl⟩:=h;exact⟨ho,rfl,rfl,rfl⟩
  ·exact h.elim
 ·exact h.elim
def KT(σ:St)(x:V)(size:Nat):Prop×List (List D)×List (Nat×Nat):=
 match x with
 |.one (.sref t j lo len)=>(match σ.ob t j with|.lit s rows=>((s=size/\lo=0/\len=rows.length)/\(Xn σ rows).isSome=true/\XU σ rows,(Xn σ rows).getD [],YF rows.flatten)|_=>(False,[],[]))
 |_=>(False,[],[])
theorem S7{x:V}(h:(KT σ x size).1):Ph σ x size (KT σ x size).2.1 (KT σ x size).2.2:=by
 unfold KT at h⊢;split at h
 ·rename_i t j lo len;split at h
  ·rename_i s rows ho;obtain⟨⟨rfl,rfl,rfl⟩,h1,h2⟩:=h;obtain⟨ns,tb⟩:=Option.isSome_iff_exists.1 h1;exact⟨rows,ho,rfl,rfl,by rw[tb];rfl,h2,rfl⟩
  ·exact h.elim
 ·exact h.elim
theorem K5:∀(σ:St)(d:Nat)(v:V)(t:Nat),(σ.put d v)[t]?=if t=d then(σ[t]?).map (fun e=>(v,e.2))else σ[t]?
 |[],_,_,_=>by simp[St.put]
 |e::σ,0,v,t=>by cases t<;>simp[St.put]
 |e::σ,d+1,v,t=>by
  cases t with
  |zero=>simp[St.put]
  |succ t=>have:=K5 σ d v t;simpa[St.put]using this
theorem JB:∀(σ:St)(d:Nat)(v:V)(os:List Ob)(t:Nat),(σ.new d v os)[t]?=if t=d then(σ[t]?).map (fun _=>(v,os))else σ[t]?
 |[],_,_,_,_=>by simp[St.new]
 |e::σ,0,v,os,t=>by cases t<;>simp[St.new]
 |e::σ,d+1,v,os,t=>by
  cases t with
  |zero=>simp[St.new]
  |succ t=>have:=JB σ d v os t;simpa[St.new]using this
theorem Yn:∀(σ:St)(a j:Nat)(o:Ob)(t:Nat),(σ.ZT a j o)[t]?=if t=a then(σ[t]?).map (fun e=>(e.1,e.2.set j o))else σ[t]?
 |[],_,_,_,_=>by simp[St.ZT]
 |e::σ,0,j,o,t=>by cases t<;>simp[St.ZT]
 |e::σ,a+1,j,o,t=>by
  cases t with
  |zero=>simp[St.ZT]
  |succ t=>have:=Yn σ a j o t;simpa[St.ZT]using this
theorem JJ:YG σ d=true↔σ[d]?=some (.any,[])\/∃x,σ[d]?=some (.one (.d x),[]):=by
 unfold YG;constructor
 ·intro h;split at h
  ·rename_i h1;exact .inl h1
  ·rename_i x h1;exact .inr ⟨x,h1⟩
  ·cases h
 ·rintro(h|⟨x,h⟩)<;>rw[h]
theorem XV{a:Nat}{o:Ob}(h:YG σ d=true):YG (σ.ZT a j o) d=true:=by
 rw[JJ]at*;rw[Yn];rcases h with h|⟨x,h⟩
 ·left;rw[h];split<;>rfl
 ·right;refine⟨x,?_⟩;rw[h];split<;>rfl
theorem QQ:∀{l:List (Nat×Nat)}{σ:St}{d:Nat},YG σ d=true->YG (σ.ZV l) d=true
 |[],_,_,h=>h
 |p::l,σ,d,h=>by rw[St.ZV];exact QQ (l:=l) (XV h)
theorem xe(wC:d≠d')(h:YG σ d=true):YG (σ.new d' v os) d=true:=by unfold YG at*;simp only[JB,if_neg wC];exact h
theorem Z5{T:TypeId}(h:JH d x=false):look P (σ.put d v) T x=look P σ T x:=by
 cases x with
 |tmp t=>
  have wC:t≠d:=fun e=>by subst e;simp[JH]at h
  simp[look,St.Xm,wC]
 |const c=>rfl
 |global g=>rfl
 |func f=>rfl
theorem JL:∀(σ:St)(d:Nat)(v:V)(t j:Nat)(o:Ob),(σ.put d v).ZT t j o=(σ.ZT t j o).put d v
 |[],_,_,_,_,_=>rfl
 |e::σ,0,v,0,j,o=>rfl
 |e::σ,d+1,v,0,j,o=>rfl
 |e::σ,0,v,t+1,j,o=>rfl
 |e::σ,d+1,v,t+1,j,o=>by simp[St.put,St.ZT,JL σ d v t j o]
theorem y7{d:Nat}{v:V}:∀(l:List (Nat×Nat))(σ:St),(σ.put d v).ZV l=(σ.ZV l).put d v
 |[],_=>rfl
 |p::l,σ=>by rw[St.ZV,St.ZV,JL,y7 l]
theorem VE{σ:St}{d:Nat}{v:V}:∀(xs:List At),QD (σ.put d v) xs=QD σ xs
 |[]=>rfl
 |x::xs=>by
  have:mvD (σ.put d v) x=mvD σ x:=by cases x<;>simp[mvD,St.YV]
  simp only[QD,this,VE xs]
theorem qj{σ:St}{d:Nat}{v:V}:∀(xs:List At),XO (σ.put d v) xs=XO σ xs
 |[]=>rfl
 |x::xs=>by
  have:SL (σ.put d v) x=SL σ x:=by cases x<;>simp[SL,St.YV]
  simp only[XO,this,qj xs]
theorem Wp:∀(l:List (Nat×V))(σ:St),(σ.XK l).ob=σ.ob
 |[],_=>rfl
 |p::l,σ=>by rw[St.XK,Wp l,St.YV]
theorem xw{P:Program}{T:TypeId}{x:Operand}:∀(l:List (Nat×V))(σ:St),(∀p∈l,JH p.1 x=false)->look P (σ.XK l) T x=look P σ T x
 |[],_,_=>rfl
 |p::l,σ,h=>by rw[St.XK,xw l _ (fun q hq=>h q (by simp[hq])),Z5 (h p fM)]
theorem qJ{t j:Nat}{o:Ob}:∀(l:List (Nat×V))(σ:St),(σ.XK l).ZT t j o=(σ.ZT t j o).XK l
 |[],_=>rfl
 |p::l,σ=>by rw[St.XK,qJ l,JL,St.XK]
theorem Q0{L:List (Nat×Nat)}:∀(l:List (Nat×V))(σ:St),(σ.XK l).ZV L=(σ.ZV L).XK l
 |[],_=>rfl
 |p::l,σ=>by rw[St.XK,Q0 l,y7,St.XK]
theorem ME:∀{σ:St}{t d:Nat}{v v':V}{os:List Ob},t≠d->(σ.put t v').new d v os=(σ.new d v os).put t v'
 |[],_,_,_,_,_,_=>rfl
 |e::σ,0,0,_,_,_,h=>absurd rfl h
 |e::σ,0,d+1,_,_,_,_=>rfl
 |e::σ,t+1,0,_,_,_,_=>rfl
 |e::σ,t+1,d+1,v,v',os,h=>by simp[St.put,St.new,ME (σ:=σ) (v:=v) (v':=v') (os:=os) (fun hh=>h (congrArg (·+1) hh))]
theorem Pk{d:Nat}{v:V}{os:List Ob}:∀(l:List (Nat×V))(σ:St),(∀p∈l,p.1≠d)->(σ.XK l).new d v os=(σ.new d v os).XK l
 |[],_,_=>rfl
 |p::l,σ,h=>by rw[St.XK,Pk l _ (fun q hq=>h q (by simp[hq])),ME (h p fM),St.XK]
theorem kK{d:Nat}{v:V}(hv:v.ref d=false):∀{σ:St}{k t:Nat},Qo d k σ=true->Qo d k (σ.put t v)=true
 |[],_,_,h=>h
 |e::σ,k,0,h=>by simp only[Qo,St.put,Bool.and_eq_true,Bool.or_eq_true,Bool.not_eq_true']at h⊢;exact⟨h.1.imp id (fun hh=>⟨hv,hh.2⟩),h.2⟩
 |e::σ,k,t+1,h=>by simp only[Qo,St.put,Bool.and_eq_true]at h⊢;exact⟨h.1,kK hv h.2⟩
theorem ke{d:Nat}:∀(l:List (Nat×V)){σ:St},(∀p∈l,p.2.ref d=false)->σ.fresh d=true->(σ.XK l).fresh d=true
 |[],_,_,h=>h
 |p::l,σ,hl,h=>by refine ke l (fun q hq=>hl q (by simp[hq])) ?_;simp only[St.fresh,Bool.and_eq_true,decide_eq_true_eq,St.YY]at h⊢;exact⟨h.1,kK (hl p fM) h.2⟩
theorem jj{t:TypeId}(wA:o.op= .call ⟨.builtin .append,#[x,y],#[t,t]⟩)(h:Ws o n=true):JH n x=false/\JH n y=false:=by
 have hx:x∈o.op.operands.toList:=by rw[wA];simp[Op.operands,Call.operands]
 have hy:y∈o.op.operands.toList:=by rw[wA];simp[Op.operands,Call.operands]
 simp only[Ws,Bool.not_eq_true']at h;exact⟨Bool.eq_false_iff.2 (List.any_eq_false.1 h x hx),Bool.eq_false_iff.2 (List.any_eq_false.1 h y hy)⟩
theorem P6{σ σ':St}(h:σ'.ob=σ.ob):∀(xs:List At),QD σ' xs=QD σ xs
 |[]=>rfl
 |x::xs=>by
  have:mvD σ' x=mvD σ x:=by cases x<;>simp[mvD,h]
  simp only[QD,this,P6 h xs]
theorem TH{σ σ':St}(h:σ'.ob=σ.ob):∀(xs:List At),XO σ' xs=XO σ xs
 |[]=>rfl
 |x::xs=>by
  have:SL σ' x=SL σ x:=by cases x<;>simp[SL,h]
  simp only[XO,this,TH h xs]
theorem RG{σ σ':St}(h:σ'.ob=σ.ob):∀(xs:List (List At)),Xn σ' xs=Xn σ xs
 |[]=>rfl
 |x::xs=>by simp only[Xn,P6 h,RG h xs]
theorem UC{σ σ':St}(h:σ'.ob=σ.ob):∀(xs:List (List At)),XU σ' xs=XU σ xs
 |[]=>rfl
 |x::xs=>by simp only[XU,TH h,UC h xs]
theorem I0(h:σ'.ob=σ.ob){x:V}(hd:Mg σ x size wD l):Mg σ' x size wD l:=by unfold Mg at*;rw[h];exact hd
theorem Nu(h:σ'.ob=σ.ob){x:V}(hd:Ph σ x size news l):Ph σ' x size news l:=by unfold Ph at*;simp only[h,RG h,UC h];exact hd
theorem RC{d:Nat}:∀{os:List Ob}{j:Nat}{cells:List At},Zu d os=false->Zq os j= .box cells->Zd d cells=false
 |[],j,cells,_,h=>by simp[Zq]at h
 |o::os,0,cells,hr,h=>by simp only[Zq,List.getElem?_cons_zero]at h;subst h;simp only[Zu,Bool.or_eq_false_iff]at hr;exact hr.1
 |o::os,j+1,cells,hr,h=>by have h':Zq os j= .box cells:=ec;refine RC (os:=os) (j:=j) ?_ h';cases o<;>simp only[Zu,Bool.or_eq_false_iff]at hr<;>first|exact hr.2|exact hr
theorem OV{X:St}(hd:o.dst=some d)(hlen:X.length=σ.length)(vD:∀t,X.get t=σ.get t)(uB:∀t j cells,X.ob t j= .box cells->σ.ob t j= .box cells)
  (vQ:∀t j q s rows,X.ob t j= .arr q s rows->∃wQ,σ.ob t j= .arr q s wQ) (hf:X.fresh d=true)
  (hs:∀l:List (Nat×V),(∀p∈l,p.1≠d/\Ws o p.1=true/\p.2.ref d=false)->qv P ops o (σ.XK l) ((X.XK l).new d v os)) (hc:∀l:List (Nat×V),kp o (σ.XK l) ((X.XK l).new d v os)):H4 P ops o σ (X.new d v os):=by
 have wO:=St.JG hf;have nI:∀t e,X[t]?=some e->t≠d->e.1.ref d=false/\Zu d e.2=false:=fun t e he wC=>by have h1:=hf;simp only[St.fresh,Bool.and_eq_true]at h1;exact JS h1.2 t e he fJ
 refine⟨d,hd,by rw[St.yj,hlen],fun t wC=>?_,fun t j cells wC hb=>?_,fun t j q s rows wC hb=>?_,fun l hl=>?_⟩
 ·rw[St.y6,if_neg (fun hh=>wC hh.1),vD];refine⟨rfl,?_⟩;rw[<-vD];unfold St.get;cases he:X[t]? with
  |none=>rfl
  |some e=>exact(nI t e he wC).1
 ·rw[St.Xj,if_neg (fun hh=>wC hh.1)]at hb;refine⟨uB t j cells hb,?_⟩;unfold St.ob at hb;cases he:X[t]? with
  |none=>rw[he]at hb;cases hb
  |some e=>rw[he]at hb;exact RC (nI t e he wC).2 hb
 ·rw[St.Xj,if_neg (fun hh=>wC hh.1)]at hb;exact vQ t j q s rows hb
 ·have e:=Pk (d:=d) (v:=v) (os:=os) l X (fun p hp=>(hl p hp).1);rw[<-e];exact⟨hs l hl,hc l⟩
theorem Pl{cells:List At}(h:(σ.ZV L).ob t j= .box cells):σ.ob t j= .box cells:=by
 rw[St.Xg]at h;split at h
 ·cases h
 ·exact h
theorem Od{s:Nat}(h:(σ.ZV L).ob t j= .arr q s rows):σ.ob t j= .arr q s rows:=by
 rw[St.Xg]at h;split at h
 ·cases h
 ·exact h
theorem LN{t:TypeId}(wA:o.op= .call ⟨.builtin .append,#[x,y],#[t,t]⟩)(hg:o.guard=none)(hd:o.dst=some d)(wu:bar o=true)
  (vK:size=P.cellsOf (ZD P t)) (h1:gOf (look P σ t x)=true/\gOf (look P σ t y)=true/\Zy P t=true/\YR P (ZD P t)=true/\0<P.cellsOf (ZD P t))
  (h2:(yy σ (unc (look P σ t x)) size).1/\(yy σ (unc (look P σ t x)) size).2=(wD,l1)) (h3:(KT σ (unc (look P σ t y)) size).1/\(KT σ (unc (look P σ t y)) size).2=(news,l2))
  (h4:(l1++l2).Nodup/\(σ.ZV (l1++l2)).fresh d=true) (h5:(wD.length+news.length)*P.bytesOf (ZD P t)<=140737488355328/\wD.length+news.length<=9223372036854775807)
  (h:Ev P ops bar rest ((σ.ZV (l1++l2)).new d (.one (.sref d 0 0 (wD.length+news.length))) [.arr true size (wD++news)]) Q):Ks P ops bar o rest σ Q:=by
 subst vK;have e1:=MM h2.1
 have e2:=S7 h3.1;rw[h2.2]at e1;rw[h3.2]at e2;have cl:∀σ0:St,kp o σ0 ((σ0.ZV (l1++l2)).new d (.one (.sref d 0 0 (wD.length+news.length))) [.arr true (P.cellsOf (ZD P t)) (wD++news)]):=fun σ0 d' wL hc=>xe (fun e=>wL (by rw[hd,e])) (QQ hc);have go:∀l:List (Nat×V),(∀p∈l,p.1≠d/\Ws o p.1=true/\p.2.ref d=false)->qv P ops o (σ.XK l) (((σ.XK l).ZV (l1++l2)).new d (.one (.sref d 0 0 (wD.length+news.length))) [.arr true (P.cellsOf (ZD P t)) (wD++news)]):=by
  rintro l hl T0 B a w K Q' ⟨X,hh,r⟩ hK;have hw:Region.wanted o (yielded ops a.tmps)=true:=eR
  rw[if_pos hw];have lx:look P (σ.XK l) t x=look P σ t x:=xw l σ (fun p hp=>(jj wA (hl p hp).2.1).1)
  have ly:look P (σ.XK l) t y=look P σ t y:=xw l σ (fun p hp=>(jj wA (hl p hp).2.1).2);refine T3 r wA hd (by rw[lx];exact h1.1) (by rw[ly];exact h1.2.1) h1.2.2.1 h1.2.2.2.1 h1.2.2.2.2 (by rw[lx];exact I0 (Wp l σ) e1) (by rw[ly];exact Nu (Wp l σ) e2) h4.1 ?_ h5.1 h5.2 hK;rw[Q0];exact ke l (fun p hp=>(hl p hp).2.2) h4.2
 have mj:qv P ops o σ ((σ.ZV (l1++l2)).new d (.one (.sref d 0 0 (wD.length+news.length))) [.arr true (P.cellsOf (ZD P t)) (wD++news)]):=go [] (fun p hp=>by cases hp);refine⟨_,.inr ⟨wu,mj,cl σ,fun hh=>by simp[xM,wA]at hh,fun _=>OV hd (St.Ja _ _) (fun t=>St.Kh _ _ t) (fun t j cells hb=>Pl hb) (fun t j q s rows hb=>⟨rows,Od hb⟩) h4.2 (fun l hl=>?_) (fun l=>?_),fun hh _=>by first|(simp[QJ,wA]at hh;done)|(unfold QJ at hh;rw[wA]at hh;split at hh<;>simp_all)⟩,XI h⟩
 ·rw[<-Q0];exact go l hl
 ·rw[<-Q0];exact cl _
theorem PU{f:At->Bool}{v:V}(hv:v.Je f=false):∀{σ:St}{d:Nat},σ.Je f=false->(σ.put d v).Je f=false
 |[],_,_=>rfl
 |e::σ,0,h=>by simp only[St.Je,Bool.or_eq_false_iff]at h;simp[St.put,St.Je,hv,h.1.2,h.2]
 |e::σ,d+1,h=>by simp only[St.Je,Bool.or_eq_false_iff]at h;simp[St.put,St.Je,h.1.1,h.1.2,PU hv h.2]
theorem Vq{σ:St}:∀{xs:List At}{ds:List D},QD σ xs=some ds->∀p∈YF xs,∃q s rows,σ.ob p.1 p.2= .arr q s rows
 |[],_,_,p,hp=>by cases hp
 |x::xs,ds,h,p,hp=>by
  simp only[QD]at h;split at h
  ·rename_i d sV h1 h2;have ih:=Vq h2
   cases x with
   |sref t j lo len=>
    simp only[YF,List.mem_cons]at hp;rcases hp with rfl|hp
    ·simp only[mvD]at h1;split at h1
     ·rename_i q s rows ho;exact⟨q,s,rows,ho⟩
     ·cases h1
    ·exact ih p hp
   |_=>exact ih p hp
  ·cases h
theorem Ma{t' wi:Nat}{q':Bool}{wQ:List (List D)}{cells:List At}{xs:List At}(hm:QD σ xs=some ds)(hL:YF xs=L)(ho:σ.ob t j= .arr q size rows)(hn:(t,j)∉L)(hb:σ.ob t' 0= .box cells):
  ((σ.ZV L).ZT t j (.arr q' wi wQ)).ob t' 0= .box cells:=by
 have h1:(σ.ZV L).ob t j≠ .none:=by rw[St.Xg,if_neg hn,ho];simp
 rw[St.YU _ t j _ t' 0 h1];split
 ·rename_i hc;rw[hc.1,hc.2,ho]at hb;cases hb
 ·rw[St.Xg];split
  ·rename_i hc;obtain⟨q,s,rows,he⟩:=Vq hm (t',0) (by rw[hL];exact hc);rw[he]at hb;cases hb
  ·exact hb
structure StM(P:Program)(σ:St)(T:TypeId)(x y:Operand)(t j i c size:Nat)(rows:List (List D))(ds:List D)(l:List (Nat×Nat)):Prop where
 hx:unc (look P σ 0 x)= .one (.ptr t j i c)
 ho:σ.ob t j= .arr true size rows
 hi:i<rows.length
 h1:Kk P T=true/\gOf (look P σ 0 x)=true/\gOf (look P σ T y)=true/\(unc (look P σ T y)).flat=true
 h2:QD σ (unc (look P σ T y)).cells=some ds
 h3:XO σ (unc (look P σ T y)).cells
 h4:YF (unc (look P σ T y)).cells=l
 h5:l.Nodup/\(t,j)∉l/\(σ.ZV l).Je (At.isT t)=false
 h6:ds.length=P.cellsOf T/\c+P.cellsOf T<=size
theorem StM.XK{P:Program}{o:Oper}{T:TypeId}{x y:Operand}(wA:o.op= .store T x y){t j i c size:Nat}{rows:List (List D)}{ds:List D}{l:List (Nat×Nat)}:∀(q:List (Nat×V)){σ:St},(∀p∈q,yG o p.1=true/\VY p.2=true)->StM P σ T x y t j i c size rows ds l->StM P (σ.XK q) T x y t j i c size rows ds l
 |[],_,_,h=>h
 |p::q,σ,hq,h=>by
  refine StM.XK wA q (fun p' pq=>hq p' (by simp[pq])) ?_;obtain⟨hu,hp⟩:=hq p fM;simp only[yG,wA,Bool.and_eq_true,Bool.not_eq_true']at hu;have hv:p.2.Je (At.isT t)=false:=by generalize p.2=v at hp;unfold VY at hp;split at hp<;>first|rfl|cases hp
  refine⟨?_,?_,h.hi,?_,?_,?_,?_,⟨h.h5.1,h.h5.2.1,?_⟩,h.h6⟩
  ·rw[Z5 hu.1];exact h.hx
  ·rw[St.YV];exact h.ho
  ·rw[Z5 hu.1,Z5 hu.2];exact h.h1
  ·rw[Z5 hu.2,VE];exact h.h2
  ·rw[Z5 hu.2,qj];exact h.h3
  ·rw[Z5 hu.2];exact h.h4
  ·rw[y7];exact PU hv h.h5.2.2
theorem Oe{l:List (Nat×Nat)}{t j:Nat}{ob:Ob}:∀(q:List (Nat×V))(σ:St),((σ.XK q).ZV l).ZT t j ob=((σ.ZV l).ZT t j ob).XK q
 |[],_=>rfl
 |p::q,σ=>by rw[St.XK,St.XK,Oe q,y7,JL]
theorem VS{T:TypeId}{c:Nat}(wA:o.op= .store T x y)(hg:o.guard=none)(hd:o.dst=none)(h:StM P σ T x y t j i c size rows ds l):
  qv P ops o σ ((σ.ZV l).ZT t j (.arr true size (rows.set i (place (rowAt rows i) c ds)))):=by
 obtain⟨hx,ho,hi,h1,h2,h3,h4,h5,h6⟩:=h;subst h4;rintro T0 B a w K Q' ⟨X,hh,r⟩ hK;have hw:Region.wanted o (yielded ops a.tmps)=true:=eR
 rw[if_pos hw];exact Ua r wA hd h1.1 h1.2.1 h1.2.2.1 hx ho hi h1.2.2.2 h2 h3 h5.1 h5.2.1 h5.2.2 h6.1 h6.2 hK
theorem Ls{T:TypeId}{c:Nat}(wA:o.op= .store T x y)(hg:o.guard=none)(hd:o.dst=none)(wu:bar o=true)
  (hx:unc (look P σ 0 x)= .one (.ptr t j i c)) (ho:σ.ob t j= .arr true size rows) (hi:i<rows.length) (h1:Kk P T=true/\gOf (look P σ 0 x)=true/\gOf (look P σ T y)=true/\(unc (look P σ T y)).flat=true)
  (h2:QD σ (unc (look P σ T y)).cells=some ds) (h3:XO σ (unc (look P σ T y)).cells) (h4:YF (unc (look P σ T y)).cells=l) (h5:l.Nodup/\(t,j)∉l/\(σ.ZV l).Je (At.isT t)=false) (h6:ds.length=P.cellsOf T/\c+P.cellsOf T<=size)
  (h:Ev P ops bar rest ((σ.ZV l).ZT t j (.arr true size (rows.set i (place (rowAt rows i) c ds)))) Q):Ks P ops bar o rest σ Q:=by
 have hm:StM P σ T x y t j i c size rows ds l:=⟨hx,ho,hi,h1,h2,h3,h4,h5,h6⟩;refine⟨_,.inr ⟨wu,VS wA hg hd hm,fun d' _ hc=>XV (QQ hc),fun _=>.inl ⟨⟨by rw[St.YD,St.Ja],fun u=>by rw[St.Yf,St.Kh]⟩,fun q hq=>?_,fun t' cells hb=>?_⟩,fun hh=>by simp[z6,wA]at hh,fun hh _=>by simp[QJ,wA]at hh⟩,XI h⟩
 ·rw[<-Oe];exact⟨VS wA hg hd (hm.XK wA q hq),fun d' _ hc=>XV (QQ hc)⟩
 ·exact Ma hm.h2 hm.h4 hm.ho hm.h5.2.1 hb
structure StN(P:Program)(σ:St)(T:TypeId)(x y:Operand)(t j i c k q n size:Nat)(s rows:List (List D))(ds:List D)(l:List (Nat×Nat)):Prop where
 hx:unc (look P σ 0 x)= .one (.tref t j i c (some (k*n+q)))
 ho:σ.ob t j= .arr true size rows
 hi:i<rows.length
 hc:(rows.getD i [])[c]?=some (.sl n s)
 hk:k<s.length
 h1:Kk P T=true/\gOf (look P σ 0 x)=true/\gOf (look P σ T y)=true/\(unc (look P σ T y)).flat=true
 h2:QD σ (unc (look P σ T y)).cells=some ds
 h3:XO σ (unc (look P σ T y)).cells
 h4:YF (unc (look P σ T y)).cells=l
 h5:l.Nodup/\(t,j)∉l
 h6:ds.length=P.cellsOf T/\q+P.cellsOf T<=n
theorem StN.XK{P:Program}{o:Oper}{T:TypeId}{x y:Operand}(wA:o.op= .store T x y){t j i c k n0 n size:Nat}{s rows:List (List D)}{ds:List D}{l:List (Nat×Nat)}:∀(q:List (Nat×V)){σ:St},(∀p∈q,yG o p.1=true/\VY p.2=true)->StN P σ T x y t j i c k n0 n size s rows ds l->StN P (σ.XK q) T x y t j i c k n0 n size s rows ds l
 |[],_,_,h=>h
 |p::q,σ,hq,h=>by
  refine StN.XK wA q (fun p' pq=>hq p' (by simp[pq])) ?_;obtain⟨hu,hp⟩:=hq p fM;simp only[yG,wA,Bool.and_eq_true,Bool.not_eq_true']at hu;refine⟨?_,?_,h.hi,h.hc,h.hk,?_,?_,?_,?_,h.h5,h.h6⟩
  ·rw[Z5 hu.1];exact h.hx
  ·rw[St.YV];exact h.ho
  ·rw[Z5 hu.1,Z5 hu.2];exact h.h1
  ·rw[Z5 hu.2,VE];exact h.h2
  ·rw[Z5 hu.2,qj];exact h.h3
  ·rw[Z5 hu.2];exact h.h4
open Go.RowKit
def km(P:Program)(σ:St):ResultVar->Prop×List At
 |.tmp t=>(match σ.get t with
  |.one x=>(t<σ.length,[x])
  |.agg []=>(t<σ.length,[])
  |.agg (x::y::xs)=>(t<σ.length,x::y::xs)
  |_=>(False,[]))
 |.cell t T=>(match σ.get t with
  |.one (.bptr u c)=>(match σ.ob u 0 with
    |.box cells=>(Kk P T=true/\xW P T=true/\P.cellsOf T≠1/\c+P.cellsOf T<=cells.length,cut cells c (P.cellsOf T))
    |_=>(False,[]))
  |_=>(False,[]))
def Qv(P:Program)(σ:St):List ResultVar->Prop×List (List At)
 |[]=>(True,[])
 |r::rs=>((km P σ r).1/\(Qv P σ rs).1,(km P σ r).2::(Qv P σ rs).2)
theorem MZ(h:(km P σ r).1):Tn P σ r (km P σ r).2:=by
 cases r with
 |tmp t=>
  simp only[km]at h⊢;simp only[Tn];cases hx:σ.get t with
  |one x=>rw[hx]at h;exact⟨rfl,h⟩
  |agg xs=>
   rw[hx]at h;match xs,h with
   |[],h=>exact⟨rfl,h⟩
   |[x],h=>exact h.elim
   |x::y::xs,h=>exact⟨rfl,h⟩
  |any=>rw[hx]at h;exact h.elim
  |tup xs=>rw[hx]at h;exact h.elim
  |cnd g x=>rw[hx]at h;exact h.elim
  |fix u x=>rw[hx]at h;exact h.elim
 |cell t T=>
  simp only[km]at h⊢;split at h
  ·rename_i u c hx;split at h
   ·rename_i cells ho;exact⟨u,c,cells,hx,ho,h.1,h.2.1,h.2.2.1,h.2.2.2,rfl⟩
   ·exact h.elim
  ·exact h.elim
theorem jf{P:Program}{σ:St}:∀{rs:List ResultVar},(Qv P σ rs).1->qe P σ rs (Qv P σ rs).2
 |[],_=>rfl
 |_::_,h=>⟨_,_,MZ h.1,jf h.2,rfl⟩
theorem HF(hf:fn.results=rv.toArray)(h:(Qv P σ rv).1/\zI σ (Qv P σ rv).2=some res):Mt P fn false res .ret σ:=
 ⟨.inl rfl,_,by rw[hf];exact jf h.1,by simpa using h.2⟩
theorem Gj(hf:fn.results=rv.toArray)(h:(Qv P σ rv).1/\Xn σ (Qv P σ rv).2=some res/\XU σ (Qv P σ rv).2/\(YF (Qv P σ rv).2.flatten).Nodup):Lz P fn res .ret σ:=
 ⟨.inl rfl,_,by rw[hf];exact jf h.1,h.2⟩
attribute [simp] Gy Xn QD mvD XU XO SL Zr zC X5 yy KT St.ZV Nk MB PC HS zq qM Sb St.Je V.Je V.OS S8 xL JU At.isT
attribute [simp] isB bOf Ev stops H9 jA evS PZ evV Sg Nh jc jZ Qw qH KV qZ Wu lkI lkK Vm.look cst unc gOf zE V.flat V.cells St.put St.ZT St.new St.Lo St.Lb St.Ip St.Iq MY W5 La
 Ut qt ldV cut place rowOf Qn X9 At.RU Yq V.X3 Zl Ki Kp Si vOf yV JV Qv km zI jn ownRow Ky YF K0 kn Zd At.ref D.scalar X4 D.PB zD IP Yb
open Go.RowKit
theorem Il{row:List D}(ho:Qk w cs row S):∃(hf:Nat->Hd)(Sk:Nat->Nat->Prop),(∀j c,cs[j]?=some c->(hf j).v=c)/\(∀k b,Sk k b->S b)/\(∀i j b,Sk i b->Sk j b->i=j)/\
  ∀j size rows,row[j]?=some (.sl size rows)->(∀b,(hf j).u b->Sk j b)/\(∀b,blk (hf j).v=some b->(hf j).u b)/\∀T h ob,Xo T h ob w (hf j) (.arr true size rows):=by
 obtain⟨hl,Sk,h1,h2,h3⟩:=ho;have hex:∀j,∃hd:Hd,(∀c,cs[j]?=some c->hd.v=c)/\(∀size rows,row[j]?=some (.sl size rows)->(∀b,hd.u b->Sk j b)/\(∀b,blk hd.v=some b->hd.u b)/\∀T h ob,Xo T h ob w hd (.arr true size rows)):=by
  intro j;cases hj:row[j]? with
  |none=>exact⟨Hd.of ((cs[j]?).getD undef),fun c wk=>by simp[Hd.of,wk],fun size rows hh=>by cases hh⟩
  |some dd=>
   have s8:j<cs.length:=by rw[hl];exact(List.getElem?_eq_some_iff.1 hj).1
   have sW:cs[j]?=some cs[j]:=List.getElem?_eq_getElem s8;cases dd with
   |int k n=>exact⟨Hd.of cs[j],fun c wk=>by rw[sW]at wk;cases wk;rfl,fun size rows hh=>by cases hh⟩
   |bool k=>exact⟨Hd.of cs[j],fun c wk=>by rw[sW]at wk;cases wk;rfl,fun size rows hh=>by cases hh⟩
   |str k=>exact⟨Hd.of cs[j],fun c wk=>by rw[sW]at wk;cases wk;rfl,fun size rows hh=>by cases hh⟩
   |unk=>exact⟨Hd.of cs[j],fun c wk=>by rw[sW]at wk;cases wk;rfl,fun size rows hh=>by cases hh⟩
   |sl size rows=>
    have ho:=h1 j _ _ sW hj;generalize hv:cs[j]=v at ho;cases ho with
    |sl v size rows S e xs rf ho hz hb hl hk rz wL=>refine⟨⟨v,fun k=>(xs[k]?).getD undef,Sk j⟩,fun c wk=>by rw[sW,hv]at wk;cases wk;rfl,fun wi wQ hh=>?_⟩;cases hh;exact⟨fun b hb=>hb,hb,fun T h ob=>⟨e,xs,ho,hz,⟨hl,rf,hk,fun k b hb=>rz k b hb,wL⟩,fun k x d hx _ _=>by simp[hx]⟩⟩
 obtain⟨hf,sc⟩:=Classical.axiomOfChoice hex;exact⟨hf,Sk,fun j=>(sc j).1,h2,h3,fun j=>(sc j).2⟩
theorem Qk.top{row:List D}(ho:Qk w cs row S):ZU (zW T w) cs row:=by
 obtain⟨hl,Sk,h1,h2,h3⟩:=ho;refine ZU.Jq hl (fun k x d hx hd=>?_);have ho:=h1 k x d hx hd
 cases ho with
 |int k n=>exact Rd.int _ _
 |bool b=>exact Rd.bool _
 |str s=>exact Rd.str _
 |unk v h=>exact Rd.unk _ h
 |sl v size rows S e xs rf ho hz hb hl hk rz wL=>exact⟨e,xs,ho⟩
def GR(n:Nat)(v:Value)(row:List D)(args:List (List D)):St:=(.fix v (vOf (yV 0 0 row)),Zr [] row)::(kn args++List.replicate (n-(args.length+1)) (V.any,[]))
def St.HR:St->List At->List D->St
 |σ,.sref t j _ _::xs,.sl size rows::ds=>St.HR (σ.ZT t j (.arr true size rows)) xs ds
 |σ,_::xs,_::ds=>St.HR σ xs ds
 |σ,_,_=>σ
def R9:List D->List D->Prop
 |.sl s r::ds,.sl s' r'::sV=>s=s'/\r.length=r'.length/\R9 ds sV
 |.sl _ _::_,_=>False
 |_::ds,_::sV=>R9 ds sV
 |[],[]=>True
 |_,_=>False
def NU(σ:St):List At->Prop
 |[]=>True
 |.sref t j _ _::xs=>(match σ.ob t j with|.arr true _ _=>True|_=>False)/\NU σ xs
 |_::xs=>NU σ xs
def At.Gs:At->Bool
 |.tref _ _ _ _ _=>true
 |_=>false
theorem VJ:∀{xs:List At}{t j:Nat},(t,j)∈YF xs->∃(k lo len:Nat),xs[k]?=some (At.sref t j lo len)
 |[],t,j,h=>by cases h
 |x::xs,t,j,h=>by
  cases x with
  |sref t' j' lo len=>
   simp only[YF,List.mem_cons,Prod.mk.injEq]at h;rcases h with⟨rfl,rfl⟩|h
   ·exact⟨0,lo,len,rfl⟩
   ·obtain⟨k,lo,len,hk⟩:=VJ h;exact⟨k+1,lo,len,by simpa using hk⟩
  |_=>obtain⟨k,lo,len,hk⟩:=VJ (xs:=xs) h;exact⟨k+1,lo,len,by simpa using hk⟩
theorem MK(wC:d≠d')(h:YG σ d=true):YG (σ.put d' v) d=true:=by unfold YG at*;simp only[K5,if_neg wC];exact h
end Go.Vm
