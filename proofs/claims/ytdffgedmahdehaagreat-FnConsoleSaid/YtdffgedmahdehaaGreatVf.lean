/- An abstract machine Gi the model of Go, by value, and that it is sound: part Vf. No condition. -/
import Derived.Test.YtdffgedmahdehaaGreatVb
set_option linter.unusedVariables false
set_option linter.unusedSimpArgs false
namespace Go.Vm
open Go.RowKit
variable{P:Program}{σ σ':St}{ops:Array Oper}{bar:Oper->Bool}{o:Oper}{rows res news im args s:List (List D)}{l L l1 l2:List (Nat×Nat)}{d size j n t id i u d' dj fa k:Nat}{Q:Exit->Act->World->Prop}{K:Act->World->Prop}{x y:Operand}{h:Nat->Nat->Hd}{B X X' S:Nat->Prop}{ds:List D}{v:V}{f:FuncId}{T0 T:CS}{a:Act}{w w':World}{c:Code}{parts:Array (Nat×Operand)}{Q':Exit->St->Prop}{want q g b:Bool}{r:ResultVar}{val:Value}
def uU(P:Program)(σ:St)(c:Call)(f:FuncId)(own:Bool)(res:List (List D)):Prop:=
 ∃rows,Qb P σ c.args.toList c.argTypes.toList rows/\QX P f own rows res/\(Yh P σ c.args.toList c.argTypes.toList=true\/Jv own res)
def Step(P:Program)(o:Oper)(d:Nat)(σ σ':St):Prop:=
 match o.op with
 |.alloc T=>σ.fresh d=true/\QE P T=true/\∃row,UD P 12 T=some row/\σ'=σ.new d (.one (.bptr d 0)) [.box row]
 |.box T x=>σ.fresh d=true/\gOf (look P σ T x)=true/\(unc (look P σ T x)).flat=true/\Yb d (unc (look P σ T x)).cells=false/\σ'=σ.new d (.one (.bptr d 0)) [.box (unc (look P σ T x)).cells]
 |.buildSlice T n parts=>(σ.fresh d=true/\XS P T=true/\QE P (ZS P T)=true/\0<P.cellsOf (ZS P T)/\parts.toList.length=n/\n*P.cellsOf (ZS P T)<=16777216/\
   ((∃rows,HL P σ (ZS P T) (P.cellsOf (ZS P T)) parts.toList 0 rows/\σ'=σ.new d (.one (.sref d 0 0 rows.length)) [.arr false (P.cellsOf (ZS P T)) rows])\/
   (∃rows,HH P σ (ZS P T) (P.cellsOf (ZS P T)) parts.toList 0 rows/\Yb d rows.flatten=false/\σ'=σ.new d (.one (.sref d 0 0 rows.length)) [.lit (P.cellsOf (ZS P T)) rows])))\/
   ((XS P T=true/\QE P (ZS P T)=true/\0<P.cellsOf (ZS P T)/\parts.toList.length=n/\n*P.cellsOf (ZS P T)<=16777216)/\∃rows,HL P σ (ZS P T) (P.cellsOf (ZS P T)) parts.toList 0 rows/\σ'=σ.put d (.one (.d (.sl (P.cellsOf (ZS P T)) rows))))
 |.makeSlice T x y=>x=y/\σ.fresh d=true/\XS P T=true/\QE P (ZS P T)=true/\0<P.cellsOf (ZS P T)/\
   ∃q z zr k n,(q=true->AE z=true)/\UD P 12 (ZS P T)=some z/\zD z=some zr/\SU P σ x k (n:Nat)/\P.bytesOf (ZS P T)*n<=281474976710656/\n<=9223372036854775807/\σ'=σ.new d (.one (.sref d 0 0 n)) [.arr q (P.cellsOf (ZS P T)) (List.replicate n zr)]
 |.call c=>
  (match c.callee with
  |.builtin .append=>∃x y t,c.args=#[x,y]/\c.argTypes=#[t,t]/\gOf (look P σ t x)=true/\gOf (look P σ t y)=true/\XS P t=true/\QE P (ZS P t)=true/\0<P.cellsOf (ZS P t)/\
    ∃im news σ1,OC σ (unc (look P σ t x)) (P.cellsOf (ZS P t)) im σ1/\yF σ (unc (look P σ t y)) (P.cellsOf (ZS P t)) news/\σ1.fresh d=true/\
     (im.length+news.length)*P.bytesOf (ZS P t)<=140737488355328/\im.length+news.length<=9223372036854775807/\σ'=σ1.new d (.one (.sref d 0 0 (im.length+news.length))) [.arr false (P.cellsOf (ZS P t)) (im++news)]
  |.value (.func f)=>(∃own res,uU P σ c f own res/\σ'=σ.put d (qG res))\/(∃res,uU P σ c f true res/\σ.fresh d=true/\σ'=σ.new d (WM d res) (xj res.flatten))\/
    (∃rows res qs,Qb P σ c.args.toList c.argTypes.toList rows/\YN P f rows res/\xJ qs res.flatten/\σ.fresh d=true/\σ'=σ.new d (WM d res) (YZ qs res.flatten))
  |_=>∃v,Yj P σ o.op o.type v/\σ'=σ.put d v)
 |.convert S T x=>
   (∃v,Yj P σ o.op o.type v/\σ'=σ.put d v)\/
   (∃l,gOf (look P σ S x)=true/\NS P S=true/\R8 P T=true/\yF σ (unc (look P σ S x)) 1 (KY l)/\σ'=σ.put d (.one (.d (.str ⟨l.toArray⟩))))\/
   (∃s,gOf (look P σ S x)=true/\R8 P S=true/\NS P T=true/\unc (look P σ S x)= .one (.d (.str s))/\s.size<=9223372036854775807/\σ'=σ.put d (.one (.d (.sl 1 (KY s.data.toList)))))
 |_=>∃v,Yj P σ o.op o.type v/\σ'=σ.put d v
def qi(P:Program)(σ:St)(T:TypeId)(x y:Operand)(σ':St):Prop:=
 jc P T=true/\gOf (look P σ 0 x)=true/\gOf (look P σ T y)=true/\(unc (look P σ T y)).flat=true/\
  (match unc (look P σ 0 x)with
  |.one (.bptr t c)=>∃cells,σ.ob t 0= .box cells/\(unc (look P σ T y)).cells.length=P.cellsOf T/\c+P.cellsOf T<=cells.length/\σ'=σ.Z0 t 0 (.box (place cells c (unc (look P σ T y)).cells))
  |.one (.ptr t j i c)=>∃q size rows ds,σ.ob t j= .arr q size rows/\i<rows.length/\rowOf σ (unc (look P σ T y)).cells=some ds/\zS (unc (look P σ T y)).cells=true/\ds.length=P.cellsOf T/\c+P.cellsOf T<=size/\
    (q=true->ds.all D.scalar=true/\(cut (rows.getD i []) c (P.cellsOf T)).all D.scalar=true)/\σ'=σ.Z0 t j (.arr q size (rows.set i (place (rows.getD i []) c ds)))
  |_=>False)
def jf(want:Bool):V->Option Bool
 |.one (.d (.bool b))=>some (b==want)
 |.cnd g (.one (.d (.bool b)))=>some (g&&(b==want))
 |.cnd false _=>some false
 |_=>none
def GI(P:Program)(o:Oper)(σ:St)(v:V):Prop:=
 match o.op with
 |.call c=>
  (match c.callee with
  |.value (.func f)=>∃own res,uU P σ c f own [res]/\v=qG [res]
  |_=>∃v0,Yj P σ o.op o.type v0/\gOf v0=true/\v=unc v0/\v.flat=true)
 |_=>∃v0,Yj P σ o.op o.type v0/\gOf v0=true/\v=unc v0/\v.flat=true
def XU(P:Program)(ops:Array Oper)(o:Oper)(σ σ':St):Prop:=
 match o.guard with
 |none=>
  (match o.dst with
  |some d=>Step P o d σ σ'
  |none=>(match o.op with|.store T x y=>qi P σ T x y σ'|_=>False))
 |some (j,want)=>∃dj d g v,(ops[j]?).bind (·.dst)=some dj/\dj<σ.length/\o.dst=some d/\jf want (σ.get dj)=some g/\(g=true->GI P o σ v)/\σ'=σ.put d (.cnd g v)
def SM(P:Program)(ops:Array Oper)(o:Oper)(σ σ':St):Prop:=
 ∀(T0:CS)(B:Nat->Prop)(a:Act)(w:World)(K:Act->World->Prop)(Q:Exit->Act->World->Prop),JV T0 B σ a w->(∀a' w',JV T0 B σ' a' w'->XL B w w'->K a' w')->
  if Region.wanted o (yielded ops a.tmps)then o.wp P a w K Q else K (a.put o.dst undef) w
def XY(σ:St)(d:Nat):Bool:=match σ[d]? with|some (.any,[])=>true|some (.one (.d _),[])=>true|_=>false
def NW(o:Oper)(σ σ':St):Prop:=∀d,o.dst≠some d->XY σ d=true->XY σ' d=true
def SC(o:Oper):Bool:=match o.op with|.store _ _ _=>true|_=>false
def xK(d:Nat):Operand->Bool
 |.tmp t=>t==d
 |_=>false
def TU(o:Oper)(d:Nat):Bool:=match o.op with|.store _ p q=>!xK d p&&!xK d q|_=>false
def Gt:V->Bool
 |.any=>true
 |.one (.d _)=>true
 |_=>false
def St.JA:St->List (Nat×V)->St
 |σ,[]=>σ
 |σ,p::l=>St.JA (σ.put p.1 p.2) l
def lH(P:Program)(ops:Array Oper)(o:Oper)(σ σ':St):Prop:=
 (σ'.length=σ.length/\∀u,σ'.get u=σ.get u)/\(∀l:List (Nat×V),(∀p∈l,TU o p.1=true/\Gt p.2=true)->SM P ops o (σ.JA l) (σ'.JA l)/\NW o (σ.JA l) (σ'.JA l))/\∀t cells,σ.ob t 0= .box cells->σ'.ob t 0= .box cells
def VF(o:Oper):Bool:=match o.op with|.call ⟨.builtin .append,_,_⟩=>true|_=>false
theorem wm(h:SC o=true):VF o=false:=by
 unfold SC at h;split at h
 ·rename_i ig;simp[VF,ig]
 ·cases h
def LO(o:Oper)(d:Nat):Bool:=!(o.op.operands.toList.any (xK d))
def mJ(P:Program)(ops:Array Oper)(o:Oper)(σ σ':St):Prop:=
 ∃d,o.dst=some d/\σ'.length=σ.length/\(∀t,t≠d->σ'.get t=σ.get t/\(σ.get t).ref d=false)/\(∀t j cells,t≠d->σ'.ob t j= .box cells->σ.ob t j= .box cells/\Yb d cells=false)/\
  (∀t j q s rows,t≠d->σ'.ob t j= .arr q s rows->∃hO,σ.ob t j= .arr q s hO)/\
  ∀l:List (Nat×V),(∀p∈l,p.1≠d/\LO o p.1=true/\p.2.ref d=false)->SM P ops o (σ.JA l) (σ'.JA l)/\NW o (σ.JA l) (σ'.JA l)
def lA(P:Program)(t:TypeId):Bool:=match P.underlying t with|some (.pointer _)=>true|_=>false
def La(bar:Oper->Bool)(o:Oper):Bool:=!bar {o with dst:=some 1000000007}
def mU(bar:Oper->Bool)(o:Oper):Bool:=(match o.dst with|some d=>bar {o with dst:=some (d+2000000)}|none=>false)&&La bar o
def KF(P:Program)(o:Oper):Bool:=match o.op with|.call ⟨.value (.func _),_,⟨T::_⟩⟩=>lA P T|_=>false
def yk(t d:Nat)(cs:List At)(v:V):Option (List Ob)->St->St
 |none,σ=>(σ.Z0 t 0 (.box cs)).put d v
 |some os,σ=>(σ.Z0 t 0 (.box cs)).new d v os
def mI(P:Program)(ops:Array Oper)(o:Oper)(σ σ':St):Prop:=
 ∃d t cells cs v os,o.dst=some d/\σ.ob t 0= .box cells/\(∃z r,(∃f ts,o.op= .call ⟨.value (.func f),⟨z::r⟩,ts⟩)/\∃ty,unc (look P σ ty z)= .one (.bptr t 0))/\(∀u,Yb u cells=false/\Yb u cs=false)/\
  (∀u,(os=none\/u≠d)->v.ref u=false/\∀l,os=some l->XB u l=false)/\(os≠none->(σ.Z0 t 0 (.box cs)).fresh d=true)/\σ'=yk t d cs v os σ/\
  ∀σ2:St,σ.length=σ2.length->(∀z∈o.op.operands.toList,∀ty,look P σ ty z=look P σ2 ty z)->(∀z∈o.op.operands.toList,∀ty u,(look P σ ty z).ref u=true->∀j,σ.ob u j≠ .none->σ2.ob u j=σ.ob u j)->(os≠none->(σ2.Z0 t 0 (.box cs)).fresh d=true)->
   SM P ops o σ2 (yk t d cs v os σ2)/\NW o σ2 (yk t d cs v os σ2)
theorem vj(h:SC o=true):KF P o=false:=by
 unfold SC at h;split at h
 ·rename_i ig;simp[KF,ig]
 ·cases h
theorem rq(h:VF o=true):KF P o=false:=by
 unfold VF at h;split at h
 ·rename_i ig;simp[KF,ig]
 ·cases h
def r6(bar:Oper->Bool)(o:Oper):Bool:=bar {o with dst:=some 1000000009}
def lF(σ σ':St):Prop:=∀u,σ'.get u=σ.get u\/σ'.get u= .any
def zH(P:Program)(ops:Array Oper)(bar:Oper->Bool)(o:Oper)(σ σ':St):Prop:=XU P ops o σ σ'\/(bar o=true/\SM P ops o σ σ'/\NW o σ σ'/\(SC o=true->lH P ops o σ σ'\/r6 bar o=true/\lF σ σ')/\(VF o=true->mJ P ops o σ σ')/\(KF P o=true->La bar o=true->mI P ops o σ σ'))
def wJ(P:Program)(ops:Array Oper)(bar:Oper->Bool):List Oper->St->(St->Prop)->Prop
 |[],σ,Q=>Q σ
 |o::rest,σ,Q=>∃σ',zH P ops bar o σ σ'/\wJ P ops bar rest σ' Q
theorem IF(d:Nat):∀(n:Nat)(t:TypeId)(row:List At),UD P n t=some row->Yb d row=false:=by
 intro n;induction n with
 |zero=>intro t row hr;simp[UD]at hr
 |succ n ih=>
  intro t row hr;have happ:∀(rs:List (List At)),(∀r∈rs,Yb d r=false)->Yb d rs.flatten=false:=by
   intro rs e8;have app:∀(xs ys:List At),Yb d xs=false->Yb d ys=false->Yb d (xs++ys)=false:=by
    intro xs ys hx hy;induction xs with
    |nil=>exact hy
    |cons x xs ih2=>simp only[List.cons_append,Yb,Bool.or_eq_false_iff]at hx⊢;exact⟨hx.1,ih2 hx.2⟩
   induction rs with
   |nil=>rfl
   |cons r rs ih2=>rw[List.flatten_cons];exact app _ _ (e8 r zAE) (ih2 (fun r hr=>e8 r zCZ))
  rw[UD]at hr;split at hr
  ·cases hr;rfl
  ·cases hr;rfl
  ·cases hr;rfl
  ·cases hr;rfl
  ·rename_i fs _;simp only[Option.map_eq_some_iff]at hr;obtain⟨rs,e8,rfl⟩:=hr;refine happ rs ?_;have:∀(l:List Field)(rs:List (List At)),l.mapM (fun f=>UD P n f.type)=some rs->∀r∈rs,Yb d r=false:=by
    intro l;induction l with
    |nil=>intro rs hh r hr;simp at hh;subst hh;cases hr
    |cons f l ih2=>
     intro rs hh r hr;simp only[List.mapM_cons,Option.bind_eq_bind,Option.bind_eq_some_iff]at hh;obtain⟨r0,dY,rs',hrs',hh⟩:=hh;simp at hh;subst hh;rcases List.mem_cons.1 hr with rfl|hr
     ·exact ih f.type _ dY
     ·exact ih2 rs' hrs' r hr
   exact this fs.toList rs e8
  ·simp only[Option.map_eq_some_iff]at hr;obtain⟨r0,dY,rfl⟩:=hr;exact happ _ (fun r hr=>by rw[List.eq_of_mem_replicate hr];exact ih _ _ dY)
  ·cases hr
theorem RM(r:Rel T0 B σ a w X h)(hd:o.dst=some d)(hex:∃val,(execOp a.eval o).run P w= .ok (.value val) w/\Qk (Tof T0 X) h σ.ob w v val)
  (hK:∀a' w',JV T0 B (σ.put d v) a' w'->XL B w w'->K a' w'):o.wp P a w K Q:=by
 obtain⟨val,gA,hv⟩:=hex;unfold Oper.wp;rw[gA,Oper.upon_value,hd];exact hK _ _ ⟨X,h,r.put d v val hv⟩ (XL.refl _ _)
theorem u9(r:Rel T0 B σ a w X h)(hd:o.dst=some d)(hs:Step P o d σ σ')
  (hK:∀a' w',JV T0 B σ' a' w'->XL B w w'->K a' w'):o.wp P a w K Q:=by
 have fa:(∃v,Yj P σ o.op o.type v/\σ'=σ.put d v)->o.wp P a w K Q:=by rintro⟨v,hv,rfl⟩;exact RM r hd (UP r hv) hK
 unfold Step at hs;split at hs
 ·rename_i T ig;obtain⟨hf,hz,row,gN,rfl⟩:=hs;exact vk r ig hd hf hz gN (IF d _ _ _ gN) hK
 ·rename_i T x ig;obtain⟨hf,hg,fL,hr,rfl⟩:=hs;exact s6 r ig hd hf hg fL hr hK
 ·rename_i T n parts ig;rcases hs with⟨hf,h1,h2,h3,h4,h5,⟨rows,h6,rfl⟩|⟨rows,h6,h7,rfl⟩⟩|⟨⟨h1,h2,h3,h4,h5⟩,rows,h6,rfl⟩
  ·exact Gu r ig hd hf h1 h2 h3 h4 h5 h6 hK
  ·exact NL r ig hd hf h1 h2 h3 h4 h5 h6 h7 hK
  ·exact vC r ig hd h1 h2 h3 h4 h5 h6 hK
 ·rename_i T x y ig;obtain⟨rfl,hf,h1,h2,h3,q,z,zr,k,n,hq,h4,h5,h6,h7,h8,rfl⟩:=hs;cases q with
  |false=>exact Ea r ig hd hf h1 h2 h4 h5 h3 h6 h7 h8 hK
  |true=>exact DK r ig hd hf h1 h2 h4 h5 (hq rfl) h3 h6 h7 h8 hK
 ·rename_i c ig;split at hs
  ·rename_i hc;obtain⟨x,y,t,ha,dC,h1,h2,h3,h4,h5,im,news,σ1,h6,h7,h8,h9,dT,rfl⟩:=hs;refine wB r (t:=t) (x:=x) (y:=y) ?_ hd h1 h2 h3 h4 h5 h6 h7 h8 h9 dT hK;rw[ig];obtain⟨cc,ca,ct⟩:=c;simp only at hc ha dC;rw[hc,ha,dC]
  ·rename_i f hc;rcases hs with⟨own,res,⟨rows,ha,hs,gz⟩,rfl⟩|⟨res,⟨rows,ha,hs,gz⟩,hf,rfl⟩|⟨rows,res,qs,ha,hs,hq,hf,rfl⟩
   ·rcases gz with gz|gz
    ·exact TN r ig hc hd ha true (fun _=>gz) (fun hh=>by cases hh) hs hK
    ·exact TN r ig hc hd ha false (fun hh=>by cases hh) (fun _=>gz) hs hK
   ·rcases gz with gz|gz
    ·exact LY r ig hc hd hf ha true (fun _=>gz) (fun hh=>by cases hh) hs hK
    ·exact LY r ig hc hd hf ha false (fun hh=>by cases hh) (fun _=>gz) hs hK
   ·exact uY r qs ig hc hd hf ha hs hq hK
  ·exact fa hs
 ·rename_i S T x ig;rcases hs with hs|⟨l,h1,h2,h3,h4,rfl⟩|⟨s,h1,h2,h3,h4,h5,rfl⟩
  ·exact fa hs
  ·exact RM r hd (Mr r ig h1 h2 h3 h4) hK
  ·exact M3 r ig hd h1 h2 h3 h4 h5 hK
 ·exact fa hs
theorem Au(r:Rel T0 B σ a w X h){T:TypeId}(ig:o.op= .store T x y)(hd:o.dst=none)(hs:qi P σ T x y σ')
  (hK:∀a' w',JV T0 B σ' a' w'->XL B w w'->K a' w'):o.wp P a w K Q:=by
 obtain⟨ht,dt,du,fL,hs⟩:=hs;split at hs
 ·rename_i t c hx;obtain⟨cells,ho,hl,hle,rfl⟩:=hs;exact Dl r ig hd ht dt du hx ho fL hl hle hK
 ·rename_i t j i c hx;obtain⟨q,size,rows,ds,ho,hi,bU,gH,hl,hle,hq,rfl⟩:=hs;refine DP r ig hd ht dt du hx ho hi fL bU gH hl hle (fun hh=>⟨fun d hJ=>?_,fun k d hk hJ=>?_⟩) hK
  ·exact List.all_eq_true.1 (hq hh).1 d hJ
  ·refine List.all_eq_true.1 (hq hh).2 d (List.mem_of_getElem? (i:=k) ?_);simp only[cut,List.getElem?_take,if_pos hk,List.getElem?_drop];exact hJ
 ·exact hs.elim
theorem FJ{ob:Nat->Nat->Ob}(hf:(unc v).flat=true)(hv:Qk T h ob w (unc v) val):K8 T h ob w (unc v) val:=by
 cases hu:unc v with
 |one x=>rw[hu]at hv;exact hv
 |agg xs=>rw[hu]at hv;exact hv
 |any=>rw[hu]at hf;cases hf
 |tup xs=>rw[hu]at hf;cases hf
 |cnd g x=>rw[hu]at hf;cases hf
 |fix u x=>rw[hu]at hf;cases hf
theorem vi(r:Rel T0 B σ a w X h)(cM:o.guard=some (j,want))(fh:(ops[j]?).bind (·.dst)=some dj)(hD:dj<σ.length)(hg:jf want (σ.get dj)=some g):
  Region.wanted o (yielded ops a.tmps)=g:=by
 have g7:dj<a.tmps.size:=by rw[r.size];exact hD
 have hv:=r.slot dj hD;have hgetD:a.tmps.getD dj undef=a.tmps[dj]:=by simp[g7]
 rw[hgetD]at hv;have hy:yielded ops a.tmps j=(match a.tmps[dj]with|.bool b=>some b|_=>none):=by unfold yielded;rw[fh];simp only[Option.bind_some,Array.getElem?_eq_getElem g7];cases a.tmps[dj]<;>rfl
 simp only[Region.wanted,cM,hy];unfold jf at hg;split at hg
 ·rename_i b hgv;rw[hgv]at hv;rw[WX hv];cases hg;cases b<;>cases want<;>rfl
 ·rename_i g0 b hgv;rw[hgv]at hv;cases hg;cases g0 with
  |true=>rw[WX (hv.1 rfl)];cases b<;>cases want<;>rfl
  |false=>rw[hv.2 rfl];simp[undef]
 ·rename_i hgv;rw[hgv]at hv;cases hg;rw[hv.2 rfl];simp[undef]
 ·cases hg
theorem vo(r:Rel T0 B σ a w X h)(hs:XU P ops o σ σ')
  (hK:∀a' w',JV T0 B σ' a' w'->XL B w w'->K a' w'):if Region.wanted o (yielded ops a.tmps)then o.wp P a w K Q else K (a.put o.dst undef) w:=by
 unfold XU at hs;split at hs
 ·rename_i hg;have hw:Region.wanted o (yielded ops a.tmps)=true:=zBs
  rw[if_pos hw];split at hs
  ·rename_i d hd;exact u9 r hd hs hK
  ·rename_i hd;split at hs
   ·rename_i T x y ig;exact Au r ig hd hs hK
   ·exact hs.elim
 ·rename_i j want hg;obtain⟨dj,d,g,v,fh,hD,hd,fr,hs,rfl⟩:=hs;rw[vi r hg fh hD fr];cases g with
  |false=>simp only[Bool.false_eq_true,if_false];rw[hd];exact hK _ _ ⟨X,h,r.put d _ _ ⟨(fun hh=>by cases hh),fun _=>rfl⟩⟩ (XL.refl _ _)
  |true=>
   simp only[if_true];have gx:=hs rfl
   clear hs;have fa:(∃v0,Yj P σ o.op o.type v0/\gOf v0=true/\v=unc v0/\v.flat=true)->o.wp P a w K Q:=by rintro⟨v0,hv0,hg0,rfl,fL⟩;obtain⟨val,gA,hv⟩:=UP r hv0;refine RM (v:=.cnd true (unc v0)) r hd ⟨val,gA,⟨fun _=>FJ fL (hv.unc hg0),fun hh=>by cases hh⟩⟩ hK
   unfold GI at gx;split at gx
   ·rename_i c ig;split at gx
    ·rename_i f hc;obtain⟨own,res,⟨rows,ha,hs,gz⟩,rfl⟩:=gx;have fin:∀a' w',JV T0 B (σ.put d (qG [res])) a' w'->XL B w w'->K a' w':=by
      rintro a' w' ⟨X',h',r'⟩ hb;refine hK a' w' ⟨X',h',?_⟩ hb;refine⟨by rw[r'.size,St.Qv,St.Qv],r'.defers,r'.hB,r'.hX,r'.hT,fun t ht=>?_,fun t j=>?_,fun t j b=>?_,fun t j b=>?_,fun t j t' j' b=>?_⟩
      ·rw[St.Qv]at ht;have h0:=r'.slot t (by rw[St.Qv];exact ht)
       rw[St.Qz]at h0⊢;rw[St.zc]at h0⊢;by_cases hh:t=d/\d<σ.length
       ·rw[if_pos hh]at h0⊢;refine⟨fun _=>?_,fun hh=>by cases hh⟩;have fL:(unc (vOf (res.map At.d))).flat=true:=by
         match res.map At.d with
         |[]=>rfl
         |[x]=>rfl
         |x::y::xs=>rfl
        have hu:unc (vOf (res.map At.d))=vOf (res.map At.d):=by
         match res.map At.d with
         |[]=>rfl
         |[x]=>rfl
         |x::y::xs=>rfl
        have:=FJ (v:=vOf (res.map At.d)) fL (by rw[hu];exact h0);rw[hu]at this;exact this
       ·rw[if_neg hh]at h0⊢;exact h0
      ·have:=r'.obj t j;rw[St.Qz]at this⊢;exact this
      ·have:=r'.ub t j b;rw[St.Qz]at this⊢;exact this
      ·have:=r'.own t j b;rw[St.Qz]at this⊢;exact this
      ·have:=r'.inj t j t' j' b;rw[St.Qz]at this⊢;exact this
     rcases gz with gz|gz
     ·exact TN r ig hc hd ha true (fun _=>gz) (fun hh=>by cases hh) hs fin
     ·exact TN r ig hc hd ha false (fun hh=>by cases hh) (fun _=>gz) hs fin
    ·exact fa gx
   ·exact fa gx
theorem MS(hs:zH P ops bar o σ σ'):SM P ops o σ σ':=by
 rcases hs with hs|hs
 ·rintro T0 B a w K Q ⟨X,h,r⟩ hK;exact vo r hs hK
 ·exact hs.2.1
theorem E0{ops:Array Oper}{bar:Oper->Bool}:∀{l:List Oper}{σ:St}{a:Act}{w:World}{Q:St->Prop}{Q':Exit->Act->World->Prop},wJ P ops bar l σ Q->JV T0 B σ a w->
  (∀σ' a' w',Q σ'->JV T0 B σ' a' w'->XL B w w'->Q' .normal a' w')->wpList P ops Q' l a w
 |[],σ,a,w,Q,Q',hr,fj,hK=>hK σ a w hr fj (XL.refl _ _)
 |o::l,σ,a,w,Q,Q',⟨σ',hs,hr⟩,fj,hK=>by refine wpList_step fun K hKK=>?_;exact MS hs _ _ _ _ _ _ fj (fun a' w' fj hb=>hKK _ _ (E0 hr fj (fun σ2 a2 w2 hq aC gQ=>hK σ2 a2 w2 hq aC (hb.trans gQ))))
open Go.RowKit
variable{cs gb:List Value}
def AWP(P:Program)(c:Code)(Q:Exit->St->Prop)(σ:St):Prop:=
 ∀(T0:CS)(B:Nat->Prop)(a:Act)(w:World),JV T0 B σ a w->c.wp P (fun e a' w'=>∃σ',Q e σ'/\JV T0 B σ' a' w'/\XL B w w') a w
def Wk(σ σ':St):Prop:=∀(T0:CS)(B:Nat->Prop)(a:Act)(w:World),JV T0 B σ a w->JV T0 B σ' a w
def Dp(next:St->Prop)(Q:Exit->St->Prop):Exit->St->Prop
 |.normal,σ=>next σ
 |e,σ=>Q e σ
def Ny(id:Nat)(Q:Exit->St->Prop):Exit->St->Prop
 |.exit id',σ=>if id'=id then Q .normal σ else Q (.exit id') σ
 |e,σ=>Q e σ
section
variable{Q:Exit->St->Prop}
theorem Wk.refl(σ:St):Wk σ σ:=fun _ _ _ _ h=>h
theorem Wk.trans{σ'':St}(h:Wk σ σ')(k:Wk σ' σ''):Wk σ σ'':=fun _ _ _ _ r=>k _ _ _ _ (h _ _ _ _ r)
theorem uS(h:∀e σ,Q e σ->Q' e σ)(k:AWP P c Q σ):AWP P c Q' σ:=
 fun T0 B a w r=>wp_mono (k T0 B a w r) fun e _ _ ⟨σ',hq,hr⟩=>⟨σ',h e σ' hq,hr⟩
theorem pW(h:Q .normal σ):AWP P .skip Q σ:=fun _ B _ w r=>wp_skip ⟨σ,h,r,XL.refl B w⟩
theorem ra(h:Q (.exit id) σ):AWP P (.exit id) Q σ:=fun _ B _ w r=>wp_exit ⟨σ,h,r,XL.refl B w⟩
theorem oC(h:Q .ret σ):AWP P .ret Q σ:=fun _ B _ w r=>wp_ret ⟨σ,h,r,XL.refl B w⟩
theorem tG{l:List Oper}(h:wJ P l.toArray bar l σ (Q .normal)):AWP P (.region id l.toArray false) Q σ:=
 fun _ _ _ _ r=>wp_region_lit (E0 h r fun σ' _ _ hq hr hb=>⟨σ',hq,hr,hb⟩)
theorem oI{x y:Code}(h:AWP P x (Dp (AWP P y Q) Q) σ):AWP P (.seq x y) Q σ:=by
 intro T0 B a w r;refine wp_seq (wp_mono (h T0 B a w r) ?_);rintro e a' w' ⟨σ',hq,hr,hb⟩;cases e with
 |normal=>exact wp_mono (hq T0 B a' w' hr) fun e _ _ ⟨σ2,h1,h2,h3⟩=>⟨σ2,h1,h2,hb.trans h3⟩
 |exit id=>exact⟨σ',hq,hr,hb⟩
 |goto l=>exact⟨σ',hq,hr,hb⟩
 |ret=>exact⟨σ',hq,hr,hb⟩
 |panic ch=>exact⟨σ',hq,hr,hb⟩
 |outgrown=>exact⟨σ',hq,hr,hb⟩
theorem pJ{c:Operand}{x y:Code}(hc:look P σ 0 c= .one (.d (.bool b)))(ht:b=true->AWP P x Q σ)(hf:b=false->AWP P y Q σ):AWP P (.cond c x y) Q σ:=by
 intro T0 B a w r;obtain⟨X,h,rr⟩:=r;have hv:=rr.look (P:=P) 0 c
 rw[hc]at hv;exact wp_cond_split (WX hv) (fun hb=>ht hb T0 B a w ⟨X,h,rr⟩) (fun hb=>hf hb T0 B a w ⟨X,h,rr⟩)
theorem ss(h:AWP P c (Ny id Q) σ):AWP P (.block id c) Q σ:=by
 intro T0 B a w r;refine wp_block (wp_mono (h T0 B a w r) ?_);rintro e a' w' ⟨σ',hq,hr,hb⟩;cases e with
 |exit id'=>
  simp only[Ny]at hq;simp only[Exit.inBlock];split at hq
  ·rename_i hh;rw[if_pos hh];exact⟨σ',hq,hr,hb⟩
  ·rename_i hh;rw[if_neg hh];exact⟨σ',hq,hr,hb⟩
 |normal=>exact⟨σ',hq,hr,hb⟩
 |goto l=>exact⟨σ',hq,hr,hb⟩
 |ret=>exact⟨σ',hq,hr,hb⟩
 |panic ch=>exact⟨σ',hq,hr,hb⟩
 |outgrown=>exact⟨σ',hq,hr,hb⟩
theorem Wi{ι:Type}(S:ι->St)(μ:ι->Nat)(i0:ι)(h0:Wk σ (S i0))
  (round:∀i,AWP P c (Dp (fun σ'=>∃i',μ i'<μ i/\Wk σ' (S i')) Q) (S i)):AWP P (.loop c) Q σ:=by
 intro T0 B a w r b k cs;have key:∀n i a w,μ i=n->JV T0 B (S i) a w->
   ∃e a' w',(∃σ',Q e σ'/\JV T0 B σ' a' w'/\XL B w w')/\Arrives P (lone (b.at a (.code c:: .inLoop c::k)) cs w) b k cs e a' w':=by
  intro n;induction n using Nat.strongRecOn with
  |_ n ih=>
   intro i a w hn hr;obtain⟨e,a₁,w₁,⟨σ₁,hq,hr₁,hb₁⟩,fO⟩:=round i T0 B a w hr b (.inLoop c::k) cs;cases e with
   |normal=>obtain⟨i',hD,hwk⟩:=hq;obtain⟨e₂,a₂,w₂,⟨σ₂,hq₂,hr₂,hb₂⟩,harr₂⟩:=ih (μ i') (hn▸hD) i' a₁ w₁ rfl (hwk T0 B a₁ w₁ hr₁);exact⟨e₂,a₂,w₂,⟨σ₂,hq₂,hr₂,hb₁.trans hb₂⟩,.of_steps (Steps.trans fO (.one step_inLoop)) harr₂⟩
   |exit id=>exact⟨_,a₁,w₁,⟨σ₁,hq,hr₁,hb₁⟩,.pass (x:=.inLoop c) rfl (fun _ _=>.inl zAE) fO⟩
   |goto l=>exact⟨_,a₁,w₁,⟨σ₁,hq,hr₁,hb₁⟩,.pass (x:=.inLoop c) rfl (fun _ _=>.inl zAE) fO⟩
   |ret=>exact⟨_,a₁,w₁,⟨σ₁,hq,hr₁,hb₁⟩,.pass (x:=.inLoop c) rfl (fun _ _=>.inl zAE) fO⟩
   |panic ch=>exact⟨_,a₁,w₁,⟨σ₁,hq,hr₁,hb₁⟩,.pass (x:=.inLoop c) rfl (fun _ _=>.inl zAE) fO⟩
   |outgrown=>exact⟨_,a₁,w₁,⟨σ₁,hq,hr₁,hb₁⟩,.pass (x:=.inLoop c) rfl (fun _ _=>.inl zAE) fO⟩
 obtain⟨e,a',w',hq,fO⟩:=key _ i0 a w rfl (h0 T0 B a w r);exact⟨e,a',w',hq,.of_steps (.one step_loop) fO⟩
end
/-! ### entering a function, and leaving it -/
def Lx:List (List D)->St
 |[]=>[]
 |r::rs=>(vOf (r.map .d),[])::Lx rs
def WZ(n:Nat)(args:List (List D)):St:=Lx args++List.replicate (n-args.length) (V.any,[])
def E7(P:Program)(σ:St):ResultVar->List At->Prop
 |.tmp t,xs=>(σ.get t=vOf xs)/\t<σ.length
 |.cell t T,xs=>∃u c cells,σ.get t= .one (.bptr u c)/\σ.ob u 0= .box cells/\jc P T=true/\PH P T=true/\P.cellsOf T≠1/\c+P.cellsOf T<=cells.length/\xs=cut cells c (P.cellsOf T)
def OZ(P:Program)(σ:St):List ResultVar->List (List At)->Prop
 |[],fJ=>fJ=[]
 |r::rs,fJ=>∃xs rest,E7 P σ r xs/\OZ P σ rs rest/\fJ=xs::rest
def VX(σ:St):List (List At)->Option (List (List D))
 |[]=>some []
 |xs::rest=>(match rowOf σ xs,VX σ rest with|some r,some rs=>some (r::rs)|_,_=>none)
def VB(σ:St):At->Option D
 |.d (.sl _ _)=>none
 |.d x=>some x
 |.nil s=>some (.sl s [])
 |.sref t j lo len=>(match σ.ob t j with|.arr false size rows=>if lo=0/\len=rows.length then some (.sl size rows)else none|_=>none)
 |_=>none
def ownRow(σ:St):List At->Option (List D)
 |[]=>some []
 |x::xs=>(match VB σ x,ownRow σ xs with|some d,some ds=>some (d::ds)|_,_=>none)
def RH(σ:St):List (List At)->Option (List (List D))
 |[]=>some []
 |xs::rest=>(match ownRow σ xs,RH σ rest with|some r,some rs=>some (r::rs)|_,_=>none)
def vy(P:Program)(fn:Func)(own:Bool)(res:List (List D))(e:Exit)(σ:St):Prop:=
 (e= .ret\/e= .normal)/\∃fJ,OZ P σ fn.results.toList fJ/\(if own then RH σ fJ=some res/\(XC fJ.flatten).Nodup else VX σ fJ=some res)
def rK(P:Program)(fn:Func)(res:List (List D))(e:Exit)(σ:St):Prop:=
 (e= .ret\/e= .normal)/\∃fJ,OZ P σ fn.results.toList fJ/\KT σ fJ=some res/\Jc σ fJ/\(XC fJ.flatten).Nodup
open Go.RowKit
variable{rest:List Oper}{fn:Func}{rv:List ResultVar}{fJ:List (List At)}
theorem NM:∀(args:List (List D))(t:Nat),(Lx args)[t]?=(args[t]?).map fun r=>(vOf (r.map .d),[])
 |[],t=>by simp[Lx]
 |r::rs,0=>by simp[Lx]
 |r::rs,t+1=>by simpa[Lx]using NM rs t
theorem JF(args:List (List D)):(Lx args).length=args.length:=by
 induction args with
 |nil=>rfl
 |cons r rs ih=>simp[Lx,ih]
theorem DH(hT:∀b k,T b k->b<w.heap.size)(ha:YJ (fun v row=>∃cs,ye v cs/\YJ (Rd T w) cs row) gb args):
  JV T (fun b=>b<w.heap.size) (WZ n args) {tmps:=gb.toArray++Array.replicate (n-gb.toArray.size) undef,defers:=[]} w:=by
 have hl:=ha.length;refine⟨fun _=>False,fun _ _=>Hd.of undef,?_⟩;have hZ:∀t j,(WZ n args).ob t j= .none:=by
  intro t j;unfold St.ob WZ;rcases Nat.lt_or_ge t args.length with h|h
  ·rw[List.getElem?_append_left zCX,NM,List.getElem?_eq_getElem h];simp[Yr]
  ·rw[List.getElem?_append_right zCX,List.getElem?_replicate];split
   ·rename_i e he;split at he
    ·cases he;simp[Yr]
    ·cases he
   ·rfl
 have aI:∀b k v,T b k->w.cell? ⟨b,k,none⟩=some v->w.cell? ⟨b,k,none⟩=some v/\Tof T (fun _=>False) b k:=fun b k v hb hc=>⟨hc,.inl hb⟩;refine⟨by simp[WZ,JF,hl],rfl,(fun b hb=>hb),(fun b hb=>hb.elim),hT,fun t ht=>?_,fun t j=>by rw[hZ];trivial,fun t j b ij=>absurd (hZ t j) ij,fun t j b ij=>absurd (hZ t j) ij,fun t j t' j' b ij=>absurd (hZ t j) ij⟩;unfold St.get WZ;rcases Nat.lt_or_ge t args.length with hD|dR
 ·rw[List.getElem?_append_left (by rw[JF];exact hD),NM,List.getElem?_eq_getElem hD];obtain⟨v,hv,cs,hf,ir⟩:=ha.get' t args[t] (List.getElem?_eq_getElem hD);have dM:(gb.toArray++Array.replicate (n-gb.toArray.size) undef).getD t undef=v:=by rw[Array.getD_eq_getD_getElem?,Array.getElem?_append_left zAk];simp[hv]
  simp only[dM];exact(Ei hf (TV (ir.imp fun _ _=>Rd.mono aI))).up
 ·rw[List.getElem?_append_right (by rw[JF];exact dR),List.getElem?_replicate];split
  ·rename_i e he;split at he
   ·cases he;trivial
   ·cases he
  ·trivial
theorem oO{ob:Nat->Nat->Ob}{xs:List At}{v:Value}(hv:Qk T h ob w (vOf xs) v):∃cs,ye v cs/\YJ (YR T h ob w) xs cs:=by
 match xs,hv with
 |[],hv=>obtain⟨cs,rfl,ir⟩:=hv;exact⟨cs.toList,.inr ⟨by rw[<-ir.length];simp,zAE⟩,ir⟩
 |[x],hv=>exact⟨[v],.inl ⟨v,rfl,rfl,YR.X1 hv⟩,.cons hv .nil⟩
 |x::y::xs,hv=>obtain⟨cs,rfl,ir⟩:=hv;exact⟨cs.toList,.inr ⟨by rw[<-ir.length];simp,zAE⟩,ir⟩
theorem sS(r:Rel T0 B σ a w X h):∀{rs:List ResultVar}{fJ:List (List At)},OZ P σ rs fJ->
  ∃vs gO,(rs.mapM (m:=Sem) fun|.tmp t=>pure (a.tmps.getD t undef)|.cell u t=>do loadVar t (<-asAddr (a.tmps.getD u undef))).run P w= .ok vs w/\YJ ye vs gO/\YJ (fun xs cs=>YJ (YR (Tof T0 X) h σ.ob w) xs cs) fJ gO
 |[],fJ,hr=>by cases hr;exact⟨[],[],zAE,.nil,.nil⟩
 |rv::rs,fJ,hr=>by
  obtain⟨xs,rest,h1,h2,rfl⟩:=hr;obtain⟨vs,gO,gA,hf,ir⟩:=sS r h2;have one:∃v cs,(match rv with|.tmp t=>(pure (a.tmps.getD t undef):Sem Value)|.cell u t=>do loadVar t (<-asAddr (a.tmps.getD u undef))).run P w= .ok v w/\ye v cs/\YJ (YR (Tof T0 X) h σ.ob w) xs cs:=by
   cases rv with
   |tmp t=>
    obtain⟨hg,hD⟩:=h1;have hv:=r.slot t hD
    rw[hg]at hv;obtain⟨cs,hf,ir⟩:=oO hv;exact⟨_,cs,zAE,hf,ir⟩
   |cell t T=>
    obtain⟨u,c,cells,hg,ho,ej,cE,ij,hle,rfl⟩:=h1;have hv:=r.get t
    rw[hg]at hv;obtain⟨b,cs,e,hb,he,hh,ir⟩:=r.box ho hv;have hlen:=ir.length
    obtain⟨val,hld,hagg,_⟩:=pM (P:=P) (w:=w) ej (b:=b) (off:=c) (cs:=cut cs.toList c (P.cellsOf T)) (XJ _ _ _ zAC) (fun j u hu=>zU hh _ _ (ze _ _ _ _ _ hu));refine⟨val,cut cs.toList c (P.cellsOf T),?_,.inr ⟨by rw[XJ _ _ _ zAC];exact ij,hagg cE⟩,ir.cut _ _⟩;simp only[Instr.loadAt,Instr.sureAddr,Sem.run_bind,Sem.run_pure,Result.andThen_ok]at hld;simp only[he,asAddr,Sem.run_bind,Sem.run_pure,Result.andThen_ok];exact hld
  obtain⟨v,cs,hrun1,hf1,hal1⟩:=one;refine⟨v::vs,cs::gO,?_,.cons hf1 hf,.cons hal1 ir⟩;simp only[List.mapM_cons,Sem.run_bind,hrun1,Result.andThen_ok,gA,Sem.run_pure]
theorem UH(r:Rel T0 B σ a w X h)(hr:OZ P σ fn.results.toList fJ):
  ∃vs gO,(results fn a.tmps).run P w= .ok (N8 vs) w/\YJ ye vs gO/\YJ (fun xs cs=>YJ (YR (Tof T0 X) h σ.ob w) xs cs) fJ gO:=by
 obtain⟨vs,gO,gA,hf,ir⟩:=sS r hr;refine⟨vs,gO,?_,hf,ir⟩;unfold results;rw[Array.mapM_eq_mapM_toList];change(((fn.results.toList.mapM (m:=Sem) fun|.tmp t=>pure (a.tmps.getD t undef)|.cell u t=>do loadVar t (<-asAddr (a.tmps.getD u undef)))>>=fun l=>pure l.toArray)>>=fun(vs:Array Value)=>pure (if h:vs.size=1 then vs[0]else .tuple vs)).run P w=_;simp only[Sem.run_bind,gA,Result.andThen_ok,Sem.run_pure];congr 1;match vs with
 |[]=>rfl
 |[v]=>rfl
 |v::v'::vs=>simp[N8]
theorem OJ(r:Rel T0 B σ a w X h){T:CS}(hT:∀b k,Lg T0 X h σ b k->T b k):∀{fJ:List (List At)}{gO:List (List Value)}{res:List (List D)},VX σ fJ=some res->YJ (fun xs cs=>YJ (YR (Tof T0 X) h σ.ob w) xs cs) fJ gO->
  YJ (fun cs row=>YJ (jB false T w) cs row) gO res
 |[],gO,res,hr,ir=>by cases ir;simp[VX]at hr;subst hr;exact .nil
 |xs::fJ,gO,res,hr,ir=>by
  cases ir with
  |cons h1 ir=>
   simp only[VX]at hr;split at hr
   ·rename_i row rs gN e8;cases hr;refine .cons ?_ (OJ r hT e8 ir);have:=r.rowOf false gN h1 (fun hh=>by cases hh)
    refine this.imp fun v d hd=>?_;simp only[jB,Bool.false_eq_true,if_false]at hd⊢;exact Rd.mono (fun b k v hb hc=>⟨hc,hT b k hb⟩) hd
   ·cases hr
theorem DM:∀{xs:List At}{ds:List D},ownRow σ xs=some ds->YJ (fun x d=>VB σ x=some d) xs ds
 |[],ds,hr=>by simp[ownRow]at hr;subst hr;exact .nil
 |x::xs,ds,hr=>by
  simp only[ownRow]at hr;split at hr
  ·rename_i d bk h1 h2;cases hr;exact .cons h1 (DM h2)
  ·cases hr
theorem FQ:∀{fJ:List (List At)}{res:List (List D)},RH σ fJ=some res->YJ (fun xs row=>YJ (fun x d=>VB σ x=some d) xs row) fJ res
 |[],res,hr=>by simp[RH]at hr;subst hr;exact .nil
 |xs::fJ,res,hr=>by
  simp only[RH]at hr;split at hr
  ·rename_i d bk h1 h2;cases hr;exact .cons (DM h1) (FQ h2)
  ·cases hr
theorem P8(r:Rel T0 B σ a w X h){x:At}{d:D}{v:Value}(hx:VB σ x=some d)(hv:YR (Tof T0 X) h σ.ob w x v):J0 (Tof T0 X) w v d/\(∀b,d.scalar=false->blk v=some b->∃t j lo len,x= .sref t j lo len/\σ.ob t j≠ .none/\(h t j).u b):=by
 cases x with
 |d x=>
  cases x with
  |sl s rows=>simp[VB]at hx
  |int k n=>simp[VB]at hx;subst hx;exact⟨hv,fun b hb=>by cases hb⟩
  |bool b=>simp[VB]at hx;subst hx;exact⟨hv,fun b hb=>by cases hb⟩
  |str s=>simp[VB]at hx;subst hx;exact⟨hv,fun b hb=>by cases hb⟩
  |unk=>simp[VB]at hx;subst hx;exact⟨hv,fun b hb=>by cases hb⟩
 |nil s=>simp[VB]at hx;subst hx;cases hv;exact⟨⟨0,[],World.ownsRow_nil w 0 0 s,zBT,.nil⟩,fun b _ hb=>by cases hb⟩
 |sref t j lo len=>
  simp only[VB]at hx;split at hx
  ·rename_i size rows ho;split at hx
   ·rename_i hc;obtain⟨rfl,rfl⟩:=hc;cases hx;obtain⟨_,fc,_⟩:=hv.2.1 _ size rows ho;have he:=fc rfl rfl
    have h0:=r.obj t j;have fE:=r.ub t j;rw[ho]at h0 fE;refine⟨by rw[he];exact h0,fun b _ hb=>⟨t,j,0,rows.length,rfl,by rw[ho];simp,fE b zAE (by rw[<-he];exact hb)⟩⟩
   ·cases hx
  ·cases hx
 |any=>simp[VB]at hx
 |ptr=>simp[VB]at hx
 |bptr=>simp[VB]at hx
 |fn=>simp[VB]at hx
 |rptr=>simp[VB]at hx
 |tref=>simp[VB]at hx
theorem Ap(hf:P.funcs[f]?=some fn)(hb:fn.body=some c)(gF:Rz P f=true){own:Bool}
  (hw:AWP P c (vy P fn own res) (WZ fn.ntmps args)):QX P f own args res:=by
 refine⟨gF,fun T w gb hT iw=>calls_of_wp hf hb ?_⟩;refine wp_mono (hw T (fun b=>b<w.heap.size) _ w (DH hT iw)) ?_;rintro e a' w' ⟨σ',⟨he,fJ,ft,iz⟩,⟨X,h,r⟩,hU⟩;have fu:Below w.heap.size w w':=⟨hU.os,hU.tape,hU.output,hU.size,hU.block⟩
 obtain⟨vs,gO,gA,gW,ir⟩:=UH r ft;have goal:a'.defers=[]/\∃v,(results fn a'.tmps).run P w'= .ok v w'/\mW own T w res (.returned v) w':=by
  refine⟨r.defers,_,gA,?_⟩;cases own with
  |false=>
   refine⟨vs,gO,fun b=>w.heap.size<=b/\b<w'.heap.size,rfl,fu,fun b hb=>hb,gW,?_,fun hh=>by cases hh⟩;refine OJ r (fun b k hb=>?_) (by simpa using iz) ir;rcases hb with hb|⟨t,j,q,size,rows,ho,hb⟩
   ·rcases hb with hb|hb
    ·exact .inl hb
    ·have:=r.hX b hb;exact .inr ⟨zAC,this.2⟩
   ·have:=r.own t j b zA9 hb;exact .inr ⟨zAC,this.2.2⟩
  |true=>
   simp only[if_true]at iz;obtain⟨iv,gm⟩:=iz;have g5:=FQ iv
   have cH:YJ (fun x d=>VB σ' x=some d) fJ.flatten res.flatten:=q9 g5;have cI:YJ (YR (Tof T X) h σ'.ob w') fJ.flatten gO.flatten:=q9 ir;refine⟨vs,gO,X,rfl,fu,(fun b hb=>by have:=r.hX b hb;exact⟨zAC,this.2⟩),gW,?_,fun _=>⟨fun i cc d b hc hd g9 hb=>?_,fun i j cc cc' d d' b hc hd ga hJ g9 hsc' hb hR=>?_⟩⟩
   ·clear cH cI gW gA ft iv gm he hw;induction g5 generalizing gO with
    |nil=>cases ir;exact .nil
    |cons hr _ ih=>
     cases ir with
     |cons aC ir=>refine .cons ?_ (ih _ ir);clear ih ir;refine YJ.xm (by rw[<-aC.length,hr.length]) (fun i v d hv hd=>?_);obtain⟨x,hx,hxd⟩:=hr.get' i d hd;obtain⟨v',e9,hxv⟩:=aC.get i x hx;rw[hv]at e9;cases e9;simp only[jB,if_true];exact(P8 r hxd hxv).1
   ·obtain⟨x,hx,hxd⟩:=cH.get' i d hd;obtain⟨v',e9,hxv⟩:=cI.get i x hx;rw[hc]at e9;cases e9;obtain⟨t,j,lo,len,_,ij,er⟩:=(P8 r hxd hxv).2 b g9 hb;have:=r.own t j b ij er
    exact⟨zAC,this.2.2,this.2.1⟩
   ·obtain⟨x,hx,hxd⟩:=cH.get' i d hd;obtain⟨v',e9,hxv⟩:=cI.get i x hx;rw[hc]at e9;cases e9;obtain⟨x2,hx2,hxd2⟩:=cH.get' j d' hJ;obtain⟨v2,gn,hxv2⟩:=cI.get j x2 hx2;rw[ga]at gn;cases gn;obtain⟨t,u,lo,len,rfl,ij,er⟩:=(P8 r hxd hxv).2 b g9 hb;obtain⟨t2,u2,lo2,len2,rfl,af,hbb2⟩:=(P8 r hxd2 hxv2).2 b hsc' hR;obtain⟨rfl,rfl⟩:=r.inj t u t2 u2 b ij af er hbb2;exact FA _ i j t u lo len lo2 len2 gm hx hx2
 rcases he with rfl|rfl
 ·exact goal
 ·exact goal
theorem Cq(hf:P.funcs[f]?=some fn)(hb:fn.body=some c)(gF:Rz P f=true)
  (hw:AWP P c (rK P fn res) (WZ fn.ntmps args)):YN P f args res:=by
 refine⟨gF,fun T w gb hT iw=>calls_of_wp hf hb ?_⟩;refine wp_mono (hw T (fun b=>b<w.heap.size) _ w (DH hT iw)) ?_;rintro e a' w' ⟨σ',⟨he,fJ,ft,eH,ee,gm⟩,⟨X,h,r⟩,hU⟩;have fu:Below w.heap.size w w':=⟨hU.os,hU.tape,hU.output,hU.size,hU.block⟩
 obtain⟨vs,gO,gA,gW,ir⟩:=UH r ft;have goal:a'.defers=[]/\∃v,(results fn a'.tmps).run P w'= .ok v w'/\o8 w res (.returned v) w':=by
  refine⟨r.defers,_,gA,vs,gO,rfl,fu,gW,?_,?_⟩
  ·clear gm ee ft gA gW hw;induction ir generalizing res with
   |nil=>simp[KT]at eH;subst eH;exact .nil
   |cons h1 _ ih=>
    simp only[KT]at eH;split at eH
    ·rename_i row rs gN e8;cases eH;exact .cons (by rw[<-h1.length];exact(jI gN).1) (ih e8)
    ·cases eH
  ·refine(Nb r (q9 ir) (qE eH).1 (xU ee) gm).mono (fun b hb=>?_);have:=r.z4 _ b hb
   exact⟨zAC,this.2.2.1⟩
 rcases he with rfl|rfl
 ·exact goal
 ·exact goal
open Go.RowKit
variable{os:List Ob}{op:BinOp}
theorem St.pB(e:Ent)(σ:St):St.get (e::σ) 0=e.1:=rfl
theorem St.pN(e:Ent)(σ:St)(n:Nat):St.get (e::σ) (n+1)=St.get σ n:=by simp[St.get]
theorem St.oG(e:Ent)(σ:St)(j:Nat):St.ob (e::σ) 0 j=Yr e.2 j:=rfl
theorem St.oK(e:Ent)(σ:St)(n j:Nat):St.ob (e::σ) (n+1) j=St.ob σ n j:=by simp[St.ob]
theorem B4(o:Ob)(os:List Ob):Yr (o::os) 0=o:=rfl
theorem VK(o:Ob)(os:List Ob)(n:Nat):Yr (o::os) (n+1)=Yr os n:=by simp[Yr]
theorem rn(n:Nat):Yr [] n= .none:=by simp[Yr]
def lkI(P:Program)(σ:St)(x:Operand):Prop×Int:=
 match unc (look P σ 0 x)with
 |.one (.d (.int _ n))=>(gOf (look P σ 0 x)=true,n)
 |_=>(False,0)
def lkK(P:Program)(σ:St)(x:Operand):IntKind:=
 match unc (look P σ 0 x)with
 |.one (.d (.int k _))=>k
 |_=>.i64
theorem UU(h:(lkI P σ x).1):SU P σ x (lkK P σ x) (lkI P σ x).2:=by
 unfold lkI at h⊢;unfold lkK;unfold SU;split at h
 ·rename_i k n heq;rw[heq];exact⟨h,rfl⟩
 ·exact h.elim
def yh(P:Program)(σ:St)(fa:Nat):Option Operand->Prop×Nat
 |none=>(True,fa)
 |some x=>((lkI P σ x).1/\0<=(lkI P σ x).2,(lkI P σ x).2.toNat)
theorem Pk{x:Option Operand}(h:(yh P σ fa x).1):bnd P σ fa x (yh P σ fa x).2:=by
 cases x with
 |none=>rfl
 |some x=>have h1:=UU h.1;exact⟨_,_,h1.1,h1.2,h.2,rfl⟩
def rowAt(rows:List (List D))(i:Nat):List D:=rows.getD i []
def bAt(s:ByteArray)(i:Nat):Nat:=(s.data.toList.getD i 0).toNat
def N5(P:Program)(σ:St)(T:TypeId)(x ix:Operand):Prop×V:=
 match unc (look P σ 0 x)with
 |.one (.d (.sl size rows))=>((gOf (look P σ 0 x)=true/\(lkI P σ ix).1)/\0<=(lkI P σ ix).2/\(XS P T=true/\size=P.cellsOf (ZS P T)/\0<size)/\(lkI P σ ix).2<(rows.length:Int),.one (.rptr (rowAt rows (lkI P σ ix).2.toNat) 0))
 |.one (.sref t j lo len)=>((gOf (look P σ 0 x)=true/\(lkI P σ ix).1)/\0<=(lkI P σ ix).2/\(XS P T=true/\0<P.cellsOf (ZS P T)/\(match σ.ob t j with|.arr _ size _=>size=P.cellsOf (ZS P T)|_=>False))/\(lkI P σ ix).2<(len:Int),.one (.ptr t j (lo+(lkI P σ ix).2.toNat) 0))
 |.one (.tref t j m c none)=>((gOf (look P σ 0 x)=true/\(lkI P σ ix).1)/\0<=(lkI P σ ix).2/\(XS P T=true/\0<P.cellsOf (ZS P T))/\(match σ.ob t j with|.arr true _ rows=>m<rows.length/\(match(rowAt rows m)[c]? with|some (.sl n s)=>n=P.cellsOf (ZS P T)/\(lkI P σ ix).2<(s.length:Int)|_=>False)|_=>False),.one (.tref t j m c (some ((lkI P σ ix).2.toNat*P.cellsOf (ZS P T)))))
 |.one (.bptr t c)=>((gOf (look P σ 0 x)=true/\(lkI P σ ix).1)/\0<=(lkI P σ ix).2/\(match σ.ob t 0 with|.box _=>True|_=>False)/\(match EZ P T with|some n=>1<n/\(lkI P σ ix).2<(n:Int)|none=>False),.one (.bptr t (c+(lkI P σ ix).2.toNat*P.cellsOf (ZS P T))))
 |_=>(False,.any)
def ue(P:Program)(σ:St)(T:TypeId)(x:Operand):Prop×V:=
 match unc (look P σ 0 x)with
 |.one (.bptr t c)=>(match σ.ob t 0 with|.box cells=>(gOf (look P σ 0 x)=true/\jc P T=true/\c+P.cellsOf T<=cells.length,ldV P T (cut cells c (P.cellsOf T)))|_=>(False,.any))
 |.one (.ptr t j i c)=>(match σ.ob t j with|.arr q size rows=>((gOf (look P σ 0 x)=true/\jc P T=true/\c+P.cellsOf T<=size)/\i<rows.length,ldV P T (OL q t j i c (cut (rowAt rows i) c (P.cellsOf T))))|_=>(False,.any))
 |.one (.rptr r c)=>(gOf (look P σ 0 x)=true/\jc P T=true/\c+P.cellsOf T<=r.length,ldV P T ((cut r c (P.cellsOf T)).map .d))
 |.one (.tref t j i c (some k))=>(match σ.ob t j with
  |.arr true _ rows=>(match(rowAt rows i)[c]? with
   |some (.sl 1 s)=>((gOf (look P σ 0 x)=true/\jc P T=true)/\i<rows.length/\P.cellsOf T=1/\k<s.length/\(rowAt s k).all D.scalar=true,ldV P T ((rowAt s k).map .d))
   |_=>(False,.any))
  |_=>(False,.any))
 |_=>(False,.any)
def MN(P:Program)(σ:St)(T:TypeId)(x:Operand)(f:Nat):Prop×V:=
 match unc (look P σ 0 x)with
 |.one (.bptr t c)=>(gOf (look P σ 0 x)=true/\WR P T f=true/\(match σ.ob t 0 with|.box _=>True|_=>False),.one (.bptr t (c+Qc P T f)))
 |.one (.ptr t j i c)=>(gOf (look P σ 0 x)=true/\WR P T f=true/\(match σ.ob t j with|.arr _ _ _=>True|_=>False),.one (.ptr t j i (c+Qc P T f)))
 |.one (.rptr r c)=>(gOf (look P σ 0 x)=true/\WR P T f=true,.one (.rptr r (c+Qc P T f)))
 |.one (.tref t j i c (some k))=>(gOf (look P σ 0 x)=true/\WR P T f=true/\(match σ.ob t j with|.arr true _ _=>True|_=>False),.one (.tref t j i c (some (k+Qc P T f))))
 |_=>(False,.any)
def AT(P:Program)(op:BinOp)(T:TypeId)(x y:V):Prop×V:=
 match op,x,y with
 |.eql,.one (.d (.int k m)),.one (.d (.int k' n))=>(k'=k,.one (.d (.bool (m==n))))
 |.neq,.one (.d (.int k m)),.one (.d (.int k' n))=>(k'=k,.one (.d (.bool (m !=n))))
 |.lss,.one (.d (.int k m)),.one (.d (.int k' n))=>(k'=k,.one (.d (.bool (decide (m<n)))))
 |.leq,.one (.d (.int k m)),.one (.d (.int k' n))=>(k'=k,.one (.d (.bool (decide (m<=n)))))
 |.gtr,.one (.d (.int k m)),.one (.d (.int k' n))=>(k'=k,.one (.d (.bool (decide (m>n)))))
 |.geq,.one (.d (.int k m)),.one (.d (.int k' n))=>(k'=k,.one (.d (.bool (decide (m>=n)))))
 |.add,.one (.d (.int k m)),.one (.d (.int k' n))=>(k'=k,.one (.d (.int k (k.wrap (m+n)))))
 |.sub,.one (.d (.int k m)),.one (.d (.int k' n))=>(k'=k,.one (.d (.int k (k.wrap (m-n)))))
 |.mul,.one (.d (.int k m)),.one (.d (.int k' n))=>(k'=k,.one (.d (.int k (k.wrap (m*n)))))
 |.quo,.one (.d (.int k m)),.one (.d (.int k' n))=>(k'=k/\n≠0,.one (.d (.int k (k.wrap (m.tdiv n)))))
 |.rem,.one (.d (.int k m)),.one (.d (.int k' n))=>(k'=k/\n≠0,.one (.d (.int k (m.tmod n))))
 |.and,.one (.d (.int k m)),.one (.d (.int k' n))=>(k'=k,.one (.d (.int k (Ba k m n))))
 |.or,.one (.d (.int k m)),.one (.d (.int k' n))=>(k'=k,.one (.d (.int k (iOr k m n))))
 |.xor,.one (.d (.int k m)),.one (.d (.int k' n))=>(k'=k,.one (.d (.int k (py k m n))))
 |.shl,.one (.d (.int k m)),.one (.d (.int _ n))=>(0<=n,.one (.d (.int k (k.wrap (m*2^min n.toNat k.bits)))))
 |.shr,.one (.d (.int k m)),.one (.d (.int _ n))=>(0<=n,.one (.d (.int k (m.fdiv (2^min n.toNat k.bits)))))
 |.add,.one (.d (.str m)),.one (.d (.str n))=>(((m.size+n.size:Nat):Int)<=9223372036854775807,.one (.d (.str (m++n))))
 |.eql,.one (.d (.str m)),.one (.d (.str n))=>(True,.one (.d (.bool (decide (m=n)))))
 |.neq,.one (.d (.str m)),.one (.d (.str n))=>(True,.one (.d (.bool (!decide (m=n)))))
 |.eql,.one (.d (.bool m)),.one (.d (.bool n))=>(G8 P T=true,.one (.d (.bool (m==n))))
 |.neq,.one (.d (.bool m)),.one (.d (.bool n))=>(G8 P T=true,.one (.d (.bool (!(m==n)))))
 |.eql,.agg xs,.agg ys=>(My P T=true/\(QW P (zX P T) xs ys).isSome=true,.one (.d (.bool ((QW P (zX P T) xs ys).getD false))))
 |.neq,.agg xs,.agg ys=>(My P T=true/\(QW P (zX P T) xs ys).isSome=true,.one (.d (.bool (!(QW P (zX P T) xs ys).getD false))))
 |_,_,_=>(False,.any)
def OD(P:Program)(σ:St)(T:TypeId):List (Nat×Operand)->List At->Prop×List At
 |[],r=>(True,r)
 |(i,x)::ps,r=>((bOk P T i=true/\gOf (look P σ (bTy P T i) x)=true/\(unc (look P σ (bTy P T i) x)).flat=true/\
   (unc (look P σ (bTy P T i) x)).cells.length=P.cellsOf (bTy P T i)/\jx P T i+P.cellsOf (bTy P T i)<=r.length)/\(OD P σ T ps (place r (jx P T i) (unc (look P σ (bTy P T i) x)).cells)).1,
   (OD P σ T ps (place r (jx P T i) (unc (look P σ (bTy P T i) x)).cells)).2)
theorem Ey{P:Program}{σ:St}{T:TypeId}:∀{ps:List (Nat×Operand)}{r:List At},(OD P σ T ps r).1->Rk P σ T ps r (OD P σ T ps r).2
 |[],_,_=>rfl
 |(_,_)::_,_,h=>⟨h.1.1,h.1.2.1,h.1.2.2.1,h.1.2.2.2.1,h.1.2.2.2.2,Ey h.2⟩
def isB:V->Bool
 |.one (.d (.bool _))=>true
 |_=>false
def bOf:V->Bool
 |.one (.d (.bool b))=>b
 |_=>false
theorem pF:∀{v:V},isB v=true->v= .one (.d (.bool (bOf v)))
 |.one (.d (.bool _)),_=>rfl
def evV(P:Program)(σ:St)(op:Op)(ty:TypeId):Prop×V:=
 match op with
 |.move x=>(True,look P σ ty x)
 |.assign x=>(True,look P σ ty x)
 |.pick c a b=>
  (match unc (look P σ ty c)with
  |.one (.d (.bool bc))=>((gOf (look P σ ty c)=true/\(bc=true->isB (unc (look P σ ty a))=true)/\(bc=false->isB (unc (look P σ ty b))=true))/\(bc=true->gOf (look P σ ty a)=true)/\(bc=false->gOf (look P σ ty b)=true),.one (.d (.bool (cond bc (bOf (unc (look P σ ty a))) (bOf (unc (look P σ ty b)))))))
  |_=>(False,.any))
 |.load T x=>ue P σ T x
 |.fieldAddr T x f=>MN P σ T x f
 |.nilCheck x=>(match unc (look P σ 0 x)with
  |.one (.bptr t c)=>(gOf (look P σ 0 x)=true/\(match σ.ob t 0 with|.box _=>True|_=>False),.one (.bptr t c))
  |_=>(False,.any))
 |.indexAddr T x ix=>N5 P σ T x ix
 |.index T x ix=>
  (match unc (look P σ 0 x)with
  |.one (.d (.str s))=>((gOf (look P σ 0 x)=true/\(lkI P σ ix).1)/\0<=(lkI P σ ix).2/\R8 P T=true/\(lkI P σ ix).2<(s.size:Int),.one (.d (.int .u8 (bAt s (lkI P σ ix).2.toNat))))
  |.agg xs=>((gOf (look P σ 0 x)=true/\(lkI P σ ix).1)/\0<=(lkI P σ ix).2/\(match EZ P T with|some n=>(lkI P σ ix).2<(n:Int)|none=>False)/\jc P (ZS P T)=true/\(lkI P σ ix).2.toNat*P.cellsOf (ZS P T)+P.cellsOf (ZS P T)<=xs.length,
    ldV P (ZS P T) (cut xs ((lkI P σ ix).2.toNat*P.cellsOf (ZS P T)) (P.cellsOf (ZS P T))))
  |_=>(False,.any))
 |.slice T x lo hi none=>
  (match unc (look P σ 0 x)with
  |.one (.d (.str s))=>((gOf (look P σ 0 x)=true/\R8 P T=true/\(yh P σ 0 lo).1/\(yh P σ s.size hi).1)/\(yh P σ 0 lo).2<=(yh P σ s.size hi).2/\(yh P σ s.size hi).2<=s.size,.one (.d (.str (s.extract (yh P σ 0 lo).2 (yh P σ s.size hi).2))))
  |.one (.d (.sl size rows))=>((gOf (look P σ 0 x)=true/\XS P T=true/\size=P.cellsOf (ZS P T)/\(yh P σ 0 lo).1/\(yh P σ rows.length hi).1)/\(yh P σ 0 lo).2<=(yh P σ rows.length hi).2/\(yh P σ rows.length hi).2<=rows.length,
    .one (.d (.sl size (cut rows (yh P σ 0 lo).2 ((yh P σ rows.length hi).2-(yh P σ 0 lo).2)))))
  |.one (.sref t j o len)=>((gOf (look P σ 0 x)=true/\XS P T=true/\(match σ.ob t j with|.arr _ size _=>size=P.cellsOf (ZS P T)|_=>False)/\(yh P σ 0 lo).1/\(yh P σ len hi).1)/\(yh P σ 0 lo).2<=(yh P σ len hi).2/\(yh P σ len hi).2<=len,
    .one (.sref t j (o+(yh P σ 0 lo).2) ((yh P σ len hi).2-(yh P σ 0 lo).2)))
  |_=>(False,.any))
 |.binOp op T x y _=>((gOf (look P σ T x)=true/\gOf (look P σ T y)=true)/\(AT P op T (unc (look P σ T x)) (unc (look P σ T y))).1,(AT P op T (unc (look P σ T x)) (unc (look P σ T y))).2)
 |.unOp .not _ x=>(match unc (look P σ 0 x)with|.one (.d (.bool b))=>(gOf (look P σ 0 x)=true,.one (.d (.bool (!b))))|_=>(False,.any))
 |.unOp .neg _ x=>(match unc (look P σ 0 x)with|.one (.d (.int k n))=>(gOf (look P σ 0 x)=true,.one (.d (.int k (k.wrap (-n)))))|_=>(False,.any))
 |.convert S T x=>(match unc (look P σ 0 x),uo P T with|.one (.d (.int _ n)),some k=>(gOf (look P σ 0 x)=true/\(P.underlying S).isSome=true,.one (.d (.int k (k.wrap n))))|_,_=>(False,.any))
 |.extract x i=>(match unc (look P σ 0 x)with|.tup xs=>(gOf (look P σ 0 x)=true/\i<xs.length/\(xs.getD i .any).flat=true,xs.getD i .any)|_=>(False,.any))
 |.field T x f=>
  (match unc (look P σ 0 x)with
  |.agg xs=>(gOf (look P σ 0 x)=true/\WR P T f=true/\jc P (jZ P T f)=true/\Qc P T f+P.cellsOf (jZ P T f)<=xs.length,ldV P (jZ P T f) (cut xs (Qc P T f) (P.cellsOf (jZ P T f))))
  |_=>(False,.any))
 |.build T parts=>(match UD P 12 T with|some z=>((QE P T=true/\PH P T=true)/\(OD P σ T parts.toList z).1,.agg (OD P σ T parts.toList z).2)|none=>(False,.any))
 |.call ⟨.builtin .len,⟨[x]⟩,⟨[t]⟩⟩=>
  (match unc (look P σ t x)with
  |.one (.d (.str s))=>(gOf (look P σ t x)=true/\R8 P t=true,.one (.d (.int .i64 s.size)))
  |.one (.d (.sl _ rows))=>(gOf (look P σ t x)=true/\XS P t=true,.one (.d (.int .i64 rows.length)))
  |.one (.nil _)=>(gOf (look P σ t x)=true/\XS P t=true,.one (.d (.int .i64 0)))
  |.one (.sref u j _ len)=>(gOf (look P σ t x)=true/\XS P t=true/\(match σ.ob u j with|.arr _ _ _=>True|.lit _ _=>True|_=>False),.one (.d (.int .i64 len)))
  |.one (.tref u j i c none)=>(match σ.ob u j with
   |.arr true _ rows=>(match(rowAt rows i)[c]? with
    |some (.sl _ s)=>((gOf (look P σ t x)=true/\XS P t=true)/\i<rows.length,.one (.d (.int .i64 s.length)))
    |_=>(False,.any))
   |_=>(False,.any))
  |_=>(False,.any))
 |.call ⟨.builtin .max,⟨[x,y]⟩,_⟩=>((lkI P σ x).1/\(lkI P σ y).1/\lkK P σ y=lkK P σ x,.one (.d (.int (lkK P σ x) (if(lkI P σ y).2>(lkI P σ x).2 then(lkI P σ y).2 else(lkI P σ x).2))))
 |.call ⟨.builtin .min,⟨[x,y]⟩,_⟩=>((lkI P σ x).1/\(lkI P σ y).1/\lkK P σ y=lkK P σ x,.one (.d (.int (lkK P σ x) (if(lkI P σ y).2<(lkI P σ x).2 then(lkI P σ y).2 else(lkI P σ x).2))))
 |_=>(False,.any)
theorem uy{o:Ob}(h:(match o with|.box _=>True|_=>False)):∃cells,o= .box cells:=by
 cases o with
 |box c=>exact⟨c,rfl⟩
 |none=>exact h.elim
 |arr q s r=>exact h.elim
 |lit s r=>exact h.elim
theorem n7{o:Ob}(h:(match o with|.arr _ _ _=>True|_=>False)):∃q size rows,o= .arr q size rows:=by
 cases o with
 |arr q s r=>exact⟨q,s,r,rfl⟩
 |none=>exact h.elim
 |box c=>exact h.elim
 |lit s r=>exact h.elim
theorem nm{o:Ob}(h:(match o with|.arr _ _ _=>True|.lit _ _=>True|_=>False)):(∃q size rows,o= .arr q size rows)\/∃size rows,o= .lit size rows:=by
 cases o with
 |arr q s r=>exact .inl ⟨q,s,r,rfl⟩
 |none=>exact h.elim
 |box c=>exact h.elim
 |lit s r=>exact .inr ⟨s,r,rfl⟩
theorem sQ{o:Ob}(h:(match o with|.arr _ size _=>size=n|_=>False)):∃q rows,o= .arr q n rows:=by
 cases o with
 |arr q s r=>simp at h;subst h;exact⟨q,r,rfl⟩
 |none=>exact h.elim
 |box c=>exact h.elim
 |lit s r=>exact h.elim
theorem pv{T:TypeId}{x y:V}(hc:(AT P op T x y).1):uT P op T x y (AT P op T x y).2:=by
 unfold AT at hc⊢;split at hc;all_goals first
  |exact hc.elim
  |exact⟨.inr hc,rfl⟩
  |exact⟨.inr hc.1,hc.2,rfl⟩
  |exact⟨.inl (.inl rfl),hc,rfl⟩
  |exact⟨.inl (.inr rfl),hc,rfl⟩
  |exact⟨hc,rfl⟩
  |rfl
  |(obtain⟨q,hq⟩:=Option.isSome_iff_exists.1 hc.2;exact⟨hc.1,q,hq,.inl ⟨rfl,by rw[hq];rfl⟩⟩)
  |(obtain⟨q,hq⟩:=Option.isSome_iff_exists.1 hc.2;exact⟨hc.1,q,hq,.inr ⟨rfl,by rw[hq];rfl⟩⟩)
theorem tQ{op:Op}{ty:TypeId}(hc:(evV P σ op ty).1):Yj P σ op ty (evV P σ op ty).2:=by
 unfold evV at hc⊢;split at hc
 ·rfl
 ·rfl
 ·rename_i c a b;split at hc
  ·rename_i bc h1;exact⟨bc,_,_,hc.1.1,h1,(fun hh=>pF (hc.1.2.1 hh)),(fun hh=>pF (hc.1.2.2 hh)),hc.2.1,hc.2.2,zAf⟩
  ·exact hc.elim
 ·rename_i T x;unfold ue at hc⊢;simp only[Yj];split at hc
  ·rename_i t c hx;split at hc
   ·rename_i cells ho;simp only[hx,ho];exact⟨hc.1,hc.2.1,cells,rfl,hc.2.2,zAf⟩
   ·exact hc.elim
  ·rename_i t j i c hx;split at hc
   ·rename_i size rows ho;simp only[hx,ho];exact⟨hc.1.1,hc.1.2.1,_,size,rows,rfl,hc.2,hc.1.2.2,zAf⟩
   ·exact hc.elim
  ·rename_i r c hx;simp only[hx];exact⟨hc.1,hc.2.1,hc.2.2,zAf⟩
  ·rename_i t j i c k hx;split at hc
   ·rename_i size rows ho;split at hc
    ·rename_i s iz;simp only[hx,ho,iz];exact⟨hc.1.1,hc.1.2,size,rows,s,rfl,hc.2.1,iz,hc.2.2.1,hc.2.2.2.1,hc.2.2.2.2,zAf⟩
    ·exact hc.elim
   ·exact hc.elim
  ·exact hc.elim
 ·rename_i T x f;unfold MN at hc⊢;simp only[Yj];split at hc
  ·rename_i t c hx;simp only[hx];exact⟨hc.1,hc.2.1,uy hc.2.2,zAf⟩
  ·rename_i t j i c hx;simp only[hx];exact⟨hc.1,hc.2.1,n7 hc.2.2,zAf⟩
  ·rename_i r c hx;simp only[hx];exact⟨hc.1,hc.2,zAf⟩
  ·rename_i t j i c k hx;have h3:=hc.2.2
   split at h3
   ·rename_i size rows ho;simp only[hx];exact⟨hc.1,hc.2.1,⟨size,rows,ho⟩,zAf⟩
   ·exact h3.elim
  ·exact hc.elim
 ·rename_i x;simp only[Yj];split at hc
  ·rename_i t c hx;simp only[hx];exact⟨hc.1,uy hc.2,zAf⟩
  ·exact hc.elim
 ·rename_i T x ix;unfold N5 at hc⊢;simp only[Yj];split at hc
  ·rename_i size rows hx;simp only[hx];exact⟨_,_,UU hc.1.2,hc.2.1,hc.1.1,hc.2.2.1.1,hc.2.2.1.2.1,hc.2.2.1.2.2,hc.2.2.2,zAf⟩
  ·rename_i t j lo len hx;simp only[hx];exact⟨_,_,UU hc.1.2,hc.2.1,hc.1.1,hc.2.2.1.1,hc.2.2.1.2.1,sQ hc.2.2.1.2.2,hc.2.2.2,zAf⟩
  ·rename_i t j m c hx;have h3:=hc.2.2.2
   split at h3
   ·rename_i size rows ho;obtain⟨hm,h4⟩:=h3;split at h4
    ·rename_i n s hr;obtain⟨rfl,hD⟩:=h4;simp only[hx];exact⟨_,_,UU hc.1.2,hc.2.1,hc.1.1,hc.2.2.1.1,hc.2.2.1.2,⟨size,rows,s,ho,hm,hr,hD⟩,zAf⟩
    ·exact h4.elim
   ·exact h3.elim
  ·rename_i t c hx;simp only[hx];refine⟨_,_,UU hc.1.2,hc.2.1,hc.1.1,uy hc.2.2.1,?_,zAf⟩;have:=hc.2.2.2
   split at this
   ·rename_i n hn;exact⟨n,hn,this.1,this.2⟩
   ·exact this.elim
  ·exact hc.elim
 ·rename_i T x ix;simp only[Yj];split at hc
  ·rename_i s hx;simp only[hx];exact⟨_,_,UU hc.1.2,hc.2.1,hc.1.1,hc.2.2.1,hc.2.2.2,zAf⟩
  ·rename_i xs hx;simp only[hx];refine⟨_,_,UU hc.1.2,hc.2.1,hc.1.1,?_,hc.2.2.2.1,hc.2.2.2.2,zAf⟩;have:=hc.2.2.1
   split at this
   ·rename_i n hn;exact⟨n,hn,this⟩
   ·exact this.elim
  ·exact hc.elim
 ·rename_i T x lo hi;simp only[Yj];split at hc
  ·rename_i s hx;simp only[hx];exact⟨hc.1.1,hc.1.2.1,_,_,Pk hc.1.2.2.1,Pk hc.1.2.2.2,hc.2.1,hc.2.2,zAf⟩
  ·rename_i size rows hx;simp only[hx];exact⟨hc.1.1,hc.1.2.1,hc.1.2.2.1,_,_,Pk hc.1.2.2.2.1,Pk hc.1.2.2.2.2,hc.2.1,hc.2.2,zAf⟩
  ·rename_i t j o len hx;simp only[hx];exact⟨hc.1.1,hc.1.2.1,sQ hc.1.2.2.1,_,_,Pk hc.1.2.2.2.1,Pk hc.1.2.2.2.2,hc.2.1,hc.2.2,zAf⟩
  ·exact hc.elim
 ·exact⟨hc.1.1,hc.1.2,pv hc.2⟩
 ·simp only[Yj];split at hc
  ·rename_i b hx;simp only[hx];exact⟨hc,zAf⟩
  ·exact hc.elim
 ·simp only[Yj];split at hc
  ·rename_i k n hx;simp only[hx];exact⟨hc,zAf⟩
  ·exact hc.elim
 ·rename_i S T x;simp only[Yj];split at hc
  ·rename_i k0 n k hx hk;simp only[hx,hk];exact⟨hc.1,hc.2,k,rfl,zAf⟩
  ·exact hc.elim
 ·rename_i x i;simp only[Yj];split at hc
  ·rename_i xs hx;simp only[hx];exact⟨hc.1,by simp[List.getD_eq_getElem?_getD,List.getElem?_eq_getElem hc.2.1],hc.2.2⟩
  ·exact hc.elim
 ·simp only[Yj];split at hc
  ·rename_i xs hx;simp only[hx];exact⟨hc.1,hc.2.1,hc.2.2.1,hc.2.2.2,zAf⟩
  ·exact hc.elim
 ·simp only[Yj];split at hc
  ·rename_i z hz;exact⟨hc.1.1,hc.1.2,z,_,hz,Ey hc.2,zAf⟩
  ·exact hc.elim
 ·simp only[Yj];split at hc
  ·rename_i s hx;simp only[hx];exact⟨hc.1,hc.2,zAf⟩
  ·rename_i s rows hx;simp only[hx];exact⟨hc.1,hc.2,zAf⟩
  ·rename_i s hx;simp only[hx];exact⟨hc.1,hc.2,zAf⟩
  ·rename_i u j lo len hx;simp only[hx];exact⟨hc.1,hc.2.1,nm hc.2.2,zAf⟩
  ·rename_i u j i c hx;split at hc
   ·rename_i rows ho;split at hc
    ·rename_i s iz;simp only[hx,ho,iz];exact⟨hc.1.1,hc.1.2,_,rows,_,s,rfl,hc.2,iz,zAf⟩
    ·exact hc.elim
   ·exact hc.elim
  ·exact hc.elim
 ·simp only[Yj];have hy:=UU hc.2.1
  rw[hc.2.2]at hy;exact⟨_,_,_,UU hc.1,hy,zAf⟩
 ·simp only[Yj];have hy:=UU hc.2.1
  rw[hc.2.2]at hy;exact⟨_,_,_,UU hc.1,hy,zAf⟩
 ·exact hc.elim
open Go.RowKit
def OG(P:Program)(σ:St)(T:TypeId)(size:Nat):List (Nat×Operand)->Nat->Prop×List (List D)
 |[],_=>(True,[])
 |(i,x)::ps,k=>((i=k/\gOf (look P σ T x)=true/\(unc (look P σ T x)).flat=true/\zS (unc (look P σ T x)).cells=true/\(rowOf σ (unc (look P σ T x)).cells).isSome=true/\((rowOf σ (unc (look P σ T x)).cells).getD []).length=size)/\(OG P σ T size ps (k+1)).1,
   (rowOf σ (unc (look P σ T x)).cells).getD []::(OG P σ T size ps (k+1)).2)
theorem By{P:Program}{σ:St}{T:TypeId}{size:Nat}:∀{ps:List (Nat×Operand)}{k:Nat},(OG P σ T size ps k).1->HL P σ T size ps k (OG P σ T size ps k).2
 |[],_,_=>rfl
 |(_,x)::_,_,h=>by
  obtain⟨⟨h1,h2,h3,h4,h5,h6⟩,h7⟩:=h;obtain⟨r,hr⟩:=Option.isSome_iff_exists.1 h5;refine⟨h1,h2,h3,h4,r,_,hr,?_,By h7,?_⟩
  ·rw[hr]at h6;exact h6
  ·simp only[OG,hr,Option.getD_some]
def O3(σ:St)(x:V)(size:Nat):Prop×List (List D)×St:=
 match x with
 |.one (.nil _)=>(True,[],σ)
 |.one (.sref t j lo len)=>(match σ.ob t j with|.arr false s im=>(s=size/\lo=0/\len=im.length,im,σ.Z0 t j .none)|_=>(False,[],σ))
 |_=>(False,[],σ)
theorem rW{x:V}(h:(O3 σ x size).1):OC σ x size (O3 σ x size).2.1 (O3 σ x size).2.2:=by
 unfold O3 at h⊢;split at h
 ·exact⟨rfl,rfl⟩
 ·rename_i t j lo len;split at h
  ·rename_i s im ho;obtain⟨rfl,rfl,rfl⟩:=h;exact⟨im,ho,rfl,Nat.le_refl _,(List.take_length).symm,rfl⟩
  ·exact h.elim
 ·exact h.elim
def HY(σ:St)(x:V)(size:Nat):Prop×List (List D):=
 match x with
 |.one (.d (.sl s rows))=>(s=size,rows)
 |.one (.nil _)=>(True,[])
 |.one (.sref t j lo len)=>(match σ.ob t j with|.arr false s rows=>(s=size/\lo+len<=rows.length,cut rows lo len)|_=>(False,[]))
 |_=>(False,[])
theorem po{x:V}(h:(HY σ x size).1):yF σ x size (HY σ x size).2:=by
 unfold HY at h⊢;split at h
 ·exact⟨h,rfl⟩
 ·rfl
 ·rename_i t j lo len;split at h
  ·rename_i s rows ho;obtain⟨rfl,hle⟩:=h;exact⟨rows,ho,hle,rfl⟩
  ·exact h.elim
 ·exact h.elim
def evS(P:Program)(σ:St)(o:Oper)(d:Nat):Prop×St:=
 match o.op with
 |.alloc T=>(match UD P 12 T with|some row=>(σ.fresh d=true/\QE P T=true,σ.new d (.one (.bptr d 0)) [.box row])|none=>(False,σ))
 |.box T x=>(σ.fresh d=true/\gOf (look P σ T x)=true/\(unc (look P σ T x)).flat=true/\Yb d (unc (look P σ T x)).cells=false,σ.new d (.one (.bptr d 0)) [.box (unc (look P σ T x)).cells])
 |.buildSlice T n parts=>((σ.fresh d=true/\XS P T=true/\QE P (ZS P T)=true/\0<P.cellsOf (ZS P T)/\parts.toList.length=n/\n*P.cellsOf (ZS P T)<=16777216)/\(OG P σ (ZS P T) (P.cellsOf (ZS P T)) parts.toList 0).1,
   σ.new d (.one (.sref d 0 0 (OG P σ (ZS P T) (P.cellsOf (ZS P T)) parts.toList 0).2.length)) [.arr false (P.cellsOf (ZS P T)) (OG P σ (ZS P T) (P.cellsOf (ZS P T)) parts.toList 0).2])
 |.makeSlice T x y=>(match UD P 12 (ZS P T)with
   |some z=>(match zD z with
    |some zr=>((x=y/\σ.fresh d=true/\XS P T=true/\QE P (ZS P T)=true/\0<P.cellsOf (ZS P T)/\(lkI P σ x).1)/\0<=(lkI P σ x).2/\P.bytesOf (ZS P T)*(lkI P σ x).2.toNat<=281474976710656/\(lkI P σ x).2<=9223372036854775807,
      σ.new d (.one (.sref d 0 0 (lkI P σ x).2.toNat)) [.arr false (P.cellsOf (ZS P T)) (List.replicate (lkI P σ x).2.toNat zr)])
    |none=>(False,σ))
   |none=>(False,σ))
 |.call ⟨.builtin .append,⟨[x,y]⟩,⟨[t,t']⟩⟩=>
   (((t=t'/\gOf (look P σ t x)=true/\gOf (look P σ t y)=true/\XS P t=true/\QE P (ZS P t)=true/\0<P.cellsOf (ZS P t))/\(O3 σ (unc (look P σ t x)) (P.cellsOf (ZS P t))).1/\(HY σ (unc (look P σ t y)) (P.cellsOf (ZS P t))).1/\(O3 σ (unc (look P σ t x)) (P.cellsOf (ZS P t))).2.2.fresh d=true)/\
    ((O3 σ (unc (look P σ t x)) (P.cellsOf (ZS P t))).2.1.length+(HY σ (unc (look P σ t y)) (P.cellsOf (ZS P t))).2.length)*P.bytesOf (ZS P t)<=140737488355328/\
    (O3 σ (unc (look P σ t x)) (P.cellsOf (ZS P t))).2.1.length+(HY σ (unc (look P σ t y)) (P.cellsOf (ZS P t))).2.length<=9223372036854775807,
   (O3 σ (unc (look P σ t x)) (P.cellsOf (ZS P t))).2.2.new d (.one (.sref d 0 0 ((O3 σ (unc (look P σ t x)) (P.cellsOf (ZS P t))).2.1.length+(HY σ (unc (look P σ t y)) (P.cellsOf (ZS P t))).2.length)))
    [.arr false (P.cellsOf (ZS P t)) ((O3 σ (unc (look P σ t x)) (P.cellsOf (ZS P t))).2.1++(HY σ (unc (look P σ t y)) (P.cellsOf (ZS P t))).2)])
 |op=>((evV P σ op o.type).1,σ.put d (evV P σ op o.type).2)
def vX(P:Program)(σ:St)(T:TypeId)(x y:Operand):Prop×St:=
 match unc (look P σ 0 x)with
 |.one (.bptr t c)=>(match σ.ob t 0 with
  |.box cells=>(jc P T=true/\gOf (look P σ 0 x)=true/\gOf (look P σ T y)=true/\(unc (look P σ T y)).flat=true/\(unc (look P σ T y)).cells.length=P.cellsOf T/\c+P.cellsOf T<=cells.length,σ.Z0 t 0 (.box (place cells c (unc (look P σ T y)).cells)))
  |_=>(False,σ))
 |.one (.ptr t j i c)=>(match σ.ob t j with
  |.arr q size rows=>((jc P T=true/\gOf (look P σ 0 x)=true/\gOf (look P σ T y)=true/\(unc (look P σ T y)).flat=true/\(rowOf σ (unc (look P σ T y)).cells).isSome=true/\zS (unc (look P σ T y)).cells=true/\((rowOf σ (unc (look P σ T y)).cells).getD []).length=P.cellsOf T/\c+P.cellsOf T<=size)/\i<rows.length/\(q=true->((rowOf σ (unc (look P σ T y)).cells).getD []).all D.scalar=true/\(cut (rowAt rows i) c (P.cellsOf T)).all D.scalar=true),
    σ.Z0 t j (.arr q size (rows.set i (place (rowAt rows i) c ((rowOf σ (unc (look P σ T y)).cells).getD [])))))
  |_=>(False,σ))
 |_=>(False,σ)
theorem pj(cu:∀c,o.op= .call c->∀f,c.callee≠ .value (.func f))(hc:(evS P σ o d).1):Step P o d σ (evS P σ o d).2:=by
 unfold evS at hc⊢;split at hc
 ·rename_i T ig;unfold Step;rw[ig];split at hc
  ·rename_i row gN;simp only[gN];exact⟨hc.1,hc.2,row,rfl,rfl⟩
  ·exact hc.elim
 ·rename_i T x ig;unfold Step;rw[ig];exact⟨hc.1,hc.2.1,hc.2.2.1,hc.2.2.2,rfl⟩
 ·rename_i T n parts ig;unfold Step;rw[ig];obtain⟨⟨h1,h2,h3,h4,h5,h6⟩,h7⟩:=hc;exact .inl ⟨h1,h2,h3,h4,h5,h6,.inl ⟨_,By h7,rfl⟩⟩
 ·rename_i T x y ig;unfold Step;rw[ig];split at hc
  ·rename_i z hz;split at hc
   ·rename_i zr ep;obtain⟨⟨h1,h2,h3,h4,h5,h6⟩,h7,h8,h9⟩:=hc;have hl:=UU h6
    simp only[hz];refine⟨h1,h2,h3,h4,h5,false,z,zr,lkK P σ x,(lkI P σ x).2.toNat,(fun hh=>by cases hh),rfl,ep,?_,h8,zAC,rfl⟩;rw[Int.toNat_of_nonneg h7];exact hl
   ·exact hc.elim
  ·exact hc.elim
 ·rename_i x y t t' ig;unfold Step;rw[ig];obtain⟨⟨⟨rfl,h1,h2,h3,h4,h5⟩,h6,h7,h8⟩,h9,dT⟩:=hc;exact⟨x,y,t,rfl,rfl,h1,h2,h3,h4,h5,_,_,_,rW h6,po h7,h8,h9,dT,rfl⟩
 ·rename_i op h1 h2 h3 h4 h5;have hv:=tQ hc
  unfold Step;split
  ·rename_i T ig;exact absurd ig (h1 T)
  ·rename_i T x ig;exact absurd ig (h2 T x)
  ·rename_i T n ps ig;exact absurd ig (h3 T n ps)
  ·rename_i T x y ig;exact absurd ig (h4 T x y)
  ·rename_i c ig;split
   ·rename_i dX;rw[ig]at hv;simp only[Yj]at hv;split at hv
    ·rename_i bF _ _;rw[dX]at bF;cases bF
    ·rename_i bF _;rw[dX]at bF;cases bF
    ·rename_i bF _;rw[dX]at bF;cases bF
    ·exact hv.elim
   ·rename_i f dX;exact absurd dX (cu c ig f)
   ·exact⟨_,hv,rfl⟩
  ·exact .inl ⟨_,hv,rfl⟩
  ·exact⟨_,hv,rfl⟩
theorem oQ{T:TypeId}(hc:(vX P σ T x y).1):qi P σ T x y (vX P σ T x y).2:=by
 unfold vX at hc⊢;unfold qi;split at hc
 ·rename_i t c hx;split at hc
  ·rename_i cells ho;obtain⟨h1,h2,h3,h4,h5,h6⟩:=hc;first|(rw[hx];simp only[ho])|simp only[ho]
   exact⟨h1,h2,h3,h4,cells,rfl,h5,h6,rfl⟩
  ·exact hc.elim
 ·rename_i t j i c hx;split at hc
  ·rename_i q size rows ho;obtain⟨⟨h1,h2,h3,h4,h5,h6,h7,h8⟩,h9,dT⟩:=hc;obtain⟨ds,bU⟩:=Option.isSome_iff_exists.1 h5;first|(rw[hx];simp only[ho])|simp only[ho]
   refine⟨h1,h2,h3,h4,q,size,rows,ds,rfl,h9,bU,h6,?_,h8,fun hq=>?_,?_⟩
   ·rw[bU]at h7;exact h7
   ·have:=dT hq;rw[bU]at this;exact this
   ·rw[bU];rfl
  ·exact hc.elim
 ·exact hc.elim
def tC:List At->Bool
 |[]=>false
 |.nil _::_=>true
 |_::xs=>tC xs
def sE(P:Program)(T:TypeId):Bool:=match UD P 12 (ZS P T)with|some z=>tC z|none=>false
def Av:List At->Bool
 |[]=>true
 |.d (.sl _ _)::_=>false
 |.d _::xs=>Av xs
 |_=>false
def nj(P:Program)(σ:St)(T:TypeId)(x y:Operand):Bool:=
 match unc (look P σ 0 x)with
 |.one (.ptr t j _ _)=>(match σ.ob t j with|.arr true _ _=>!Av (unc (look P σ T y)).cells|_=>false)
 |.one (.tref _ _ _ _ (some _))=>true
 |_=>false
def stops(P:Program)(bar:Oper->Bool)(o:Oper):Bool:=
 match o.op with
 |.call ⟨.value _,_,_⟩=>true
 |.call ⟨.builtin .append,_,⟨t::_⟩⟩=>sE P t
 |.buildSlice T _ _=>sE P T||mU bar o
 |.makeSlice T _ _=>sE P T
 |.makeFunc _ _ _=>true
 |.convert _ T _=>(uo P T).isNone
 |.indexAddr _ _ _=>o.guard.isSome
 |.index _ _ _=>o.guard.isSome
 |.slice _ _ _ _ _=>o.guard.isSome
 |_=>false
def jm(P:Program)(ops:Array Oper)(bar:Oper->Bool)(o:Oper)(rest:List Oper)(σ:St)(Q:St->Prop):Prop:=∃σ',zH P ops bar o σ σ'/\wJ P ops bar rest σ' Q
def Ev(P:Program)(ops:Array Oper)(bar:Oper->Bool):List Oper->St->(St->Prop)->Prop
 |[],σ,Q=>Q σ
 |o::rest,σ,Q=>
  if stops P bar o then jm P ops bar o rest σ Q else
  match o.guard with
  |none=>
   (match o.dst with
   |some d=>(evS P σ o d).1/\Ev P ops bar rest (evS P σ o d).2 Q
   |none=>(match o.op with|.store T x y=>if nj P σ T x y then jm P ops bar o rest σ Q else(vX P σ T x y).1/\Ev P ops bar rest (vX P σ T x y).2 Q|_=>False))
  |some (j,want)=>
   (match(ops[j]?).bind (·.dst),o.dst with
   |some dj,some d=>(match jf want (σ.get dj)with
    |some g=>(dj<σ.length/\(g=true->(evV P σ o.op o.type).1/\gOf (evV P σ o.op o.type).2=true/\(unc (evV P σ o.op o.type).2).flat=true))/\Ev P ops bar rest (σ.put d (.cnd g (unc (evV P σ o.op o.type).2))) Q
    |none=>False)
   |_,_=>False)
theorem Qu{P:Program}{ops:Array Oper}{bar:Oper->Bool}:∀{l:List Oper}{σ:St}{Q:St->Prop},Ev P ops bar l σ Q->wJ P ops bar l σ Q
 |[],_,_,h=>h
 |o::rest,σ,Q,h=>by
  unfold Ev at h;split at h
  ·exact h
  ·rename_i gH;have cu:∀c,o.op= .call c->∀f,c.callee≠ .value (.func f):=by intro c ig f dX;obtain⟨cc,ca,ct⟩:=c;simp only at dX;subst dX;exact gH (by simp[stops,ig])
   split at h
   ·rename_i hg;split at h
    ·rename_i d hd;refine⟨_,.inl ?_,Qu h.2⟩;unfold XU;simp only[hg,hd];exact pj cu h.1
    ·rename_i hd;split at h
     ·rename_i T x y ig;split at h
      ·exact h
      ·refine⟨_,.inl ?_,Qu h.2⟩;unfold XU;simp only[hg,hd,ig];exact oQ h.1
     ·exact h.elim
   ·rename_i j want hg;split at h
    ·rename_i dj d fh hd;split at h
     ·rename_i g fr;refine⟨_,.inl ?_,Qu h.2⟩;unfold XU;simp only[hg];refine⟨dj,d,g,_,fh,h.1.1,hd,fr,fun aW=>?_,rfl⟩;obtain⟨h1,h2,h3⟩:=h.1.2 aW;have base:∃v0,Yj P σ o.op o.type v0/\gOf v0=true/\unc (evV P σ o.op o.type).2=unc v0/\(unc (evV P σ o.op o.type).2).flat=true:=⟨_,tQ h1,h2,rfl,h3⟩
      unfold GI;split
      ·rename_i c ig;split
       ·rename_i f dX;exact absurd dX (cu c ig f)
       ·exact base
      ·exact base
     ·exact h.elim
    ·exact h.elim
theorem nZ{Q:Exit->St->Prop}{l:List Oper}(h:Ev P l.toArray bar l σ (Q .normal)):AWP P (.region id l.toArray false) Q σ:=tG (Qu h)
theorem vh{Q:St->Prop}{c:Call}{own:Bool}(ig:o.op= .call c)(hc:c.callee= .value (.func f))(hg:o.guard=none)(hd:o.dst=some d)
  (iw:Qb P σ c.args.toList c.argTypes.toList rows) (hs:QX P f own rows res) (gH:Yh P σ c.args.toList c.argTypes.toList=true\/Jv own res) (h:Ev P ops bar rest (σ.put d (qG res)) Q):jm P ops bar o rest σ Q:=by
 refine⟨_,.inl ?_,Qu h⟩;unfold XU;simp only[hg,hd];unfold Step;rw[ig];simp only[hc];exact .inl ⟨own,res,⟨rows,iw,hs,gH⟩,rfl⟩
theorem wF{Q:St->Prop}{c:Call}(ig:o.op= .call c)(hc:c.callee= .value (.func f))(hg:o.guard=none)(hd:o.dst=some d)
  (iw:Qb P σ c.args.toList c.argTypes.toList rows) (hs:QX P f true rows res) (gH:Yh P σ c.args.toList c.argTypes.toList=true\/Jv true res) (hf:σ.fresh d=true) (h:Ev P ops bar rest (σ.new d (WM d res) (xj res.flatten)) Q):jm P ops bar o rest σ Q:=by
 refine⟨_,.inl ?_,Qu h⟩;unfold XU;simp only[hg,hd];unfold Step;rw[ig];simp only[hc];exact .inr (.inl ⟨res,⟨rows,iw,hs,gH⟩,hf,rfl⟩)
theorem ui{Q:St->Prop}{c:Call}{own:Bool}{res:List D}(ig:o.op= .call c)(hc:c.callee= .value (.func f))(hg:o.guard=some (j,want))(hd:o.dst=some d)
  (fh:(ops[j]?).bind (·.dst)=some dj) (hD:dj<σ.length) (fr:jf want (σ.get dj)=some g)
  (iw:g=true->Qb P σ c.args.toList c.argTypes.toList rows) (hs:g=true->QX P f own rows [res]) (gH:Yh P σ c.args.toList c.argTypes.toList=true\/Jv own [res]) (h:Ev P ops bar rest (σ.put d (.cnd g (qG [res]))) Q):jm P ops bar o rest σ Q:=by
 refine⟨_,.inl ?_,Qu h⟩;unfold XU;simp only[hg];refine⟨dj,d,g,_,fh,hD,hd,fr,fun aW=>?_,rfl⟩;unfold GI;rw[ig];simp only[hc];exact⟨own,res,⟨rows,iw aW,hs aW,gH⟩,rfl⟩
theorem tT{Q:St->Prop}{S T:TypeId}{l:List UInt8}(ig:o.op= .convert S T x)(hg:o.guard=none)(hd:o.dst=some d)
  (h1:gOf (look P σ S x)=true) (h2:NS P S=true) (h3:R8 P T=true) (h4:yF σ (unc (look P σ S x)) 1 (KY l)) (h:Ev P ops bar rest (σ.put d (.one (.d (.str ⟨l.toArray⟩)))) Q):jm P ops bar o rest σ Q:=by
 refine⟨_,.inl ?_,Qu h⟩;unfold XU;simp only[hg,hd];unfold Step;rw[ig];exact .inr (.inl ⟨l,h1,h2,h3,h4,rfl⟩)
theorem Az{Q:St->Prop}{S T:TypeId}{s:ByteArray}(ig:o.op= .convert S T x)(hg:o.guard=none)(hd:o.dst=some d)
  (h1:gOf (look P σ S x)=true) (h2:R8 P S=true) (h3:NS P T=true) (h4:unc (look P σ S x)= .one (.d (.str s))) (h5:s.size<=9223372036854775807) (h:Ev P ops bar rest (σ.put d (.one (.d (.sl 1 (KY s.data.toList))))) Q):jm P ops bar o rest σ Q:=by
 refine⟨_,.inl ?_,Qu h⟩;unfold XU;simp only[hg,hd];unfold Step;rw[ig];exact .inr (.inr ⟨s,h1,h2,h3,h4,h5,rfl⟩)
theorem oc{Q:St->Prop}(cu:∀c,o.op= .call c->∀f,c.callee≠ .value (.func f))(hg:o.guard=none)(hd:o.dst=some d)
  (h1:(evS P σ o d).1) (h:Ev P ops bar rest (evS P σ o d).2 Q):jm P ops bar o rest σ Q:=by
 refine⟨_,.inl ?_,Qu h⟩;unfold XU;simp only[hg,hd];exact pj cu h1
theorem tU{Q:St->Prop}{c:Call}(qs:List Bool)(ig:o.op= .call c)(hc:c.callee= .value (.func f))(hg:o.guard=none)(hd:o.dst=some d)
  (iw:Qb P σ c.args.toList c.argTypes.toList rows) (hs:YN P f rows res) (hq:xJ qs res.flatten) (hf:σ.fresh d=true) (h:Ev P ops bar rest (σ.new d (WM d res) (YZ qs res.flatten)) Q):jm P ops bar o rest σ Q:=by
 refine⟨_,.inl ?_,Qu h⟩;unfold XU;simp only[hg,hd];unfold Step;rw[ig];simp only[hc];exact .inr (.inr ⟨rows,res,qs,iw,hs,hq,hf,rfl⟩)
def zJ(P:Program)(σ:St)(T:TypeId)(size:Nat):List (Nat×Operand)->Nat->Prop×List (List At)
 |[],_=>(True,[])
 |(i,x)::ps,k=>((i=k/\gOf (look P σ T x)=true/\(unc (look P σ T x)).flat=true/\(unc (look P σ T x)).cells.length=size)/\(zJ P σ T size ps (k+1)).1,(unc (look P σ T x)).cells::(zJ P σ T size ps (k+1)).2)
theorem DJ{P:Program}{σ:St}{T:TypeId}{size:Nat}:∀{ps:List (Nat×Operand)}{k:Nat},(zJ P σ T size ps k).1->HH P σ T size ps k (zJ P σ T size ps k).2
 |[],_,_=>rfl
 |(_,x)::_,_,h=>by obtain⟨⟨h1,h2,h3,h4⟩,h7⟩:=h;exact⟨h1,h2,h3,h4,_,DJ h7,rfl⟩
theorem pK{Q:St->Prop}{T:TypeId}(ig:o.op= .buildSlice T n parts)(hg:o.guard=none)(hd:o.dst=some d)
  (h1:σ.fresh d=true/\XS P T=true/\QE P (ZS P T)=true/\0<P.cellsOf (ZS P T)/\parts.toList.length=n/\n*P.cellsOf (ZS P T)<=16777216) (h2:(zJ P σ (ZS P T) (P.cellsOf (ZS P T)) parts.toList 0).1)
  (h3:Yb d (zJ P σ (ZS P T) (P.cellsOf (ZS P T)) parts.toList 0).2.flatten=false)
  (h:Ev P ops bar rest (σ.new d (.one (.sref d 0 0 (zJ P σ (ZS P T) (P.cellsOf (ZS P T)) parts.toList 0).2.length)) [.lit (P.cellsOf (ZS P T)) (zJ P σ (ZS P T) (P.cellsOf (ZS P T)) parts.toList 0).2]) Q):jm P ops bar o rest σ Q:=by
 refine⟨_,.inl ?_,Qu h⟩;unfold XU;simp only[hg,hd];unfold Step;rw[ig];exact .inl ⟨h1.1,h1.2.1,h1.2.2.1,h1.2.2.2.1,h1.2.2.2.2.1,h1.2.2.2.2.2,.inr ⟨_,DJ h2,h3,rfl⟩⟩
def SD(σ:St)(x:V)(size:Nat):Prop×List (List D)×List (Nat×Nat):=
 match x with
 |.one (.nil _)=>(True,[],[])
 |.one (.sref t j lo len)=>(match σ.ob t j with|.arr true s im=>(s=size/\lo=0/\len=im.length,im,[(t,j)])|_=>(False,[],[]))
 |_=>(False,[],[])
theorem sy{x:V}(h:(SD σ x size).1):sv σ x size (SD σ x size).2.1 (SD σ x size).2.2:=by
 unfold SD at h⊢;split at h
 ·exact⟨rfl,rfl⟩
 ·rename_i t j lo len;split at h
  ·rename_i s im ho;obtain⟨rfl,rfl,rfl⟩:=h;exact⟨ho,rfl,rfl,rfl⟩
  ·exact h.elim
 ·exact h.elim
def SG(σ:St)(x:V)(size:Nat):Prop×List (List D)×List (Nat×Nat):=
 match x with
 |.one (.sref t j lo len)=>(match σ.ob t j with|.lit s rows=>((s=size/\lo=0/\len=rows.length)/\(KT σ rows).isSome=true/\Jc σ rows,(KT σ rows).getD [],XC rows.flatten)|_=>(False,[],[]))
 |_=>(False,[],[])
theorem s7{x:V}(h:(SG σ x size).1):rD σ x size (SG σ x size).2.1 (SG σ x size).2.2:=by
 unfold SG at h⊢;split at h
 ·rename_i t j lo len;split at h
  ·rename_i s rows ho;obtain⟨⟨rfl,rfl,rfl⟩,h1,h2⟩:=h;obtain⟨ns,cu⟩:=Option.isSome_iff_exists.1 h1;exact⟨rows,ho,rfl,rfl,by rw[cu];rfl,h2,rfl⟩
  ·exact h.elim
 ·exact h.elim
theorem W1:∀(σ:St)(d:Nat)(v:V)(t:Nat),(σ.put d v)[t]?=if t=d then(σ[t]?).map (fun e=>(v,e.2))else σ[t]?
 |[],_,_,_=>by simp[St.put]
 |e::σ,0,v,t=>by cases t<;>simp[St.put]
 |e::σ,d+1,v,t=>by
  cases t with
  |zero=>simp[St.put]
  |succ t=>have:=W1 σ d v t;simpa[St.put]using this
theorem xI:∀(σ:St)(d:Nat)(v:V)(os:List Ob)(t:Nat),(σ.new d v os)[t]?=if t=d then(σ[t]?).map (fun _=>(v,os))else σ[t]?
 |[],_,_,_,_=>by simp[St.new]
 |e::σ,0,v,os,t=>by cases t<;>simp[St.new]
 |e::σ,d+1,v,os,t=>by
  cases t with
  |zero=>simp[St.new]
  |succ t=>have:=xI σ d v os t;simpa[St.new]using this
theorem Qn:∀(σ:St)(a j:Nat)(o:Ob)(t:Nat),(σ.Z0 a j o)[t]?=if t=a then(σ[t]?).map (fun e=>(e.1,e.2.set j o))else σ[t]?
 |[],_,_,_,_=>by simp[St.Z0]
 |e::σ,0,j,o,t=>by cases t<;>simp[St.Z0]
 |e::σ,a+1,j,o,t=>by
  cases t with
  |zero=>simp[St.Z0]
  |succ t=>have:=Qn σ a j o t;simpa[St.Z0]using this
theorem jY:XY σ d=true↔σ[d]?=some (.any,[])\/∃x,σ[d]?=some (.one (.d x),[]):=by
 unfold XY;constructor
 ·intro h;split at h
  ·rename_i h1;exact .inl h1
  ·rename_i x h1;exact .inr ⟨x,h1⟩
  ·cases h
 ·rintro(h|⟨x,h⟩)<;>rw[h]
theorem QO{a:Nat}{o:Ob}(h:XY σ d=true):XY (σ.Z0 a j o) d=true:=by
 rw[jY]at*;rw[Qn];rcases h with h|⟨x,h⟩
 ·left;rw[h];split<;>rfl
 ·right;refine⟨x,?_⟩;rw[h];split<;>rfl
theorem Ql:∀{l:List (Nat×Nat)}{σ:St}{d:Nat},XY σ d=true->XY (σ.Z7 l) d=true
 |[],_,_,h=>h
 |p::l,σ,d,h=>by rw[St.Z7];exact Ql (l:=l) (QO h)
theorem Vy(ij:d≠d')(h:XY σ d=true):XY (σ.new d' v os) d=true:=by unfold XY at*;simp only[xI,if_neg ij];exact h
theorem XZ{T:TypeId}(h:xK d x=false):look P (σ.put d v) T x=look P σ T x:=by
 cases x with
 |tmp t=>
  have ij:t≠d:=fun e=>by subst e;simp[xK]at h
  simp[look,St.zc,ij]
 |const c=>rfl
 |global g=>rfl
 |func f=>rfl
theorem xb:∀(σ:St)(d:Nat)(v:V)(t j:Nat)(o:Ob),(σ.put d v).Z0 t j o=(σ.Z0 t j o).put d v
 |[],_,_,_,_,_=>rfl
 |e::σ,0,v,0,j,o=>rfl
 |e::σ,d+1,v,0,j,o=>rfl
 |e::σ,0,v,t+1,j,o=>rfl
 |e::σ,d+1,v,t+1,j,o=>by simp[St.put,St.Z0,xb σ d v t j o]
theorem RK{d:Nat}{v:V}:∀(l:List (Nat×Nat))(σ:St),(σ.put d v).Z7 l=(σ.Z7 l).put d v
 |[],_=>rfl
 |p::l,σ=>by rw[St.Z7,St.Z7,xb,RK l]
theorem H5{σ:St}{d:Nat}{v:V}:∀(xs:List At),Jd (σ.put d v) xs=Jd σ xs
 |[]=>rfl
 |x::xs=>by
  have:mvD (σ.put d v) x=mvD σ x:=by cases x<;>simp[mvD,St.Qz]
  simp only[Jd,this,H5 xs]
theorem ND{σ:St}{d:Nat}{v:V}:∀(xs:List At),QI (σ.put d v) xs=QI σ xs
 |[]=>rfl
 |x::xs=>by
  have:C3 (σ.put d v) x=C3 σ x:=by cases x<;>simp[C3,St.Qz]
  simp only[QI,this,ND xs]
theorem Mf:∀(l:List (Nat×V))(σ:St),(σ.JA l).ob=σ.ob
 |[],_=>rfl
 |p::l,σ=>by rw[St.JA,Mf l,St.Qz]
theorem Vo{P:Program}{T:TypeId}{x:Operand}:∀(l:List (Nat×V))(σ:St),(∀p∈l,xK p.1 x=false)->look P (σ.JA l) T x=look P σ T x
 |[],_,_=>rfl
 |p::l,σ,h=>by rw[St.JA,Vo l _ (fun q hq=>h q (by simp[hq])),XZ (h p zAE)]
theorem ki{t j:Nat}{o:Ob}:∀(l:List (Nat×V))(σ:St),(σ.JA l).Z0 t j o=(σ.Z0 t j o).JA l
 |[],_=>rfl
 |p::l,σ=>by rw[St.JA,ki l,xb,St.JA]
theorem y7{L:List (Nat×Nat)}:∀(l:List (Nat×V))(σ:St),(σ.JA l).Z7 L=(σ.Z7 L).JA l
 |[],_=>rfl
 |p::l,σ=>by rw[St.JA,y7 l,RK,St.JA]
theorem sD:∀{σ:St}{t d:Nat}{v v':V}{os:List Ob},t≠d->(σ.put t v').new d v os=(σ.new d v os).put t v'
 |[],_,_,_,_,_,_=>rfl
 |e::σ,0,0,_,_,_,h=>absurd rfl h
 |e::σ,0,d+1,_,_,_,_=>rfl
 |e::σ,t+1,0,_,_,_,_=>rfl
 |e::σ,t+1,d+1,v,v',os,h=>by simp[St.put,St.new,sD (σ:=σ) (v:=v) (v':=v') (os:=os) (fun hh=>h (congrArg (·+1) hh))]
theorem uN{d:Nat}{v:V}{os:List Ob}:∀(l:List (Nat×V))(σ:St),(∀p∈l,p.1≠d)->(σ.JA l).new d v os=(σ.new d v os).JA l
 |[],_,_=>rfl
 |p::l,σ,h=>by rw[St.JA,uN l _ (fun q hq=>h q (by simp[hq])),sD (h p zAE),St.JA]
theorem LU{d:Nat}{v:V}(hv:v.ref d=false):∀{σ:St}{k t:Nat},yG d k σ=true->yG d k (σ.put t v)=true
 |[],_,_,h=>h
 |e::σ,k,0,h=>by simp only[yG,St.put,Bool.and_eq_true,Bool.or_eq_true,Bool.not_eq_true']at h⊢;exact⟨h.1.imp id (fun hh=>⟨hv,hh.2⟩),h.2⟩
 |e::σ,k,t+1,h=>by simp only[yG,St.put,Bool.and_eq_true]at h⊢;exact⟨h.1,LU hv h.2⟩
theorem OS{d:Nat}:∀(l:List (Nat×V)){σ:St},(∀p∈l,p.2.ref d=false)->σ.fresh d=true->(σ.JA l).fresh d=true
 |[],_,_,h=>h
 |p::l,σ,hl,h=>by refine OS l (fun q hq=>hl q (by simp[hq])) ?_;simp only[St.fresh,Bool.and_eq_true,decide_eq_true_eq,St.Qv]at h⊢;exact⟨h.1,LU (hl p zAE) h.2⟩
theorem Tb{t:TypeId}(ig:o.op= .call ⟨.builtin .append,#[x,y],#[t,t]⟩)(h:LO o n=true):xK n x=false/\xK n y=false:=by
 have hx:x∈o.op.operands.toList:=by rw[ig];simp[Op.operands,Call.operands]
 have hy:y∈o.op.operands.toList:=by rw[ig];simp[Op.operands,Call.operands]
 simp only[LO,Bool.not_eq_true']at h;exact⟨Bool.eq_false_iff.2 (List.any_eq_false.1 h x hx),Bool.eq_false_iff.2 (List.any_eq_false.1 h y hy)⟩
theorem uX{σ σ':St}(h:σ'.ob=σ.ob):∀(xs:List At),Jd σ' xs=Jd σ xs
 |[]=>rfl
 |x::xs=>by
  have:mvD σ' x=mvD σ x:=by cases x<;>simp[mvD,h]
  simp only[Jd,this,uX h xs]
theorem D7{σ σ':St}(h:σ'.ob=σ.ob):∀(xs:List At),QI σ' xs=QI σ xs
 |[]=>rfl
 |x::xs=>by
  have:C3 σ' x=C3 σ x:=by cases x<;>simp[C3,h]
  simp only[QI,this,D7 h xs]
theorem AK{σ σ':St}(h:σ'.ob=σ.ob):∀(xs:List (List At)),KT σ' xs=KT σ xs
 |[]=>rfl
 |x::xs=>by simp only[KT,uX h,AK h xs]
theorem FD{σ σ':St}(h:σ'.ob=σ.ob):∀(xs:List (List At)),Jc σ' xs=Jc σ xs
 |[]=>rfl
 |x::xs=>by simp only[Jc,D7 h,FD h xs]
theorem oP(h:σ'.ob=σ.ob){x:V}(hd:sv σ x size im l):sv σ' x size im l:=by unfold sv at*;rw[h];exact hd
theorem oa(h:σ'.ob=σ.ob){x:V}(hd:rD σ x size news l):rD σ' x size news l:=by unfold rD at*;simp only[h,AK h,FD h];exact hd
theorem ou(h:σ'.ob=σ.ob){x:V}(hd:vc σ x size im l):vc σ' x size im l:=by unfold vc at*;rw[h];exact hd
theorem AI{d:Nat}:∀{os:List Ob}{j:Nat}{cells:List At},XB d os=false->Yr os j= .box cells->Yb d cells=false
 |[],j,cells,_,h=>by simp[Yr]at h
 |o::os,0,cells,hr,h=>by simp only[Yr,List.getElem?_cons_zero]at h;subst h;simp only[XB,Bool.or_eq_false_iff]at hr;exact hr.1
 |o::os,j+1,cells,hr,h=>by have h':Yr os j= .box cells:=zCW;refine AI (os:=os) (j:=j) ?_ h';cases o<;>simp only[XB,Bool.or_eq_false_iff]at hr<;>first|exact hr.2|exact hr
theorem DX{X:St}(hd:o.dst=some d)(hlen:X.length=σ.length)(fA:∀t,X.get t=σ.get t)(ek:∀t j cells,X.ob t j= .box cells->σ.ob t j= .box cells)
  (fO:∀t j q s rows,X.ob t j= .arr q s rows->∃hO,σ.ob t j= .arr q s hO) (hf:X.fresh d=true)
  (hs:∀l:List (Nat×V),(∀p∈l,p.1≠d/\LO o p.1=true/\p.2.ref d=false)->SM P ops o (σ.JA l) ((X.JA l).new d v os)) (hc:∀l:List (Nat×V),NW o (σ.JA l) ((X.JA l).new d v os)):mJ P ops o σ (X.new d v os):=by
 have hD:=St.zC hf;have hent:∀t e,X[t]?=some e->t≠d->e.1.ref d=false/\XB d e.2=false:=fun t e he ij=>by have h1:=hf;simp only[St.fresh,Bool.and_eq_true]at h1;exact xW h1.2 t e he zAC
 refine⟨d,hd,by rw[St.Vw,hlen],fun t ij=>?_,fun t j cells ij hb=>?_,fun t j q s rows ij hb=>?_,fun l hl=>?_⟩
 ·rw[St.TD,if_neg (fun hh=>ij hh.1),fA];refine⟨rfl,?_⟩;rw[<-fA];unfold St.get;cases he:X[t]? with
  |none=>rfl
  |some e=>exact(hent t e he ij).1
 ·rw[St.JN,if_neg (fun hh=>ij hh.1)]at hb;refine⟨ek t j cells hb,?_⟩;unfold St.ob at hb;cases he:X[t]? with
  |none=>rw[he]at hb;cases hb
  |some e=>rw[he]at hb;exact AI (hent t e he ij).2 hb
 ·rw[St.JN,if_neg (fun hh=>ij hh.1)]at hb;exact fO t j q s rows hb
 ·have e:=uN (d:=d) (v:=v) (os:=os) l X (fun p hp=>(hl p hp).1);rw[<-e];exact⟨hs l hl,hc l⟩
theorem Di{cells:List At}(h:(σ.Z7 L).ob t j= .box cells):σ.ob t j= .box cells:=by
 rw[St.KO]at h;split at h
 ·cases h
 ·exact h
theorem Ez{s:Nat}(h:(σ.Z7 L).ob t j= .arr q s rows):σ.ob t j= .arr q s rows:=by
 rw[St.KO]at h;split at h
 ·cases h
 ·exact h
theorem rZ{Q:St->Prop}{t:TypeId}(ig:o.op= .call ⟨.builtin .append,#[x,y],#[t,t]⟩)(hg:o.guard=none)(hd:o.dst=some d)(gP:bar o=true)
  (g7:size=P.cellsOf (ZS P t)) (h1:gOf (look P σ t x)=true/\gOf (look P σ t y)=true/\XS P t=true/\QE P (ZS P t)=true/\0<P.cellsOf (ZS P t))
  (h2:(SD σ (unc (look P σ t x)) size).1/\(SD σ (unc (look P σ t x)) size).2=(im,l1)) (h3:(SG σ (unc (look P σ t y)) size).1/\(SG σ (unc (look P σ t y)) size).2=(news,l2))
  (h4:(l1++l2).Nodup/\(σ.Z7 (l1++l2)).fresh d=true) (h5:(im.length+news.length)*P.bytesOf (ZS P t)<=140737488355328/\im.length+news.length<=9223372036854775807)
  (h:Ev P ops bar rest ((σ.Z7 (l1++l2)).new d (.one (.sref d 0 0 (im.length+news.length))) [.arr true size (im++news)]) Q):jm P ops bar o rest σ Q:=by
 subst g7;have e1:=sy h2.1
 have e2:=s7 h3.1;rw[h2.2]at e1;rw[h3.2]at e2;have cl:∀σ0:St,NW o σ0 ((σ0.Z7 (l1++l2)).new d (.one (.sref d 0 0 (im.length+news.length))) [.arr true (P.cellsOf (ZS P t)) (im++news)]):=fun σ0 d' hJ hc=>Vy (fun e=>hJ zCO) (Ql hc);have go:∀l:List (Nat×V),(∀p∈l,p.1≠d/\LO o p.1=true/\p.2.ref d=false)->SM P ops o (σ.JA l) (((σ.JA l).Z7 (l1++l2)).new d (.one (.sref d 0 0 (im.length+news.length))) [.arr true (P.cellsOf (ZS P t)) (im++news)]):=by
  rintro l hl T0 B a w K Q' ⟨X,hh,r⟩ hK;have hw:Region.wanted o (yielded ops a.tmps)=true:=zBs
  rw[if_pos hw];have lx:look P (σ.JA l) t x=look P σ t x:=Vo l σ (fun p hp=>(Tb ig (hl p hp).2.1).1)
  have ly:look P (σ.JA l) t y=look P σ t y:=Vo l σ (fun p hp=>(Tb ig (hl p hp).2.1).2);refine Be r ig hd (by rw[lx];exact h1.1) (by rw[ly];exact h1.2.1) h1.2.2.1 h1.2.2.2.1 h1.2.2.2.2 (by rw[lx];exact oP (Mf l σ) e1) (by rw[ly];exact oa (Mf l σ) e2) h4.1 ?_ h5.1 h5.2 hK;rw[y7];exact OS l (fun p hp=>(hl p hp).2.2) h4.2
 have go0:SM P ops o σ ((σ.Z7 (l1++l2)).new d (.one (.sref d 0 0 (im.length+news.length))) [.arr true (P.cellsOf (ZS P t)) (im++news)]):=go [] (fun p hp=>by cases hp);refine⟨_,.inr ⟨gP,go0,cl σ,fun hh=>by simp[SC,ig]at hh,fun _=>DX hd (St.J2 _ _) (fun t=>St.yl _ _ t) (fun t j cells hb=>Di hb) (fun t j q s rows hb=>⟨rows,Ez hb⟩) h4.2 (fun l hl=>?_) (fun l=>?_),fun hh _=>by first|(simp[KF,ig]at hh;done)|(unfold KF at hh;rw[ig]at hh;split at hh<;>simp_all)⟩,Qu h⟩
 ·rw[<-y7];exact go l hl
 ·rw[<-y7];exact cl _
theorem rN(r:Rel T0 B σ a w X h)(hd:o.dst=some d)(hv:Yj P σ o.op o.type (.one (.sref u j 0 n)))(ho:σ.ob u j= .arr false size rows)(hle:n<=rows.length)
  (gj:(σ.Z0 u j .none).fresh d=true) (hK:∀a' w',JV T0 B ((σ.Z0 u j .none).new d (.one (.sref d 0 0 n)) [.arr false size (rows.take n)]) a' w'->XL B w w'->K a' w'):o.wp P a w K Q:=by
 obtain⟨val,gA,bd⟩:=UP r hv;unfold Oper.wp;rw[gA,Oper.upon_value,hd];have ag:YR (Tof T0 X) h σ.ob w (.sref u j 0 n) val:=bd
 obtain⟨_,_,eF,_⟩:=ag.2.1 _ _ _ ho;have he:val=II (h u j).v n:=eF rfl
 have h0:=r.obj u j;rw[ho]at h0;obtain⟨e,xs,iv,fR,ir⟩:=h0;have hZ:σ.ob u j≠ .none:=zA9;have aJ:(rows.take n).length=n:=zBe;have fL:(rows.take n).flatten=rows.flatten.take (n*size):=Ke rows size fR n hle;have g6:w.ownsRow 0 e size val (rows.take n).length (xs.take (n*size)):=by rw[he,aJ];exact Wg iv hle
 have hD:=St.zC gj;have gy:((σ.Z0 u j .none).new d (.one (.sref d 0 0 n)) [.arr false size (rows.take n)]).ob d 0= .arr false size (rows.take n):=zBQ;have gL:∀b,blk val=some b->¬B b/\¬X b/\b<w.heap.size/\∀u' j',(σ.Z0 u j .none).ob u' j'≠ .none->¬(h u' j').u b:=by
  intro b hb;rw[he,Tf]at hb;have ae:=r.ub u j b hZ hb
  have gk:=r.own u j b hZ ae;refine⟨gk.1,gk.2.1,gk.2.2,fun u' j' ij hR=>?_⟩;have bG:σ.ob u' j'≠ .none:=by
   intro hh;rw[St.Xh σ u j _ u' j' hZ]at ij;split at ij
   ·exact ij rfl
   ·exact ij hh
  have:=r.inj u j u' j' b hZ bG ae hR;obtain⟨rfl,rfl⟩:=this;rw[St.Xh σ u j _ u j hZ]at ij;simp at ij
 refine hK _ _ ⟨X,fun t k=>if t=d then Hd.of val else h t k,?_⟩ (XL.refl _ _);refine(r.drop u j).uv gj (fun b=>blk val=some b) (Nat.le_refl _) (fun _ _ _=>rfl) (fun b hb=>⟨(gL b hb).1,(gL b hb).2.1,fun t k _ ij=>(gL b hb).2.2.2 t k ij⟩) (fun _ hb=>hb) (fun _ hb=>.inl hb) _ _ [.arr false size (rows.take n)] (fun _=>Hd.of val) ?_ (fun k=>?_) (fun k b _ hb=>hb) (fun k b ij hR=>?_) (fun k k' b ij gf _ _=>?_)
 ·refine⟨Jn g6,fun q' gB hO hh=>?_,fun gB hO hh=>by rw[gy]at hh;cases hh⟩;rw[gy]at hh;cases hh;simp only[if_true];have:=TO g6
  rwa[aJ]at this⊢
 ·cases k with
  |zero=>exact⟨e,xs.take (n*size),g6,fun q hq=>fR q (List.mem_of_mem_take hq),by rw[fL];exact(ir.imp fun _ _ hh=>hh).take _⟩
  |succ k=>simp[Yr,JZ]
 ·exact⟨.inr hR,(gL b hR).2.1,(gL b hR).2.2.1⟩
 ·have:∀k,Yr [Ob.arr false size (rows.take n)] k≠ .none->k=0:=by
   intro k hk;cases k with
   |zero=>rfl
   |succ k=>simp[Yr]at hk
  rw[this k ij,this k' gf]
theorem sh(r:Rel T0 B σ a w X h)(hd:o.dst=some d)(hv:Yj P σ o.op o.type (.one (.sref u j 0 n)))(ho:σ.ob u j= .arr true size rows)(hle:n<=rows.length)
  (gj:(σ.Z0 u j .none).fresh d=true) (hK:∀a' w',JV T0 B ((σ.Z0 u j .none).new d (.one (.sref d 0 0 n)) [.arr true size (rows.take n)]) a' w'->XL B w w'->K a' w'):o.wp P a w K Q:=by
 obtain⟨val,gA,bd⟩:=UP r hv;unfold Oper.wp;rw[gA,Oper.upon_value,hd];have ag:YR (Tof T0 X) h σ.ob w (.sref u j 0 n) val:=bd
 obtain⟨_,_,eF,_⟩:=ag.2.1 _ _ _ ho;have he:val=II (h u j).v n:=eF rfl
 have h0:=r.obj u j;rw[ho]at h0;obtain⟨e,xs,iv,fR,ir,dq⟩:=h0;have hZ:σ.ob u j≠ .none:=zA9;have aJ:(rows.take n).length=n:=zBe;have fL:(rows.take n).flatten=rows.flatten.take (n*size):=Ke rows size fR n hle;have g6:w.ownsRow 0 e size val (rows.take n).length (xs.take (n*size)):=by rw[he,aJ];exact Wg iv hle
 have hD:=St.zC gj;have gy:((σ.Z0 u j .none).new d (.one (.sref d 0 0 n)) [.arr true size (rows.take n)]).ob d 0= .arr true size (rows.take n):=zBQ;have gL:∀b,(h u j).u b->¬B b/\¬X b/\b<w.heap.size/\∀u' j',(σ.Z0 u j .none).ob u' j'≠ .none->¬(h u' j').u b:=by
  intro b ae;have gk:=r.own u j b hZ ae
  refine⟨gk.1,gk.2.1,gk.2.2,fun u' j' ij hR=>?_⟩;have bG:σ.ob u' j'≠ .none:=by
   intro hh;rw[St.Xh σ u j _ u' j' hZ]at ij;split at ij
   ·exact ij rfl
   ·exact ij hh
  have:=r.inj u j u' j' b hZ bG ae hR;obtain⟨rfl,rfl⟩:=this;rw[St.Xh σ u j _ u j hZ]at ij;simp at ij
 refine hK _ _ ⟨X,fun t k=>if t=d then({v:=val,u:=(h u j).u,n:=(h u j).n}:Hd)else h t k,?_⟩ (XL.refl _ _);refine(r.drop u j).uv gj (fun b=>(h u j).u b) (Nat.le_refl _) (fun _ _ _=>rfl) (fun b hb=>⟨(gL b hb).1,(gL b hb).2.1,fun t k _ ij=>(gL b hb).2.2.2 t k ij⟩) (fun _ hb=>hb) (fun _ hb=>.inl hb) _ _ [.arr true size (rows.take n)] (fun _=>({v:=val,u:=(h u j).u,n:=(h u j).n}:Hd)) ?_ (fun k=>?_) (fun k b _ hb=>r.ub u j b hZ (by have hb:blk val=some b:=hb;rw[he,Tf]at hb;exact hb)) (fun k b ij hR=>?_) (fun k k' b ij gf _ _=>?_)
 ·refine⟨Jn g6,fun q' gB hO hh=>?_,fun gB hO hh=>by rw[gy]at hh;cases hh⟩;rw[gy]at hh;cases hh;simp only[if_true];have:=TO g6
  rwa[aJ]at this⊢
 ·cases k with
  |zero=>
   have bl:xs.length=rows.length*size:=by rw[ir.1,YV rows _ fR]
   have cB:n*size<=xs.length:=by rw[bl];exact Nat.mul_le_mul_right _ hle
   have hp:=KC.pick ir (p:=n*size) (q:=n*size) (n:=0) (Nat.le_refl _) zAC;simp only[cut,List.take_zero,List.append_nil]at hp;refine⟨e,xs.take (n*size),g6,fun q hq=>fR q (List.mem_of_mem_take hq),?_,fun k x dd hx eR g9=>?_⟩
   ·rw[fL];refine hp.mono (fun b hb=>⟨hb.1,?_⟩);have gQ:=hb.2
    intro hh;have hh:blk val=some b:=hh
    rw[he,Tf]at hh;exact gQ hh
   ·rw[fL]at eR;have hk:k<n*size:=by have:=(List.getElem?_eq_some_iff.1 hx).1;rw[List.length_take]at this;omega
    rw[List.getElem?_take,if_pos hk]at hx eR;exact dq k x dd hx eR g9
  |succ k=>simp[Yr,JZ]
 ·exact⟨.inr hR,(gL b hR).2.1,(gL b hR).2.2.1⟩
 ·have:∀k,Yr [Ob.arr true size (rows.take n)] k≠ .none->k=0:=by
   intro k hk;cases k with
   |zero=>rfl
   |succ k=>simp[Yr]at hk
  rw[this k ij,this k' gf]
theorem Rel.mV(r:Rel T0 B σ a w X h)(hX:∀b,X b->X' b)(bE:∀b,X' b->X b\/(¬B b/\b<w.heap.size/\∀t j,σ.ob t j≠ .none->¬(h t j).u b)):Rel T0 B σ a w X' h:=by
 have hT:∀b k v,Tof T0 X b k->w.cell? ⟨b,k,none⟩=some v->w.cell? ⟨b,k,none⟩=some v/\Tof T0 X' b k:=fun b k v hb hc=>⟨hc,hb.imp id (hX b)⟩;refine⟨r.size,r.defers,r.hB,fun b hb=>?_,r.hT,fun t ht=>Qk.mono hT (r.slot t ht),fun t j=>?_,r.ub,fun t j b ho hb=>?_,r.inj⟩
 ·rcases bE b hb with hb|hb
  ·exact r.hX b hb
  ·exact⟨hb.1,hb.2.1⟩
 ·have h0:=r.obj t j;cases ho:σ.ob t j with
  |none=>trivial
  |box cells=>rw[ho]at h0;obtain⟨b,cs,e,hv,hh,ir⟩:=h0;exact⟨b,cs,e,hv,hh,ir.imp fun _ _=>YR.mono hT⟩
  |arr q size rows=>
   rw[ho]at h0;cases q with
   |false=>obtain⟨e,xs,eZ,hz,ir⟩:=h0;exact⟨e,xs,eZ,hz,ir.imp fun _ _=>Rd.mono hT⟩
   |true=>exact h0
  |lit size rows=>rw[ho]at h0;obtain⟨e,xs,eZ,hz,ir⟩:=h0;exact⟨e,xs,eZ,hz,ir.imp fun _ _=>YR.mono hT⟩
 ·have:=r.own t j b ho hb;refine⟨this.1,fun hx=>?_,this.2.2⟩;rcases bE b hx with hx|hx
  ·exact this.2.1 hx
  ·exact hx.2.2 t j ho hb
theorem sX(r:Rel T0 B σ a w X h)(hd:o.dst=some d)(hv:Yj P σ o.op o.type (.one (.sref u j 0 n)))(ho:σ.ob u j= .arr true size rows)(hle:n<=rows.length)
  (gj:(σ.Z0 u j .none).fresh d=true) (hK:∀a' w',JV T0 B ((σ.Z0 u j .none).new d (.one (.sref d 0 0 n)) [.arr false size (rows.take n)]) a' w'->XL B w w'->K a' w'):o.wp P a w K Q:=by
 obtain⟨val,gA,bd⟩:=UP r hv;unfold Oper.wp;rw[gA,Oper.upon_value,hd];have ag:YR (Tof T0 X) h σ.ob w (.sref u j 0 n) val:=bd
 obtain⟨_,_,eF,_⟩:=ag.2.1 _ _ _ ho;have he:val=II (h u j).v n:=eF rfl
 have h0:=r.obj u j;rw[ho]at h0;obtain⟨e,xs,iv,fR,ir,dq⟩:=h0;have hZ:σ.ob u j≠ .none:=zA9;have aJ:(rows.take n).length=n:=zBe;have fL:(rows.take n).flatten=rows.flatten.take (n*size):=Ke rows size fR n hle;have g6:w.ownsRow 0 e size val (rows.take n).length (xs.take (n*size)):=by rw[he,aJ];exact Wg iv hle
 have hD:=St.zC gj;have gy:((σ.Z0 u j .none).new d (.one (.sref d 0 0 n)) [.arr false size (rows.take n)]).ob d 0= .arr false size (rows.take n):=zBQ;have gL:∀b,(h u j).u b->¬B b/\¬X b/\b<w.heap.size/\∀u' j',(σ.Z0 u j .none).ob u' j'≠ .none->¬(h u' j').u b:=by
  intro b ae;have gk:=r.own u j b hZ ae
  refine⟨gk.1,gk.2.1,gk.2.2,fun u' j' ij hR=>?_⟩;have bG:σ.ob u' j'≠ .none:=by
   intro hh;rw[St.Xh σ u j _ u' j' hZ]at ij;split at ij
   ·exact ij rfl
   ·exact ij hh
  have:=r.inj u j u' j' b hZ bG ae hR;obtain⟨rfl,rfl⟩:=this;rw[St.Xh σ u j _ u j hZ]at ij;simp at ij
 have hvb:∀b,blk val=some b->(h u j).u b/\blk (h u j).v=some b:=fun b hb=>by rw[he,Tf]at hb;exact⟨r.ub u j b hZ hb,hb⟩
 have r1:=(r.drop u j).mV (X':=fun b=>X b\/((h u j).u b/\blk (h u j).v≠some b)) (fun b hb=>.inl hb) (fun b hb=>hb.imp id (fun hh=>⟨(gL b hh.1).1,(gL b hh.1).2.2.1,(gL b hh.1).2.2.2⟩));refine hK _ _ ⟨fun b=>X b\/((h u j).u b/\blk (h u j).v≠some b),fun t k=>if t=d then Hd.of val else h t k,?_⟩ (XL.refl _ _);refine r1.uv gj (fun b=>blk val=some b) (Nat.le_refl _) (fun _ _ _=>rfl) (fun b hb=>⟨(gL b (hvb b hb).1).1,?_,fun t k _ ij=>(gL b (hvb b hb).1).2.2.2 t k ij⟩) (fun _ hb=>hb) (fun _ hb=>.inl hb) _ _ [.arr false size (rows.take n)] (fun _=>Hd.of val) ?_ (fun k=>?_) (fun k b _ hb=>hb) (fun k b ij hR=>?_) (fun k k' b ij gf _ _=>?_)
 ·rintro(hx|hx)
  ·exact(gL b (hvb b hb).1).2.1 hx
  ·exact hx.2 (hvb b hb).2
 ·refine⟨Jn g6,fun q' gB hO hh=>?_,fun gB hO hh=>by rw[gy]at hh;cases hh⟩;rw[gy]at hh;cases hh;simp only[if_true];have:=TO g6
  rwa[aJ]at this⊢
 ·cases k with
  |zero=>refine⟨e,xs.take (n*size),g6,fun q hq=>fR q (List.mem_of_mem_take hq),?_⟩;rw[fL];exact(ir.rd (T:=Tof T0 (fun b=>X b\/((h u j).u b/\blk (h u j).v≠some b))) (fun b k hb=>.inr (.inr hb))).take _
  |succ k=>simp[Yr,JZ]
 ·refine⟨.inr hR,?_,(gL b (hvb b hR).1).2.2.1⟩;rintro(hx|hx)
  ·exact(gL b (hvb b hR).1).2.1 hx
  ·exact hx.2 (hvb b hR).2
 ·have:∀k,Yr [Ob.arr false size (rows.take n)] k≠ .none->k=0:=by
   intro k hk;cases k with
   |zero=>rfl
   |succ k=>simp[Yr]at hk
  rw[this k ij,this k' gf]
theorem pb{Q:St->Prop}{t:TypeId}{len lo:Nat}(ig:o.op= .call ⟨.builtin .append,#[x,y],#[t,t]⟩)(hg:o.guard=none)(hd:o.dst=some d)(gP:bar o=true)
  (g7:size=P.cellsOf (ZS P t)) (h1:gOf (look P σ t x)=true/\gOf (look P σ t y)=true/\XS P t=true/\QE P (ZS P t)=true/\0<P.cellsOf (ZS P t))
  (h2:unc (look P σ t x)= .one (.sref u j 0 len)) (h3:unc (look P σ t y)= .one (.sref u j lo n)) (ho:σ.ob u j= .arr true size rows) (hle:len<=lo) (cB:lo+n<=rows.length)
  (fb:cut rows lo n=news) (h4:(σ.Z0 u j .none).fresh d=true) (h5:(len+n)*P.bytesOf (ZS P t)<=140737488355328/\len+n<=9223372036854775807)
  (h:Ev P ops bar rest ((σ.Z0 u j .none).new d (.one (.sref d 0 0 ((rows.take len).length+news.length))) [.arr true size (rows.take len++news)]) Q):jm P ops bar o rest σ Q:=by
 subst g7;subst fb;rw[XJ _ _ _ cB,List.length_take,Nat.min_eq_left zAC]at h;have cl:∀σ0:St,NW o σ0 ((σ0.Z0 u j .none).new d (.one (.sref d 0 0 (len+n))) [.arr true (P.cellsOf (ZS P t)) (rows.take len++cut rows lo n)]):=fun σ0 d' hJ hc=>Vy (fun e=>hJ zCO) (QO hc)
 have go:∀l:List (Nat×V),(∀p∈l,p.1≠d/\LO o p.1=true/\p.2.ref d=false)->SM P ops o (σ.JA l) (((σ.JA l).Z0 u j .none).new d (.one (.sref d 0 0 (len+n))) [.arr true (P.cellsOf (ZS P t)) (rows.take len++cut rows lo n)]):=by
  rintro l hl T0 B a w K Q' ⟨X,hh,r⟩ hK;have hw:Region.wanted o (yielded ops a.tmps)=true:=zBs
  rw[if_pos hw];have lx:look P (σ.JA l) t x=look P σ t x:=Vo l σ (fun p hp=>(Tb ig (hl p hp).2.1).1)
  have ly:look P (σ.JA l) t y=look P σ t y:=Vo l σ (fun p hp=>(Tb ig (hl p hp).2.1).2);refine Cx r ig hd (by rw[lx];exact h1.1) (by rw[ly];exact h1.2.1) h1.2.2.1 h1.2.2.2.1 h1.2.2.2.2 (by rw[lx];exact h2) (by rw[ly];exact h3) (by rw[Mf];exact ho) hle cB ?_ h5.1 h5.2 hK;show((σ.JA l).Z0 u j .none).fresh d=true
  rw[ki];exact OS l (fun p hp=>(hl p hp).2.2) h4
 have go0:SM P ops o σ ((σ.Z0 u j .none).new d (.one (.sref d 0 0 (len+n))) [.arr true (P.cellsOf (ZS P t)) (rows.take len++cut rows lo n)]):=go [] (fun p hp=>by cases hp);refine⟨_,.inr ⟨gP,go0,cl σ,fun hh=>by simp[SC,ig]at hh,fun _=>DX hd (St.XR _ _ _ _) (fun t=>St.Xz _ _ _ _ t) (fun t i cells hb=>Di (L:=[(u,j)]) hb) (fun t i q s rows hb=>⟨rows,Ez (L:=[(u,j)]) hb⟩) h4 (fun l hl=>?_) (fun l=>?_),fun hh _=>by first|(simp[KF,ig]at hh;done)|(unfold KF at hh;rw[ig]at hh;split at hh<;>simp_all)⟩,Qu h⟩
 ·rw[<-ki];exact go l hl
 ·rw[<-ki];exact cl _
theorem pG{Q:St->Prop}{t:TypeId}{lo:Nat}(ig:o.op= .call ⟨.builtin .append,#[x,y],#[t,t]⟩)(hg:o.guard=none)(hd:o.dst=some d)(gP:bar o=true)
  (g7:size=P.cellsOf (ZS P t)) (h1:gOf (look P σ t x)=true/\gOf (look P σ t y)=true/\XS P t=true/\QE P (ZS P t)=true/\0<P.cellsOf (ZS P t))
  (h2:vc σ (unc (look P σ t x)) size im l1) (h3:unc (look P σ t y)= .one (.sref u j lo n)) (ho:σ.ob u j= .arr true size rows) (hnm:(u,j)∉l1) (hle:lo+n<=rows.length) (fb:cut rows lo n=news)
  (h4:((σ.Z0 u j (.arr true size (JL rows lo n))).Z7 l1).fresh d=true) (h5:(im.length+n)*P.bytesOf (ZS P t)<=140737488355328/\im.length+n<=9223372036854775807)
  (h:Ev P ops bar rest (((σ.Z0 u j (.arr true size (JL rows lo n))).Z7 l1).new d (.one (.sref d 0 0 (im.length+news.length))) [.arr true size (im++news)]) Q):jm P ops bar o rest σ Q:=by
 subst g7;subst fb;rw[XJ _ _ _ hle]at h;have cl:∀σ0:St,NW o σ0 (((σ0.Z0 u j (.arr true (P.cellsOf (ZS P t)) (JL rows lo n))).Z7 l1).new d (.one (.sref d 0 0 (im.length+n))) [.arr true (P.cellsOf (ZS P t)) (im++cut rows lo n)]):=fun σ0 d' hJ hc=>Vy (fun e=>hJ zCO) (Ql (QO hc))
 have go:∀l:List (Nat×V),(∀p∈l,p.1≠d/\LO o p.1=true/\p.2.ref d=false)->SM P ops o (σ.JA l) ((((σ.JA l).Z0 u j (.arr true (P.cellsOf (ZS P t)) (JL rows lo n))).Z7 l1).new d (.one (.sref d 0 0 (im.length+n))) [.arr true (P.cellsOf (ZS P t)) (im++cut rows lo n)]):=by
  rintro l hl T0 B a w K Q' ⟨X,hh,r⟩ hK;have hw:Region.wanted o (yielded ops a.tmps)=true:=zBs
  rw[if_pos hw];have lx:look P (σ.JA l) t x=look P σ t x:=Vo l σ (fun p hp=>(Tb ig (hl p hp).2.1).1)
  have ly:look P (σ.JA l) t y=look P σ t y:=Vo l σ (fun p hp=>(Tb ig (hl p hp).2.1).2);refine Co r ig hd (by rw[lx];exact h1.1) (by rw[ly];exact h1.2.1) h1.2.2.1 h1.2.2.2.1 h1.2.2.2.2 (by rw[lx];exact ou (Mf l σ) h2) (by rw[ly];exact h3) (by rw[Mf];exact ho) hle hnm ?_ h5.1 h5.2 hK;rw[ki,y7];exact OS l (fun p hp=>(hl p hp).2.2) h4
 have hZ:σ.ob u j≠ .none:=zA9;have go0:SM P ops o σ (((σ.Z0 u j (.arr true (P.cellsOf (ZS P t)) (JL rows lo n))).Z7 l1).new d (.one (.sref d 0 0 (im.length+n))) [.arr true (P.cellsOf (ZS P t)) (im++cut rows lo n)]):=go [] (fun p hp=>by cases hp);refine⟨_,.inr ⟨gP,go0,cl σ,fun hh=>by simp[SC,ig]at hh,fun _=>DX hd (by rw[St.J2,St.XR]) (fun t=>by rw[St.yl,St.Xz]) (fun t i cells hb=>?_) (fun t i q s hO hb=>?_) h4 (fun l hl=>?_) (fun l=>?_),fun hh _=>by first|(simp[KF,ig]at hh;done)|(unfold KF at hh;rw[ig]at hh;split at hh<;>simp_all)⟩,Qu h⟩
 ·have hb:=Di hb;rw[St.Xh σ u j _ t i hZ]at hb;split at hb
  ·cases hb
  ·exact hb
 ·have hb:=Ez hb;rw[St.Xh σ u j _ t i hZ]at hb;split at hb
  ·rename_i hc;cases hb;rw[hc.1,hc.2];exact⟨rows,ho⟩
  ·exact⟨hO,hb⟩
 ·rw[<-y7,<-ki];exact go l hl
 ·rw[<-y7,<-ki];exact cl _
theorem vO{f:At->Bool}{v:V}(hv:v.yB f=false):∀{σ:St}{d:Nat},σ.yB f=false->(σ.put d v).yB f=false
 |[],_,_=>rfl
 |e::σ,0,h=>by simp only[St.yB,Bool.or_eq_false_iff]at h;simp[St.put,St.yB,hv,h.1.2,h.2]
 |e::σ,d+1,h=>by simp only[St.yB,Bool.or_eq_false_iff]at h;simp[St.put,St.yB,h.1.1,h.1.2,vO hv h.2]
theorem FC{σ:St}:∀{xs:List At}{ds:List D},Jd σ xs=some ds->∀p∈XC xs,∃q s rows,σ.ob p.1 p.2= .arr q s rows
 |[],_,_,p,hp=>by cases hp
 |x::xs,ds,h,p,hp=>by
  simp only[Jd]at h;split at h
  ·rename_i d bk h1 h2;have ih:=FC h2
   cases x with
   |sref t j lo len=>
    simp only[XC,List.mem_cons]at hp;rcases hp with rfl|hp
    ·simp only[mvD]at h1;split at h1
     ·rename_i q s rows ho;exact⟨q,s,rows,ho⟩
     ·cases h1
    ·exact ih p hp
   |_=>exact ih p hp
  ·cases h
theorem Hs{t' gB:Nat}{q':Bool}{hO:List (List D)}{cells:List At}{xs:List At}(hm:Jd σ xs=some ds)(hL:XC xs=L)(ho:σ.ob t j= .arr q size rows)(hn:(t,j)∉L)(hb:σ.ob t' 0= .box cells):
  ((σ.Z7 L).Z0 t j (.arr q' gB hO)).ob t' 0= .box cells:=by
 have h1:(σ.Z7 L).ob t j≠ .none:=by rw[St.KO,if_neg hn,ho];simp
 rw[St.Xh _ t j _ t' 0 h1];split
 ·rename_i hc;rw[hc.1,hc.2,ho]at hb;cases hb
 ·rw[St.KO];split
  ·rename_i hc;obtain⟨q,s,rows,he⟩:=FC hm (t',0) (by rw[hL];exact hc);rw[he]at hb;cases hb
  ·exact hb
structure StM(P:Program)(σ:St)(T:TypeId)(x y:Operand)(t j i c size:Nat)(rows:List (List D))(ds:List D)(l:List (Nat×Nat)):Prop where
 hx:unc (look P σ 0 x)= .one (.ptr t j i c)
 ho:σ.ob t j= .arr true size rows
 hi:i<rows.length
 h1:jc P T=true/\gOf (look P σ 0 x)=true/\gOf (look P σ T y)=true/\(unc (look P σ T y)).flat=true
 h2:Jd σ (unc (look P σ T y)).cells=some ds
 h3:QI σ (unc (look P σ T y)).cells
 h4:XC (unc (look P σ T y)).cells=l
 h5:l.Nodup/\(t,j)∉l/\(σ.Z7 l).yB (At.isT t)=false
 h6:ds.length=P.cellsOf T/\c+P.cellsOf T<=size
theorem StM.JA{P:Program}{o:Oper}{T:TypeId}{x y:Operand}(ig:o.op= .store T x y){t j i c size:Nat}{rows:List (List D)}{ds:List D}{l:List (Nat×Nat)}:∀(q:List (Nat×V)){σ:St},(∀p∈q,TU o p.1=true/\Gt p.2=true)->StM P σ T x y t j i c size rows ds l->StM P (σ.JA q) T x y t j i c size rows ds l
 |[],_,_,h=>h
 |p::q,σ,hq,h=>by
  refine StM.JA ig q (fun p' aG=>hq p' (by simp[aG])) ?_;obtain⟨hu,hp⟩:=hq p zAE;simp only[TU,ig,Bool.and_eq_true,Bool.not_eq_true']at hu;have hv:p.2.yB (At.isT t)=false:=by generalize p.2=v at hp;unfold Gt at hp;split at hp<;>first|rfl|cases hp
  refine⟨?_,?_,h.hi,?_,?_,?_,?_,⟨h.h5.1,h.h5.2.1,?_⟩,h.h6⟩
  ·rw[XZ hu.1];exact h.hx
  ·rw[St.Qz];exact h.ho
  ·rw[XZ hu.1,XZ hu.2];exact h.h1
  ·rw[XZ hu.2,H5];exact h.h2
  ·rw[XZ hu.2,ND];exact h.h3
  ·rw[XZ hu.2];exact h.h4
  ·rw[RK];exact vO hv h.h5.2.2
theorem Ib{l:List (Nat×Nat)}{t j:Nat}{ob:Ob}:∀(q:List (Nat×V))(σ:St),((σ.JA q).Z7 l).Z0 t j ob=((σ.Z7 l).Z0 t j ob).JA q
 |[],_=>rfl
 |p::q,σ=>by rw[St.JA,St.JA,Ib q,RK,xb]
theorem Gy{T:TypeId}{c:Nat}(ig:o.op= .store T x y)(hg:o.guard=none)(hd:o.dst=none)(h:StM P σ T x y t j i c size rows ds l):
  SM P ops o σ ((σ.Z7 l).Z0 t j (.arr true size (rows.set i (place (rowAt rows i) c ds)))):=by
 obtain⟨hx,ho,hi,h1,h2,h3,h4,h5,h6⟩:=h;subst h4;rintro T0 B a w K Q' ⟨X,hh,r⟩ hK;have hw:Region.wanted o (yielded ops a.tmps)=true:=zBs
 rw[if_pos hw];exact Fi r ig hd h1.1 h1.2.1 h1.2.2.1 hx ho hi h1.2.2.2 h2 h3 h5.1 h5.2.1 h5.2.2 h6.1 h6.2 hK
theorem p8{Q:St->Prop}{T:TypeId}{c:Nat}(ig:o.op= .store T x y)(hg:o.guard=none)(hd:o.dst=none)(gP:bar o=true)
  (hx:unc (look P σ 0 x)= .one (.ptr t j i c)) (ho:σ.ob t j= .arr true size rows) (hi:i<rows.length) (h1:jc P T=true/\gOf (look P σ 0 x)=true/\gOf (look P σ T y)=true/\(unc (look P σ T y)).flat=true)
  (h2:Jd σ (unc (look P σ T y)).cells=some ds) (h3:QI σ (unc (look P σ T y)).cells) (h4:XC (unc (look P σ T y)).cells=l) (h5:l.Nodup/\(t,j)∉l/\(σ.Z7 l).yB (At.isT t)=false) (h6:ds.length=P.cellsOf T/\c+P.cellsOf T<=size)
  (h:Ev P ops bar rest ((σ.Z7 l).Z0 t j (.arr true size (rows.set i (place (rowAt rows i) c ds)))) Q):jm P ops bar o rest σ Q:=by
 have hm:StM P σ T x y t j i c size rows ds l:=⟨hx,ho,hi,h1,h2,h3,h4,h5,h6⟩;refine⟨_,.inr ⟨gP,Gy ig hg hd hm,fun d' _ hc=>QO (Ql hc),fun _=>.inl ⟨⟨by rw[St.XR,St.J2],fun u=>by rw[St.Xz,St.yl]⟩,fun q hq=>?_,fun t' cells hb=>?_⟩,fun hh=>by simp[VF,ig]at hh,fun hh _=>by simp[KF,ig]at hh⟩,Qu h⟩
 ·rw[<-Ib];exact⟨Gy ig hg hd (hm.JA ig q hq),fun d' _ hc=>QO (Ql hc)⟩
 ·exact Hs hm.h2 hm.h4 hm.ho hm.h5.2.1 hb
theorem B0{T:TypeId}(ig:o.op= .store T x y)(hg:o.guard=none)(hd:o.dst=none)(fc:ds.length=size)(h:StM P σ T x y t j i 0 size rows ds l):
  SM P ops o σ ((σ.Z7 l).Z0 t j (.arr true size (rows.set i ds))):=by
 rintro T0 B a w K Q' ⟨X,hh,r⟩ hK;refine Gy ig hg hd h T0 B a w K Q' ⟨X,hh,r⟩ ?_;have h0:=r.obj t j
 rw[h.ho]at h0;obtain⟨_,_,_,hz,_⟩:=h0;have e:place (rowAt rows i) 0 ds=ds:=by
  have hr:(rowAt rows i).length=size:=by
   have:rowAt rows i=rows[i]'h.hi:=by simp[rowAt,List.getD_eq_getElem?_getD,List.getElem?_eq_getElem h.hi]
   rw[this];exact hz _ (List.getElem_mem h.hi)
  unfold place;rw[List.take_zero,List.nil_append,List.drop_eq_nil_of_le zAC,List.append_nil]
 rw[e];exact hK
theorem pL{Q:St->Prop}{T:TypeId}(ig:o.op= .store T x y)(hg:o.guard=none)(hd:o.dst=none)(gP:bar o=true)
  (hx:unc (look P σ 0 x)= .one (.ptr t j i 0)) (ho:σ.ob t j= .arr true size rows) (hi:i<rows.length) (h1:jc P T=true/\gOf (look P σ 0 x)=true/\gOf (look P σ T y)=true/\(unc (look P σ T y)).flat=true)
  (h2:Jd σ (unc (look P σ T y)).cells=some ds) (h3:QI σ (unc (look P σ T y)).cells) (h4:XC (unc (look P σ T y)).cells=l) (h5:l.Nodup/\(t,j)∉l/\(σ.Z7 l).yB (At.isT t)=false) (h6:ds.length=P.cellsOf T/\P.cellsOf T=size)
  (h:Ev P ops bar rest ((σ.Z7 l).Z0 t j (.arr true size (rows.set i ds))) Q):jm P ops bar o rest σ Q:=by
 have hm:StM P σ T x y t j i 0 size rows ds l:=⟨hx,ho,hi,h1,h2,h3,h4,h5,h6.1,zAC⟩;have hf:ds.length=size:=zAC;refine⟨_,.inr ⟨gP,B0 ig hg hd hf hm,fun d' _ hc=>QO (Ql hc),fun _=>.inl ⟨⟨by rw[St.XR,St.J2],fun u=>by rw[St.Xz,St.yl]⟩,fun q hq=>?_,fun t' cells hb=>?_⟩,fun hh=>by simp[VF,ig]at hh,fun hh _=>by simp[KF,ig]at hh⟩,Qu h⟩
 ·rw[<-Ib];exact⟨B0 ig hg hd hf (hm.JA ig q hq),fun d' _ hc=>QO (Ql hc)⟩
 ·exact Hs hm.h2 hm.h4 hm.ho hm.h5.2.1 hb
structure StN(P:Program)(σ:St)(T:TypeId)(x y:Operand)(t j i c k q n size:Nat)(s rows:List (List D))(ds:List D)(l:List (Nat×Nat)):Prop where
 hx:unc (look P σ 0 x)= .one (.tref t j i c (some (k*n+q)))
 ho:σ.ob t j= .arr true size rows
 hi:i<rows.length
 hc:(rows.getD i [])[c]?=some (.sl n s)
 hk:k<s.length
 h1:jc P T=true/\gOf (look P σ 0 x)=true/\gOf (look P σ T y)=true/\(unc (look P σ T y)).flat=true
 h2:Jd σ (unc (look P σ T y)).cells=some ds
 h3:QI σ (unc (look P σ T y)).cells
 h4:XC (unc (look P σ T y)).cells=l
 h5:l.Nodup/\(t,j)∉l
 h6:ds.length=P.cellsOf T/\q+P.cellsOf T<=n
theorem StN.JA{P:Program}{o:Oper}{T:TypeId}{x y:Operand}(ig:o.op= .store T x y){t j i c k n0 n size:Nat}{s rows:List (List D)}{ds:List D}{l:List (Nat×Nat)}:∀(q:List (Nat×V)){σ:St},(∀p∈q,TU o p.1=true/\Gt p.2=true)->StN P σ T x y t j i c k n0 n size s rows ds l->StN P (σ.JA q) T x y t j i c k n0 n size s rows ds l
 |[],_,_,h=>h
 |p::q,σ,hq,h=>by
  refine StN.JA ig q (fun p' aG=>hq p' (by simp[aG])) ?_;obtain⟨hu,hp⟩:=hq p zAE;simp only[TU,ig,Bool.and_eq_true,Bool.not_eq_true']at hu;refine⟨?_,?_,h.hi,h.hc,h.hk,?_,?_,?_,?_,h.h5,h.h6⟩
  ·rw[XZ hu.1];exact h.hx
  ·rw[St.Qz];exact h.ho
  ·rw[XZ hu.1,XZ hu.2];exact h.h1
  ·rw[XZ hu.2,H5];exact h.h2
  ·rw[XZ hu.2,ND];exact h.h3
  ·rw[XZ hu.2];exact h.h4
theorem B5{T:TypeId}{c q:Nat}(ig:o.op= .store T x y)(hg:o.guard=none)(hd:o.dst=none)(h:StN P σ T x y t j i c k q n size s rows ds l):
  SM P ops o σ ((σ.Z7 l).Z0 t j (.arr true size (rows.set i (place (rowAt rows i) c [.sl n (s.set k (place (rowAt s k) q ds))])))):=by
 obtain⟨hx,ho,hi,hc,hk,h1,h2,h3,h4,h5,h6⟩:=h;subst h4;rintro T0 B a w K Q' ⟨X,hh,r⟩ hK;have hw:Region.wanted o (yielded ops a.tmps)=true:=zBs
 rw[if_pos hw];exact F9 r ig hd h1.1 h1.2.1 h1.2.2.1 hx ho hi hc hk h1.2.2.2 h2 h3 h5.1 h5.2 h6.1 h6.2 hK
theorem pS{Q:St->Prop}{T:TypeId}{c q:Nat}(ig:o.op= .store T x y)(hg:o.guard=none)(hd:o.dst=none)(gP:bar o=true)
  (hm:StN P σ T x y t j i c k q n size s rows ds l)
  (h:Ev P ops bar rest ((σ.Z7 l).Z0 t j (.arr true size (rows.set i (place (rowAt rows i) c [.sl n (s.set k (place (rowAt s k) q ds))])))) Q):jm P ops bar o rest σ Q:=by
 refine⟨_,.inr ⟨gP,B5 ig hg hd hm,fun d' _ hc=>QO (Ql hc),fun _=>.inl ⟨⟨by rw[St.XR,St.J2],fun u=>by rw[St.Xz,St.yl]⟩,fun q hq=>?_,fun t' cells hb=>?_⟩,fun hh=>by simp[VF,ig]at hh,fun hh _=>by simp[KF,ig]at hh⟩,Qu h⟩
 ·rw[<-Ib];exact⟨B5 ig hg hd (hm.JA ig q hq),fun d' _ hc=>QO (Ql hc)⟩
 ·exact Hs hm.h2 hm.h4 hm.ho hm.h5.2 hb
open Go.RowKit
def Lv(P:Program)(σ:St):ResultVar->Prop×List At
 |.tmp t=>(match σ.get t with
  |.one x=>(t<σ.length,[x])
  |.agg []=>(t<σ.length,[])
  |.agg (x::y::xs)=>(t<σ.length,x::y::xs)
  |_=>(False,[]))
 |.cell t T=>(match σ.get t with
  |.one (.bptr u c)=>(match σ.ob u 0 with
    |.box cells=>(jc P T=true/\PH P T=true/\P.cellsOf T≠1/\c+P.cellsOf T<=cells.length,cut cells c (P.cellsOf T))
    |_=>(False,[]))
  |_=>(False,[]))
def Jm(P:Program)(σ:St):List ResultVar->Prop×List (List At)
 |[]=>(True,[])
 |r::rs=>((Lv P σ r).1/\(Jm P σ rs).1,(Lv P σ r).2::(Jm P σ rs).2)
theorem sf(h:(Lv P σ r).1):E7 P σ r (Lv P σ r).2:=by
 cases r with
 |tmp t=>
  simp only[Lv]at h⊢;simp only[E7];cases hx:σ.get t with
  |one x=>rw[hx]at h;exact⟨rfl,h⟩
  |agg xs=>
   rw[hx]at h;match xs,h with
   |[],h=>exact⟨rfl,h⟩
   |[x],h=>exact h.elim
   |x::y::xs,h=>exact⟨rfl,h⟩
  |any=>rw[hx]at h;exact h.elim
  |tup xs=>rw[hx]at h;exact h.elim
  |cnd g x=>rw[hx]at h;exact h.elim
  |fix u x=>rw[hx]at h;exact h.elim
 |cell t T=>
  simp only[Lv]at h⊢;split at h
  ·rename_i u c hx;split at h
   ·rename_i cells ho;exact⟨u,c,cells,hx,ho,h.1,h.2.1,h.2.2.1,h.2.2.2,rfl⟩
   ·exact h.elim
  ·exact h.elim
theorem Pn{P:Program}{σ:St}:∀{rs:List ResultVar},(Jm P σ rs).1->OZ P σ rs (Jm P σ rs).2
 |[],_=>rfl
 |_::_,h=>⟨_,_,sf h.1,Pn h.2,rfl⟩
theorem nN(hf:fn.results=rv.toArray)(h:(Jm P σ rv).1/\VX σ (Jm P σ rv).2=some res):vy P fn false res .ret σ:=
 ⟨.inl rfl,_,by rw[hf];exact Pn h.1,by simpa using h.2⟩
theorem nc(hf:fn.results=rv.toArray)(h:(Jm P σ rv).1/\RH σ (Jm P σ rv).2=some res/\(XC (Jm P σ rv).2.flatten).Nodup):vy P fn true res .ret σ:=
 ⟨.inl rfl,_,by rw[hf];exact Pn h.1,by simpa using h.2⟩
theorem EY(hf:fn.results=rv.toArray)(h:(Jm P σ rv).1/\KT σ (Jm P σ rv).2=some res/\Jc σ (Jm P σ rv).2/\(XC (Jm P σ rv).2.flatten).Nodup):rK P fn res .ret σ:=
 ⟨.inl rfl,_,by rw[hf];exact Pn h.1,h.2⟩
attribute [simp] vc KT Jd mvD Jc QI C3 YZ xJ zJ SD SG St.Z7 tC sE Av nj UZ OL AE St.yB V.yB V.uO B6 PC yu At.isT
attribute [simp] isB bOf Ev stops mU La evS vX evV AT ue MN N5 yh OD OG O3 HY lkI lkK Vm.look cst unc gOf jf V.flat V.cells St.put St.Z0 St.new St.pB St.pN St.oG St.oK B4 VK rn
 Dp Ny ldV cut place rowOf yX zS At.wE Qb V.zG Yh qG WM AP vOf Kg xj Jm Lv VX RH ownRow VB XC WZ Lx Yb At.ref D.scalar Jv D.wv zD oV QW
open Go.RowKit
theorem Ak{row:List D}(ho:KC w cs row S):∃(hf:Nat->Hd)(Sk:Nat->Nat->Prop),(∀j c,cs[j]?=some c->(hf j).v=c)/\(∀k b,Sk k b->S b)/\(∀i j b,Sk i b->Sk j b->i=j)/\
  ∀j size rows,row[j]?=some (.sl size rows)->(∀b,(hf j).u b->Sk j b)/\(∀b,blk (hf j).v=some b->(hf j).u b)/\∀T h ob,JZ T h ob w (hf j) (.arr true size rows):=by
 obtain⟨hl,Sk,h1,h2,h3⟩:=ho;have hex:∀j,∃hd:Hd,(∀c,cs[j]?=some c->hd.v=c)/\(∀size rows,row[j]?=some (.sl size rows)->(∀b,hd.u b->Sk j b)/\(∀b,blk hd.v=some b->hd.u b)/\∀T h ob,JZ T h ob w hd (.arr true size rows)):=by
  intro j;cases hj:row[j]? with
  |none=>exact⟨Hd.of ((cs[j]?).getD undef),fun c ga=>by simp[Hd.of,ga],fun size rows hh=>by cases hh⟩
  |some dd=>
   have bD:j<cs.length:=by rw[hl];exact(List.getElem?_eq_some_iff.1 hj).1
   have bm:cs[j]?=some cs[j]:=List.getElem?_eq_getElem bD;cases dd with
   |int k n=>exact⟨Hd.of cs[j],fun c ga=>by rw[bm]at ga;cases ga;rfl,fun size rows hh=>by cases hh⟩
   |bool k=>exact⟨Hd.of cs[j],fun c ga=>by rw[bm]at ga;cases ga;rfl,fun size rows hh=>by cases hh⟩
   |str k=>exact⟨Hd.of cs[j],fun c ga=>by rw[bm]at ga;cases ga;rfl,fun size rows hh=>by cases hh⟩
   |unk=>exact⟨Hd.of cs[j],fun c ga=>by rw[bm]at ga;cases ga;rfl,fun size rows hh=>by cases hh⟩
   |sl size rows=>
    have ho:=h1 j _ _ bm hj;generalize hv:cs[j]=v at ho;cases ho with
    |sl v size rows S e xs Sk' ho hz hb hl hk hs' hJ=>refine⟨⟨v,fun k=>(xs[k]?).getD undef,Sk j⟩,fun c ga=>by rw[bm,hv]at ga;cases ga;rfl,fun gB hO hh=>?_⟩;cases hh;exact⟨fun b hb=>hb,hb,fun T h ob=>⟨e,xs,ho,hz,⟨hl,Sk',hk,fun k b hb=>hs' k b hb,hJ⟩,fun k x d hx _ _=>by simp[hx]⟩⟩
 obtain⟨hf,aH⟩:=Classical.axiomOfChoice hex;exact⟨hf,Sk,fun j=>(aH j).1,h2,h3,fun j=>(aH j).2⟩
theorem KC.top{row:List D}(ho:KC w cs row S):YJ (V5 T w) cs row:=by
 obtain⟨hl,Sk,h1,h2,h3⟩:=ho;refine YJ.xm hl (fun k x d hx hd=>?_);have ho:=h1 k x d hx hd
 cases ho with
 |int k n=>exact Rd.int _ _
 |bool b=>exact Rd.bool _
 |str s=>exact Rd.str _
 |unk v h=>exact Rd.unk _ h
 |sl v size rows S e xs Sk' ho hz hb hl hk hs' hJ=>exact⟨e,xs,ho⟩
def mf(n:Nat)(v:Value)(row:List D)(args:List (List D)):St:=(.fix v (vOf (Kg 0 0 row)),YZ [] row)::(Lx args++List.replicate (n-(args.length+1)) (V.any,[]))
def St.np:St->List At->List D->St
 |σ,.sref t j _ _::xs,.sl size rows::ds=>St.np (σ.Z0 t j (.arr true size rows)) xs ds
 |σ,_::xs,_::ds=>St.np σ xs ds
 |σ,_,_=>σ
def wh:List D->List D->Prop
 |.sl s r::ds,.sl s' r'::bk=>s=s'/\r.length=r'.length/\wh ds bk
 |.sl _ _::_,_=>False
 |_::ds,_::bk=>wh ds bk
 |[],[]=>True
 |_,_=>False
def te(σ:St):List At->Prop
 |[]=>True
 |.sref t j _ _::xs=>(match σ.ob t j with|.arr true _ _=>True|_=>False)/\te σ xs
 |_::xs=>te σ xs
def At.lE:At->Bool
 |.tref _ _ _ _ _=>true
 |_=>false
theorem MW:∀{xs:List At}{t j:Nat},(t,j)∈XC xs->∃(k lo len:Nat),xs[k]?=some (At.sref t j lo len)
 |[],t,j,h=>zBV
 |x::xs,t,j,h=>by
  cases x with
  |sref t' j' lo len=>
   simp only[XC,List.mem_cons,Prod.mk.injEq]at h;rcases h with⟨rfl,rfl⟩|h
   ·exact⟨0,lo,len,rfl⟩
   ·obtain⟨k,lo,len,hk⟩:=MW h;exact⟨k+1,lo,len,by simpa using hk⟩
  |_=>obtain⟨k,lo,len,hk⟩:=MW (xs:=xs) h;exact⟨k+1,lo,len,by simpa using hk⟩
theorem Hm(ij:d≠d')(h:XY σ d=true):XY (σ.put d' v) d=true:=by unfold XY at*;simp only[W1,if_neg ij];exact h
end Go.Vm
