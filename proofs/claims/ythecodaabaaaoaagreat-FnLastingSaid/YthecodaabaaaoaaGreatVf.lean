/- An abstract machine M1 the model of Go, by value, and that it is sound: part Vf. No condition. -/
import Derived.Test.YthecodaabaaaoaaGreatVb
set_option linter.unusedVariables false
set_option linter.unusedSimpArgs false
namespace Go.Vm
open Go.RowKit
variable{P:Program}{σ σ':St}{ops:Array Oper}{bar:Oper->Bool}{o:Oper}{rows res news ng args s:List (List D)}{l L l1 l2:List (Nat×Nat)}{d size j n t id i u d' dj lY k:Nat}{Q:Exit->Act->World->Prop}{K:Act->World->Prop}{x y:Operand}{h:Nat->Nat->Hd}{B X X' S:Nat->Prop}{ds:List D}{v:V}{f:FuncId}{T0 T:CS}{a:Act}{w w':World}{c:Code}{parts:Array (Nat×Operand)}{Q':Exit->St->Prop}{want q g b:Bool}{r:ResultVar}{val:Value}
def Bo(P:Program)(σ:St)(c:Call)(f:FuncId)(own:Bool)(res:List (List D)):Prop:=
 ∃rows,Qs P σ c.args.toList c.argTypes.toList rows/\Q0 P f own rows res/\(Yi P σ c.args.toList c.argTypes.toList=true\/KW own res)
def Step(P:Program)(o:Oper)(d:Nat)(σ σ':St):Prop:=
 match o.op with
 |.alloc T=>σ.fresh d=true/\Qb P T=true/\∃row,WL P 12 T=some row/\σ'=σ.new d (.one (.bptr d 0)) [.box row]
 |.box T x=>σ.fresh d=true/\gOf (look P σ T x)=true/\(unc (look P σ T x)).flat=true/\Yf d (unc (look P σ T x)).cells=false/\σ'=σ.new d (.one (.bptr d 0)) [.box (unc (look P σ T x)).cells]
 |.buildSlice T n parts=>(σ.fresh d=true/\Xl P T=true/\Qb P (ZT P T)=true/\0<P.cellsOf (ZT P T)/\parts.toList.length=n/\n*P.cellsOf (ZT P T)<=16777216/\
   ((∃rows,Nb P σ (ZT P T) (P.cellsOf (ZT P T)) parts.toList 0 rows/\σ'=σ.new d (.one (.sref d 0 0 rows.length)) [.arr false (P.cellsOf (ZT P T)) rows])\/
   (∃rows,N5 P σ (ZT P T) (P.cellsOf (ZT P T)) parts.toList 0 rows/\Yf d rows.flatten=false/\σ'=σ.new d (.one (.sref d 0 0 rows.length)) [.lit (P.cellsOf (ZT P T)) rows])))\/
   ((Xl P T=true/\Qb P (ZT P T)=true/\0<P.cellsOf (ZT P T)/\parts.toList.length=n/\n*P.cellsOf (ZT P T)<=16777216)/\∃rows,Nb P σ (ZT P T) (P.cellsOf (ZT P T)) parts.toList 0 rows/\σ'=σ.put d (.one (.d (.sl (P.cellsOf (ZT P T)) rows))))
 |.makeSlice T x y=>x=y/\σ.fresh d=true/\Xl P T=true/\Qb P (ZT P T)=true/\0<P.cellsOf (ZT P T)/\
   ∃q z zr k n,(q=true->Ej z=true)/\WL P 12 (ZT P T)=some z/\zD z=some zr/\Vy P σ x k (n:Nat)/\P.bytesOf (ZT P T)*n<=281474976710656/\n<=9223372036854775807/\σ'=σ.new d (.one (.sref d 0 0 n)) [.arr q (P.cellsOf (ZT P T)) (List.replicate n zr)]
 |.call c=>
  (match c.callee with
  |.builtin .append=>∃x y t,c.args=#[x,y]/\c.argTypes=#[t,t]/\gOf (look P σ t x)=true/\gOf (look P σ t y)=true/\Xl P t=true/\Qb P (ZT P t)=true/\0<P.cellsOf (ZT P t)/\
    ∃ng news σ1,SN σ (unc (look P σ t x)) (P.cellsOf (ZT P t)) ng σ1/\WE σ (unc (look P σ t y)) (P.cellsOf (ZT P t)) news/\σ1.fresh d=true/\
     (ng.length+news.length)*P.bytesOf (ZT P t)<=140737488355328/\ng.length+news.length<=9223372036854775807/\σ'=σ1.new d (.one (.sref d 0 0 (ng.length+news.length))) [.arr false (P.cellsOf (ZT P t)) (ng++news)]
  |.value (.func f)=>(∃own res,Bo P σ c f own res/\σ'=σ.put d (qe res))\/(∃res,Bo P σ c f true res/\σ.fresh d=true/\σ'=σ.new d (jf d res) (xR res.flatten))\/
    (∃rows res qs,Qs P σ c.args.toList c.argTypes.toList rows/\Yb P f rows res/\y6 qs res.flatten/\σ.fresh d=true/\σ'=σ.new d (jf d res) (YY qs res.flatten))
  |_=>∃v,Yh P σ o.op o.type v/\σ'=σ.put d v)
 |.convert S T x=>
   (∃v,Yh P σ o.op o.type v/\σ'=σ.put d v)\/
   (∃l,gOf (look P σ S x)=true/\Ns P S=true/\T9 P T=true/\WE σ (unc (look P σ S x)) 1 (zj l)/\σ'=σ.put d (.one (.d (.str ⟨l.toArray⟩))))\/
   (∃s,gOf (look P σ S x)=true/\T9 P S=true/\Ns P T=true/\unc (look P σ S x)= .one (.d (.str s))/\s.size<=9223372036854775807/\σ'=σ.put d (.one (.d (.sl 1 (zj s.data.toList)))))
 |_=>∃v,Yh P σ o.op o.type v/\σ'=σ.put d v
def qB(P:Program)(σ:St)(T:TypeId)(x y:Operand)(σ':St):Prop:=
 qP P T=true/\gOf (look P σ 0 x)=true/\gOf (look P σ T y)=true/\(unc (look P σ T y)).flat=true/\
  (match unc (look P σ 0 x)with
  |.one (.bptr t c)=>∃cells,σ.ob t 0= .box cells/\(unc (look P σ T y)).cells.length=P.cellsOf T/\c+P.cellsOf T<=cells.length/\σ'=σ.Z1 t 0 (.box (place cells c (unc (look P σ T y)).cells))
  |.one (.ptr t j i c)=>∃q size rows ds,σ.ob t j= .arr q size rows/\i<rows.length/\rowOf σ (unc (look P σ T y)).cells=some ds/\zP (unc (look P σ T y)).cells=true/\ds.length=P.cellsOf T/\c+P.cellsOf T<=size/\
    (q=true->ds.all D.scalar=true/\(cut (rows.getD i []) c (P.cellsOf T)).all D.scalar=true)/\σ'=σ.Z1 t j (.arr q size (rows.set i (place (rows.getD i []) c ds)))
  |_=>False)
def qj(want:Bool):V->Option Bool
 |.one (.d (.bool b))=>some (b==want)
 |.cnd g (.one (.d (.bool b)))=>some (g&&(b==want))
 |.cnd false _=>some false
 |_=>none
def MH(P:Program)(o:Oper)(σ:St)(v:V):Prop:=
 match o.op with
 |.call c=>
  (match c.callee with
  |.value (.func f)=>∃own res,Bo P σ c f own [res]/\v=qe [res]
  |_=>∃v0,Yh P σ o.op o.type v0/\gOf v0=true/\v=unc v0/\v.flat=true)
 |_=>∃v0,Yh P σ o.op o.type v0/\gOf v0=true/\v=unc v0/\v.flat=true
def Xm(P:Program)(ops:Array Oper)(o:Oper)(σ σ':St):Prop:=
 match o.guard with
 |none=>
  (match o.dst with
  |some d=>Step P o d σ σ'
  |none=>(match o.op with|.store T x y=>qB P σ T x y σ'|_=>False))
 |some (j,want)=>∃dj d g v,(ops[j]?).bind (·.dst)=some dj/\dj<σ.length/\o.dst=some d/\qj want (σ.get dj)=some g/\(g=true->MH P o σ v)/\σ'=σ.put d (.cnd g v)
def UE(P:Program)(ops:Array Oper)(o:Oper)(σ σ':St):Prop:=
 ∀(T0:CS)(B:Nat->Prop)(a:Act)(w:World)(K:Act->World->Prop)(Q:Exit->Act->World->Prop),Jq T0 B σ a w->(∀a' w',Jq T0 B σ' a' w'->XI B w w'->K a' w')->
  if Region.wanted o (yielded ops a.tmps)then o.wp P a w K Q else K (a.put o.dst undef) w
def Xt(σ:St)(d:Nat):Bool:=match σ[d]? with|some (.any,[])=>true|some (.one (.d _),[])=>true|_=>false
def Rh(o:Oper)(σ σ':St):Prop:=∀d,o.dst≠some d->Xt σ d=true->Xt σ' d=true
def V4(o:Oper):Bool:=match o.op with|.store _ _ _=>true|_=>false
def xA(d:Nat):Operand->Bool
 |.tmp t=>t==d
 |_=>false
def Wy(o:Oper)(d:Nat):Bool:=match o.op with|.store _ p q=>!xA d p&&!xA d q|_=>false
def M5:V->Bool
 |.any=>true
 |.one (.d _)=>true
 |_=>false
def St.JO:St->List (Nat×V)->St
 |σ,[]=>σ
 |σ,p::l=>St.JO (σ.put p.1 p.2) l
def oH(P:Program)(ops:Array Oper)(o:Oper)(σ σ':St):Prop:=
 (σ'.length=σ.length/\∀u,σ'.get u=σ.get u)/\(∀l:List (Nat×V),(∀p∈l,Wy o p.1=true/\M5 p.2=true)->UE P ops o (σ.JO l) (σ'.JO l)/\Rh o (σ.JO l) (σ'.JO l))/\∀t cells,σ.ob t 0= .box cells->σ'.ob t 0= .box cells
def kP(o:Oper):Bool:=match o.op with|.call ⟨.builtin .append,_,_⟩=>true|_=>false
theorem DL(h:V4 o=true):kP o=false:=by
 unfold V4 at h;split at h
 ·rename_i na;simp[kP,na]
 ·cases h
def P2(o:Oper)(d:Nat):Bool:=!(o.op.operands.toList.any (xA d))
def pX(P:Program)(ops:Array Oper)(o:Oper)(σ σ':St):Prop:=
 ∃d,o.dst=some d/\σ'.length=σ.length/\(∀t,t≠d->σ'.get t=σ.get t/\(σ.get t).ref d=false)/\(∀t j cells,t≠d->σ'.ob t j= .box cells->σ.ob t j= .box cells/\Yf d cells=false)/\
  (∀t j q s rows,t≠d->σ'.ob t j= .arr q s rows->∃nv,σ.ob t j= .arr q s nv)/\
  ∀l:List (Nat×V),(∀p∈l,p.1≠d/\P2 o p.1=true/\p.2.ref d=false)->UE P ops o (σ.JO l) (σ'.JO l)/\Rh o (σ.JO l) (σ'.JO l)
def oN(P:Program)(t:TypeId):Bool:=match P.underlying t with|some (.pointer _)=>true|_=>false
def Pp(bar:Oper->Bool)(o:Oper):Bool:=!bar {o with dst:=some 1000000007}
def pa(bar:Oper->Bool)(o:Oper):Bool:=(match o.dst with|some d=>bar {o with dst:=some (d+2000000)}|none=>false)&&Pp bar o
def KK(P:Program)(o:Oper):Bool:=match o.op with|.call ⟨.value (.func _),_,⟨T::_⟩⟩=>oN P T|_=>false
def ya(t d:Nat)(cs:List At)(v:V):Option (List Ob)->St->St
 |none,σ=>(σ.Z1 t 0 (.box cs)).put d v
 |some os,σ=>(σ.Z1 t 0 (.box cs)).new d v os
def pW(P:Program)(ops:Array Oper)(o:Oper)(σ σ':St):Prop:=
 ∃d t cells cs v os,o.dst=some d/\σ.ob t 0= .box cells/\(∃z r,(∃f ts,o.op= .call ⟨.value (.func f),⟨z::r⟩,ts⟩)/\∃ty,unc (look P σ ty z)= .one (.bptr t 0))/\(∀u,Yf u cells=false/\Yf u cs=false)/\
  (∀u,(os=none\/u≠d)->v.ref u=false/\∀l,os=some l->XE u l=false)/\(os≠none->(σ.Z1 t 0 (.box cs)).fresh d=true)/\σ'=ya t d cs v os σ/\
  ∀σ2:St,σ.length=σ2.length->(∀z∈o.op.operands.toList,∀ty,look P σ ty z=look P σ2 ty z)->(∀z∈o.op.operands.toList,∀ty u,(look P σ ty z).ref u=true->∀j,σ.ob u j≠ .none->σ2.ob u j=σ.ob u j)->(os≠none->(σ2.Z1 t 0 (.box cs)).fresh d=true)->
   UE P ops o σ2 (ya t d cs v os σ2)/\Rh o σ2 (ya t d cs v os σ2)
theorem Cj(h:V4 o=true):KK P o=false:=by
 unfold V4 at h;split at h
 ·rename_i na;simp[KK,na]
 ·cases h
theorem vt(h:kP o=true):KK P o=false:=by
 unfold kP at h;split at h
 ·rename_i na;simp[KK,na]
 ·cases h
def zE(P:Program)(ops:Array Oper)(bar:Oper->Bool)(o:Oper)(σ σ':St):Prop:=Xm P ops o σ σ'\/(bar o=true/\UE P ops o σ σ'/\Rh o σ σ'/\(V4 o=true->oH P ops o σ σ')/\(kP o=true->pX P ops o σ σ')/\(KK P o=true->Pp bar o=true->pW P ops o σ σ'))
def D0(P:Program)(ops:Array Oper)(bar:Oper->Bool):List Oper->St->(St->Prop)->Prop
 |[],σ,Q=>Q σ
 |o::rest,σ,Q=>∃σ',zE P ops bar o σ σ'/\D0 P ops bar rest σ' Q
theorem OX(d:Nat):∀(n:Nat)(t:TypeId)(row:List At),WL P n t=some row->Yf d row=false:=by
 intro n;induction n with
 |zero=>intro t row hr;simp[WL]at hr
 |succ n ih=>
  intro t row hr;have af:∀(rs:List (List At)),(∀r∈rs,Yf d r=false)->Yf d rs.flatten=false:=by
   intro rs iw;have app:∀(xs ys:List At),Yf d xs=false->Yf d ys=false->Yf d (xs++ys)=false:=by
    intro xs ys hx hy;induction xs with
    |nil=>exact hy
    |cons x xs du=>simp only[List.cons_append,Yf,Bool.or_eq_false_iff]at hx⊢;exact⟨hx.1,du hx.2⟩
   induction rs with
   |nil=>rfl
   |cons r rs du=>rw[List.flatten_cons];exact app _ _ (iw r zAG) (du (fun r hr=>iw r zB8))
  rw[WL]at hr;split at hr
  ·cases hr;rfl
  ·cases hr;rfl
  ·cases hr;rfl
  ·cases hr;rfl
  ·rename_i fs _;simp only[Option.map_eq_some_iff]at hr;obtain⟨rs,iw,rfl⟩:=hr;refine af rs ?_;have:∀(l:List Field)(rs:List (List At)),l.mapM (fun f=>WL P n f.type)=some rs->∀r∈rs,Yf d r=false:=by
    intro l;induction l with
    |nil=>intro rs hh r hr;simp at hh;subst hh;cases hr
    |cons f l du=>
     intro rs hh r hr;simp only[List.mapM_cons,Option.bind_eq_bind,Option.bind_eq_some_iff]at hh;obtain⟨r0,gR,aF,bD,hh⟩:=hh;simp at hh;subst hh;rcases List.mem_cons.1 hr with rfl|hr
     ·exact ih f.type _ gR
     ·exact du aF bD r hr
   exact this fs.toList rs iw
  ·simp only[Option.map_eq_some_iff]at hr;obtain⟨r0,gR,rfl⟩:=hr;exact af _ (fun r hr=>by rw[List.eq_of_mem_replicate hr];exact ih _ _ gR)
  ·cases hr
theorem Uj(r:Rel T0 B σ a w X h)(hd:o.dst=some d)(hex:∃val,(execOp a.eval o).run P w= .ok (.value val) w/\JB (Tof T0 X) h σ.ob w v val)
  (hK:∀a' w',Jq T0 B (σ.put d v) a' w'->XI B w w'->K a' w'):o.wp P a w K Q:=by
 obtain⟨val,mB,hv⟩:=hex;unfold Oper.wp;rw[mB,Oper.upon_value,hd];exact hK _ _ ⟨X,h,r.put d v val hv⟩ (XI.refl _ _)
theorem AV(r:Rel T0 B σ a w X h)(hd:o.dst=some d)(hs:Step P o d σ σ')
  (hK:∀a' w',Jq T0 B σ' a' w'->XI B w w'->K a' w'):o.wp P a w K Q:=by
 have lY:(∃v,Yh P σ o.op o.type v/\σ'=σ.put d v)->o.wp P a w K Q:=by rintro⟨v,hv,rfl⟩;exact Uj r hd (WQ r hv) hK
 unfold Step at hs;split at hs
 ·rename_i T na;obtain⟨hf,hz,row,mN,rfl⟩:=hs;exact BO r na hd hf hz mN (OX d _ _ _ mN) hK
 ·rename_i T x na;obtain⟨hf,hg,lM,hr,rfl⟩:=hs;exact vX r na hd hf hg lM hr hK
 ·rename_i T n parts na;rcases hs with⟨hf,h1,h2,h3,h4,h5,⟨rows,h6,rfl⟩|⟨rows,h6,h7,rfl⟩⟩|⟨⟨h1,h2,h3,h4,h5⟩,rows,h6,rfl⟩
  ·exact Mz r na hd hf h1 h2 h3 h4 h5 h6 hK
  ·exact RI r na hd hf h1 h2 h3 h4 h5 h6 h7 hK
  ·exact D3 r na hd h1 h2 h3 h4 h5 h6 hK
 ·rename_i T x y na;obtain⟨rfl,hf,h1,h2,h3,q,z,zr,k,n,hq,h4,h5,h6,h7,h8,rfl⟩:=hs;cases q with
  |false=>exact L0 r na hd hf h1 h2 h4 h5 h3 h6 h7 h8 hK
  |true=>exact HP r na hd hf h1 h2 h4 h5 (hq rfl) h3 h6 h7 h8 hK
 ·rename_i c na;split at hs
  ·rename_i hc;obtain⟨x,y,t,ha,hH,h1,h2,h3,h4,h5,ng,news,σ1,h6,h7,h8,h9,hR,rfl⟩:=hs;refine CU r (t:=t) (x:=x) (y:=y) ?_ hd h1 h2 h3 h4 h5 h6 h7 h8 h9 hR hK;rw[na];obtain⟨cc,ca,ct⟩:=c;simp only at hc ha hH;rw[hc,ha,hH]
  ·rename_i f hc;rcases hs with⟨own,res,⟨rows,ha,hs,mr⟩,rfl⟩|⟨res,⟨rows,ha,hs,mr⟩,hf,rfl⟩|⟨rows,res,qs,ha,hs,hq,hf,rfl⟩
   ·rcases mr with mr|mr
    ·exact Wq r na hc hd ha true (fun _=>mr) (fun hh=>by cases hh) hs hK
    ·exact Wq r na hc hd ha false (fun hh=>by cases hh) (fun _=>mr) hs hK
   ·rcases mr with mr|mr
    ·exact P8 r na hc hd hf ha true (fun _=>mr) (fun hh=>by cases hh) hs hK
    ·exact P8 r na hc hd hf ha false (fun hh=>by cases hh) (fun _=>mr) hs hK
   ·exact BZ r qs na hc hd hf ha hs hq hK
  ·exact lY hs
 ·rename_i S T x na;rcases hs with hs|⟨l,h1,h2,h3,h4,rfl⟩|⟨s,h1,h2,h3,h4,h5,rfl⟩
  ·exact lY hs
  ·exact Uj r hd (Pc r na h1 h2 h3 h4) hK
  ·exact Pb r na hd h1 h2 h3 h4 h5 hK
 ·exact lY hs
theorem DQ(r:Rel T0 B σ a w X h){T:TypeId}(na:o.op= .store T x y)(hd:o.dst=none)(hs:qB P σ T x y σ')
  (hK:∀a' w',Jq T0 B σ' a' w'->XI B w w'->K a' w'):o.wp P a w K Q:=by
 obtain⟨ht,gd,gf,lM,hs⟩:=hs;split at hs
 ·rename_i t c hx;obtain⟨cells,ho,hl,hle,rfl⟩:=hs;exact Hz r na hd ht gd gf hx ho lM hl hle hK
 ·rename_i t j i c hx;obtain⟨q,size,rows,ds,ho,hi,fk,mF,hl,hle,hq,rfl⟩:=hs;refine Hu r na hd ht gd gf hx ho hi lM fk mF hl hle (fun hh=>⟨fun d nu=>?_,fun k d hk nu=>?_⟩) hK
  ·exact List.all_eq_true.1 (hq hh).1 d nu
  ·refine List.all_eq_true.1 (hq hh).2 d (List.mem_of_getElem? (i:=k) ?_);simp only[cut,List.getElem?_take,if_pos hk,List.getElem?_drop];exact nu
 ·exact hs.elim
theorem LW{ob:Nat->Nat->Ob}(hf:(unc v).flat=true)(hv:JB T h ob w (unc v) val):K7 T h ob w (unc v) val:=by
 cases hu:unc v with
 |one x=>rw[hu]at hv;exact hv
 |agg xs=>rw[hu]at hv;exact hv
 |any=>rw[hu]at hf;cases hf
 |tup xs=>rw[hu]at hf;cases hf
 |cnd g x=>rw[hu]at hf;cases hf
 |fix u x=>rw[hu]at hf;cases hf
theorem Cy(r:Rel T0 B σ a w X h)(gL:o.guard=some (j,want))(lj:(ops[j]?).bind (·.dst)=some dj)(nn:dj<σ.length)(hg:qj want (σ.get dj)=some g):
  Region.wanted o (yielded ops a.tmps)=g:=by
 have m0:dj<a.tmps.size:=by rw[r.size];exact nn
 have hv:=r.slot dj nn;have ag:a.tmps.getD dj undef=a.tmps[dj]:=by simp[m0]
 rw[ag]at hv;have hy:yielded ops a.tmps j=(match a.tmps[dj]with|.bool b=>some b|_=>none):=by unfold yielded;rw[lj];simp only[Option.bind_some,Array.getElem?_eq_getElem m0];cases a.tmps[dj]<;>rfl
 simp only[Region.wanted,gL,hy];unfold qj at hg;split at hg
 ·rename_i b aX;rw[aX]at hv;rw[kI hv];cases hg;cases b<;>cases want<;>rfl
 ·rename_i g0 b aX;rw[aX]at hv;cases hg;cases g0 with
  |true=>rw[kI (hv.1 rfl)];cases b<;>cases want<;>rfl
  |false=>rw[hv.2 rfl];simp[undef]
 ·rename_i aX;rw[aX]at hv;cases hg;rw[hv.2 rfl];simp[undef]
 ·cases hg
theorem Bm(r:Rel T0 B σ a w X h)(hs:Xm P ops o σ σ')
  (hK:∀a' w',Jq T0 B σ' a' w'->XI B w w'->K a' w'):if Region.wanted o (yielded ops a.tmps)then o.wp P a w K Q else K (a.put o.dst undef) w:=by
 unfold Xm at hs;split at hs
 ·rename_i hg;have hw:Region.wanted o (yielded ops a.tmps)=true:=zBW
  rw[if_pos hw];split at hs
  ·rename_i d hd;exact AV r hd hs hK
  ·rename_i hd;split at hs
   ·rename_i T x y na;exact DQ r na hd hs hK
   ·exact hs.elim
 ·rename_i j want hg;obtain⟨dj,d,g,v,lj,nn,hd,l4,hs,rfl⟩:=hs;rw[Cy r hg lj nn l4];cases g with
  |false=>simp only[Bool.false_eq_true,if_false];rw[hd];exact hK _ _ ⟨X,h,r.put d _ _ ⟨(fun hh=>by cases hh),fun _=>rfl⟩⟩ (XI.refl _ _)
  |true=>
   simp only[if_true];have mj:=hs rfl
   clear hs;have lY:(∃v0,Yh P σ o.op o.type v0/\gOf v0=true/\v=unc v0/\v.flat=true)->o.wp P a w K Q:=by rintro⟨v0,dt,cT,rfl,lM⟩;obtain⟨val,mB,hv⟩:=WQ r dt;refine Uj (v:=.cnd true (unc v0)) r hd ⟨val,mB,⟨fun _=>LW lM (hv.unc cT),fun hh=>by cases hh⟩⟩ hK
   unfold MH at mj;split at mj
   ·rename_i c na;split at mj
    ·rename_i f hc;obtain⟨own,res,⟨rows,ha,hs,mr⟩,rfl⟩:=mj;have fin:∀a' w',Jq T0 B (σ.put d (qe [res])) a' w'->XI B w w'->K a' w':=by
      rintro a' w' ⟨X',h',r'⟩ hb;refine hK a' w' ⟨X',h',?_⟩ hb;refine⟨by rw[r'.size,St.JG,St.JG],r'.defers,r'.hB,r'.hX,r'.hT,fun t ht=>?_,fun t j=>?_,fun t j b=>?_,fun t j b=>?_,fun t j t' j' b=>?_⟩
      ·rw[St.JG]at ht;have h0:=r'.slot t (by rw[St.JG];exact ht)
       rw[St.JJ]at h0⊢;rw[St.zb]at h0⊢;by_cases hh:t=d/\d<σ.length
       ·rw[if_pos hh]at h0⊢;refine⟨fun _=>?_,fun hh=>by cases hh⟩;have lM:(unc (vOf (res.map At.d))).flat=true:=by
         match res.map At.d with
         |[]=>rfl
         |[x]=>rfl
         |x::y::xs=>rfl
        have hu:unc (vOf (res.map At.d))=vOf (res.map At.d):=by
         match res.map At.d with
         |[]=>rfl
         |[x]=>rfl
         |x::y::xs=>rfl
        have:=LW (v:=vOf (res.map At.d)) lM (by rw[hu];exact h0);rw[hu]at this;exact this
       ·rw[if_neg hh]at h0⊢;exact h0
      ·have:=r'.obj t j;rw[St.JJ]at this⊢;exact this
      ·have:=r'.ub t j b;rw[St.JJ]at this⊢;exact this
      ·have:=r'.own t j b;rw[St.JJ]at this⊢;exact this
      ·have:=r'.inj t j t' j' b;rw[St.JJ]at this⊢;exact this
     rcases mr with mr|mr
     ·exact Wq r na hc hd ha true (fun _=>mr) (fun hh=>by cases hh) hs fin
     ·exact Wq r na hc hd ha false (fun hh=>by cases hh) (fun _=>mr) hs fin
    ·exact lY mj
   ·exact lY mj
theorem PG(hs:zE P ops bar o σ σ'):UE P ops o σ σ':=by
 rcases hs with hs|hs
 ·rintro T0 B a w K Q ⟨X,h,r⟩ hK;exact Bm r hs hK
 ·exact hs.2.1
theorem He{ops:Array Oper}{bar:Oper->Bool}:∀{l:List Oper}{σ:St}{a:Act}{w:World}{Q:St->Prop}{Q':Exit->Act->World->Prop},D0 P ops bar l σ Q->Jq T0 B σ a w->
  (∀σ' a' w',Q σ'->Jq T0 B σ' a' w'->XI B w w'->Q' .normal a' w')->wpList P ops Q' l a w
 |[],σ,a,w,Q,Q',hr,lh,hK=>hK σ a w hr lh (XI.refl _ _)
 |o::l,σ,a,w,Q,Q',⟨σ',hs,hr⟩,lh,hK=>by refine wpList_step fun K hKK=>?_;exact PG hs _ _ _ _ _ _ lh (fun a' w' lh hb=>hKK _ _ (He hr lh (fun σ2 a2 w2 hq ed mQ=>hK σ2 a2 w2 hq ed (hb.trans mQ))))
open Go.RowKit
variable{cs mY:List Value}
def AWP(P:Program)(c:Code)(Q:Exit->St->Prop)(σ:St):Prop:=
 ∀(T0:CS)(B:Nat->Prop)(a:Act)(w:World),Jq T0 B σ a w->c.wp P (fun e a' w'=>∃σ',Q e σ'/\Jq T0 B σ' a' w'/\XI B w w') a w
def Wk(σ σ':St):Prop:=∀(T0:CS)(B:Nat->Prop)(a:Act)(w:World),Jq T0 B σ a w->Jq T0 B σ' a w
def GW(next:St->Prop)(Q:Exit->St->Prop):Exit->St->Prop
 |.normal,σ=>next σ
 |e,σ=>Q e σ
def Rs(id:Nat)(Q:Exit->St->Prop):Exit->St->Prop
 |.exit bF,σ=>if bF=id then Q .normal σ else Q (.exit bF) σ
 |e,σ=>Q e σ
section
variable{Q:Exit->St->Prop}
theorem Wk.refl(σ:St):Wk σ σ:=fun _ _ _ _ h=>h
theorem Wk.trans{σ'':St}(h:Wk σ σ')(k:Wk σ' σ''):Wk σ σ'':=fun _ _ _ _ r=>k _ _ _ _ (h _ _ _ _ r)
theorem Bh(h:∀e σ,Q e σ->Q' e σ)(k:AWP P c Q σ):AWP P c Q' σ:=
 fun T0 B a w r=>wp_mono (k T0 B a w r) fun e _ _ ⟨σ',hq,hr⟩=>⟨σ',h e σ' hq,hr⟩
theorem tD(h:Q .normal σ):AWP P .skip Q σ:=fun _ B _ w r=>wp_skip ⟨σ,h,r,XI.refl B w⟩
theorem uu(h:Q (.exit id) σ):AWP P (.exit id) Q σ:=fun _ B _ w r=>wp_exit ⟨σ,h,r,XI.refl B w⟩
theorem tU(h:Q .ret σ):AWP P .ret Q σ:=fun _ B _ w r=>wp_ret ⟨σ,h,r,XI.refl B w⟩
theorem B3{l:List Oper}(h:D0 P l.toArray bar l σ (Q .normal)):AWP P (.region id l.toArray false) Q σ:=
 fun _ _ _ _ r=>wp_region_lit (He h r fun σ' _ _ hq hr hb=>⟨σ',hq,hr,hb⟩)
theorem sc{x y:Code}(h:AWP P x (GW (AWP P y Q) Q) σ):AWP P (.seq x y) Q σ:=by
 intro T0 B a w r;refine wp_seq (wp_mono (h T0 B a w r) ?_);rintro e a' w' ⟨σ',hq,hr,hb⟩;cases e with
 |normal=>exact wp_mono (hq T0 B a' w' hr) fun e _ _ ⟨σ2,h1,h2,h3⟩=>⟨σ2,h1,h2,hb.trans h3⟩
 |exit id=>exact⟨σ',hq,hr,hb⟩
 |goto l=>exact⟨σ',hq,hr,hb⟩
 |ret=>exact⟨σ',hq,hr,hb⟩
 |panic ch=>exact⟨σ',hq,hr,hb⟩
 |outgrown=>exact⟨σ',hq,hr,hb⟩
theorem uv{c:Operand}{x y:Code}(hc:look P σ 0 c= .one (.d (.bool b)))(ht:b=true->AWP P x Q σ)(hf:b=false->AWP P y Q σ):AWP P (.cond c x y) Q σ:=by
 intro T0 B a w r;obtain⟨X,h,rr⟩:=r;have hv:=rr.look (P:=P) 0 c
 rw[hc]at hv;exact wp_cond_split (kI hv) (fun hb=>ht hb T0 B a w ⟨X,h,rr⟩) (fun hb=>hf hb T0 B a w ⟨X,h,rr⟩)
theorem vT(h:AWP P c (Rs id Q) σ):AWP P (.block id c) Q σ:=by
 intro T0 B a w r;refine wp_block (wp_mono (h T0 B a w r) ?_);rintro e a' w' ⟨σ',hq,hr,hb⟩;cases e with
 |exit bF=>
  simp only[Rs]at hq;simp only[Exit.inBlock];split at hq
  ·rename_i hh;rw[if_pos hh];exact⟨σ',hq,hr,hb⟩
  ·rename_i hh;rw[if_neg hh];exact⟨σ',hq,hr,hb⟩
 |normal=>exact⟨σ',hq,hr,hb⟩
 |goto l=>exact⟨σ',hq,hr,hb⟩
 |ret=>exact⟨σ',hq,hr,hb⟩
 |panic ch=>exact⟨σ',hq,hr,hb⟩
 |outgrown=>exact⟨σ',hq,hr,hb⟩
theorem WO{ι:Type}(S:ι->St)(μ:ι->Nat)(i0:ι)(h0:Wk σ (S i0))
  (round:∀i,AWP P c (GW (fun σ'=>∃i',μ i'<μ i/\Wk σ' (S i')) Q) (S i)):AWP P (.loop c) Q σ:=by
 intro T0 B a w r b k cs;have key:∀n i a w,μ i=n->Jq T0 B (S i) a w->
   ∃e a' w',(∃σ',Q e σ'/\Jq T0 B σ' a' w'/\XI B w w')/\Arrives P (lone (b.at a (.code c:: .inLoop c::k)) cs w) b k cs e a' w':=by
  intro n;induction n using Nat.strongRecOn with
  |_ n ih=>
   intro i a w hn hr;obtain⟨e,a₁,w₁,⟨σ₁,hq,aG,aH⟩,lU⟩:=round i T0 B a w hr b (.inLoop c::k) cs;cases e with
   |normal=>obtain⟨i',nn,hwk⟩:=hq;obtain⟨e₂,a₂,w₂,⟨σ₂,hq₂,hr₂,hb₂⟩,aY⟩:=ih (μ i') (hn▸nn) i' a₁ w₁ rfl (hwk T0 B a₁ w₁ aG);exact⟨e₂,a₂,w₂,⟨σ₂,hq₂,hr₂,aH.trans hb₂⟩,.of_steps (Steps.trans lU (.one step_inLoop)) aY⟩
   |exit id=>exact⟨_,a₁,w₁,⟨σ₁,hq,aG,aH⟩,.pass (x:=.inLoop c) rfl (fun _ _=>.inl zAG) lU⟩
   |goto l=>exact⟨_,a₁,w₁,⟨σ₁,hq,aG,aH⟩,.pass (x:=.inLoop c) rfl (fun _ _=>.inl zAG) lU⟩
   |ret=>exact⟨_,a₁,w₁,⟨σ₁,hq,aG,aH⟩,.pass (x:=.inLoop c) rfl (fun _ _=>.inl zAG) lU⟩
   |panic ch=>exact⟨_,a₁,w₁,⟨σ₁,hq,aG,aH⟩,.pass (x:=.inLoop c) rfl (fun _ _=>.inl zAG) lU⟩
   |outgrown=>exact⟨_,a₁,w₁,⟨σ₁,hq,aG,aH⟩,.pass (x:=.inLoop c) rfl (fun _ _=>.inl zAG) lU⟩
 obtain⟨e,a',w',hq,lU⟩:=key _ i0 a w rfl (h0 T0 B a w r);exact⟨e,a',w',hq,.of_steps (.one step_loop) lU⟩
end
/-! ### entering a function, and leaving it -/
def Oj:List (List D)->St
 |[]=>[]
 |r::rs=>(vOf (r.map .d),[])::Oj rs
def ji(n:Nat)(args:List (List D)):St:=Oj args++List.replicate (n-args.length) (V.any,[])
def HS(P:Program)(σ:St):ResultVar->List At->Prop
 |.tmp t,xs=>(σ.get t=vOf xs)/\t<σ.length
 |.cell t T,xs=>∃u c cells,σ.get t= .one (.bptr u c)/\σ.ob u 0= .box cells/\qP P T=true/\U9 P T=true/\P.cellsOf T≠1/\c+P.cellsOf T<=cells.length/\xs=cut cells c (P.cellsOf T)
def T5(P:Program)(σ:St):List ResultVar->List (List At)->Prop
 |[],lK=>lK=[]
 |r::rs,lK=>∃xs rest,HS P σ r xs/\T5 P σ rs rest/\lK=xs::rest
def kl(σ:St):List (List At)->Option (List (List D))
 |[]=>some []
 |xs::rest=>(match rowOf σ xs,kl σ rest with|some r,some rs=>some (r::rs)|_,_=>none)
def j0(σ:St):At->Option D
 |.d (.sl _ _)=>none
 |.d x=>some x
 |.nil s=>some (.sl s [])
 |.sref t j lo len=>(match σ.ob t j with|.arr false size rows=>if lo=0/\len=rows.length then some (.sl size rows)else none|_=>none)
 |_=>none
def ownRow(σ:St):List At->Option (List D)
 |[]=>some []
 |x::xs=>(match j0 σ x,ownRow σ xs with|some d,some ds=>some (d::ds)|_,_=>none)
def Ut(σ:St):List (List At)->Option (List (List D))
 |[]=>some []
 |xs::rest=>(match ownRow σ xs,Ut σ rest with|some r,some rs=>some (r::rs)|_,_=>none)
def Br(P:Program)(fn:Func)(own:Bool)(res:List (List D))(e:Exit)(σ:St):Prop:=
 (e= .ret\/e= .normal)/\∃lK,T5 P σ fn.results.toList lK/\(if own then Ut σ lK=some res/\(XL lK.flatten).Nodup else kl σ lK=some res)
def vY(P:Program)(fn:Func)(res:List (List D))(e:Exit)(σ:St):Prop:=
 (e= .ret\/e= .normal)/\∃lK,T5 P σ fn.results.toList lK/\Km σ lK=some res/\KP σ lK/\(XL lK.flatten).Nodup
open Go.RowKit
variable{rest:List Oper}{fn:Func}{rv:List ResultVar}{lK:List (List At)}
theorem Rr:∀(args:List (List D))(t:Nat),(Oj args)[t]?=(args[t]?).map fun r=>(vOf (r.map .d),[])
 |[],t=>by simp[Oj]
 |r::rs,0=>by simp[Oj]
 |r::rs,t+1=>by simpa[Oj]using Rr rs t
theorem JQ(args:List (List D)):(Oj args).length=args.length:=by
 induction args with
 |nil=>rfl
 |cons r rs ih=>simp[Oj,ih]
theorem Gk(hT:∀b k,T b k->b<w.heap.size)(ha:YF (fun v row=>∃cs,yT v cs/\YF (Rd T w) cs row) mY args):
  Jq T (fun b=>b<w.heap.size) (ji n args) {tmps:=mY.toArray++Array.replicate (n-mY.toArray.size) undef,defers:=[]} w:=by
 have hl:=ha.length;refine⟨fun _=>False,fun _ _=>Hd.of undef,?_⟩;have n9:∀t j,(ji n args).ob t j= .none:=by
  intro t j;unfold St.ob ji;rcases Nat.lt_or_ge t args.length with h|h
  ·rw[List.getElem?_append_left zB7,Rr,List.getElem?_eq_getElem h];simp[Yp]
  ·rw[List.getElem?_append_right zB7,List.getElem?_replicate];split
   ·rename_i e he;split at he
    ·cases he;simp[Yp]
    ·cases he
   ·rfl
 have eg:∀b k v,T b k->w.cell? ⟨b,k,none⟩=some v->w.cell? ⟨b,k,none⟩=some v/\Tof T (fun _=>False) b k:=fun b k v hb hc=>⟨hc,.inl hb⟩;refine⟨by simp[ji,JQ,hl],rfl,(fun b hb=>hb),(fun b hb=>hb.elim),hT,fun t ht=>?_,fun t j=>by rw[n9];trivial,fun t j b nf=>absurd (n9 t j) nf,fun t j b nf=>absurd (n9 t j) nf,fun t j t' j' b nf=>absurd (n9 t j) nf⟩;unfold St.get ji;rcases Nat.lt_or_ge t args.length with nn|gM
 ·rw[List.getElem?_append_left (by rw[JQ];exact nn),Rr,List.getElem?_eq_getElem nn];obtain⟨v,hv,cs,hf,ni⟩:=ha.get' t args[t] (List.getElem?_eq_getElem nn);have hU:(mY.toArray++Array.replicate (n-mY.toArray.size) undef).getD t undef=v:=by rw[Array.getD_eq_getD_getElem?,Array.getElem?_append_left zAx];simp[hv]
  simp only[hU];exact(Iy hf (VM (ni.imp fun _ _=>Rd.mono eg))).up
 ·rw[List.getElem?_append_right (by rw[JQ];exact gM),List.getElem?_replicate];split
  ·rename_i e he;split at he
   ·cases he;trivial
   ·cases he
  ·trivial
theorem tr{ob:Nat->Nat->Ob}{xs:List At}{v:Value}(hv:JB T h ob w (vOf xs) v):∃cs,yT v cs/\YF (YL T h ob w) xs cs:=by
 match xs,hv with
 |[],hv=>obtain⟨cs,rfl,ni⟩:=hv;exact⟨cs.toList,.inr ⟨by rw[<-ni.length];simp,zAG⟩,ni⟩
 |[x],hv=>exact⟨[v],.inl ⟨v,rfl,rfl,YL.QM hv⟩,.cons hv .nil⟩
 |x::y::xs,hv=>obtain⟨cs,rfl,ni⟩:=hv;exact⟨cs.toList,.inr ⟨by rw[<-ni.length];simp,zAG⟩,ni⟩
theorem wC(r:Rel T0 B σ a w X h):∀{rs:List ResultVar}{lK:List (List At)},T5 P σ rs lK->
  ∃vs mM,(rs.mapM (m:=Sem) fun|.tmp t=>pure (a.tmps.getD t undef)|.cell u t=>do loadVar t (<-asAddr (a.tmps.getD u undef))).run P w= .ok vs w/\YF yT vs mM/\YF (fun xs cs=>YF (YL (Tof T0 X) h σ.ob w) xs cs) lK mM
 |[],lK,hr=>by cases hr;exact⟨[],[],zAG,.nil,.nil⟩
 |rv::rs,lK,hr=>by
  obtain⟨xs,rest,h1,h2,rfl⟩:=hr;obtain⟨vs,mM,mB,hf,ni⟩:=wC r h2;have one:∃v cs,(match rv with|.tmp t=>(pure (a.tmps.getD t undef):Sem Value)|.cell u t=>do loadVar t (<-asAddr (a.tmps.getD u undef))).run P w= .ok v w/\yT v cs/\YF (YL (Tof T0 X) h σ.ob w) xs cs:=by
   cases rv with
   |tmp t=>
    obtain⟨hg,nn⟩:=h1;have hv:=r.slot t nn
    rw[hg]at hv;obtain⟨cs,hf,ni⟩:=tr hv;exact⟨_,cs,zAG,hf,ni⟩
   |cell t T=>
    obtain⟨u,c,cells,hg,ho,iV,gq,nf,hle,rfl⟩:=h1;have hv:=r.get t
    rw[hg]at hv;obtain⟨b,cs,e,hb,he,hh,ni⟩:=r.box ho hv;have hlen:=ni.length
    obtain⟨val,hld,hagg,_⟩:=uT (P:=P) (w:=w) iV (b:=b) (off:=c) (cs:=cut cs.toList c (P.cellsOf T)) (XV _ _ _ zAD) (fun j u hu=>zL hh _ _ (zl _ _ _ _ _ hu));refine⟨val,cut cs.toList c (P.cellsOf T),?_,.inr ⟨by rw[XV _ _ _ zAD];exact nf,hagg gq⟩,ni.cut _ _⟩;simp only[Instr.loadAt,Instr.sureAddr,Sem.run_bind,Sem.run_pure,Result.andThen_ok]at hld;simp only[he,asAddr,Sem.run_bind,Sem.run_pure,Result.andThen_ok];exact hld
  obtain⟨v,cs,aZ,hf1,hal1⟩:=one;refine⟨v::vs,cs::mM,?_,.cons hf1 hf,.cons hal1 ni⟩;simp only[List.mapM_cons,Sem.run_bind,aZ,Result.andThen_ok,mB,Sem.run_pure]
theorem WV(r:Rel T0 B σ a w X h)(hr:T5 P σ fn.results.toList lK):
  ∃vs mM,(results fn a.tmps).run P w= .ok (R6 vs) w/\YF yT vs mM/\YF (fun xs cs=>YF (YL (Tof T0 X) h σ.ob w) xs cs) lK mM:=by
 obtain⟨vs,mM,mB,hf,ni⟩:=wC r hr;refine⟨vs,mM,?_,hf,ni⟩;unfold results;rw[Array.mapM_eq_mapM_toList];change(((fn.results.toList.mapM (m:=Sem) fun|.tmp t=>pure (a.tmps.getD t undef)|.cell u t=>do loadVar t (<-asAddr (a.tmps.getD u undef)))>>=fun l=>pure l.toArray)>>=fun(vs:Array Value)=>pure (if h:vs.size=1 then vs[0]else .tuple vs)).run P w=_;simp only[Sem.run_bind,mB,Result.andThen_ok,Sem.run_pure];congr 1;match vs with
 |[]=>rfl
 |[v]=>rfl
 |v::v'::vs=>simp[R6]
theorem SK(r:Rel T0 B σ a w X h){T:CS}(hT:∀b k,OL T0 X h σ b k->T b k):∀{lK:List (List At)}{mM:List (List Value)}{res:List (List D)},kl σ lK=some res->YF (fun xs cs=>YF (YL (Tof T0 X) h σ.ob w) xs cs) lK mM->
  YF (fun cs row=>YF (qY false T w) cs row) mM res
 |[],mM,res,hr,ni=>by cases ni;simp[kl]at hr;subst hr;exact .nil
 |xs::lK,mM,res,hr,ni=>by
  cases ni with
  |cons h1 ni=>
   simp only[kl]at hr;split at hr
   ·rename_i row rs mN iw;cases hr;refine .cons ?_ (SK r hT iw ni);have:=r.rowOf false mN h1 (fun hh=>by cases hh)
    refine this.imp fun v d hd=>?_;simp only[qY,Bool.false_eq_true,if_false]at hd⊢;exact Rd.mono (fun b k v hb hc=>⟨hc,hT b k hb⟩) hd
   ·cases hr
theorem HK:∀{xs:List At}{ds:List D},ownRow σ xs=some ds->YF (fun x d=>j0 σ x=some d) xs ds
 |[],ds,hr=>by simp[ownRow]at hr;subst hr;exact .nil
 |x::xs,ds,hr=>by
  simp only[ownRow]at hr;split at hr
  ·rename_i d eK h1 h2;cases hr;exact .cons h1 (HK h2)
  ·cases hr
theorem LQ:∀{lK:List (List At)}{res:List (List D)},Ut σ lK=some res->YF (fun xs row=>YF (fun x d=>j0 σ x=some d) xs row) lK res
 |[],res,hr=>by simp[Ut]at hr;subst hr;exact .nil
 |xs::lK,res,hr=>by
  simp only[Ut]at hr;split at hr
  ·rename_i d eK h1 h2;cases hr;exact .cons (HK h1) (LQ h2)
  ·cases hr
theorem T3(r:Rel T0 B σ a w X h){x:At}{d:D}{v:Value}(hx:j0 σ x=some d)(hv:YL (Tof T0 X) h σ.ob w x v):KD (Tof T0 X) w v d/\(∀b,d.scalar=false->blk v=some b->∃t j lo len,x= .sref t j lo len/\σ.ob t j≠ .none/\(h t j).u b):=by
 cases x with
 |d x=>
  cases x with
  |sl s rows=>simp[j0]at hx
  |int k n=>simp[j0]at hx;subst hx;exact⟨hv,fun b hb=>by cases hb⟩
  |bool b=>simp[j0]at hx;subst hx;exact⟨hv,fun b hb=>by cases hb⟩
  |str s=>simp[j0]at hx;subst hx;exact⟨hv,fun b hb=>by cases hb⟩
  |unk=>simp[j0]at hx;subst hx;exact⟨hv,fun b hb=>by cases hb⟩
 |nil s=>simp[j0]at hx;subst hx;cases hv;exact⟨⟨0,[],World.ownsRow_nil w 0 0 s,zBD,.nil⟩,fun b _ hb=>by cases hb⟩
 |sref t j lo len=>
  simp only[j0]at hx;split at hx
  ·rename_i size rows ho;split at hx
   ·rename_i hc;obtain⟨rfl,rfl⟩:=hc;cases hx;obtain⟨_,la,_⟩:=hv.2.1 _ size rows ho;have he:=la rfl rfl
    have h0:=r.obj t j;have lF:=r.ub t j;rw[ho]at h0 lF;refine⟨by rw[he];exact h0,fun b _ hb=>⟨t,j,0,rows.length,rfl,by rw[ho];simp,lF b zAG (by rw[<-he];exact hb)⟩⟩
   ·cases hx
  ·cases hx
 |any=>simp[j0]at hx
 |ptr=>simp[j0]at hx
 |bptr=>simp[j0]at hx
 |fn=>simp[j0]at hx
 |rptr=>simp[j0]at hx
 |tref=>simp[j0]at hx
theorem Dp(hf:P.funcs[f]?=some fn)(hb:fn.body=some c)(mH:TX P f=true){own:Bool}
  (hw:AWP P c (Br P fn own res) (ji fn.ntmps args)):Q0 P f own args res:=by
 refine⟨mH,fun T w mY hT np=>calls_of_wp hf hb ?_⟩;refine wp_mono (hw T (fun b=>b<w.heap.size) _ w (Gk hT np)) ?_;rintro e a' w' ⟨σ',⟨he,lK,lq,nr⟩,⟨X,h,r⟩,n8⟩;have lu:Below w.heap.size w w':=⟨n8.os,n8.tape,n8.output,n8.size,n8.block⟩
 obtain⟨vs,mM,mB,mV,ni⟩:=WV r lq;have goal:a'.defers=[]/\∃v,(results fn a'.tmps).run P w'= .ok v w'/\pv own T w res (.returned v) w':=by
  refine⟨r.defers,_,mB,?_⟩;cases own with
  |false=>
   refine⟨vs,mM,fun b=>w.heap.size<=b/\b<w'.heap.size,rfl,lu,fun b hb=>hb,mV,?_,fun hh=>by cases hh⟩;refine SK r (fun b k hb=>?_) (by simpa using nr) ni;rcases hb with hb|⟨t,j,q,size,rows,ho,hb⟩
   ·rcases hb with hb|hb
    ·exact .inl hb
    ·have:=r.hX b hb;exact .inr ⟨zAD,this.2⟩
   ·have:=r.own t j b zAw hb;exact .inr ⟨zAD,this.2.2⟩
  |true=>
   simp only[if_true]at nr;obtain⟨nk,mu⟩:=nr;have mw:=LQ nk
   have gr:YF (fun x d=>j0 σ' x=some d) lK.flatten res.flatten:=qI mw;have gu:YF (YL (Tof T X) h σ'.ob w') lK.flatten mM.flatten:=qI ni;refine⟨vs,mM,X,rfl,lu,(fun b hb=>by have:=r.hX b hb;exact⟨zAD,this.2⟩),mV,?_,fun _=>⟨fun i cc d b hc hd lA hb=>?_,fun i j cc cc' d d' b hc hd mZ nu lA bC hb n7=>?_⟩⟩
   ·clear gr gu mV mB lq nk mu he hw;induction mw generalizing mM with
    |nil=>cases ni;exact .nil
    |cons hr _ ih=>
     cases ni with
     |cons ed ni=>refine .cons ?_ (ih _ ni);clear ih ni;refine YF.xS (by rw[<-ed.length,hr.length]) (fun i v d hv hd=>?_);obtain⟨x,hx,cU⟩:=hr.get' i d hd;obtain⟨v',iz,aa⟩:=ed.get i x hx;rw[hv]at iz;cases iz;simp only[qY,if_true];exact(T3 r cU aa).1
   ·obtain⟨x,hx,cU⟩:=gr.get' i d hd;obtain⟨v',iz,aa⟩:=gu.get i x hx;rw[hc]at iz;cases iz;obtain⟨t,j,lo,len,_,nf,iY⟩:=(T3 r cU aa).2 b lA hb;have:=r.own t j b nf iY
    exact⟨zAD,this.2.2,this.2.1⟩
   ·obtain⟨x,hx,cU⟩:=gr.get' i d hd;obtain⟨v',iz,aa⟩:=gu.get i x hx;rw[hc]at iz;cases iz;obtain⟨x2,ab,hxd2⟩:=gr.get' j d' nu;obtain⟨v2,mv,hxv2⟩:=gu.get j x2 ab;rw[mZ]at mv;cases mv;obtain⟨t,u,lo,len,rfl,nf,iY⟩:=(T3 r cU aa).2 b lA hb;obtain⟨t2,u2,lo2,ae,rfl,ez,hbb2⟩:=(T3 r hxd2 hxv2).2 b bC n7;obtain⟨rfl,rfl⟩:=r.inj t u t2 u2 b nf ez iY hbb2;exact Lc _ i j t u lo len lo2 ae mu hx ab
 rcases he with rfl|rfl
 ·exact goal
 ·exact goal
theorem FW(hf:P.funcs[f]?=some fn)(hb:fn.body=some c)(mH:TX P f=true)
  (hw:AWP P c (vY P fn res) (ji fn.ntmps args)):Yb P f args res:=by
 refine⟨mH,fun T w mY hT np=>calls_of_wp hf hb ?_⟩;refine wp_mono (hw T (fun b=>b<w.heap.size) _ w (Gk hT np)) ?_;rintro e a' w' ⟨σ',⟨he,lK,lq,l9,iN,mu⟩,⟨X,h,r⟩,n8⟩;have lu:Below w.heap.size w w':=⟨n8.os,n8.tape,n8.output,n8.size,n8.block⟩
 obtain⟨vs,mM,mB,mV,ni⟩:=WV r lq;have goal:a'.defers=[]/\∃v,(results fn a'.tmps).run P w'= .ok v w'/\rK w res (.returned v) w':=by
  refine⟨r.defers,_,mB,vs,mM,rfl,lu,mV,?_,?_⟩
  ·clear mu iN lq mB mV hw;induction ni generalizing res with
   |nil=>simp[Km]at l9;subst l9;exact .nil
   |cons h1 _ ih=>
    simp only[Km]at l9;split at l9
    ·rename_i row rs mN iw;cases l9;exact .cons (by rw[<-h1.length];exact(qS mN).1) (ih iw)
    ·cases l9
  ·refine(RU r (qI ni) (xb l9).1 (xC iN) mu).mono (fun b hb=>?_);have:=r.zu _ b hb
   exact⟨zAD,this.2.2.1⟩
 rcases he with rfl|rfl
 ·exact goal
 ·exact goal
open Go.RowKit
variable{os:List Ob}{op:BinOp}
theorem St.tH(e:Ent)(σ:St):St.get (e::σ) 0=e.1:=rfl
theorem St.uM(e:Ent)(σ:St)(n:Nat):St.get (e::σ) (n+1)=St.get σ n:=by simp[St.get]
theorem St.tc(e:Ent)(σ:St)(j:Nat):St.ob (e::σ) 0 j=Yp e.2 j:=rfl
theorem St.sk(e:Ent)(σ:St)(n j:Nat):St.ob (e::σ) (n+1) j=St.ob σ n j:=by simp[St.ob]
theorem EL(o:Ob)(os:List Ob):Yp (o::os) 0=o:=rfl
theorem kd(o:Ob)(os:List Ob)(n:Nat):Yp (o::os) (n+1)=Yp os n:=by simp[Yp]
theorem uV(n:Nat):Yp [] n= .none:=by simp[Yp]
def lkI(P:Program)(σ:St)(x:Operand):Prop×Int:=
 match unc (look P σ 0 x)with
 |.one (.d (.int _ n))=>(gOf (look P σ 0 x)=true,n)
 |_=>(False,0)
def lkK(P:Program)(σ:St)(x:Operand):IntKind:=
 match unc (look P σ 0 x)with
 |.one (.d (.int k _))=>k
 |_=>.i64
theorem We(h:(lkI P σ x).1):Vy P σ x (lkK P σ x) (lkI P σ x).2:=by
 unfold lkI at h⊢;unfold lkK;unfold Vy;split at h
 ·rename_i k n heq;rw[heq];exact⟨h,rfl⟩
 ·exact h.elim
def ye(P:Program)(σ:St)(lY:Nat):Option Operand->Prop×Nat
 |none=>(True,lY)
 |some x=>((lkI P σ x).1/\0<=(lkI P σ x).2,(lkI P σ x).2.toNat)
theorem Th{x:Option Operand}(h:(ye P σ lY x).1):bnd P σ lY x (ye P σ lY x).2:=by
 cases x with
 |none=>rfl
 |some x=>have h1:=We h.1;exact⟨_,_,h1.1,h1.2,h.2,rfl⟩
def rowAt(rows:List (List D))(i:Nat):List D:=rows.getD i []
def bAt(s:ByteArray)(i:Nat):Nat:=(s.data.toList.getD i 0).toNat
def Rc(P:Program)(σ:St)(T:TypeId)(x ix:Operand):Prop×V:=
 match unc (look P σ 0 x)with
 |.one (.d (.sl size rows))=>((gOf (look P σ 0 x)=true/\(lkI P σ ix).1)/\0<=(lkI P σ ix).2/\(Xl P T=true/\size=P.cellsOf (ZT P T)/\0<size)/\(lkI P σ ix).2<(rows.length:Int),.one (.rptr (rowAt rows (lkI P σ ix).2.toNat) 0))
 |.one (.sref t j lo len)=>((gOf (look P σ 0 x)=true/\(lkI P σ ix).1)/\0<=(lkI P σ ix).2/\(Xl P T=true/\0<P.cellsOf (ZT P T)/\(match σ.ob t j with|.arr _ size _=>size=P.cellsOf (ZT P T)|_=>False))/\(lkI P σ ix).2<(len:Int),.one (.ptr t j (lo+(lkI P σ ix).2.toNat) 0))
 |.one (.tref t j m c none)=>((gOf (look P σ 0 x)=true/\(lkI P σ ix).1)/\0<=(lkI P σ ix).2/\(Xl P T=true/\0<P.cellsOf (ZT P T))/\(match σ.ob t j with|.arr true _ rows=>m<rows.length/\(match(rowAt rows m)[c]? with|some (.sl n s)=>n=P.cellsOf (ZT P T)/\(lkI P σ ix).2<(s.length:Int)|_=>False)|_=>False),.one (.tref t j m c (some ((lkI P σ ix).2.toNat*P.cellsOf (ZT P T)))))
 |.one (.bptr t c)=>((gOf (look P σ 0 x)=true/\(lkI P σ ix).1)/\0<=(lkI P σ ix).2/\(match σ.ob t 0 with|.box _=>True|_=>False)/\(match Dx P T with|some n=>1<n/\(lkI P σ ix).2<(n:Int)|none=>False),.one (.bptr t (c+(lkI P σ ix).2.toNat*P.cellsOf (ZT P T))))
 |_=>(False,.any)
def Ac(P:Program)(σ:St)(T:TypeId)(x:Operand):Prop×V:=
 match unc (look P σ 0 x)with
 |.one (.bptr t c)=>(match σ.ob t 0 with|.box cells=>(gOf (look P σ 0 x)=true/\qP P T=true/\c+P.cellsOf T<=cells.length,ldV P T (cut cells c (P.cellsOf T)))|_=>(False,.any))
 |.one (.ptr t j i c)=>(match σ.ob t j with|.arr q size rows=>((gOf (look P σ 0 x)=true/\qP P T=true/\c+P.cellsOf T<=size)/\i<rows.length,ldV P T (SY q t j i c (cut (rowAt rows i) c (P.cellsOf T))))|_=>(False,.any))
 |.one (.rptr r c)=>(gOf (look P σ 0 x)=true/\qP P T=true/\c+P.cellsOf T<=r.length,ldV P T ((cut r c (P.cellsOf T)).map .d))
 |.one (.tref t j i c (some k))=>(match σ.ob t j with
  |.arr true _ rows=>(match(rowAt rows i)[c]? with
   |some (.sl 1 s)=>((gOf (look P σ 0 x)=true/\qP P T=true)/\i<rows.length/\P.cellsOf T=1/\k<s.length/\(rowAt s k).all D.scalar=true,ldV P T ((rowAt s k).map .d))
   |_=>(False,.any))
  |_=>(False,.any))
 |_=>(False,.any)
def Rj(P:Program)(σ:St)(T:TypeId)(x:Operand)(f:Nat):Prop×V:=
 match unc (look P σ 0 x)with
 |.one (.bptr t c)=>(gOf (look P σ 0 x)=true/\kA P T f=true/\(match σ.ob t 0 with|.box _=>True|_=>False),.one (.bptr t (c+Qx P T f)))
 |.one (.ptr t j i c)=>(gOf (look P σ 0 x)=true/\kA P T f=true/\(match σ.ob t j with|.arr _ _ _=>True|_=>False),.one (.ptr t j i (c+Qx P T f)))
 |.one (.rptr r c)=>(gOf (look P σ 0 x)=true/\kA P T f=true,.one (.rptr r (c+Qx P T f)))
 |.one (.tref t j i c (some k))=>(gOf (look P σ 0 x)=true/\kA P T f=true/\(match σ.ob t j with|.arr true _ _=>True|_=>False),.one (.tref t j i c (some (k+Qx P T f))))
 |_=>(False,.any)
def Ew(P:Program)(op:BinOp)(T:TypeId)(x y:V):Prop×V:=
 match op,x,y with
 |.eql,.one (.d (.int k m)),.one (.d (.int k' n))=>(k'=k,.one (.d (.bool (m==n))))
 |.neq,.one (.d (.int k m)),.one (.d (.int k' n))=>(k'=k,.one (.d (.bool (m !=n))))
 |.lss,.one (.d (.int k m)),.one (.d (.int k' n))=>(k'=k,.one (.d (.bool (decide (m<n)))))
 |.leq,.one (.d (.int k m)),.one (.d (.int k' n))=>(k'=k,.one (.d (.bool (decide (m<=n)))))
 |.gtr,.one (.d (.int k m)),.one (.d (.int k' n))=>(k'=k,.one (.d (.bool (decide (m>n)))))
 |.geq,.one (.d (.int k m)),.one (.d (.int k' n))=>(k'=k,.one (.d (.bool (decide (m>=n)))))
 |.add,.one (.d (.int k m)),.one (.d (.int k' n))=>(k'=k,.one (.d (.int k (k.wrap (m+n)))))
 |.sub,.one (.d (.int k m)),.one (.d (.int k' n))=>(k'=k,.one (.d (.int k (k.wrap (m-n)))))
 |.mul,.one (.d (.int k m)),.one (.d (.int k' n))=>(k'=k,.one (.d (.int k (k.wrap (m*n)))))
 |.quo,.one (.d (.int k m)),.one (.d (.int k' n))=>(k'=k/\n≠0,.one (.d (.int k (k.wrap (m.tdiv n)))))
 |.rem,.one (.d (.int k m)),.one (.d (.int k' n))=>(k'=k/\n≠0,.one (.d (.int k (m.tmod n))))
 |.and,.one (.d (.int k m)),.one (.d (.int k' n))=>(k'=k,.one (.d (.int k (EG k m n))))
 |.or,.one (.d (.int k m)),.one (.d (.int k' n))=>(k'=k,.one (.d (.int k (iOr k m n))))
 |.xor,.one (.d (.int k m)),.one (.d (.int k' n))=>(k'=k,.one (.d (.int k (tE k m n))))
 |.shl,.one (.d (.int k m)),.one (.d (.int _ n))=>(0<=n,.one (.d (.int k (k.wrap (m*2^min n.toNat k.bits)))))
 |.shr,.one (.d (.int k m)),.one (.d (.int _ n))=>(0<=n,.one (.d (.int k (m.fdiv (2^min n.toNat k.bits)))))
 |.add,.one (.d (.str m)),.one (.d (.str n))=>(((m.size+n.size:Nat):Int)<=9223372036854775807,.one (.d (.str (m++n))))
 |.eql,.one (.d (.str m)),.one (.d (.str n))=>(True,.one (.d (.bool (decide (m=n)))))
 |.neq,.one (.d (.str m)),.one (.d (.str n))=>(True,.one (.d (.bool (!decide (m=n)))))
 |.eql,.one (.d (.bool m)),.one (.d (.bool n))=>(Le P T=true,.one (.d (.bool (m==n))))
 |.neq,.one (.d (.bool m)),.one (.d (.bool n))=>(Le P T=true,.one (.d (.bool (!(m==n)))))
 |.eql,.agg xs,.agg ys=>(Pg P T=true/\(Qq P (zg P T) xs ys).isSome=true,.one (.d (.bool ((Qq P (zg P T) xs ys).getD false))))
 |.neq,.agg xs,.agg ys=>(Pg P T=true/\(Qq P (zg P T) xs ys).isSome=true,.one (.d (.bool (!(Qq P (zg P T) xs ys).getD false))))
 |_,_,_=>(False,.any)
def Se(P:Program)(σ:St)(T:TypeId):List (Nat×Operand)->List At->Prop×List At
 |[],r=>(True,r)
 |(i,x)::ps,r=>((bOk P T i=true/\gOf (look P σ (bTy P T i) x)=true/\(unc (look P σ (bTy P T i) x)).flat=true/\
   (unc (look P σ (bTy P T i) x)).cells.length=P.cellsOf (bTy P T i)/\RD P T i+P.cellsOf (bTy P T i)<=r.length)/\(Se P σ T ps (place r (RD P T i) (unc (look P σ (bTy P T i) x)).cells)).1,
   (Se P σ T ps (place r (RD P T i) (unc (look P σ (bTy P T i) x)).cells)).2)
theorem GJ{P:Program}{σ:St}{T:TypeId}:∀{ps:List (Nat×Operand)}{r:List At},(Se P σ T ps r).1->TT P σ T ps r (Se P σ T ps r).2
 |[],_,_=>rfl
 |(_,_)::_,_,h=>⟨h.1.1,h.1.2.1,h.1.2.2.1,h.1.2.2.2.1,h.1.2.2.2.2,GJ h.2⟩
def isB:V->Bool
 |.one (.d (.bool _))=>true
 |_=>false
def bOf:V->Bool
 |.one (.d (.bool b))=>b
 |_=>false
theorem um:∀{v:V},isB v=true->v= .one (.d (.bool (bOf v)))
 |.one (.d (.bool _)),_=>rfl
def evV(P:Program)(σ:St)(op:Op)(ty:TypeId):Prop×V:=
 match op with
 |.move x=>(True,look P σ ty x)
 |.assign x=>(True,look P σ ty x)
 |.pick c a b=>
  (match unc (look P σ ty c)with
  |.one (.d (.bool bc))=>((gOf (look P σ ty c)=true/\(bc=true->isB (unc (look P σ ty a))=true)/\(bc=false->isB (unc (look P σ ty b))=true))/\(bc=true->gOf (look P σ ty a)=true)/\(bc=false->gOf (look P σ ty b)=true),.one (.d (.bool (cond bc (bOf (unc (look P σ ty a))) (bOf (unc (look P σ ty b)))))))
  |_=>(False,.any))
 |.load T x=>Ac P σ T x
 |.fieldAddr T x f=>Rj P σ T x f
 |.nilCheck x=>(match unc (look P σ 0 x)with
  |.one (.bptr t c)=>(gOf (look P σ 0 x)=true/\(match σ.ob t 0 with|.box _=>True|_=>False),.one (.bptr t c))
  |_=>(False,.any))
 |.indexAddr T x ix=>Rc P σ T x ix
 |.index T x ix=>
  (match unc (look P σ 0 x)with
  |.one (.d (.str s))=>((gOf (look P σ 0 x)=true/\(lkI P σ ix).1)/\0<=(lkI P σ ix).2/\T9 P T=true/\(lkI P σ ix).2<(s.size:Int),.one (.d (.int .u8 (bAt s (lkI P σ ix).2.toNat))))
  |.agg xs=>((gOf (look P σ 0 x)=true/\(lkI P σ ix).1)/\0<=(lkI P σ ix).2/\(match Dx P T with|some n=>(lkI P σ ix).2<(n:Int)|none=>False)/\qP P (ZT P T)=true/\(lkI P σ ix).2.toNat*P.cellsOf (ZT P T)+P.cellsOf (ZT P T)<=xs.length,
    ldV P (ZT P T) (cut xs ((lkI P σ ix).2.toNat*P.cellsOf (ZT P T)) (P.cellsOf (ZT P T))))
  |_=>(False,.any))
 |.slice T x lo hi none=>
  (match unc (look P σ 0 x)with
  |.one (.d (.str s))=>((gOf (look P σ 0 x)=true/\T9 P T=true/\(ye P σ 0 lo).1/\(ye P σ s.size hi).1)/\(ye P σ 0 lo).2<=(ye P σ s.size hi).2/\(ye P σ s.size hi).2<=s.size,.one (.d (.str (s.extract (ye P σ 0 lo).2 (ye P σ s.size hi).2))))
  |.one (.d (.sl size rows))=>((gOf (look P σ 0 x)=true/\Xl P T=true/\size=P.cellsOf (ZT P T)/\(ye P σ 0 lo).1/\(ye P σ rows.length hi).1)/\(ye P σ 0 lo).2<=(ye P σ rows.length hi).2/\(ye P σ rows.length hi).2<=rows.length,
    .one (.d (.sl size (cut rows (ye P σ 0 lo).2 ((ye P σ rows.length hi).2-(ye P σ 0 lo).2)))))
  |.one (.sref t j o len)=>((gOf (look P σ 0 x)=true/\Xl P T=true/\(match σ.ob t j with|.arr _ size _=>size=P.cellsOf (ZT P T)|_=>False)/\(ye P σ 0 lo).1/\(ye P σ len hi).1)/\(ye P σ 0 lo).2<=(ye P σ len hi).2/\(ye P σ len hi).2<=len,
    .one (.sref t j (o+(ye P σ 0 lo).2) ((ye P σ len hi).2-(ye P σ 0 lo).2)))
  |_=>(False,.any))
 |.binOp op T x y _=>((gOf (look P σ T x)=true/\gOf (look P σ T y)=true)/\(Ew P op T (unc (look P σ T x)) (unc (look P σ T y))).1,(Ew P op T (unc (look P σ T x)) (unc (look P σ T y))).2)
 |.unOp .not _ x=>(match unc (look P σ 0 x)with|.one (.d (.bool b))=>(gOf (look P σ 0 x)=true,.one (.d (.bool (!b))))|_=>(False,.any))
 |.unOp .neg _ x=>(match unc (look P σ 0 x)with|.one (.d (.int k n))=>(gOf (look P σ 0 x)=true,.one (.d (.int k (k.wrap (-n)))))|_=>(False,.any))
 |.convert S T x=>(match unc (look P σ 0 x),Ah P T with|.one (.d (.int _ n)),some k=>(gOf (look P σ 0 x)=true/\(P.underlying S).isSome=true,.one (.d (.int k (k.wrap n))))|_,_=>(False,.any))
 |.extract x i=>(match unc (look P σ 0 x)with|.tup xs=>(gOf (look P σ 0 x)=true/\i<xs.length/\(xs.getD i .any).flat=true,xs.getD i .any)|_=>(False,.any))
 |.field T x f=>
  (match unc (look P σ 0 x)with
  |.agg xs=>(gOf (look P σ 0 x)=true/\kA P T f=true/\qP P (qQ P T f)=true/\Qx P T f+P.cellsOf (qQ P T f)<=xs.length,ldV P (qQ P T f) (cut xs (Qx P T f) (P.cellsOf (qQ P T f))))
  |_=>(False,.any))
 |.build T parts=>(match WL P 12 T with|some z=>((Qb P T=true/\U9 P T=true)/\(Se P σ T parts.toList z).1,.agg (Se P σ T parts.toList z).2)|none=>(False,.any))
 |.call ⟨.builtin .len,⟨[x]⟩,⟨[t]⟩⟩=>
  (match unc (look P σ t x)with
  |.one (.d (.str s))=>(gOf (look P σ t x)=true/\T9 P t=true,.one (.d (.int .i64 s.size)))
  |.one (.d (.sl _ rows))=>(gOf (look P σ t x)=true/\Xl P t=true,.one (.d (.int .i64 rows.length)))
  |.one (.nil _)=>(gOf (look P σ t x)=true/\Xl P t=true,.one (.d (.int .i64 0)))
  |.one (.sref u j _ len)=>(gOf (look P σ t x)=true/\Xl P t=true/\(match σ.ob u j with|.arr _ _ _=>True|.lit _ _=>True|_=>False),.one (.d (.int .i64 len)))
  |.one (.tref u j i c none)=>(match σ.ob u j with
   |.arr true _ rows=>(match(rowAt rows i)[c]? with
    |some (.sl _ s)=>((gOf (look P σ t x)=true/\Xl P t=true)/\i<rows.length,.one (.d (.int .i64 s.length)))
    |_=>(False,.any))
   |_=>(False,.any))
  |_=>(False,.any))
 |.call ⟨.builtin .max,⟨[x,y]⟩,_⟩=>((lkI P σ x).1/\(lkI P σ y).1/\lkK P σ y=lkK P σ x,.one (.d (.int (lkK P σ x) (if(lkI P σ y).2>(lkI P σ x).2 then(lkI P σ y).2 else(lkI P σ x).2))))
 |.call ⟨.builtin .min,⟨[x,y]⟩,_⟩=>((lkI P σ x).1/\(lkI P σ y).1/\lkK P σ y=lkK P σ x,.one (.d (.int (lkK P σ x) (if(lkI P σ y).2<(lkI P σ x).2 then(lkI P σ y).2 else(lkI P σ x).2))))
 |_=>(False,.any)
theorem AF{o:Ob}(h:(match o with|.box _=>True|_=>False)):∃cells,o= .box cells:=by
 cases o with
 |box c=>exact⟨c,rfl⟩
 |none=>exact h.elim
 |arr q s r=>exact h.elim
 |lit s r=>exact h.elim
theorem rY{o:Ob}(h:(match o with|.arr _ _ _=>True|_=>False)):∃q size rows,o= .arr q size rows:=by
 cases o with
 |arr q s r=>exact⟨q,s,r,rfl⟩
 |none=>exact h.elim
 |box c=>exact h.elim
 |lit s r=>exact h.elim
theorem rV{o:Ob}(h:(match o with|.arr _ _ _=>True|.lit _ _=>True|_=>False)):(∃q size rows,o= .arr q size rows)\/∃size rows,o= .lit size rows:=by
 cases o with
 |arr q s r=>exact .inl ⟨q,s,r,rfl⟩
 |none=>exact h.elim
 |box c=>exact h.elim
 |lit s r=>exact .inr ⟨s,r,rfl⟩
theorem wA{o:Ob}(h:(match o with|.arr _ size _=>size=n|_=>False)):∃q rows,o= .arr q n rows:=by
 cases o with
 |arr q s r=>simp at h;subst h;exact⟨q,r,rfl⟩
 |none=>exact h.elim
 |box c=>exact h.elim
 |lit s r=>exact h.elim
theorem tO{T:TypeId}{x y:V}(hc:(Ew P op T x y).1):BJ P op T x y (Ew P op T x y).2:=by
 unfold Ew at hc⊢;split at hc;all_goals first
  |exact hc.elim
  |exact⟨.inr hc,rfl⟩
  |exact⟨.inr hc.1,hc.2,rfl⟩
  |exact⟨.inl (.inl rfl),hc,rfl⟩
  |exact⟨.inl (.inr rfl),hc,rfl⟩
  |exact⟨hc,rfl⟩
  |rfl
  |(obtain⟨q,hq⟩:=Option.isSome_iff_exists.1 hc.2;exact⟨hc.1,q,hq,.inl ⟨rfl,by rw[hq];rfl⟩⟩)
  |(obtain⟨q,hq⟩:=Option.isSome_iff_exists.1 hc.2;exact⟨hc.1,q,hq,.inr ⟨rfl,by rw[hq];rfl⟩⟩)
theorem Av{op:Op}{ty:TypeId}(hc:(evV P σ op ty).1):Yh P σ op ty (evV P σ op ty).2:=by
 unfold evV at hc⊢;split at hc
 ·rfl
 ·rfl
 ·rename_i c a b;split at hc
  ·rename_i bc h1;exact⟨bc,_,_,hc.1.1,h1,(fun hh=>um (hc.1.2.1 hh)),(fun hh=>um (hc.1.2.2 hh)),hc.2.1,hc.2.2,zAa⟩
  ·exact hc.elim
 ·rename_i T x;unfold Ac at hc⊢;simp only[Yh];split at hc
  ·rename_i t c hx;split at hc
   ·rename_i cells ho;simp only[hx,ho];exact⟨hc.1,hc.2.1,cells,rfl,hc.2.2,zAa⟩
   ·exact hc.elim
  ·rename_i t j i c hx;split at hc
   ·rename_i size rows ho;simp only[hx,ho];exact⟨hc.1.1,hc.1.2.1,_,size,rows,rfl,hc.2,hc.1.2.2,zAa⟩
   ·exact hc.elim
  ·rename_i r c hx;simp only[hx];exact⟨hc.1,hc.2.1,hc.2.2,zAa⟩
  ·rename_i t j i c k hx;split at hc
   ·rename_i size rows ho;split at hc
    ·rename_i s nr;simp only[hx,ho,nr];exact⟨hc.1.1,hc.1.2,size,rows,s,rfl,hc.2.1,nr,hc.2.2.1,hc.2.2.2.1,hc.2.2.2.2,zAa⟩
    ·exact hc.elim
   ·exact hc.elim
  ·exact hc.elim
 ·rename_i T x f;unfold Rj at hc⊢;simp only[Yh];split at hc
  ·rename_i t c hx;simp only[hx];exact⟨hc.1,hc.2.1,AF hc.2.2,zAa⟩
  ·rename_i t j i c hx;simp only[hx];exact⟨hc.1,hc.2.1,rY hc.2.2,zAa⟩
  ·rename_i r c hx;simp only[hx];exact⟨hc.1,hc.2,zAa⟩
  ·rename_i t j i c k hx;have h3:=hc.2.2
   split at h3
   ·rename_i size rows ho;simp only[hx];exact⟨hc.1,hc.2.1,⟨size,rows,ho⟩,zAa⟩
   ·exact h3.elim
  ·exact hc.elim
 ·rename_i x;simp only[Yh];split at hc
  ·rename_i t c hx;simp only[hx];exact⟨hc.1,AF hc.2,zAa⟩
  ·exact hc.elim
 ·rename_i T x ix;unfold Rc at hc⊢;simp only[Yh];split at hc
  ·rename_i size rows hx;simp only[hx];exact⟨_,_,We hc.1.2,hc.2.1,hc.1.1,hc.2.2.1.1,hc.2.2.1.2.1,hc.2.2.1.2.2,hc.2.2.2,zAa⟩
  ·rename_i t j lo len hx;simp only[hx];exact⟨_,_,We hc.1.2,hc.2.1,hc.1.1,hc.2.2.1.1,hc.2.2.1.2.1,wA hc.2.2.1.2.2,hc.2.2.2,zAa⟩
  ·rename_i t j m c hx;have h3:=hc.2.2.2
   split at h3
   ·rename_i size rows ho;obtain⟨hm,h4⟩:=h3;split at h4
    ·rename_i n s hr;obtain⟨rfl,nn⟩:=h4;simp only[hx];exact⟨_,_,We hc.1.2,hc.2.1,hc.1.1,hc.2.2.1.1,hc.2.2.1.2,⟨size,rows,s,ho,hm,hr,nn⟩,zAa⟩
    ·exact h4.elim
   ·exact h3.elim
  ·rename_i t c hx;simp only[hx];refine⟨_,_,We hc.1.2,hc.2.1,hc.1.1,AF hc.2.2.1,?_,zAa⟩;have:=hc.2.2.2
   split at this
   ·rename_i n hn;exact⟨n,hn,this.1,this.2⟩
   ·exact this.elim
  ·exact hc.elim
 ·rename_i T x ix;simp only[Yh];split at hc
  ·rename_i s hx;simp only[hx];exact⟨_,_,We hc.1.2,hc.2.1,hc.1.1,hc.2.2.1,hc.2.2.2,zAa⟩
  ·rename_i xs hx;simp only[hx];refine⟨_,_,We hc.1.2,hc.2.1,hc.1.1,?_,hc.2.2.2.1,hc.2.2.2.2,zAa⟩;have:=hc.2.2.1
   split at this
   ·rename_i n hn;exact⟨n,hn,this⟩
   ·exact this.elim
  ·exact hc.elim
 ·rename_i T x lo hi;simp only[Yh];split at hc
  ·rename_i s hx;simp only[hx];exact⟨hc.1.1,hc.1.2.1,_,_,Th hc.1.2.2.1,Th hc.1.2.2.2,hc.2.1,hc.2.2,zAa⟩
  ·rename_i size rows hx;simp only[hx];exact⟨hc.1.1,hc.1.2.1,hc.1.2.2.1,_,_,Th hc.1.2.2.2.1,Th hc.1.2.2.2.2,hc.2.1,hc.2.2,zAa⟩
  ·rename_i t j o len hx;simp only[hx];exact⟨hc.1.1,hc.1.2.1,wA hc.1.2.2.1,_,_,Th hc.1.2.2.2.1,Th hc.1.2.2.2.2,hc.2.1,hc.2.2,zAa⟩
  ·exact hc.elim
 ·exact⟨hc.1.1,hc.1.2,tO hc.2⟩
 ·simp only[Yh];split at hc
  ·rename_i b hx;simp only[hx];exact⟨hc,zAa⟩
  ·exact hc.elim
 ·simp only[Yh];split at hc
  ·rename_i k n hx;simp only[hx];exact⟨hc,zAa⟩
  ·exact hc.elim
 ·rename_i S T x;simp only[Yh];split at hc
  ·rename_i k0 n k hx hk;simp only[hx,hk];exact⟨hc.1,hc.2,k,rfl,zAa⟩
  ·exact hc.elim
 ·rename_i x i;simp only[Yh];split at hc
  ·rename_i xs hx;simp only[hx];exact⟨hc.1,by simp[List.getD_eq_getElem?_getD,List.getElem?_eq_getElem hc.2.1],hc.2.2⟩
  ·exact hc.elim
 ·simp only[Yh];split at hc
  ·rename_i xs hx;simp only[hx];exact⟨hc.1,hc.2.1,hc.2.2.1,hc.2.2.2,zAa⟩
  ·exact hc.elim
 ·simp only[Yh];split at hc
  ·rename_i z hz;exact⟨hc.1.1,hc.1.2,z,_,hz,GJ hc.2,zAa⟩
  ·exact hc.elim
 ·simp only[Yh];split at hc
  ·rename_i s hx;simp only[hx];exact⟨hc.1,hc.2,zAa⟩
  ·rename_i s rows hx;simp only[hx];exact⟨hc.1,hc.2,zAa⟩
  ·rename_i s hx;simp only[hx];exact⟨hc.1,hc.2,zAa⟩
  ·rename_i u j lo len hx;simp only[hx];exact⟨hc.1,hc.2.1,rV hc.2.2,zAa⟩
  ·rename_i u j i c hx;split at hc
   ·rename_i rows ho;split at hc
    ·rename_i s nr;simp only[hx,ho,nr];exact⟨hc.1.1,hc.1.2,_,rows,_,s,rfl,hc.2,nr,zAa⟩
    ·exact hc.elim
   ·exact hc.elim
  ·exact hc.elim
 ·simp only[Yh];have hy:=We hc.2.1
  rw[hc.2.2]at hy;exact⟨_,_,_,We hc.1,hy,zAa⟩
 ·simp only[Yh];have hy:=We hc.2.1
  rw[hc.2.2]at hy;exact⟨_,_,_,We hc.1,hy,zAa⟩
 ·exact hc.elim
open Go.RowKit
def T6(P:Program)(σ:St)(T:TypeId)(size:Nat):List (Nat×Operand)->Nat->Prop×List (List D)
 |[],_=>(True,[])
 |(i,x)::ps,k=>((i=k/\gOf (look P σ T x)=true/\(unc (look P σ T x)).flat=true/\zP (unc (look P σ T x)).cells=true/\(rowOf σ (unc (look P σ T x)).cells).isSome=true/\((rowOf σ (unc (look P σ T x)).cells).getD []).length=size)/\(T6 P σ T size ps (k+1)).1,
   (rowOf σ (unc (look P σ T x)).cells).getD []::(T6 P σ T size ps (k+1)).2)
theorem EY{P:Program}{σ:St}{T:TypeId}{size:Nat}:∀{ps:List (Nat×Operand)}{k:Nat},(T6 P σ T size ps k).1->Nb P σ T size ps k (T6 P σ T size ps k).2
 |[],_,_=>rfl
 |(_,x)::_,_,h=>by
  obtain⟨⟨h1,h2,h3,h4,h5,h6⟩,h7⟩:=h;obtain⟨r,hr⟩:=Option.isSome_iff_exists.1 h5;refine⟨h1,h2,h3,h4,r,_,hr,?_,EY h7,?_⟩
  ·rw[hr]at h6;exact h6
  ·simp only[T6,hr,Option.getD_some]
def Sx(σ:St)(x:V)(size:Nat):Prop×List (List D)×St:=
 match x with
 |.one (.nil _)=>(True,[],σ)
 |.one (.sref t j lo len)=>(match σ.ob t j with|.arr false s ng=>(s=size/\lo=0/\len=ng.length,ng,σ.Z1 t j .none)|_=>(False,[],σ))
 |_=>(False,[],σ)
theorem uq{x:V}(h:(Sx σ x size).1):SN σ x size (Sx σ x size).2.1 (Sx σ x size).2.2:=by
 unfold Sx at h⊢;split at h
 ·exact⟨rfl,rfl⟩
 ·rename_i t j lo len;split at h
  ·rename_i s ng ho;obtain⟨rfl,rfl,rfl⟩:=h;exact⟨ng,ho,rfl,Nat.le_refl _,(List.take_length).symm,rfl⟩
  ·exact h.elim
 ·exact h.elim
def Ng(σ:St)(x:V)(size:Nat):Prop×List (List D):=
 match x with
 |.one (.d (.sl s rows))=>(s=size,rows)
 |.one (.nil _)=>(True,[])
 |.one (.sref t j lo len)=>(match σ.ob t j with|.arr false s rows=>(s=size/\lo+len<=rows.length,cut rows lo len)|_=>(False,[]))
 |_=>(False,[])
theorem uF{x:V}(h:(Ng σ x size).1):WE σ x size (Ng σ x size).2:=by
 unfold Ng at h⊢;split at h
 ·exact⟨h,rfl⟩
 ·rfl
 ·rename_i t j lo len;split at h
  ·rename_i s rows ho;obtain⟨rfl,hle⟩:=h;exact⟨rows,ho,hle,rfl⟩
  ·exact h.elim
 ·exact h.elim
def evS(P:Program)(σ:St)(o:Oper)(d:Nat):Prop×St:=
 match o.op with
 |.alloc T=>(match WL P 12 T with|some row=>(σ.fresh d=true/\Qb P T=true,σ.new d (.one (.bptr d 0)) [.box row])|none=>(False,σ))
 |.box T x=>(σ.fresh d=true/\gOf (look P σ T x)=true/\(unc (look P σ T x)).flat=true/\Yf d (unc (look P σ T x)).cells=false,σ.new d (.one (.bptr d 0)) [.box (unc (look P σ T x)).cells])
 |.buildSlice T n parts=>((σ.fresh d=true/\Xl P T=true/\Qb P (ZT P T)=true/\0<P.cellsOf (ZT P T)/\parts.toList.length=n/\n*P.cellsOf (ZT P T)<=16777216)/\(T6 P σ (ZT P T) (P.cellsOf (ZT P T)) parts.toList 0).1,
   σ.new d (.one (.sref d 0 0 (T6 P σ (ZT P T) (P.cellsOf (ZT P T)) parts.toList 0).2.length)) [.arr false (P.cellsOf (ZT P T)) (T6 P σ (ZT P T) (P.cellsOf (ZT P T)) parts.toList 0).2])
 |.makeSlice T x y=>(match WL P 12 (ZT P T)with
   |some z=>(match zD z with
    |some zr=>((x=y/\σ.fresh d=true/\Xl P T=true/\Qb P (ZT P T)=true/\0<P.cellsOf (ZT P T)/\(lkI P σ x).1)/\0<=(lkI P σ x).2/\P.bytesOf (ZT P T)*(lkI P σ x).2.toNat<=281474976710656/\(lkI P σ x).2<=9223372036854775807,
      σ.new d (.one (.sref d 0 0 (lkI P σ x).2.toNat)) [.arr false (P.cellsOf (ZT P T)) (List.replicate (lkI P σ x).2.toNat zr)])
    |none=>(False,σ))
   |none=>(False,σ))
 |.call ⟨.builtin .append,⟨[x,y]⟩,⟨[t,t']⟩⟩=>
   (((t=t'/\gOf (look P σ t x)=true/\gOf (look P σ t y)=true/\Xl P t=true/\Qb P (ZT P t)=true/\0<P.cellsOf (ZT P t))/\(Sx σ (unc (look P σ t x)) (P.cellsOf (ZT P t))).1/\(Ng σ (unc (look P σ t y)) (P.cellsOf (ZT P t))).1/\(Sx σ (unc (look P σ t x)) (P.cellsOf (ZT P t))).2.2.fresh d=true)/\
    ((Sx σ (unc (look P σ t x)) (P.cellsOf (ZT P t))).2.1.length+(Ng σ (unc (look P σ t y)) (P.cellsOf (ZT P t))).2.length)*P.bytesOf (ZT P t)<=140737488355328/\
    (Sx σ (unc (look P σ t x)) (P.cellsOf (ZT P t))).2.1.length+(Ng σ (unc (look P σ t y)) (P.cellsOf (ZT P t))).2.length<=9223372036854775807,
   (Sx σ (unc (look P σ t x)) (P.cellsOf (ZT P t))).2.2.new d (.one (.sref d 0 0 ((Sx σ (unc (look P σ t x)) (P.cellsOf (ZT P t))).2.1.length+(Ng σ (unc (look P σ t y)) (P.cellsOf (ZT P t))).2.length)))
    [.arr false (P.cellsOf (ZT P t)) ((Sx σ (unc (look P σ t x)) (P.cellsOf (ZT P t))).2.1++(Ng σ (unc (look P σ t y)) (P.cellsOf (ZT P t))).2)])
 |op=>((evV P σ op o.type).1,σ.put d (evV P σ op o.type).2)
def BM(P:Program)(σ:St)(T:TypeId)(x y:Operand):Prop×St:=
 match unc (look P σ 0 x)with
 |.one (.bptr t c)=>(match σ.ob t 0 with
  |.box cells=>(qP P T=true/\gOf (look P σ 0 x)=true/\gOf (look P σ T y)=true/\(unc (look P σ T y)).flat=true/\(unc (look P σ T y)).cells.length=P.cellsOf T/\c+P.cellsOf T<=cells.length,σ.Z1 t 0 (.box (place cells c (unc (look P σ T y)).cells)))
  |_=>(False,σ))
 |.one (.ptr t j i c)=>(match σ.ob t j with
  |.arr q size rows=>((qP P T=true/\gOf (look P σ 0 x)=true/\gOf (look P σ T y)=true/\(unc (look P σ T y)).flat=true/\(rowOf σ (unc (look P σ T y)).cells).isSome=true/\zP (unc (look P σ T y)).cells=true/\((rowOf σ (unc (look P σ T y)).cells).getD []).length=P.cellsOf T/\c+P.cellsOf T<=size)/\i<rows.length/\(q=true->((rowOf σ (unc (look P σ T y)).cells).getD []).all D.scalar=true/\(cut (rowAt rows i) c (P.cellsOf T)).all D.scalar=true),
    σ.Z1 t j (.arr q size (rows.set i (place (rowAt rows i) c ((rowOf σ (unc (look P σ T y)).cells).getD [])))))
  |_=>(False,σ))
 |_=>(False,σ)
theorem u9(fL:∀c,o.op= .call c->∀f,c.callee≠ .value (.func f))(hc:(evS P σ o d).1):Step P o d σ (evS P σ o d).2:=by
 unfold evS at hc⊢;split at hc
 ·rename_i T na;unfold Step;rw[na];split at hc
  ·rename_i row mN;simp only[mN];exact⟨hc.1,hc.2,row,rfl,rfl⟩
  ·exact hc.elim
 ·rename_i T x na;unfold Step;rw[na];exact⟨hc.1,hc.2.1,hc.2.2.1,hc.2.2.2,rfl⟩
 ·rename_i T n parts na;unfold Step;rw[na];obtain⟨⟨h1,h2,h3,h4,h5,h6⟩,h7⟩:=hc;exact .inl ⟨h1,h2,h3,h4,h5,h6,.inl ⟨_,EY h7,rfl⟩⟩
 ·rename_i T x y na;unfold Step;rw[na];split at hc
  ·rename_i z hz;split at hc
   ·rename_i zr iX;obtain⟨⟨h1,h2,h3,h4,h5,h6⟩,h7,h8,h9⟩:=hc;have hl:=We h6
    simp only[hz];refine⟨h1,h2,h3,h4,h5,false,z,zr,lkK P σ x,(lkI P σ x).2.toNat,(fun hh=>by cases hh),rfl,iX,?_,h8,zAD,rfl⟩;rw[Int.toNat_of_nonneg h7];exact hl
   ·exact hc.elim
  ·exact hc.elim
 ·rename_i x y t t' na;unfold Step;rw[na];obtain⟨⟨⟨rfl,h1,h2,h3,h4,h5⟩,h6,h7,h8⟩,h9,hR⟩:=hc;exact⟨x,y,t,rfl,rfl,h1,h2,h3,h4,h5,_,_,_,uq h6,uF h7,h8,h9,hR,rfl⟩
 ·rename_i op h1 h2 h3 h4 h5;have hv:=Av hc
  unfold Step;split
  ·rename_i T na;exact absurd na (h1 T)
  ·rename_i T x na;exact absurd na (h2 T x)
  ·rename_i T n ps na;exact absurd na (h3 T n ps)
  ·rename_i T x y na;exact absurd na (h4 T x y)
  ·rename_i c na;split
   ·rename_i gQ;rw[na]at hv;simp only[Yh]at hv;split at hv
    ·rename_i fS _ _;rw[gQ]at fS;cases fS
    ·rename_i fS _;rw[gQ]at fS;cases fS
    ·rename_i fS _;rw[gQ]at fS;cases fS
    ·exact hv.elim
   ·rename_i f gQ;exact absurd gQ (fL c na f)
   ·exact⟨_,hv,rfl⟩
  ·exact .inl ⟨_,hv,rfl⟩
  ·exact⟨_,hv,rfl⟩
theorem sO{T:TypeId}(hc:(BM P σ T x y).1):qB P σ T x y (BM P σ T x y).2:=by
 unfold BM at hc⊢;unfold qB;split at hc
 ·rename_i t c hx;split at hc
  ·rename_i cells ho;obtain⟨h1,h2,h3,h4,h5,h6⟩:=hc;first|(rw[hx];simp only[ho])|simp only[ho]
   exact⟨h1,h2,h3,h4,cells,rfl,h5,h6,rfl⟩
  ·exact hc.elim
 ·rename_i t j i c hx;split at hc
  ·rename_i q size rows ho;obtain⟨⟨h1,h2,h3,h4,h5,h6,h7,h8⟩,h9,hR⟩:=hc;obtain⟨ds,fk⟩:=Option.isSome_iff_exists.1 h5;first|(rw[hx];simp only[ho])|simp only[ho]
   refine⟨h1,h2,h3,h4,q,size,rows,ds,rfl,h9,fk,h6,?_,h8,fun hq=>?_,?_⟩
   ·rw[fk]at h7;exact h7
   ·have:=hR hq;rw[fk]at this;exact this
   ·rw[fk];rfl
  ·exact hc.elim
 ·exact hc.elim
def AS:List At->Bool
 |[]=>false
 |.nil _::_=>true
 |_::xs=>AS xs
def wV(P:Program)(T:TypeId):Bool:=match WL P 12 (ZT P T)with|some z=>AS z|none=>false
def D2:List At->Bool
 |[]=>true
 |.d (.sl _ _)::_=>false
 |.d _::xs=>D2 xs
 |_=>false
def re(P:Program)(σ:St)(T:TypeId)(x y:Operand):Bool:=
 match unc (look P σ 0 x)with
 |.one (.ptr t j _ _)=>(match σ.ob t j with|.arr true _ _=>!D2 (unc (look P σ T y)).cells|_=>false)
 |.one (.tref _ _ _ _ (some _))=>true
 |_=>false
def stops(P:Program)(bar:Oper->Bool)(o:Oper):Bool:=
 match o.op with
 |.call ⟨.value _,_,_⟩=>true
 |.call ⟨.builtin .append,_,⟨t::_⟩⟩=>wV P t
 |.buildSlice T _ _=>wV P T||pa bar o
 |.makeSlice T _ _=>wV P T
 |.makeFunc _ _ _=>true
 |.convert _ T _=>(Ah P T).isNone
 |.indexAddr _ _ _=>o.guard.isSome
 |.index _ _ _=>o.guard.isSome
 |.slice _ _ _ _ _=>o.guard.isSome
 |_=>false
def ja(P:Program)(ops:Array Oper)(bar:Oper->Bool)(o:Oper)(rest:List Oper)(σ:St)(Q:St->Prop):Prop:=∃σ',zE P ops bar o σ σ'/\D0 P ops bar rest σ' Q
def Ev(P:Program)(ops:Array Oper)(bar:Oper->Bool):List Oper->St->(St->Prop)->Prop
 |[],σ,Q=>Q σ
 |o::rest,σ,Q=>
  if stops P bar o then ja P ops bar o rest σ Q else
  match o.guard with
  |none=>
   (match o.dst with
   |some d=>(evS P σ o d).1/\Ev P ops bar rest (evS P σ o d).2 Q
   |none=>(match o.op with|.store T x y=>if re P σ T x y then ja P ops bar o rest σ Q else(BM P σ T x y).1/\Ev P ops bar rest (BM P σ T x y).2 Q|_=>False))
  |some (j,want)=>
   (match(ops[j]?).bind (·.dst),o.dst with
   |some dj,some d=>(match qj want (σ.get dj)with
    |some g=>(dj<σ.length/\(g=true->(evV P σ o.op o.type).1/\gOf (evV P σ o.op o.type).2=true/\(unc (evV P σ o.op o.type).2).flat=true))/\Ev P ops bar rest (σ.put d (.cnd g (unc (evV P σ o.op o.type).2))) Q
    |none=>False)
   |_,_=>False)
theorem JW{P:Program}{ops:Array Oper}{bar:Oper->Bool}:∀{l:List Oper}{σ:St}{Q:St->Prop},Ev P ops bar l σ Q->D0 P ops bar l σ Q
 |[],_,_,h=>h
 |o::rest,σ,Q,h=>by
  unfold Ev at h;split at h
  ·exact h
  ·rename_i mF;have fL:∀c,o.op= .call c->∀f,c.callee≠ .value (.func f):=by intro c na f gQ;obtain⟨cc,ca,ct⟩:=c;simp only at gQ;subst gQ;exact mF (by simp[stops,na])
   split at h
   ·rename_i hg;split at h
    ·rename_i d hd;refine⟨_,.inl ?_,JW h.2⟩;unfold Xm;simp only[hg,hd];exact u9 fL h.1
    ·rename_i hd;split at h
     ·rename_i T x y na;split at h
      ·exact h
      ·refine⟨_,.inl ?_,JW h.2⟩;unfold Xm;simp only[hg,hd,na];exact sO h.1
     ·exact h.elim
   ·rename_i j want hg;split at h
    ·rename_i dj d lj hd;split at h
     ·rename_i g l4;refine⟨_,.inl ?_,JW h.2⟩;unfold Xm;simp only[hg];refine⟨dj,d,g,_,lj,h.1.1,hd,l4,fun eH=>?_,rfl⟩;obtain⟨h1,h2,h3⟩:=h.1.2 eH;have base:∃v0,Yh P σ o.op o.type v0/\gOf v0=true/\unc (evV P σ o.op o.type).2=unc v0/\(unc (evV P σ o.op o.type).2).flat=true:=⟨_,Av h1,h2,rfl,h3⟩
      unfold MH;split
      ·rename_i c na;split
       ·rename_i f gQ;exact absurd gQ (fL c na f)
       ·exact base
      ·exact base
     ·exact h.elim
    ·exact h.elim
theorem ra{Q:Exit->St->Prop}{l:List Oper}(h:Ev P l.toArray bar l σ (Q .normal)):AWP P (.region id l.toArray false) Q σ:=B3 (JW h)
theorem BH{Q:St->Prop}{c:Call}{own:Bool}(na:o.op= .call c)(hc:c.callee= .value (.func f))(hg:o.guard=none)(hd:o.dst=some d)
  (np:Qs P σ c.args.toList c.argTypes.toList rows) (hs:Q0 P f own rows res) (mF:Yi P σ c.args.toList c.argTypes.toList=true\/KW own res) (h:Ev P ops bar rest (σ.put d (qe res)) Q):ja P ops bar o rest σ Q:=by
 refine⟨_,.inl ?_,JW h⟩;unfold Xm;simp only[hg,hd];unfold Step;rw[na];simp only[hc];exact .inl ⟨own,res,⟨rows,np,hs,mF⟩,rfl⟩
theorem Dc{Q:St->Prop}{c:Call}(na:o.op= .call c)(hc:c.callee= .value (.func f))(hg:o.guard=none)(hd:o.dst=some d)
  (np:Qs P σ c.args.toList c.argTypes.toList rows) (hs:Q0 P f true rows res) (mF:Yi P σ c.args.toList c.argTypes.toList=true\/KW true res) (hf:σ.fresh d=true) (h:Ev P ops bar rest (σ.new d (jf d res) (xR res.flatten)) Q):ja P ops bar o rest σ Q:=by
 refine⟨_,.inl ?_,JW h⟩;unfold Xm;simp only[hg,hd];unfold Step;rw[na];simp only[hc];exact .inr (.inl ⟨res,⟨rows,np,hs,mF⟩,hf,rfl⟩)
theorem Bw{Q:St->Prop}{c:Call}{own:Bool}{res:List D}(na:o.op= .call c)(hc:c.callee= .value (.func f))(hg:o.guard=some (j,want))(hd:o.dst=some d)
  (lj:(ops[j]?).bind (·.dst)=some dj) (nn:dj<σ.length) (l4:qj want (σ.get dj)=some g)
  (np:g=true->Qs P σ c.args.toList c.argTypes.toList rows) (hs:g=true->Q0 P f own rows [res]) (mF:Yi P σ c.args.toList c.argTypes.toList=true\/KW own [res]) (h:Ev P ops bar rest (σ.put d (.cnd g (qe [res]))) Q):ja P ops bar o rest σ Q:=by
 refine⟨_,.inl ?_,JW h⟩;unfold Xm;simp only[hg];refine⟨dj,d,g,_,lj,nn,hd,l4,fun eH=>?_,rfl⟩;unfold MH;rw[na];simp only[hc];exact⟨own,res,⟨rows,np eH,hs eH,mF⟩,rfl⟩
theorem De{Q:St->Prop}{S T:TypeId}{s:ByteArray}(na:o.op= .convert S T x)(hg:o.guard=none)(hd:o.dst=some d)
  (h1:gOf (look P σ S x)=true) (h2:T9 P S=true) (h3:Ns P T=true) (h4:unc (look P σ S x)= .one (.d (.str s))) (h5:s.size<=9223372036854775807) (h:Ev P ops bar rest (σ.put d (.one (.d (.sl 1 (zj s.data.toList))))) Q):ja P ops bar o rest σ Q:=by
 refine⟨_,.inl ?_,JW h⟩;unfold Xm;simp only[hg,hd];unfold Step;rw[na];exact .inr (.inr ⟨s,h1,h2,h3,h4,h5,rfl⟩)
theorem ta{Q:St->Prop}(fL:∀c,o.op= .call c->∀f,c.callee≠ .value (.func f))(hg:o.guard=none)(hd:o.dst=some d)
  (h1:(evS P σ o d).1) (h:Ev P ops bar rest (evS P σ o d).2 Q):ja P ops bar o rest σ Q:=by
 refine⟨_,.inl ?_,JW h⟩;unfold Xm;simp only[hg,hd];exact u9 fL h1
theorem AG{Q:St->Prop}{c:Call}(qs:List Bool)(na:o.op= .call c)(hc:c.callee= .value (.func f))(hg:o.guard=none)(hd:o.dst=some d)
  (np:Qs P σ c.args.toList c.argTypes.toList rows) (hs:Yb P f rows res) (hq:y6 qs res.flatten) (hf:σ.fresh d=true) (h:Ev P ops bar rest (σ.new d (jf d res) (YY qs res.flatten)) Q):ja P ops bar o rest σ Q:=by
 refine⟨_,.inl ?_,JW h⟩;unfold Xm;simp only[hg,hd];unfold Step;rw[na];simp only[hc];exact .inr (.inr ⟨rows,res,qs,np,hs,hq,hf,rfl⟩)
def zG(P:Program)(σ:St)(T:TypeId)(size:Nat):List (Nat×Operand)->Nat->Prop×List (List At)
 |[],_=>(True,[])
 |(i,x)::ps,k=>((i=k/\gOf (look P σ T x)=true/\(unc (look P σ T x)).flat=true/\(unc (look P σ T x)).cells.length=size)/\(zG P σ T size ps (k+1)).1,(unc (look P σ T x)).cells::(zG P σ T size ps (k+1)).2)
theorem HI{P:Program}{σ:St}{T:TypeId}{size:Nat}:∀{ps:List (Nat×Operand)}{k:Nat},(zG P σ T size ps k).1->N5 P σ T size ps k (zG P σ T size ps k).2
 |[],_,_=>rfl
 |(_,x)::_,_,h=>by obtain⟨⟨h1,h2,h3,h4⟩,h7⟩:=h;exact⟨h1,h2,h3,h4,_,HI h7,rfl⟩
theorem tF{Q:St->Prop}{T:TypeId}(na:o.op= .buildSlice T n parts)(hg:o.guard=none)(hd:o.dst=some d)
  (h1:σ.fresh d=true/\Xl P T=true/\Qb P (ZT P T)=true/\0<P.cellsOf (ZT P T)/\parts.toList.length=n/\n*P.cellsOf (ZT P T)<=16777216) (h2:(zG P σ (ZT P T) (P.cellsOf (ZT P T)) parts.toList 0).1)
  (h3:Yf d (zG P σ (ZT P T) (P.cellsOf (ZT P T)) parts.toList 0).2.flatten=false)
  (h:Ev P ops bar rest (σ.new d (.one (.sref d 0 0 (zG P σ (ZT P T) (P.cellsOf (ZT P T)) parts.toList 0).2.length)) [.lit (P.cellsOf (ZT P T)) (zG P σ (ZT P T) (P.cellsOf (ZT P T)) parts.toList 0).2]) Q):ja P ops bar o rest σ Q:=by
 refine⟨_,.inl ?_,JW h⟩;unfold Xm;simp only[hg,hd];unfold Step;rw[na];exact .inl ⟨h1.1,h1.2.1,h1.2.2.1,h1.2.2.2.1,h1.2.2.2.2.1,h1.2.2.2.2.2,.inr ⟨_,HI h2,h3,rfl⟩⟩
def Vt(σ:St)(x:V)(size:Nat):Prop×List (List D)×List (Nat×Nat):=
 match x with
 |.one (.nil _)=>(True,[],[])
 |.one (.sref t j lo len)=>(match σ.ob t j with|.arr true s ng=>(s=size/\lo=0/\len=ng.length,ng,[(t,j)])|_=>(False,[],[]))
 |_=>(False,[],[])
theorem wz{x:V}(h:(Vt σ x size).1):w7 σ x size (Vt σ x size).2.1 (Vt σ x size).2.2:=by
 unfold Vt at h⊢;split at h
 ·exact⟨rfl,rfl⟩
 ·rename_i t j lo len;split at h
  ·rename_i s ng ho;obtain⟨rfl,rfl,rfl⟩:=h;exact⟨ho,rfl,rfl,rfl⟩
  ·exact h.elim
 ·exact h.elim
def Vk(σ:St)(x:V)(size:Nat):Prop×List (List D)×List (Nat×Nat):=
 match x with
 |.one (.sref t j lo len)=>(match σ.ob t j with|.lit s rows=>((s=size/\lo=0/\len=rows.length)/\(Km σ rows).isSome=true/\KP σ rows,(Km σ rows).getD [],XL rows.flatten)|_=>(False,[],[]))
 |_=>(False,[],[])
theorem wx{x:V}(h:(Vk σ x size).1):wu σ x size (Vk σ x size).2.1 (Vk σ x size).2.2:=by
 unfold Vk at h⊢;split at h
 ·rename_i t j lo len;split at h
  ·rename_i s rows ho;obtain⟨⟨rfl,rfl,rfl⟩,h1,h2⟩:=h;obtain⟨ns,fL⟩:=Option.isSome_iff_exists.1 h1;exact⟨rows,ho,rfl,rfl,by rw[fL];rfl,h2,rfl⟩
  ·exact h.elim
 ·exact h.elim
theorem kG:∀(σ:St)(d:Nat)(v:V)(t:Nat),(σ.put d v)[t]?=if t=d then(σ[t]?).map (fun e=>(v,e.2))else σ[t]?
 |[],_,_,_=>by simp[St.put]
 |e::σ,0,v,t=>by cases t<;>simp[St.put]
 |e::σ,d+1,v,t=>by
  cases t with
  |zero=>simp[St.put]
  |succ t=>have:=kG σ d v t;simpa[St.put]using this
theorem yn:∀(σ:St)(d:Nat)(v:V)(os:List Ob)(t:Nat),(σ.new d v os)[t]?=if t=d then(σ[t]?).map (fun _=>(v,os))else σ[t]?
 |[],_,_,_,_=>by simp[St.new]
 |e::σ,0,v,os,t=>by cases t<;>simp[St.new]
 |e::σ,d+1,v,os,t=>by
  cases t with
  |zero=>simp[St.new]
  |succ t=>have:=yn σ d v os t;simpa[St.new]using this
theorem JA:∀(σ:St)(a j:Nat)(o:Ob)(t:Nat),(σ.Z1 a j o)[t]?=if t=a then(σ[t]?).map (fun e=>(e.1,e.2.set j o))else σ[t]?
 |[],_,_,_,_=>by simp[St.Z1]
 |e::σ,0,j,o,t=>by cases t<;>simp[St.Z1]
 |e::σ,a+1,j,o,t=>by
  cases t with
  |zero=>simp[St.Z1]
  |succ t=>have:=JA σ a j o t;simpa[St.Z1]using this
theorem qX:Xt σ d=true↔σ[d]?=some (.any,[])\/∃x,σ[d]?=some (.one (.d x),[]):=by
 unfold Xt;constructor
 ·intro h;split at h
  ·rename_i h1;exact .inl h1
  ·rename_i x h1;exact .inr ⟨x,h1⟩
  ·cases h
 ·rintro(h|⟨x,h⟩)<;>rw[h]
theorem Qh{a:Nat}{o:Ob}(h:Xt σ d=true):Xt (σ.Z1 a j o) d=true:=by
 rw[qX]at*;rw[JA];rcases h with h|⟨x,h⟩
 ·left;rw[h];split<;>rfl
 ·right;refine⟨x,?_⟩;rw[h];split<;>rfl
theorem JE:∀{l:List (Nat×Nat)}{σ:St}{d:Nat},Xt σ d=true->Xt (σ.Z8 l) d=true
 |[],_,_,h=>h
 |p::l,σ,d,h=>by rw[St.Z8];exact JE (l:=l) (Qh h)
theorem kV(nf:d≠d')(h:Xt σ d=true):Xt (σ.new d' v os) d=true:=by unfold Xt at*;simp only[yn,if_neg nf];exact h
theorem Xp{T:TypeId}(h:xA d x=false):look P (σ.put d v) T x=look P σ T x:=by
 cases x with
 |tmp t=>
  have nf:t≠d:=fun e=>by subst e;simp[xA]at h
  simp[look,St.zb,nf]
 |const c=>rfl
 |global g=>rfl
 |func f=>rfl
theorem xJ:∀(σ:St)(d:Nat)(v:V)(t j:Nat)(o:Ob),(σ.put d v).Z1 t j o=(σ.Z1 t j o).put d v
 |[],_,_,_,_,_=>rfl
 |e::σ,0,v,0,j,o=>rfl
 |e::σ,d+1,v,0,j,o=>rfl
 |e::σ,0,v,t+1,j,o=>rfl
 |e::σ,d+1,v,t+1,j,o=>by simp[St.put,St.Z1,xJ σ d v t j o]
theorem UL{d:Nat}{v:V}:∀(l:List (Nat×Nat))(σ:St),(σ.put d v).Z8 l=(σ.Z8 l).put d v
 |[],_=>rfl
 |p::l,σ=>by rw[St.Z8,St.Z8,xJ,UL l]
theorem Mu{σ:St}{d:Nat}{v:V}:∀(xs:List At),Jz (σ.put d v) xs=Jz σ xs
 |[]=>rfl
 |x::xs=>by
  have:mvD (σ.put d v) x=mvD σ x:=by cases x<;>simp[mvD,St.JJ]
  simp only[Jz,this,Mu xs]
theorem PD{σ:St}{d:Nat}{v:V}:∀(xs:List At),Qc (σ.put d v) xs=Qc σ xs
 |[]=>rfl
 |x::xs=>by
  have:Ft (σ.put d v) x=Ft σ x:=by cases x<;>simp[Ft,St.JJ]
  simp only[Qc,this,PD xs]
theorem PW:∀(l:List (Nat×V))(σ:St),(σ.JO l).ob=σ.ob
 |[],_=>rfl
 |p::l,σ=>by rw[St.JO,PW l,St.JJ]
theorem kh{P:Program}{T:TypeId}{x:Operand}:∀(l:List (Nat×V))(σ:St),(∀p∈l,xA p.1 x=false)->look P (σ.JO l) T x=look P σ T x
 |[],_,_=>rfl
 |p::l,σ,h=>by rw[St.JO,kh l _ (fun q hq=>h q (by simp[hq])),Xp (h p zAG)]
theorem jK{t j:Nat}{o:Ob}:∀(l:List (Nat×V))(σ:St),(σ.JO l).Z1 t j o=(σ.Z1 t j o).JO l
 |[],_=>rfl
 |p::l,σ=>by rw[St.JO,jK l,xJ,St.JO]
theorem yv{L:List (Nat×Nat)}:∀(l:List (Nat×V))(σ:St),(σ.JO l).Z8 L=(σ.Z8 L).JO l
 |[],_=>rfl
 |p::l,σ=>by rw[St.JO,yv l,UL,St.JO]
theorem wK:∀{σ:St}{t d:Nat}{v v':V}{os:List Ob},t≠d->(σ.put t v').new d v os=(σ.new d v os).put t v'
 |[],_,_,_,_,_,_=>rfl
 |e::σ,0,0,_,_,_,h=>absurd rfl h
 |e::σ,0,d+1,_,_,_,_=>rfl
 |e::σ,t+1,0,_,_,_,_=>rfl
 |e::σ,t+1,d+1,v,v',os,h=>by simp[St.put,St.new,wK (σ:=σ) (v:=v) (v':=v') (os:=os) (fun hh=>h (congrArg (·+1) hh))]
theorem Ch{d:Nat}{v:V}{os:List Ob}:∀(l:List (Nat×V))(σ:St),(∀p∈l,p.1≠d)->(σ.JO l).new d v os=(σ.new d v os).JO l
 |[],_,_=>rfl
 |p::l,σ,h=>by rw[St.JO,Ch l _ (fun q hq=>h q (by simp[hq])),wK (h p zAG),St.JO]
theorem P4{d:Nat}{v:V}(hv:v.ref d=false):∀{σ:St}{k t:Nat},yG d k σ=true->yG d k (σ.put t v)=true
 |[],_,_,h=>h
 |e::σ,k,0,h=>by simp only[yG,St.put,Bool.and_eq_true,Bool.or_eq_true,Bool.not_eq_true']at h⊢;exact⟨h.1.imp id (fun hh=>⟨hv,hh.2⟩),h.2⟩
 |e::σ,k,t+1,h=>by simp only[yG,St.put,Bool.and_eq_true]at h⊢;exact⟨h.1,P4 hv h.2⟩
theorem SB{d:Nat}:∀(l:List (Nat×V)){σ:St},(∀p∈l,p.2.ref d=false)->σ.fresh d=true->(σ.JO l).fresh d=true
 |[],_,_,h=>h
 |p::l,σ,hl,h=>by refine SB l (fun q hq=>hl q (by simp[hq])) ?_;simp only[St.fresh,Bool.and_eq_true,decide_eq_true_eq,St.JG]at h⊢;exact⟨h.1,P4 (hl p zAG) h.2⟩
theorem VE{t:TypeId}(na:o.op= .call ⟨.builtin .append,#[x,y],#[t,t]⟩)(h:P2 o n=true):xA n x=false/\xA n y=false:=by
 have hx:x∈o.op.operands.toList:=by rw[na];simp[Op.operands,Call.operands]
 have hy:y∈o.op.operands.toList:=by rw[na];simp[Op.operands,Call.operands]
 simp only[P2,Bool.not_eq_true']at h;exact⟨Bool.eq_false_iff.2 (List.any_eq_false.1 h x hx),Bool.eq_false_iff.2 (List.any_eq_false.1 h y hy)⟩
theorem BU{σ σ':St}(h:σ'.ob=σ.ob):∀(xs:List At),Jz σ' xs=Jz σ xs
 |[]=>rfl
 |x::xs=>by
  have:mvD σ' x=mvD σ x:=by cases x<;>simp[mvD,h]
  simp only[Jz,this,BU h xs]
theorem Hl{σ σ':St}(h:σ'.ob=σ.ob):∀(xs:List At),Qc σ' xs=Qc σ xs
 |[]=>rfl
 |x::xs=>by
  have:Ft σ' x=Ft σ x:=by cases x<;>simp[Ft,h]
  simp only[Qc,this,Hl h xs]
theorem EK{σ σ':St}(h:σ'.ob=σ.ob):∀(xs:List (List At)),Km σ' xs=Km σ xs
 |[]=>rfl
 |x::xs=>by simp only[Km,BU h,EK h xs]
theorem LF{σ σ':St}(h:σ'.ob=σ.ob):∀(xs:List (List At)),KP σ' xs=KP σ xs
 |[]=>rfl
 |x::xs=>by simp only[KP,Hl h,LF h xs]
theorem ss(h:σ'.ob=σ.ob){x:V}(hd:w7 σ x size ng l):w7 σ' x size ng l:=by unfold w7 at*;rw[h];exact hd
theorem sE(h:σ'.ob=σ.ob){x:V}(hd:wu σ x size news l):wu σ' x size news l:=by unfold wu at*;simp only[h,EK h,LF h];exact hd
theorem sC(h:σ'.ob=σ.ob){x:V}(hd:BQ σ x size ng l):BQ σ' x size ng l:=by unfold BQ at*;rw[h];exact hd
theorem E2{d:Nat}:∀{os:List Ob}{j:Nat}{cells:List At},XE d os=false->Yp os j= .box cells->Yf d cells=false
 |[],j,cells,_,h=>by simp[Yp]at h
 |o::os,0,cells,hr,h=>by simp only[Yp,List.getElem?_cons_zero]at h;subst h;simp only[XE,Bool.or_eq_false_iff]at hr;exact hr.1
 |o::os,j+1,cells,hr,h=>by have h':Yp os j= .box cells:=zB5;refine E2 (os:=os) (j:=j) ?_ h';cases o<;>simp only[XE,Bool.or_eq_false_iff]at hr<;>first|exact hr.2|exact hr
theorem Hv{X:St}(hd:o.dst=some d)(hlen:X.length=σ.length)(lB:∀t,X.get t=σ.get t)(iW:∀t j cells,X.ob t j= .box cells->σ.ob t j= .box cells)
  (lU:∀t j q s rows,X.ob t j= .arr q s rows->∃nv,σ.ob t j= .arr q s nv) (hf:X.fresh d=true)
  (hs:∀l:List (Nat×V),(∀p∈l,p.1≠d/\P2 o p.1=true/\p.2.ref d=false)->UE P ops o (σ.JO l) ((X.JO l).new d v os)) (hc:∀l:List (Nat×V),Rh o (σ.JO l) ((X.JO l).new d v os)):pX P ops o σ (X.new d v os):=by
 have nn:=St.K2 hf;have dq:∀t e,X[t]?=some e->t≠d->e.1.ref d=false/\XE d e.2=false:=fun t e he nf=>by have h1:=hf;simp only[St.fresh,Bool.and_eq_true]at h1;exact xO h1.2 t e he zAD
 refine⟨d,hd,by rw[St.ki,hlen],fun t nf=>?_,fun t j cells nf hb=>?_,fun t j q s rows nf hb=>?_,fun l hl=>?_⟩
 ·rw[St.VA,if_neg (fun hh=>nf hh.1),lB];refine⟨rfl,?_⟩;rw[<-lB];unfold St.get;cases he:X[t]? with
  |none=>rfl
  |some e=>exact(dq t e he nf).1
 ·rw[St.Ji,if_neg (fun hh=>nf hh.1)]at hb;refine⟨iW t j cells hb,?_⟩;unfold St.ob at hb;cases he:X[t]? with
  |none=>rw[he]at hb;cases hb
  |some e=>rw[he]at hb;exact E2 (dq t e he nf).2 hb
 ·rw[St.Ji,if_neg (fun hh=>nf hh.1)]at hb;exact lU t j q s rows hb
 ·have e:=Ch (d:=d) (v:=v) (os:=os) l X (fun p hp=>(hl p hp).1);rw[<-e];exact⟨hs l hl,hc l⟩
theorem Gy{cells:List At}(h:(σ.Z8 L).ob t j= .box cells):σ.ob t j= .box cells:=by
 rw[St.KY]at h;split at h
 ·cases h
 ·exact h
theorem Hk{s:Nat}(h:(σ.Z8 L).ob t j= .arr q s rows):σ.ob t j= .arr q s rows:=by
 rw[St.KY]at h;split at h
 ·cases h
 ·exact h
theorem uP{Q:St->Prop}{t:TypeId}(na:o.op= .call ⟨.builtin .append,#[x,y],#[t,t]⟩)(hg:o.guard=none)(hd:o.dst=some d)(mP:bar o=true)
  (m0:size=P.cellsOf (ZT P t)) (h1:gOf (look P σ t x)=true/\gOf (look P σ t y)=true/\Xl P t=true/\Qb P (ZT P t)=true/\0<P.cellsOf (ZT P t))
  (h2:(Vt σ (unc (look P σ t x)) size).1/\(Vt σ (unc (look P σ t x)) size).2=(ng,l1)) (h3:(Vk σ (unc (look P σ t y)) size).1/\(Vk σ (unc (look P σ t y)) size).2=(news,l2))
  (h4:(l1++l2).Nodup/\(σ.Z8 (l1++l2)).fresh d=true) (h5:(ng.length+news.length)*P.bytesOf (ZT P t)<=140737488355328/\ng.length+news.length<=9223372036854775807)
  (h:Ev P ops bar rest ((σ.Z8 (l1++l2)).new d (.one (.sref d 0 0 (ng.length+news.length))) [.arr true size (ng++news)]) Q):ja P ops bar o rest σ Q:=by
 subst m0;have e1:=wz h2.1
 have e2:=wx h3.1;rw[h2.2]at e1;rw[h3.2]at e2;have cl:∀σ0:St,Rh o σ0 ((σ0.Z8 (l1++l2)).new d (.one (.sref d 0 0 (ng.length+news.length))) [.arr true (P.cellsOf (ZT P t)) (ng++news)]):=fun σ0 d' nu hc=>kV (fun e=>nu zBy) (JE hc);have go:∀l:List (Nat×V),(∀p∈l,p.1≠d/\P2 o p.1=true/\p.2.ref d=false)->UE P ops o (σ.JO l) (((σ.JO l).Z8 (l1++l2)).new d (.one (.sref d 0 0 (ng.length+news.length))) [.arr true (P.cellsOf (ZT P t)) (ng++news)]):=by
  rintro l hl T0 B a w K Q' ⟨X,hh,r⟩ hK;have hw:Region.wanted o (yielded ops a.tmps)=true:=zBW
  rw[if_pos hw];have lx:look P (σ.JO l) t x=look P σ t x:=kh l σ (fun p hp=>(VE na (hl p hp).2.1).1)
  have ly:look P (σ.JO l) t y=look P σ t y:=kh l σ (fun p hp=>(VE na (hl p hp).2.1).2);refine FL r na hd (by rw[lx];exact h1.1) (by rw[ly];exact h1.2.1) h1.2.2.1 h1.2.2.2.1 h1.2.2.2.2 (by rw[lx];exact ss (PW l σ) e1) (by rw[ly];exact sE (PW l σ) e2) h4.1 ?_ h5.1 h5.2 hK;rw[yv];exact SB l (fun p hp=>(hl p hp).2.2) h4.2
 have ah:UE P ops o σ ((σ.Z8 (l1++l2)).new d (.one (.sref d 0 0 (ng.length+news.length))) [.arr true (P.cellsOf (ZT P t)) (ng++news)]):=go [] (fun p hp=>by cases hp);refine⟨_,.inr ⟨mP,ah,cl σ,fun hh=>by simp[V4,na]at hh,fun _=>Hv hd (St.KR _ _) (fun t=>St.yg _ _ t) (fun t j cells hb=>Gy hb) (fun t j q s rows hb=>⟨rows,Hk hb⟩) h4.2 (fun l hl=>?_) (fun l=>?_),fun hh _=>by first|(simp[KK,na]at hh;done)|(unfold KK at hh;rw[na]at hh;split at hh<;>simp_all)⟩,JW h⟩
 ·rw[<-yv];exact go l hl
 ·rw[<-yv];exact cl _
theorem vL(r:Rel T0 B σ a w X h)(hd:o.dst=some d)(hv:Yh P σ o.op o.type (.one (.sref u j 0 n)))(ho:σ.ob u j= .arr false size rows)(hle:n<=rows.length)
  (mf:(σ.Z1 u j .none).fresh d=true) (hK:∀a' w',Jq T0 B ((σ.Z1 u j .none).new d (.one (.sref d 0 0 n)) [.arr false size (rows.take n)]) a' w'->XI B w w'->K a' w'):o.wp P a w K Q:=by
 obtain⟨val,mB,eM⟩:=WQ r hv;unfold Oper.wp;rw[mB,Oper.upon_value,hd];have e7:YL (Tof T0 X) h σ.ob w (.sref u j 0 n) val:=eM
 obtain⟨_,_,l5,_⟩:=e7.2.1 _ _ _ ho;have he:val=NO (h u j).v n:=l5 rfl
 have h0:=r.obj u j;rw[ho]at h0;obtain⟨e,xs,nk,lW,ni⟩:=h0;have n9:σ.ob u j≠ .none:=zAw;have eh:(rows.take n).length=n:=zBL;have lM:(rows.take n).flatten=rows.flatten.take (n*size):=Kk rows size lW n hle;have mz:w.ownsRow 0 e size val (rows.take n).length (xs.take (n*size)):=by rw[he,eh];exact j6 nk hle
 have nn:=St.K2 mf;have mq:((σ.Z1 u j .none).new d (.one (.sref d 0 0 n)) [.arr false size (rows.take n)]).ob d 0= .arr false size (rows.take n):=zBB;have mJ:∀b,blk val=some b->¬B b/\¬X b/\b<w.heap.size/\∀u' j',(σ.Z1 u j .none).ob u' j'≠ .none->¬(h u' j').u b:=by
  intro b hb;rw[he,VF]at hb;have ew:=r.ub u j b n9 hb
  have mh:=r.own u j b n9 ew;refine⟨mh.1,mh.2.1,mh.2.2,fun u' j' nf n7=>?_⟩;have fT:σ.ob u' j'≠ .none:=by
   intro hh;rw[St.Xz σ u j _ u' j' n9]at nf;split at nf
   ·exact nf rfl
   ·exact nf hh
  have:=r.inj u j u' j' b n9 fT ew n7;obtain⟨rfl,rfl⟩:=this;rw[St.Xz σ u j _ u j n9]at nf;simp at nf
 refine hK _ _ ⟨X,fun t k=>if t=d then Hd.of val else h t k,?_⟩ (XI.refl _ _);refine(r.drop u j).B5 mf (fun b=>blk val=some b) (Nat.le_refl _) (fun _ _ _=>rfl) (fun b hb=>⟨(mJ b hb).1,(mJ b hb).2.1,fun t k _ nf=>(mJ b hb).2.2.2 t k nf⟩) (fun _ hb=>hb) (fun _ hb=>.inl hb) _ _ [.arr false size (rows.take n)] (fun _=>Hd.of val) ?_ (fun k=>?_) (fun k b _ hb=>hb) (fun k b nf n7=>?_) (fun k k' b nf ma _ _=>?_)
 ·refine⟨KF mz,fun q' mC nv hh=>?_,fun mC nv hh=>by rw[mq]at hh;cases hh⟩;rw[mq]at hh;cases hh;simp only[if_true];have:=VC mz
  rwa[eh]at this⊢
 ·cases k with
  |zero=>exact⟨e,xs.take (n*size),mz,fun q hq=>lW q (List.mem_of_mem_take hq),by rw[lM];exact(ni.imp fun _ _ hh=>hh).take _⟩
  |succ k=>simp[Yp,Jx]
 ·exact⟨.inr n7,(mJ b n7).2.1,(mJ b n7).2.2.1⟩
 ·have:∀k,Yp [Ob.arr false size (rows.take n)] k≠ .none->k=0:=by
   intro k hk;cases k with
   |zero=>rfl
   |succ k=>simp[Yp]at hk
  rw[this k nf,this k' ma]
theorem vO(r:Rel T0 B σ a w X h)(hd:o.dst=some d)(hv:Yh P σ o.op o.type (.one (.sref u j 0 n)))(ho:σ.ob u j= .arr true size rows)(hle:n<=rows.length)
  (mf:(σ.Z1 u j .none).fresh d=true) (hK:∀a' w',Jq T0 B ((σ.Z1 u j .none).new d (.one (.sref d 0 0 n)) [.arr true size (rows.take n)]) a' w'->XI B w w'->K a' w'):o.wp P a w K Q:=by
 obtain⟨val,mB,eM⟩:=WQ r hv;unfold Oper.wp;rw[mB,Oper.upon_value,hd];have e7:YL (Tof T0 X) h σ.ob w (.sref u j 0 n) val:=eM
 obtain⟨_,_,l5,_⟩:=e7.2.1 _ _ _ ho;have he:val=NO (h u j).v n:=l5 rfl
 have h0:=r.obj u j;rw[ho]at h0;obtain⟨e,xs,nk,lW,ni,gh⟩:=h0;have n9:σ.ob u j≠ .none:=zAw;have eh:(rows.take n).length=n:=zBL;have lM:(rows.take n).flatten=rows.flatten.take (n*size):=Kk rows size lW n hle;have mz:w.ownsRow 0 e size val (rows.take n).length (xs.take (n*size)):=by rw[he,eh];exact j6 nk hle
 have nn:=St.K2 mf;have mq:((σ.Z1 u j .none).new d (.one (.sref d 0 0 n)) [.arr true size (rows.take n)]).ob d 0= .arr true size (rows.take n):=zBB;have mJ:∀b,(h u j).u b->¬B b/\¬X b/\b<w.heap.size/\∀u' j',(σ.Z1 u j .none).ob u' j'≠ .none->¬(h u' j').u b:=by
  intro b ew;have mh:=r.own u j b n9 ew
  refine⟨mh.1,mh.2.1,mh.2.2,fun u' j' nf n7=>?_⟩;have fT:σ.ob u' j'≠ .none:=by
   intro hh;rw[St.Xz σ u j _ u' j' n9]at nf;split at nf
   ·exact nf rfl
   ·exact nf hh
  have:=r.inj u j u' j' b n9 fT ew n7;obtain⟨rfl,rfl⟩:=this;rw[St.Xz σ u j _ u j n9]at nf;simp at nf
 refine hK _ _ ⟨X,fun t k=>if t=d then({v:=val,u:=(h u j).u,n:=(h u j).n}:Hd)else h t k,?_⟩ (XI.refl _ _);refine(r.drop u j).B5 mf (fun b=>(h u j).u b) (Nat.le_refl _) (fun _ _ _=>rfl) (fun b hb=>⟨(mJ b hb).1,(mJ b hb).2.1,fun t k _ nf=>(mJ b hb).2.2.2 t k nf⟩) (fun _ hb=>hb) (fun _ hb=>.inl hb) _ _ [.arr true size (rows.take n)] (fun _=>({v:=val,u:=(h u j).u,n:=(h u j).n}:Hd)) ?_ (fun k=>?_) (fun k b _ hb=>r.ub u j b n9 (by have hb:blk val=some b:=hb;rw[he,VF]at hb;exact hb)) (fun k b nf n7=>?_) (fun k k' b nf ma _ _=>?_)
 ·refine⟨KF mz,fun q' mC nv hh=>?_,fun mC nv hh=>by rw[mq]at hh;cases hh⟩;rw[mq]at hh;cases hh;simp only[if_true];have:=VC mz
  rwa[eh]at this⊢
 ·cases k with
  |zero=>
   have eN:xs.length=rows.length*size:=by rw[ni.1,YU rows _ lW]
   have gp:n*size<=xs.length:=by rw[eN];exact Nat.mul_le_mul_right _ hle
   have hp:=KJ.pick ni (p:=n*size) (q:=n*size) (n:=0) (Nat.le_refl _) zAD;simp only[cut,List.take_zero,List.append_nil]at hp;refine⟨e,xs.take (n*size),mz,fun q hq=>lW q (List.mem_of_mem_take hq),?_,fun k x dd hx iE lA=>?_⟩
   ·rw[lM];refine hp.mono (fun b hb=>⟨hb.1,?_⟩);have mQ:=hb.2
    intro hh;have hh:blk val=some b:=hh
    rw[he,VF]at hh;exact mQ hh
   ·rw[lM]at iE;have hk:k<n*size:=by have:=(List.getElem?_eq_some_iff.1 hx).1;rw[List.length_take]at this;omega
    rw[List.getElem?_take,if_pos hk]at hx iE;exact gh k x dd hx iE lA
  |succ k=>simp[Yp,Jx]
 ·exact⟨.inr n7,(mJ b n7).2.1,(mJ b n7).2.2.1⟩
 ·have:∀k,Yp [Ob.arr true size (rows.take n)] k≠ .none->k=0:=by
   intro k hk;cases k with
   |zero=>rfl
   |succ k=>simp[Yp]at hk
  rw[this k nf,this k' ma]
theorem Rel.pI(r:Rel T0 B σ a w X h)(hX:∀b,X b->X' b)(fR:∀b,X' b->X b\/(¬B b/\b<w.heap.size/\∀t j,σ.ob t j≠ .none->¬(h t j).u b)):Rel T0 B σ a w X' h:=by
 have hT:∀b k v,Tof T0 X b k->w.cell? ⟨b,k,none⟩=some v->w.cell? ⟨b,k,none⟩=some v/\Tof T0 X' b k:=fun b k v hb hc=>⟨hc,hb.imp id (hX b)⟩;refine⟨r.size,r.defers,r.hB,fun b hb=>?_,r.hT,fun t ht=>JB.mono hT (r.slot t ht),fun t j=>?_,r.ub,fun t j b ho hb=>?_,r.inj⟩
 ·rcases fR b hb with hb|hb
  ·exact r.hX b hb
  ·exact⟨hb.1,hb.2.1⟩
 ·have h0:=r.obj t j;cases ho:σ.ob t j with
  |none=>trivial
  |box cells=>rw[ho]at h0;obtain⟨b,cs,e,hv,hh,ni⟩:=h0;exact⟨b,cs,e,hv,hh,ni.imp fun _ _=>YL.mono hT⟩
  |arr q size rows=>
   rw[ho]at h0;cases q with
   |false=>obtain⟨e,xs,iJ,hz,ni⟩:=h0;exact⟨e,xs,iJ,hz,ni.imp fun _ _=>Rd.mono hT⟩
   |true=>exact h0
  |lit size rows=>rw[ho]at h0;obtain⟨e,xs,iJ,hz,ni⟩:=h0;exact⟨e,xs,iJ,hz,ni.imp fun _ _=>YL.mono hT⟩
 ·have:=r.own t j b ho hb;refine⟨this.1,fun hx=>?_,this.2.2⟩;rcases fR b hx with hx|hx
  ·exact this.2.1 hx
  ·exact hx.2.2 t j ho hb
theorem wj(r:Rel T0 B σ a w X h)(hd:o.dst=some d)(hv:Yh P σ o.op o.type (.one (.sref u j 0 n)))(ho:σ.ob u j= .arr true size rows)(hle:n<=rows.length)
  (mf:(σ.Z1 u j .none).fresh d=true) (hK:∀a' w',Jq T0 B ((σ.Z1 u j .none).new d (.one (.sref d 0 0 n)) [.arr false size (rows.take n)]) a' w'->XI B w w'->K a' w'):o.wp P a w K Q:=by
 obtain⟨val,mB,eM⟩:=WQ r hv;unfold Oper.wp;rw[mB,Oper.upon_value,hd];have e7:YL (Tof T0 X) h σ.ob w (.sref u j 0 n) val:=eM
 obtain⟨_,_,l5,_⟩:=e7.2.1 _ _ _ ho;have he:val=NO (h u j).v n:=l5 rfl
 have h0:=r.obj u j;rw[ho]at h0;obtain⟨e,xs,nk,lW,ni,gh⟩:=h0;have n9:σ.ob u j≠ .none:=zAw;have eh:(rows.take n).length=n:=zBL;have lM:(rows.take n).flatten=rows.flatten.take (n*size):=Kk rows size lW n hle;have mz:w.ownsRow 0 e size val (rows.take n).length (xs.take (n*size)):=by rw[he,eh];exact j6 nk hle
 have nn:=St.K2 mf;have mq:((σ.Z1 u j .none).new d (.one (.sref d 0 0 n)) [.arr false size (rows.take n)]).ob d 0= .arr false size (rows.take n):=zBB;have mJ:∀b,(h u j).u b->¬B b/\¬X b/\b<w.heap.size/\∀u' j',(σ.Z1 u j .none).ob u' j'≠ .none->¬(h u' j').u b:=by
  intro b ew;have mh:=r.own u j b n9 ew
  refine⟨mh.1,mh.2.1,mh.2.2,fun u' j' nf n7=>?_⟩;have fT:σ.ob u' j'≠ .none:=by
   intro hh;rw[St.Xz σ u j _ u' j' n9]at nf;split at nf
   ·exact nf rfl
   ·exact nf hh
  have:=r.inj u j u' j' b n9 fT ew n7;obtain⟨rfl,rfl⟩:=this;rw[St.Xz σ u j _ u j n9]at nf;simp at nf
 have bE:∀b,blk val=some b->(h u j).u b/\blk (h u j).v=some b:=fun b hb=>by rw[he,VF]at hb;exact⟨r.ub u j b n9 hb,hb⟩
 have r1:=(r.drop u j).pI (X':=fun b=>X b\/((h u j).u b/\blk (h u j).v≠some b)) (fun b hb=>.inl hb) (fun b hb=>hb.imp id (fun hh=>⟨(mJ b hh.1).1,(mJ b hh.1).2.2.1,(mJ b hh.1).2.2.2⟩));refine hK _ _ ⟨fun b=>X b\/((h u j).u b/\blk (h u j).v≠some b),fun t k=>if t=d then Hd.of val else h t k,?_⟩ (XI.refl _ _);refine r1.B5 mf (fun b=>blk val=some b) (Nat.le_refl _) (fun _ _ _=>rfl) (fun b hb=>⟨(mJ b (bE b hb).1).1,?_,fun t k _ nf=>(mJ b (bE b hb).1).2.2.2 t k nf⟩) (fun _ hb=>hb) (fun _ hb=>.inl hb) _ _ [.arr false size (rows.take n)] (fun _=>Hd.of val) ?_ (fun k=>?_) (fun k b _ hb=>hb) (fun k b nf n7=>?_) (fun k k' b nf ma _ _=>?_)
 ·rintro(hx|hx)
  ·exact(mJ b (bE b hb).1).2.1 hx
  ·exact hx.2 (bE b hb).2
 ·refine⟨KF mz,fun q' mC nv hh=>?_,fun mC nv hh=>by rw[mq]at hh;cases hh⟩;rw[mq]at hh;cases hh;simp only[if_true];have:=VC mz
  rwa[eh]at this⊢
 ·cases k with
  |zero=>refine⟨e,xs.take (n*size),mz,fun q hq=>lW q (List.mem_of_mem_take hq),?_⟩;rw[lM];exact(ni.rd (T:=Tof T0 (fun b=>X b\/((h u j).u b/\blk (h u j).v≠some b))) (fun b k hb=>.inr (.inr hb))).take _
  |succ k=>simp[Yp,Jx]
 ·refine⟨.inr n7,?_,(mJ b (bE b n7).1).2.2.1⟩;rintro(hx|hx)
  ·exact(mJ b (bE b n7).1).2.1 hx
  ·exact hx.2 (bE b n7).2
 ·have:∀k,Yp [Ob.arr false size (rows.take n)] k≠ .none->k=0:=by
   intro k hk;cases k with
   |zero=>rfl
   |succ k=>simp[Yp]at hk
  rw[this k nf,this k' ma]
theorem uc{Q:St->Prop}{t:TypeId}{len lo:Nat}(na:o.op= .call ⟨.builtin .append,#[x,y],#[t,t]⟩)(hg:o.guard=none)(hd:o.dst=some d)(mP:bar o=true)
  (m0:size=P.cellsOf (ZT P t)) (h1:gOf (look P σ t x)=true/\gOf (look P σ t y)=true/\Xl P t=true/\Qb P (ZT P t)=true/\0<P.cellsOf (ZT P t))
  (h2:unc (look P σ t x)= .one (.sref u j 0 len)) (h3:unc (look P σ t y)= .one (.sref u j lo n)) (ho:σ.ob u j= .arr true size rows) (hle:len<=lo) (gp:lo+n<=rows.length)
  (lZ:cut rows lo n=news) (h4:(σ.Z1 u j .none).fresh d=true) (h5:(len+n)*P.bytesOf (ZT P t)<=140737488355328/\len+n<=9223372036854775807)
  (h:Ev P ops bar rest ((σ.Z1 u j .none).new d (.one (.sref d 0 0 ((rows.take len).length+news.length))) [.arr true size (rows.take len++news)]) Q):ja P ops bar o rest σ Q:=by
 subst m0;subst lZ;rw[XV _ _ _ gp,List.length_take,Nat.min_eq_left zAD]at h;have cl:∀σ0:St,Rh o σ0 ((σ0.Z1 u j .none).new d (.one (.sref d 0 0 (len+n))) [.arr true (P.cellsOf (ZT P t)) (rows.take len++cut rows lo n)]):=fun σ0 d' nu hc=>kV (fun e=>nu zBy) (Qh hc)
 have go:∀l:List (Nat×V),(∀p∈l,p.1≠d/\P2 o p.1=true/\p.2.ref d=false)->UE P ops o (σ.JO l) (((σ.JO l).Z1 u j .none).new d (.one (.sref d 0 0 (len+n))) [.arr true (P.cellsOf (ZT P t)) (rows.take len++cut rows lo n)]):=by
  rintro l hl T0 B a w K Q' ⟨X,hh,r⟩ hK;have hw:Region.wanted o (yielded ops a.tmps)=true:=zBW
  rw[if_pos hw];have lx:look P (σ.JO l) t x=look P σ t x:=kh l σ (fun p hp=>(VE na (hl p hp).2.1).1)
  have ly:look P (σ.JO l) t y=look P σ t y:=kh l σ (fun p hp=>(VE na (hl p hp).2.1).2);refine FI r na hd (by rw[lx];exact h1.1) (by rw[ly];exact h1.2.1) h1.2.2.1 h1.2.2.2.1 h1.2.2.2.2 (by rw[lx];exact h2) (by rw[ly];exact h3) (by rw[PW];exact ho) hle gp ?_ h5.1 h5.2 hK;show((σ.JO l).Z1 u j .none).fresh d=true
  rw[jK];exact SB l (fun p hp=>(hl p hp).2.2) h4
 have ah:UE P ops o σ ((σ.Z1 u j .none).new d (.one (.sref d 0 0 (len+n))) [.arr true (P.cellsOf (ZT P t)) (rows.take len++cut rows lo n)]):=go [] (fun p hp=>by cases hp);refine⟨_,.inr ⟨mP,ah,cl σ,fun hh=>by simp[V4,na]at hh,fun _=>Hv hd (St.Xf _ _ _ _) (fun t=>St.QL _ _ _ _ t) (fun t i cells hb=>Gy (L:=[(u,j)]) hb) (fun t i q s rows hb=>⟨rows,Hk (L:=[(u,j)]) hb⟩) h4 (fun l hl=>?_) (fun l=>?_),fun hh _=>by first|(simp[KK,na]at hh;done)|(unfold KK at hh;rw[na]at hh;split at hh<;>simp_all)⟩,JW h⟩
 ·rw[<-jK];exact go l hl
 ·rw[<-jK];exact cl _
theorem uG{Q:St->Prop}{t:TypeId}{lo:Nat}(na:o.op= .call ⟨.builtin .append,#[x,y],#[t,t]⟩)(hg:o.guard=none)(hd:o.dst=some d)(mP:bar o=true)
  (m0:size=P.cellsOf (ZT P t)) (h1:gOf (look P σ t x)=true/\gOf (look P σ t y)=true/\Xl P t=true/\Qb P (ZT P t)=true/\0<P.cellsOf (ZT P t))
  (h2:BQ σ (unc (look P σ t x)) size ng l1) (h3:unc (look P σ t y)= .one (.sref u j lo n)) (ho:σ.ob u j= .arr true size rows) (dr:(u,j)∉l1) (hle:lo+n<=rows.length) (lZ:cut rows lo n=news)
  (h4:((σ.Z1 u j (.arr true size (JY rows lo n))).Z8 l1).fresh d=true) (h5:(ng.length+n)*P.bytesOf (ZT P t)<=140737488355328/\ng.length+n<=9223372036854775807)
  (h:Ev P ops bar rest (((σ.Z1 u j (.arr true size (JY rows lo n))).Z8 l1).new d (.one (.sref d 0 0 (ng.length+news.length))) [.arr true size (ng++news)]) Q):ja P ops bar o rest σ Q:=by
 subst m0;subst lZ;rw[XV _ _ _ hle]at h;have cl:∀σ0:St,Rh o σ0 (((σ0.Z1 u j (.arr true (P.cellsOf (ZT P t)) (JY rows lo n))).Z8 l1).new d (.one (.sref d 0 0 (ng.length+n))) [.arr true (P.cellsOf (ZT P t)) (ng++cut rows lo n)]):=fun σ0 d' nu hc=>kV (fun e=>nu zBy) (JE (Qh hc))
 have go:∀l:List (Nat×V),(∀p∈l,p.1≠d/\P2 o p.1=true/\p.2.ref d=false)->UE P ops o (σ.JO l) ((((σ.JO l).Z1 u j (.arr true (P.cellsOf (ZT P t)) (JY rows lo n))).Z8 l1).new d (.one (.sref d 0 0 (ng.length+n))) [.arr true (P.cellsOf (ZT P t)) (ng++cut rows lo n)]):=by
  rintro l hl T0 B a w K Q' ⟨X,hh,r⟩ hK;have hw:Region.wanted o (yielded ops a.tmps)=true:=zBW
  rw[if_pos hw];have lx:look P (σ.JO l) t x=look P σ t x:=kh l σ (fun p hp=>(VE na (hl p hp).2.1).1)
  have ly:look P (σ.JO l) t y=look P σ t y:=kh l σ (fun p hp=>(VE na (hl p hp).2.1).2);refine Fs r na hd (by rw[lx];exact h1.1) (by rw[ly];exact h1.2.1) h1.2.2.1 h1.2.2.2.1 h1.2.2.2.2 (by rw[lx];exact sC (PW l σ) h2) (by rw[ly];exact h3) (by rw[PW];exact ho) hle dr ?_ h5.1 h5.2 hK;rw[jK,yv];exact SB l (fun p hp=>(hl p hp).2.2) h4
 have n9:σ.ob u j≠ .none:=zAw;have ah:UE P ops o σ (((σ.Z1 u j (.arr true (P.cellsOf (ZT P t)) (JY rows lo n))).Z8 l1).new d (.one (.sref d 0 0 (ng.length+n))) [.arr true (P.cellsOf (ZT P t)) (ng++cut rows lo n)]):=go [] (fun p hp=>by cases hp);refine⟨_,.inr ⟨mP,ah,cl σ,fun hh=>by simp[V4,na]at hh,fun _=>Hv hd (by rw[St.KR,St.Xf]) (fun t=>by rw[St.yg,St.QL]) (fun t i cells hb=>?_) (fun t i q s nv hb=>?_) h4 (fun l hl=>?_) (fun l=>?_),fun hh _=>by first|(simp[KK,na]at hh;done)|(unfold KK at hh;rw[na]at hh;split at hh<;>simp_all)⟩,JW h⟩
 ·have hb:=Gy hb;rw[St.Xz σ u j _ t i n9]at hb;split at hb
  ·cases hb
  ·exact hb
 ·have hb:=Hk hb;rw[St.Xz σ u j _ t i n9]at hb;split at hb
  ·rename_i hc;cases hb;rw[hc.1,hc.2];exact⟨rows,ho⟩
  ·exact⟨nv,hb⟩
 ·rw[<-yv,<-jK];exact go l hl
 ·rw[<-yv,<-jK];exact cl _
theorem CY{f:At->Bool}{v:V}(hv:v.yV f=false):∀{σ:St}{d:Nat},σ.yV f=false->(σ.put d v).yV f=false
 |[],_,_=>rfl
 |e::σ,0,h=>by simp only[St.yV,Bool.or_eq_false_iff]at h;simp[St.put,St.yV,hv,h.1.2,h.2]
 |e::σ,d+1,h=>by simp only[St.yV,Bool.or_eq_false_iff]at h;simp[St.put,St.yV,h.1.1,h.1.2,CY hv h.2]
theorem Lg{σ:St}:∀{xs:List At}{ds:List D},Jz σ xs=some ds->∀p∈XL xs,∃q s rows,σ.ob p.1 p.2= .arr q s rows
 |[],_,_,p,hp=>by cases hp
 |x::xs,ds,h,p,hp=>by
  simp only[Jz]at h;split at h
  ·rename_i d eK h1 h2;have ih:=Lg h2
   cases x with
   |sref t j lo len=>
    simp only[XL,List.mem_cons]at hp;rcases hp with rfl|hp
    ·simp only[mvD]at h1;split at h1
     ·rename_i q s rows ho;exact⟨q,s,rows,ho⟩
     ·cases h1
    ·exact ih p hp
   |_=>exact ih p hp
  ·cases h
theorem MZ{t' mC:Nat}{q':Bool}{nv:List (List D)}{cells:List At}{xs:List At}(hm:Jz σ xs=some ds)(hL:XL xs=L)(ho:σ.ob t j= .arr q size rows)(hn:(t,j)∉L)(hb:σ.ob t' 0= .box cells):
  ((σ.Z8 L).Z1 t j (.arr q' mC nv)).ob t' 0= .box cells:=by
 have h1:(σ.Z8 L).ob t j≠ .none:=by rw[St.KY,if_neg hn,ho];simp
 rw[St.Xz _ t j _ t' 0 h1];split
 ·rename_i hc;rw[hc.1,hc.2,ho]at hb;cases hb
 ·rw[St.KY];split
  ·rename_i hc;obtain⟨q,s,rows,he⟩:=Lg hm (t',0) (by rw[hL];exact hc);rw[he]at hb;cases hb
  ·exact hb
structure StM(P:Program)(σ:St)(T:TypeId)(x y:Operand)(t j i c size:Nat)(rows:List (List D))(ds:List D)(l:List (Nat×Nat)):Prop where
 hx:unc (look P σ 0 x)= .one (.ptr t j i c)
 ho:σ.ob t j= .arr true size rows
 hi:i<rows.length
 h1:qP P T=true/\gOf (look P σ 0 x)=true/\gOf (look P σ T y)=true/\(unc (look P σ T y)).flat=true
 h2:Jz σ (unc (look P σ T y)).cells=some ds
 h3:Qc σ (unc (look P σ T y)).cells
 h4:XL (unc (look P σ T y)).cells=l
 h5:l.Nodup/\(t,j)∉l/\(σ.Z8 l).yV (At.isT t)=false
 h6:ds.length=P.cellsOf T/\c+P.cellsOf T<=size
theorem StM.JO{P:Program}{o:Oper}{T:TypeId}{x y:Operand}(na:o.op= .store T x y){t j i c size:Nat}{rows:List (List D)}{ds:List D}{l:List (Nat×Nat)}:∀(q:List (Nat×V)){σ:St},(∀p∈q,Wy o p.1=true/\M5 p.2=true)->StM P σ T x y t j i c size rows ds l->StM P (σ.JO q) T x y t j i c size rows ds l
 |[],_,_,h=>h
 |p::q,σ,hq,h=>by
  refine StM.JO na q (fun p' ee=>hq p' (by simp[ee])) ?_;obtain⟨hu,hp⟩:=hq p zAG;simp only[Wy,na,Bool.and_eq_true,Bool.not_eq_true']at hu;have hv:p.2.yV (At.isT t)=false:=by generalize p.2=v at hp;unfold M5 at hp;split at hp<;>first|rfl|cases hp
  refine⟨?_,?_,h.hi,?_,?_,?_,?_,⟨h.h5.1,h.h5.2.1,?_⟩,h.h6⟩
  ·rw[Xp hu.1];exact h.hx
  ·rw[St.JJ];exact h.ho
  ·rw[Xp hu.1,Xp hu.2];exact h.h1
  ·rw[Xp hu.2,Mu];exact h.h2
  ·rw[Xp hu.2,PD];exact h.h3
  ·rw[Xp hu.2];exact h.h4
  ·rw[UL];exact CY hv h.h5.2.2
theorem Nk{l:List (Nat×Nat)}{t j:Nat}{ob:Ob}:∀(q:List (Nat×V))(σ:St),((σ.JO q).Z8 l).Z1 t j ob=((σ.Z8 l).Z1 t j ob).JO q
 |[],_=>rfl
 |p::q,σ=>by rw[St.JO,St.JO,Nk q,UL,xJ]
theorem MP{T:TypeId}{c:Nat}(na:o.op= .store T x y)(hg:o.guard=none)(hd:o.dst=none)(h:StM P σ T x y t j i c size rows ds l):
  UE P ops o σ ((σ.Z8 l).Z1 t j (.arr true size (rows.set i (place (rowAt rows i) c ds)))):=by
 obtain⟨hx,ho,hi,h1,h2,h3,h4,h5,h6⟩:=h;subst h4;rintro T0 B a w K Q' ⟨X,hh,r⟩ hK;have hw:Region.wanted o (yielded ops a.tmps)=true:=zBW
 rw[if_pos hw];exact IU r na hd h1.1 h1.2.1 h1.2.2.1 hx ho hi h1.2.2.2 h2 h3 h5.1 h5.2.1 h5.2.2 h6.1 h6.2 hK
theorem v5{Q:St->Prop}{T:TypeId}{c:Nat}(na:o.op= .store T x y)(hg:o.guard=none)(hd:o.dst=none)(mP:bar o=true)
  (hx:unc (look P σ 0 x)= .one (.ptr t j i c)) (ho:σ.ob t j= .arr true size rows) (hi:i<rows.length) (h1:qP P T=true/\gOf (look P σ 0 x)=true/\gOf (look P σ T y)=true/\(unc (look P σ T y)).flat=true)
  (h2:Jz σ (unc (look P σ T y)).cells=some ds) (h3:Qc σ (unc (look P σ T y)).cells) (h4:XL (unc (look P σ T y)).cells=l) (h5:l.Nodup/\(t,j)∉l/\(σ.Z8 l).yV (At.isT t)=false) (h6:ds.length=P.cellsOf T/\c+P.cellsOf T<=size)
  (h:Ev P ops bar rest ((σ.Z8 l).Z1 t j (.arr true size (rows.set i (place (rowAt rows i) c ds)))) Q):ja P ops bar o rest σ Q:=by
 have hm:StM P σ T x y t j i c size rows ds l:=⟨hx,ho,hi,h1,h2,h3,h4,h5,h6⟩;refine⟨_,.inr ⟨mP,MP na hg hd hm,fun d' _ hc=>Qh (JE hc),fun _=>⟨⟨by rw[St.Xf,St.KR],fun u=>by rw[St.QL,St.yg]⟩,fun q hq=>?_,fun t' cells hb=>?_⟩,fun hh=>by simp[kP,na]at hh,fun hh _=>by simp[KK,na]at hh⟩,JW h⟩
 ·rw[<-Nk];exact⟨MP na hg hd (hm.JO na q hq),fun d' _ hc=>Qh (JE hc)⟩
 ·exact MZ hm.h2 hm.h4 hm.ho hm.h5.2.1 hb
theorem Ek{T:TypeId}(na:o.op= .store T x y)(hg:o.guard=none)(hd:o.dst=none)(la:ds.length=size)(h:StM P σ T x y t j i 0 size rows ds l):
  UE P ops o σ ((σ.Z8 l).Z1 t j (.arr true size (rows.set i ds))):=by
 rintro T0 B a w K Q' ⟨X,hh,r⟩ hK;refine MP na hg hd h T0 B a w K Q' ⟨X,hh,r⟩ ?_;have h0:=r.obj t j
 rw[h.ho]at h0;obtain⟨_,_,_,hz,_⟩:=h0;have e:place (rowAt rows i) 0 ds=ds:=by
  have hr:(rowAt rows i).length=size:=by
   have:rowAt rows i=rows[i]'h.hi:=by simp[rowAt,List.getD_eq_getElem?_getD,List.getElem?_eq_getElem h.hi]
   rw[this];exact hz _ (List.getElem_mem h.hi)
  unfold place;rw[List.take_zero,List.nil_append,List.drop_eq_nil_of_le zAD,List.append_nil]
 rw[e];exact hK
theorem v3{Q:St->Prop}{T:TypeId}(na:o.op= .store T x y)(hg:o.guard=none)(hd:o.dst=none)(mP:bar o=true)
  (hx:unc (look P σ 0 x)= .one (.ptr t j i 0)) (ho:σ.ob t j= .arr true size rows) (hi:i<rows.length) (h1:qP P T=true/\gOf (look P σ 0 x)=true/\gOf (look P σ T y)=true/\(unc (look P σ T y)).flat=true)
  (h2:Jz σ (unc (look P σ T y)).cells=some ds) (h3:Qc σ (unc (look P σ T y)).cells) (h4:XL (unc (look P σ T y)).cells=l) (h5:l.Nodup/\(t,j)∉l/\(σ.Z8 l).yV (At.isT t)=false) (h6:ds.length=P.cellsOf T/\P.cellsOf T=size)
  (h:Ev P ops bar rest ((σ.Z8 l).Z1 t j (.arr true size (rows.set i ds))) Q):ja P ops bar o rest σ Q:=by
 have hm:StM P σ T x y t j i 0 size rows ds l:=⟨hx,ho,hi,h1,h2,h3,h4,h5,h6.1,zAD⟩;have hf:ds.length=size:=zAD;refine⟨_,.inr ⟨mP,Ek na hg hd hf hm,fun d' _ hc=>Qh (JE hc),fun _=>⟨⟨by rw[St.Xf,St.KR],fun u=>by rw[St.QL,St.yg]⟩,fun q hq=>?_,fun t' cells hb=>?_⟩,fun hh=>by simp[kP,na]at hh,fun hh _=>by simp[KK,na]at hh⟩,JW h⟩
 ·rw[<-Nk];exact⟨Ek na hg hd hf (hm.JO na q hq),fun d' _ hc=>Qh (JE hc)⟩
 ·exact MZ hm.h2 hm.h4 hm.ho hm.h5.2.1 hb
structure StN(P:Program)(σ:St)(T:TypeId)(x y:Operand)(t j i c k q n size:Nat)(s rows:List (List D))(ds:List D)(l:List (Nat×Nat)):Prop where
 hx:unc (look P σ 0 x)= .one (.tref t j i c (some (k*n+q)))
 ho:σ.ob t j= .arr true size rows
 hi:i<rows.length
 hc:(rows.getD i [])[c]?=some (.sl n s)
 hk:k<s.length
 h1:qP P T=true/\gOf (look P σ 0 x)=true/\gOf (look P σ T y)=true/\(unc (look P σ T y)).flat=true
 h2:Jz σ (unc (look P σ T y)).cells=some ds
 h3:Qc σ (unc (look P σ T y)).cells
 h4:XL (unc (look P σ T y)).cells=l
 h5:l.Nodup/\(t,j)∉l
 h6:ds.length=P.cellsOf T/\q+P.cellsOf T<=n
theorem StN.JO{P:Program}{o:Oper}{T:TypeId}{x y:Operand}(na:o.op= .store T x y){t j i c k n0 n size:Nat}{s rows:List (List D)}{ds:List D}{l:List (Nat×Nat)}:∀(q:List (Nat×V)){σ:St},(∀p∈q,Wy o p.1=true/\M5 p.2=true)->StN P σ T x y t j i c k n0 n size s rows ds l->StN P (σ.JO q) T x y t j i c k n0 n size s rows ds l
 |[],_,_,h=>h
 |p::q,σ,hq,h=>by
  refine StN.JO na q (fun p' ee=>hq p' (by simp[ee])) ?_;obtain⟨hu,hp⟩:=hq p zAG;simp only[Wy,na,Bool.and_eq_true,Bool.not_eq_true']at hu;refine⟨?_,?_,h.hi,h.hc,h.hk,?_,?_,?_,?_,h.h5,h.h6⟩
  ·rw[Xp hu.1];exact h.hx
  ·rw[St.JJ];exact h.ho
  ·rw[Xp hu.1,Xp hu.2];exact h.h1
  ·rw[Xp hu.2,Mu];exact h.h2
  ·rw[Xp hu.2,PD];exact h.h3
  ·rw[Xp hu.2];exact h.h4
theorem E4{T:TypeId}{c q:Nat}(na:o.op= .store T x y)(hg:o.guard=none)(hd:o.dst=none)(h:StN P σ T x y t j i c k q n size s rows ds l):
  UE P ops o σ ((σ.Z8 l).Z1 t j (.arr true size (rows.set i (place (rowAt rows i) c [.sl n (s.set k (place (rowAt s k) q ds))])))):=by
 obtain⟨hx,ho,hi,hc,hk,h1,h2,h3,h4,h5,h6⟩:=h;subst h4;rintro T0 B a w K Q' ⟨X,hh,r⟩ hK;have hw:Region.wanted o (yielded ops a.tmps)=true:=zBW
 rw[if_pos hw];exact Ln r na hd h1.1 h1.2.1 h1.2.2.1 hx ho hi hc hk h1.2.2.2 h2 h3 h5.1 h5.2 h6.1 h6.2 hK
theorem uh{Q:St->Prop}{T:TypeId}{c q:Nat}(na:o.op= .store T x y)(hg:o.guard=none)(hd:o.dst=none)(mP:bar o=true)
  (hm:StN P σ T x y t j i c k q n size s rows ds l)
  (h:Ev P ops bar rest ((σ.Z8 l).Z1 t j (.arr true size (rows.set i (place (rowAt rows i) c [.sl n (s.set k (place (rowAt s k) q ds))])))) Q):ja P ops bar o rest σ Q:=by
 refine⟨_,.inr ⟨mP,E4 na hg hd hm,fun d' _ hc=>Qh (JE hc),fun _=>⟨⟨by rw[St.Xf,St.KR],fun u=>by rw[St.QL,St.yg]⟩,fun q hq=>?_,fun t' cells hb=>?_⟩,fun hh=>by simp[kP,na]at hh,fun hh _=>by simp[KK,na]at hh⟩,JW h⟩
 ·rw[<-Nk];exact⟨E4 na hg hd (hm.JO na q hq),fun d' _ hc=>Qh (JE hc)⟩
 ·exact MZ hm.h2 hm.h4 hm.ho hm.h5.2 hb
open Go.RowKit
def On(P:Program)(σ:St):ResultVar->Prop×List At
 |.tmp t=>(match σ.get t with
  |.one x=>(t<σ.length,[x])
  |.agg []=>(t<σ.length,[])
  |.agg (x::y::xs)=>(t<σ.length,x::y::xs)
  |_=>(False,[]))
 |.cell t T=>(match σ.get t with
  |.one (.bptr u c)=>(match σ.ob u 0 with
    |.box cells=>(qP P T=true/\U9 P T=true/\P.cellsOf T≠1/\c+P.cellsOf T<=cells.length,cut cells c (P.cellsOf T))
    |_=>(False,[]))
  |_=>(False,[]))
def J8(P:Program)(σ:St):List ResultVar->Prop×List (List At)
 |[]=>(True,[])
 |r::rs=>((On P σ r).1/\(J8 P σ rs).1,(On P σ r).2::(J8 P σ rs).2)
theorem vP(h:(On P σ r).1):HS P σ r (On P σ r).2:=by
 cases r with
 |tmp t=>
  simp only[On]at h⊢;simp only[HS];cases hx:σ.get t with
  |one x=>rw[hx]at h;exact⟨rfl,h⟩
  |agg xs=>
   rw[hx]at h;match xs,h with
   |[],h=>exact⟨rfl,h⟩
   |[x],h=>exact h.elim
   |x::y::xs,h=>exact⟨rfl,h⟩
  |any=>rw[hx]at h;exact h.elim
  |tup xs=>rw[hx]at h;exact h.elim
  |cnd g x=>rw[hx]at h;exact h.elim
  |fix u x=>rw[hx]at h;exact h.elim
 |cell t T=>
  simp only[On]at h⊢;split at h
  ·rename_i u c hx;split at h
   ·rename_i cells ho;exact⟨u,c,cells,hx,ho,h.1,h.2.1,h.2.2.1,h.2.2.2,rfl⟩
   ·exact h.elim
  ·exact h.elim
theorem Tu{P:Program}{σ:St}:∀{rs:List ResultVar},(J8 P σ rs).1->T5 P σ rs (J8 P σ rs).2
 |[],_=>rfl
 |_::_,h=>⟨_,_,vP h.1,Tu h.2,rfl⟩
theorem rO(hf:fn.results=rv.toArray)(h:(J8 P σ rv).1/\kl σ (J8 P σ rv).2=some res):Br P fn false res .ret σ:=
 ⟨.inl rfl,_,by rw[hf];exact Tu h.1,by simpa using h.2⟩
theorem rU(hf:fn.results=rv.toArray)(h:(J8 P σ rv).1/\Ut σ (J8 P σ rv).2=some res/\(XL (J8 P σ rv).2.flatten).Nodup):Br P fn true res .ret σ:=
 ⟨.inl rfl,_,by rw[hf];exact Tu h.1,by simpa using h.2⟩
theorem Ir(hf:fn.results=rv.toArray)(h:(J8 P σ rv).1/\Km σ (J8 P σ rv).2=some res/\KP σ (J8 P σ rv).2/\(XL (J8 P σ rv).2.flatten).Nodup):vY P fn res .ret σ:=
 ⟨.inl rfl,_,by rw[hf];exact Tu h.1,h.2⟩
attribute [simp] BQ Km Jz mvD KP Qc Ft YY y6 zG Vt Vk St.Z8 AS wV D2 re Wc SY Ej St.yV V.yV V.Ba Eb U8 yp At.isT
attribute [simp] isB bOf Ev stops pa Pp evS BM evV Ew Ac Rj Rc ye Se T6 Sx Ng lkI lkK Vm.look cst unc gOf qj V.flat V.cells St.put St.Z1 St.new St.tH St.uM St.tc St.sk EL kd uV
 GW Rs ldV cut place rowOf yH zP At.D4 Qs V.zB Yi qe jf EU vOf Kj xR J8 On kl Ut ownRow j0 XL ji Oj Yf At.ref D.scalar KW D.CB zD sP Qq
open Go.RowKit
theorem DC{row:List D}(ho:KJ w cs row S):∃(hf:Nat->Hd)(Sk:Nat->Nat->Prop),(∀j c,cs[j]?=some c->(hf j).v=c)/\(∀k b,Sk k b->S b)/\(∀i j b,Sk i b->Sk j b->i=j)/\
  ∀j size rows,row[j]?=some (.sl size rows)->(∀b,(hf j).u b->Sk j b)/\(∀b,blk (hf j).v=some b->(hf j).u b)/\∀T h ob,Jx T h ob w (hf j) (.arr true size rows):=by
 obtain⟨hl,Sk,h1,h2,h3⟩:=ho;have hex:∀j,∃hd:Hd,(∀c,cs[j]?=some c->hd.v=c)/\(∀size rows,row[j]?=some (.sl size rows)->(∀b,hd.u b->Sk j b)/\(∀b,blk hd.v=some b->hd.u b)/\∀T h ob,Jx T h ob w hd (.arr true size rows)):=by
  intro j;cases hj:row[j]? with
  |none=>exact⟨Hd.of ((cs[j]?).getD undef),fun c mZ=>by simp[Hd.of,mZ],fun size rows hh=>by cases hh⟩
  |some dd=>
   have fU:j<cs.length:=by rw[hl];exact(List.getElem?_eq_some_iff.1 hj).1
   have eO:cs[j]?=some cs[j]:=List.getElem?_eq_getElem fU;cases dd with
   |int k n=>exact⟨Hd.of cs[j],fun c mZ=>by rw[eO]at mZ;cases mZ;rfl,fun size rows hh=>by cases hh⟩
   |bool k=>exact⟨Hd.of cs[j],fun c mZ=>by rw[eO]at mZ;cases mZ;rfl,fun size rows hh=>by cases hh⟩
   |str k=>exact⟨Hd.of cs[j],fun c mZ=>by rw[eO]at mZ;cases mZ;rfl,fun size rows hh=>by cases hh⟩
   |unk=>exact⟨Hd.of cs[j],fun c mZ=>by rw[eO]at mZ;cases mZ;rfl,fun size rows hh=>by cases hh⟩
   |sl size rows=>
    have ho:=h1 j _ _ eO hj;generalize hv:cs[j]=v at ho;cases ho with
    |sl v size rows S e xs db ho hz hb hl hk dv nu=>refine⟨⟨v,fun k=>(xs[k]?).getD undef,Sk j⟩,fun c mZ=>by rw[eO,hv]at mZ;cases mZ;rfl,fun mC nv hh=>?_⟩;cases hh;exact⟨fun b hb=>hb,hb,fun T h ob=>⟨e,xs,ho,hz,⟨hl,db,hk,fun k b hb=>dv k b hb,nu⟩,fun k x d hx _ _=>by simp[hx]⟩⟩
 obtain⟨hf,ef⟩:=Classical.axiomOfChoice hex;exact⟨hf,Sk,fun j=>(ef j).1,h2,h3,fun j=>(ef j).2⟩
theorem KJ.top{row:List D}(ho:KJ w cs row S):YF (kq T w) cs row:=by
 obtain⟨hl,Sk,h1,h2,h3⟩:=ho;refine YF.xS hl (fun k x d hx hd=>?_);have ho:=h1 k x d hx hd
 cases ho with
 |int k n=>exact Rd.int _ _
 |bool b=>exact Rd.bool _
 |str s=>exact Rd.str _
 |unk v h=>exact Rd.unk _ h
 |sl v size rows S e xs db ho hz hb hl hk dv nu=>exact⟨e,xs,ho⟩
def pb(n:Nat)(v:Value)(row:List D)(args:List (List D)):St:=(.fix v (vOf (Kj 0 0 row)),YY [] row)::(Oj args++List.replicate (n-(args.length+1)) (V.any,[]))
def St.ri:St->List At->List D->St
 |σ,.sref t j _ _::xs,.sl size rows::ds=>St.ri (σ.Z1 t j (.arr true size rows)) xs ds
 |σ,_::xs,_::ds=>St.ri σ xs ds
 |σ,_,_=>σ
def Dk:List D->List D->Prop
 |.sl s r::ds,.sl s' r'::eK=>s=s'/\r.length=r'.length/\Dk ds eK
 |.sl _ _::_,_=>False
 |_::ds,_::eK=>Dk ds eK
 |[],[]=>True
 |_,_=>False
def B7(σ:St):List At->Prop
 |[]=>True
 |.sref t j _ _::xs=>(match σ.ob t j with|.arr true _ _=>True|_=>False)/\B7 σ xs
 |_::xs=>B7 σ xs
def At.oI:At->Bool
 |.tref _ _ _ _ _=>true
 |_=>false
theorem PV:∀{xs:List At}{t j:Nat},(t,j)∈XL xs->∃(k lo len:Nat),xs[k]?=some (At.sref t j lo len)
 |[],t,j,h=>zA7
 |x::xs,t,j,h=>by
  cases x with
  |sref t' j' lo len=>
   simp only[XL,List.mem_cons,Prod.mk.injEq]at h;rcases h with⟨rfl,rfl⟩|h
   ·exact⟨0,lo,len,rfl⟩
   ·obtain⟨k,lo,len,hk⟩:=PV h;exact⟨k+1,lo,len,by simpa using hk⟩
  |_=>obtain⟨k,lo,len,hk⟩:=PV (xs:=xs) h;exact⟨k+1,lo,len,by simpa using hk⟩
theorem Mk(nf:d≠d')(h:Xt σ d=true):Xt (σ.put d' v) d=true:=by unfold Xt at*;simp only[kG,if_neg nf];exact h
end Go.Vm
