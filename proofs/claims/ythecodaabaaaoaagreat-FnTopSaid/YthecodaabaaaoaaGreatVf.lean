/- An abstract machine La the model of Go, by value, and that it is sound: part Vf. No condition. -/
import Derived.Test.YthecodaabaaaoaaGreatVb
set_option linter.unusedVariables false
set_option linter.unusedSimpArgs false
namespace Go.Vm
open Go.RowKit
variable{P:Program}{σ σ':St}{ops:Array Oper}{bar:Oper->Bool}{o:Oper}{rows res news iJ args s:List (List D)}{l L l1 l2:List (Nat×Nat)}{d size j n t id i u d' dj gy k:Nat}{Q:Exit->Act->World->Prop}{K:Act->World->Prop}{x y:Operand}{h:Nat->Nat->Hd}{B X X' S:Nat->Prop}{ds:List D}{v:V}{f:FuncId}{T0 T:CS}{a:Act}{w w':World}{c:Code}{parts:Array (Nat×Operand)}{Q':Exit->St->Prop}{want q g b:Bool}{r:ResultVar}{val:Value}
def B0(P:Program)(σ:St)(c:Call)(f:FuncId)(own:Bool)(res:List (List D)):Prop:=
 ∃rows,JE P σ c.args.toList c.argTypes.toList rows/\JK P f own rows res/\(Ym P σ c.args.toList c.argTypes.toList=true\/Kn own res)
def Step(P:Program)(o:Oper)(d:Nat)(σ σ':St):Prop:=
 match o.op with
 |.alloc T=>σ.fresh d=true/\Qg P T=true/\∃row,Wl P 12 T=some row/\σ'=σ.new d (.one (.bptr d 0)) [.box row]
 |.box T x=>σ.fresh d=true/\gOf (look P σ T x)=true/\(unc (look P σ T x)).flat=true/\Yi d (unc (look P σ T x)).cells=false/\σ'=σ.new d (.one (.bptr d 0)) [.box (unc (look P σ T x)).cells]
 |.buildSlice T n parts=>(σ.fresh d=true/\Xj P T=true/\Qg P (ZV P T)=true/\0<P.cellsOf (ZV P T)/\parts.toList.length=n/\n*P.cellsOf (ZV P T)<=16777216/\
   ((∃rows,N1 P σ (ZV P T) (P.cellsOf (ZV P T)) parts.toList 0 rows/\σ'=σ.new d (.one (.sref d 0 0 rows.length)) [.arr false (P.cellsOf (ZV P T)) rows])\/
   (∃rows,NR P σ (ZV P T) (P.cellsOf (ZV P T)) parts.toList 0 rows/\Yi d rows.flatten=false/\σ'=σ.new d (.one (.sref d 0 0 rows.length)) [.lit (P.cellsOf (ZV P T)) rows])))\/
   ((Xj P T=true/\Qg P (ZV P T)=true/\0<P.cellsOf (ZV P T)/\parts.toList.length=n/\n*P.cellsOf (ZV P T)<=16777216)/\∃rows,N1 P σ (ZV P T) (P.cellsOf (ZV P T)) parts.toList 0 rows/\σ'=σ.put d (.one (.d (.sl (P.cellsOf (ZV P T)) rows))))
 |.makeSlice T x y=>x=y/\σ.fresh d=true/\Xj P T=true/\Qg P (ZV P T)=true/\0<P.cellsOf (ZV P T)/\
   ∃q z zr k n,(q=true->DX z=true)/\Wl P 12 (ZV P T)=some z/\zD z=some zr/\Um P σ x k (n:Nat)/\P.bytesOf (ZV P T)*n<=281474976710656/\n<=9223372036854775807/\σ'=σ.new d (.one (.sref d 0 0 n)) [.arr q (P.cellsOf (ZV P T)) (List.replicate n zr)]
 |.call c=>
  (match c.callee with
  |.builtin .append=>∃x y t,c.args=#[x,y]/\c.argTypes=#[t,t]/\gOf (look P σ t x)=true/\gOf (look P σ t y)=true/\Xj P t=true/\Qg P (ZV P t)=true/\0<P.cellsOf (ZV P t)/\
    ∃iJ news σ1,S3 σ (unc (look P σ t x)) (P.cellsOf (ZV P t)) iJ σ1/\Wb σ (unc (look P σ t y)) (P.cellsOf (ZV P t)) news/\σ1.fresh d=true/\
     (iJ.length+news.length)*P.bytesOf (ZV P t)<=140737488355328/\iJ.length+news.length<=9223372036854775807/\σ'=σ1.new d (.one (.sref d 0 0 (iJ.length+news.length))) [.arr false (P.cellsOf (ZV P t)) (iJ++news)]
  |.value (.func f)=>(∃own res,B0 P σ c f own res/\σ'=σ.put d (jF res))\/(∃res,B0 P σ c f true res/\σ.fresh d=true/\σ'=σ.new d (kJ d res) (xy res.flatten))\/
    (∃rows res qs,JE P σ c.args.toList c.argTypes.toList rows/\Yg P f rows res/\xe qs res.flatten/\σ.fresh d=true/\σ'=σ.new d (kJ d res) (Ya qs res.flatten))
  |_=>∃v,Yj P σ o.op o.type v/\σ'=σ.put d v)
 |.convert S T x=>
   (∃v,Yj P σ o.op o.type v/\σ'=σ.put d v)\/
   (∃l,gOf (look P σ S x)=true/\ML P S=true/\Su P T=true/\Wb σ (unc (look P σ S x)) 1 (yJ l)/\σ'=σ.put d (.one (.d (.str ⟨l.toArray⟩))))\/
   (∃s,gOf (look P σ S x)=true/\Su P S=true/\ML P T=true/\unc (look P σ S x)= .one (.d (.str s))/\s.size<=9223372036854775807/\σ'=σ.put d (.one (.d (.sl 1 (yJ s.data.toList)))))
 |_=>∃v,Yj P σ o.op o.type v/\σ'=σ.put d v
def qO(P:Program)(σ:St)(T:TypeId)(x y:Operand)(σ':St):Prop:=
 qm P T=true/\gOf (look P σ 0 x)=true/\gOf (look P σ T y)=true/\(unc (look P σ T y)).flat=true/\
  (match unc (look P σ 0 x)with
  |.one (.bptr t c)=>∃cells,σ.ob t 0= .box cells/\(unc (look P σ T y)).cells.length=P.cellsOf T/\c+P.cellsOf T<=cells.length/\σ'=σ.Zy t 0 (.box (place cells c (unc (look P σ T y)).cells))
  |.one (.ptr t j i c)=>∃q size rows ds,σ.ob t j= .arr q size rows/\i<rows.length/\rowOf σ (unc (look P σ T y)).cells=some ds/\zg (unc (look P σ T y)).cells=true/\ds.length=P.cellsOf T/\c+P.cellsOf T<=size/\
    (q=true->ds.all D.scalar=true/\(cut (rows.getD i []) c (P.cellsOf T)).all D.scalar=true)/\σ'=σ.Zy t j (.arr q size (rows.set i (place (rows.getD i []) c ds)))
  |_=>False)
def jR(want:Bool):V->Option Bool
 |.one (.d (.bool b))=>some (b==want)
 |.cnd g (.one (.d (.bool b)))=>some (g&&(b==want))
 |.cnd false _=>some false
 |_=>none
def M6(P:Program)(o:Oper)(σ:St)(v:V):Prop:=
 match o.op with
 |.call c=>
  (match c.callee with
  |.value (.func f)=>∃own res,B0 P σ c f own [res]/\v=jF [res]
  |_=>∃v0,Yj P σ o.op o.type v0/\gOf v0=true/\v=unc v0/\v.flat=true)
 |_=>∃v0,Yj P σ o.op o.type v0/\gOf v0=true/\v=unc v0/\v.flat=true
def Xm(P:Program)(ops:Array Oper)(o:Oper)(σ σ':St):Prop:=
 match o.guard with
 |none=>
  (match o.dst with
  |some d=>Step P o d σ σ'
  |none=>(match o.op with|.store T x y=>qO P σ T x y σ'|_=>False))
 |some (j,want)=>∃dj d g v,(ops[j]?).bind (·.dst)=some dj/\dj<σ.length/\o.dst=some d/\jR want (σ.get dj)=some g/\(g=true->M6 P o σ v)/\σ'=σ.put d (.cnd g v)
def Ue(P:Program)(ops:Array Oper)(o:Oper)(σ σ':St):Prop:=
 ∀(T0:CS)(B:Nat->Prop)(a:Act)(w:World)(K:Act->World->Prop)(Q:Exit->Act->World->Prop),J5 T0 B σ a w->(∀a' w',J5 T0 B σ' a' w'->XF B w w'->K a' w')->
  if Region.wanted o (yielded ops a.tmps)then o.wp P a w K Q else K (a.put o.dst undef) w
def Xs(σ:St)(d:Nat):Bool:=match σ[d]? with|some (.any,[])=>true|some (.one (.d _),[])=>true|_=>false
def PF(o:Oper)(σ σ':St):Prop:=∀d,o.dst≠some d->Xs σ d=true->Xs σ' d=true
def UK(o:Oper):Bool:=match o.op with|.store _ _ _=>true|_=>false
def xh(d:Nat):Operand->Bool
 |.tmp t=>t==d
 |_=>false
def VV(o:Oper)(d:Nat):Bool:=match o.op with|.store _ p q=>!xh d p&&!xh d q|_=>false
def Mh:V->Bool
 |.any=>true
 |.one (.d _)=>true
 |_=>false
def St.Jl:St->List (Nat×V)->St
 |σ,[]=>σ
 |σ,p::l=>St.Jl (σ.put p.1 p.2) l
def ma(P:Program)(ops:Array Oper)(o:Oper)(σ σ':St):Prop:=
 (σ'.length=σ.length/\∀u,σ'.get u=σ.get u)/\(∀l:List (Nat×V),(∀p∈l,VV o p.1=true/\Mh p.2=true)->Ue P ops o (σ.Jl l) (σ'.Jl l)/\PF o (σ.Jl l) (σ'.Jl l))/\∀t cells,σ.ob t 0= .box cells->σ'.ob t 0= .box cells
def kr(o:Oper):Bool:=match o.op with|.call ⟨.builtin .append,_,_⟩=>true|_=>false
theorem CW(h:UK o=true):kr o=false:=by
 unfold UK at h;split at h
 ·rename_i iE;simp[kr,iE]
 ·cases h
def P9(o:Oper)(d:Nat):Bool:=!(o.op.operands.toList.any (xh d))
def mH(P:Program)(ops:Array Oper)(o:Oper)(σ σ':St):Prop:=
 ∃d,o.dst=some d/\σ'.length=σ.length/\(∀t,t≠d->σ'.get t=σ.get t/\(σ.get t).ref d=false)/\(∀t j cells,t≠d->σ'.ob t j= .box cells->σ.ob t j= .box cells/\Yi d cells=false)/\
  (∀t j q s rows,t≠d->σ'.ob t j= .arr q s rows->∃ig,σ.ob t j= .arr q s ig)/\
  ∀l:List (Nat×V),(∀p∈l,p.1≠d/\P9 o p.1=true/\p.2.ref d=false)->Ue P ops o (σ.Jl l) (σ'.Jl l)/\PF o (σ.Jl l) (σ'.Jl l)
def mb(P:Program)(t:TypeId):Bool:=match P.underlying t with|some (.pointer _)=>true|_=>false
def OP(bar:Oper->Bool)(o:Oper):Bool:=!bar {o with dst:=some 1000000007}
def ng(bar:Oper->Bool)(o:Oper):Bool:=(match o.dst with|some d=>bar {o with dst:=some (d+2000000)}|none=>false)&&OP bar o
def KV(P:Program)(o:Oper):Bool:=match o.op with|.call ⟨.value (.func _),_,⟨T::_⟩⟩=>mb P T|_=>false
def y9(t d:Nat)(cs:List At)(v:V):Option (List Ob)->St->St
 |none,σ=>(σ.Zy t 0 (.box cs)).put d v
 |some os,σ=>(σ.Zy t 0 (.box cs)).new d v os
def nb(P:Program)(ops:Array Oper)(o:Oper)(σ σ':St):Prop:=
 ∃d t cells cs v os,o.dst=some d/\σ.ob t 0= .box cells/\(∃z r,(∃f ts,o.op= .call ⟨.value (.func f),⟨z::r⟩,ts⟩)/\∃ty,unc (look P σ ty z)= .one (.bptr t 0))/\(∀u,Yi u cells=false/\Yi u cs=false)/\
  (∀u,(os=none\/u≠d)->v.ref u=false/\∀l,os=some l->XG u l=false)/\(os≠none->(σ.Zy t 0 (.box cs)).fresh d=true)/\σ'=y9 t d cs v os σ/\
  ∀σ2:St,σ.length=σ2.length->(∀z∈o.op.operands.toList,∀ty,look P σ ty z=look P σ2 ty z)->(∀z∈o.op.operands.toList,∀ty u,(look P σ ty z).ref u=true->∀j,σ.ob u j≠ .none->σ2.ob u j=σ.ob u j)->(os≠none->(σ2.Zy t 0 (.box cs)).fresh d=true)->
   Ue P ops o σ2 (y9 t d cs v os σ2)/\PF o σ2 (y9 t d cs v os σ2)
theorem B2(h:UK o=true):KV P o=false:=by
 unfold UK at h;split at h
 ·rename_i iE;simp[KV,iE]
 ·cases h
theorem sk(h:kr o=true):KV P o=false:=by
 unfold kr at h;split at h
 ·rename_i iE;simp[KV,iE]
 ·cases h
def ze(P:Program)(ops:Array Oper)(bar:Oper->Bool)(o:Oper)(σ σ':St):Prop:=Xm P ops o σ σ'\/(bar o=true/\Ue P ops o σ σ'/\PF o σ σ'/\(UK o=true->ma P ops o σ σ')/\(kr o=true->mH P ops o σ σ')/\(KV P o=true->OP bar o=true->nb P ops o σ σ'))
def CD(P:Program)(ops:Array Oper)(bar:Oper->Bool):List Oper->St->(St->Prop)->Prop
 |[],σ,Q=>Q σ
 |o::rest,σ,Q=>∃σ',ze P ops bar o σ σ'/\CD P ops bar rest σ' Q
theorem O2(d:Nat):∀(n:Nat)(t:TypeId)(row:List At),Wl P n t=some row->Yi d row=false:=by
 intro n;induction n with
 |zero=>intro t row hr;simp[Wl]at hr
 |succ n ih=>
  intro t row hr;have happ:∀(rs:List (List At)),(∀r∈rs,Yi d r=false)->Yi d rs.flatten=false:=by
   intro rs eJ;have app:∀(xs ys:List At),Yi d xs=false->Yi d ys=false->Yi d (xs++ys)=false:=by
    intro xs ys hx hy;induction xs with
    |nil=>exact hy
    |cons x xs ax=>simp only[List.cons_append,Yi,Bool.or_eq_false_iff]at hx⊢;exact⟨hx.1,ax hx.2⟩
   induction rs with
   |nil=>rfl
   |cons r rs ax=>rw[List.flatten_cons];exact app _ _ (eJ r zAE) (ax (fun r hr=>eJ r zB3))
  rw[Wl]at hr;split at hr
  ·cases hr;rfl
  ·cases hr;rfl
  ·cases hr;rfl
  ·cases hr;rfl
  ·rename_i fs _;simp only[Option.map_eq_some_iff]at hr;obtain⟨rs,eJ,rfl⟩:=hr;refine happ rs ?_;have:∀(l:List Field)(rs:List (List At)),l.mapM (fun f=>Wl P n f.type)=some rs->∀r∈rs,Yi d r=false:=by
    intro l;induction l with
    |nil=>intro rs hh r hr;simp at hh;subst hh;cases hr
    |cons f l ax=>
     intro rs hh r hr;simp only[List.mapM_cons,Option.bind_eq_bind,Option.bind_eq_some_iff]at hh;obtain⟨r0,ep,rs',hrs',hh⟩:=hh;simp at hh;subst hh;rcases List.mem_cons.1 hr with rfl|hr
     ·exact ih f.type _ ep
     ·exact ax rs' hrs' r hr
   exact this fs.toList rs eJ
  ·simp only[Option.map_eq_some_iff]at hr;obtain⟨r0,ep,rfl⟩:=hr;exact happ _ (fun r hr=>by rw[List.eq_of_mem_replicate hr];exact ih _ _ ep)
  ·cases hr
theorem TD(r:Rel T0 B σ a w X h)(hd:o.dst=some d)(hex:∃val,(execOp a.eval o).run P w= .ok (.value val) w/\JU (Tof T0 X) h σ.ob w v val)
  (hK:∀a' w',J5 T0 B (σ.put d v) a' w'->XF B w w'->K a' w'):o.wp P a w K Q:=by
 obtain⟨val,iv,hv⟩:=hex
 unfold Oper.wp
 rw[iv,Oper.upon_value,hd]
 exact hK _ _ ⟨X,h,r.put d v val hv⟩ (XF.refl _ _)
theorem wI(r:Rel T0 B σ a w X h)(hd:o.dst=some d)(hs:Step P o d σ σ')
  (hK:∀a' w',J5 T0 B σ' a' w'->XF B w w'->K a' w'):o.wp P a w K Q:=by
 have gy:(∃v,Yj P σ o.op o.type v/\σ'=σ.put d v)->o.wp P a w K Q:=by
  rintro⟨v,hv,rfl⟩
  exact TD r hd (Wt r hv) hK
 unfold Step at hs
 split at hs
 ·rename_i T iE
  obtain⟨hf,hz,row,hR,rfl⟩:=hs
  exact AK r iE hd hf hz hR (O2 d _ _ _ hR) hK
 ·rename_i T x iE
  obtain⟨hf,hg,gk,hr,rfl⟩:=hs
  exact ui r iE hd hf hg gk hr hK
 ·rename_i T n parts iE
  rcases hs with⟨hf,h1,h2,h3,h4,h5,⟨rows,h6,rfl⟩|⟨rows,h6,h7,rfl⟩⟩|⟨⟨h1,h2,h3,h4,h5⟩,rows,h6,rfl⟩
  ·exact Lh r iE hd hf h1 h2 h3 h4 h5 h6 hK
  ·exact PD r iE hd hf h1 h2 h3 h4 h5 h6 h7 hK
  ·exact D8 r iE hd h1 h2 h3 h4 h5 h6 hK
 ·rename_i T x y iE
  obtain⟨rfl,hf,h1,h2,h3,q,z,zr,k,n,hq,h4,h5,h6,h7,h8,rfl⟩:=hs
  cases q with
  |false=>exact HM r iE hd hf h1 h2 h4 h5 h3 h6 h7 h8 hK
  |true=>exact FM r iE hd hf h1 h2 h4 h5 (hq rfl) h3 h6 h7 h8 hK
 ·rename_i c iE
  split at hs
  ·rename_i hc
   obtain⟨x,y,t,ha,eQ,h1,h2,h3,h4,h5,iJ,news,σ1,h6,h7,h8,h9,cA,rfl⟩:=hs
   refine Dh r (t:=t) (x:=x) (y:=y) ?_ hd h1 h2 h3 h4 h5 h6 h7 h8 h9 cA hK
   rw[iE]
   obtain⟨cc,ca,ct⟩:=c
   simp only at hc ha eQ
   rw[hc,ha,eQ]
  ·rename_i f hc
   rcases hs with⟨own,res,⟨rows,ha,hs,gO⟩,rfl⟩|⟨res,⟨rows,ha,hs,gO⟩,hf,rfl⟩|⟨rows,res,qs,ha,hs,hq,hf,rfl⟩
   ·rcases gO with gO|gO
    ·exact Vi r iE hc hd ha true (fun _=>gO) (fun hh=>by cases hh) hs hK
    ·exact Vi r iE hc hd ha false (fun hh=>by cases hh) (fun _=>gO) hs hK
   ·rcases gO with gO|gO
    ·exact OV r iE hc hd hf ha true (fun _=>gO) (fun hh=>by cases hh) hs hK
    ·exact OV r iE hc hd hf ha false (fun hh=>by cases hh) (fun _=>gO) hs hK
   ·exact Bh r qs iE hc hd hf ha hs hq hK
  ·exact gy hs
 ·rename_i S T x iE
  rcases hs with hs|⟨l,h1,h2,h3,h4,rfl⟩|⟨s,h1,h2,h3,h4,h5,rfl⟩
  ·exact gy hs
  ·exact TD r hd (P0 r iE h1 h2 h3 h4) hK
  ·exact P1 r iE hd h1 h2 h3 h4 h5 hK
 ·exact gy hs
theorem Cc(r:Rel T0 B σ a w X h){T:TypeId}(iE:o.op= .store T x y)(hd:o.dst=none)(hs:qO P σ T x y σ')
  (hK:∀a' w',J5 T0 B σ' a' w'->XF B w w'->K a' w'):o.wp P a w K Q:=by
 obtain⟨ht,dH,dI,gk,hs⟩:=hs
 split at hs
 ·rename_i t c hx
  obtain⟨cells,ho,hl,hle,rfl⟩:=hs
  exact Gw r iE hd ht dH dI hx ho gk hl hle hK
 ·rename_i t j i c hx
  obtain⟨q,size,rows,ds,ho,hi,ck,hC,hl,hle,hq,rfl⟩:=hs
  refine GO r iE hd ht dH dI hx ho hi gk ck hC hl hle (fun hh=>⟨fun d ic=>?_,fun k d hk ic=>?_⟩) hK
  ·exact List.all_eq_true.1 (hq hh).1 d ic
  ·refine List.all_eq_true.1 (hq hh).2 d (List.mem_of_getElem? (i:=k) ?_)
   simp only[cut,List.getElem?_take,if_pos hk,List.getElem?_drop];exact ic
 ·exact hs.elim
theorem Lw{ob:Nat->Nat->Ob}(hf:(unc v).flat=true)(hv:JU T h ob w (unc v) val):zX T h ob w (unc v) val:=by
 cases hu:unc v with
 |one x=>rw[hu]at hv;exact hv
 |agg xs=>rw[hu]at hv;exact hv
 |any=>rw[hu]at hf;cases hf
 |tup xs=>rw[hu]at hf;cases hf
 |cnd g x=>rw[hu]at hf;cases hf
 |fix u x=>rw[hu]at hf;cases hf
theorem Aa(r:Rel T0 B σ a w X h)(ei:o.guard=some (j,want))(fA:(ops[j]?).bind (·.dst)=some dj)(iQ:dj<σ.length)(hg:jR want (σ.get dj)=some g):
  Region.wanted o (yielded ops a.tmps)=g:=by
 have gT:dj<a.tmps.size:=by rw[r.size];exact iQ
 have hv:=r.slot dj iQ
 have hgetD:a.tmps.getD dj undef=a.tmps[dj]:=by simp[gT]
 rw[hgetD]at hv
 have hy:yielded ops a.tmps j=(match a.tmps[dj]with|.bool b=>some b|_=>none):=by
  unfold yielded
  rw[fA]
  simp only[Option.bind_some,Array.getElem?_eq_getElem gT]
  cases a.tmps[dj]<;>rfl
 simp only[Region.wanted,ei,hy]
 unfold jR at hg
 split at hg
 ·rename_i b hgv
  rw[hgv]at hv
  rw[kX hv]
  cases hg
  cases b<;>cases want<;>rfl
 ·rename_i g0 b hgv
  rw[hgv]at hv
  cases hg
  cases g0 with
  |true=>
   rw[kX (hv.1 rfl)]
   cases b<;>cases want<;>rfl
  |false=>
   rw[hv.2 rfl]
   simp[undef]
 ·rename_i hgv
  rw[hgv]at hv
  cases hg
  rw[hv.2 rfl]
  simp[undef]
 ·cases hg
theorem AF(r:Rel T0 B σ a w X h)(hs:Xm P ops o σ σ')
  (hK:∀a' w',J5 T0 B σ' a' w'->XF B w w'->K a' w'):if Region.wanted o (yielded ops a.tmps)then o.wp P a w K Q else K (a.put o.dst undef) w:=by
 unfold Xm at hs
 split at hs
 ·rename_i hg
  have hw:Region.wanted o (yielded ops a.tmps)=true:=zBS
  rw[if_pos hw]
  split at hs
  ·rename_i d hd;exact wI r hd hs hK
  ·rename_i hd
   split at hs
   ·rename_i T x y iE;exact Cc r iE hd hs hK
   ·exact hs.elim
 ·rename_i j want hg
  obtain⟨dj,d,g,v,fA,iQ,hd,fK,hs,rfl⟩:=hs
  rw[Aa r hg fA iQ fK]
  cases g with
  |false=>
   simp only[Bool.false_eq_true,if_false]
   rw[hd]
   exact hK _ _ ⟨X,h,r.put d _ _ ⟨(fun hh=>by cases hh),fun _=>rfl⟩⟩ (XF.refl _ _)
  |true=>
   simp only[if_true]
   have gL:=hs rfl
   clear hs
   have gy:(∃v0,Yj P σ o.op o.type v0/\gOf v0=true/\v=unc v0/\v.flat=true)->o.wp P a w K Q:=by
    rintro⟨v0,aa,hg0,rfl,gk⟩
    obtain⟨val,iv,hv⟩:=Wt r aa
    refine TD (v:=.cnd true (unc v0)) r hd ⟨val,iv,⟨fun _=>Lw gk (hv.unc hg0),fun hh=>by cases hh⟩⟩ hK
   unfold M6 at gL
   split at gL
   ·rename_i c iE
    split at gL
    ·rename_i f hc
     obtain⟨own,res,⟨rows,ha,hs,gO⟩,rfl⟩:=gL
     have fin:∀a' w',J5 T0 B (σ.put d (jF [res])) a' w'->XF B w w'->K a' w':=by
      rintro a' w' ⟨X',h',r'⟩ hb
      refine hK a' w' ⟨X',h',?_⟩ hb
      refine⟨by rw[r'.size,St.Jd,St.Jd],r'.defers,r'.hB,r'.hX,r'.hT,fun t ht=>?_,fun t j=>?_,fun t j b=>?_,fun t j b=>?_,fun t j t' j' b=>?_⟩
      ·rw[St.Jd]at ht
       have h0:=r'.slot t (by rw[St.Jd];exact ht)
       rw[St.Jc]at h0⊢
       rw[St.zu]at h0⊢
       by_cases hh:t=d/\d<σ.length
       ·rw[if_pos hh]at h0⊢
        refine⟨fun _=>?_,fun hh=>by cases hh⟩
        have gk:(unc (vOf (res.map At.d))).flat=true:=by
         match res.map At.d with
         |[]=>rfl
         |[x]=>rfl
         |x::y::xs=>rfl
        have hu:unc (vOf (res.map At.d))=vOf (res.map At.d):=by
         match res.map At.d with
         |[]=>rfl
         |[x]=>rfl
         |x::y::xs=>rfl
        have:=Lw (v:=vOf (res.map At.d)) gk (by rw[hu];exact h0)
        rw[hu]at this;exact this
       ·rw[if_neg hh]at h0⊢;exact h0
      ·have:=r'.obj t j;rw[St.Jc]at this⊢;exact this
      ·have:=r'.ub t j b;rw[St.Jc]at this⊢;exact this
      ·have:=r'.own t j b;rw[St.Jc]at this⊢;exact this
      ·have:=r'.inj t j t' j' b;rw[St.Jc]at this⊢;exact this
     rcases gO with gO|gO
     ·exact Vi r iE hc hd ha true (fun _=>gO) (fun hh=>by cases hh) hs fin
     ·exact Vi r iE hc hd ha false (fun hh=>by cases hh) (fun _=>gO) hs fin
    ·exact gy gL
   ·exact gy gL
theorem Rg(hs:ze P ops bar o σ σ'):Ue P ops o σ σ':=by
 rcases hs with hs|hs
 ·rintro T0 B a w K Q ⟨X,h,r⟩ hK;exact AF r hs hK
 ·exact hs.2.1
theorem GQ{ops:Array Oper}{bar:Oper->Bool}:∀{l:List Oper}{σ:St}{a:Act}{w:World}{Q:St->Prop}{Q':Exit->Act->World->Prop},CD P ops bar l σ Q->J5 T0 B σ a w->
  (∀σ' a' w',Q σ'->J5 T0 B σ' a' w'->XF B w w'->Q' .normal a' w')->wpList P ops Q' l a w
 |[],σ,a,w,Q,Q',hr,g9,hK=>hK σ a w hr g9 (XF.refl _ _)
 |o::l,σ,a,w,Q,Q',⟨σ',hs,hr⟩,g9,hK=>by
  refine wpList_step fun K hKK=>?_
  exact Rg hs _ _ _ _ _ _ g9 (fun a' w' g9 hb=>hKK _ _ (GQ hr g9 (fun σ2 a2 w2 hq bV hZ=>hK σ2 a2 w2 hq bV (hb.trans hZ))))
open Go.RowKit
variable{cs gC:List Value}
def AWP(P:Program)(c:Code)(Q:Exit->St->Prop)(σ:St):Prop:=
 ∀(T0:CS)(B:Nat->Prop)(a:Act)(w:World),J5 T0 B σ a w->c.wp P (fun e a' w'=>∃σ',Q e σ'/\J5 T0 B σ' a' w'/\XF B w w') a w
def Wk(σ σ':St):Prop:=∀(T0:CS)(B:Nat->Prop)(a:Act)(w:World),J5 T0 B σ a w->J5 T0 B σ' a w
def GH(next:St->Prop)(Q:Exit->St->Prop):Exit->St->Prop
 |.normal,σ=>next σ
 |e,σ=>Q e σ
def PH(id:Nat)(Q:Exit->St->Prop):Exit->St->Prop
 |.exit id',σ=>if id'=id then Q .normal σ else Q (.exit id') σ
 |e,σ=>Q e σ
section
variable{Q:Exit->St->Prop}
theorem Wk.refl(σ:St):Wk σ σ:=fun _ _ _ _ h=>h
theorem Wk.trans{σ'':St}(h:Wk σ σ')(k:Wk σ' σ''):Wk σ σ'':=fun _ _ _ _ r=>k _ _ _ _ (h _ _ _ _ r)
theorem C6(h:∀e σ,Q e σ->Q' e σ)(k:AWP P c Q σ):AWP P c Q' σ:=
 fun T0 B a w r=>wp_mono (k T0 B a w r) fun e _ _ ⟨σ',hq,hr⟩=>⟨σ',h e σ' hq,hr⟩
theorem sw(h:Q .normal σ):AWP P .skip Q σ:=fun _ B _ w r=>wp_skip ⟨σ,h,r,XF.refl B w⟩
theorem tY(h:Q (.exit id) σ):AWP P (.exit id) Q σ:=fun _ B _ w r=>wp_exit ⟨σ,h,r,XF.refl B w⟩
theorem pE(h:Q .ret σ):AWP P .ret Q σ:=fun _ B _ w r=>wp_ret ⟨σ,h,r,XF.refl B w⟩
theorem w7{l:List Oper}(h:CD P l.toArray bar l σ (Q .normal)):AWP P (.region id l.toArray false) Q σ:=
 fun _ _ _ _ r=>wp_region_lit (GQ h r fun σ' _ _ hq hr hb=>⟨σ',hq,hr,hb⟩)
theorem pJ{x y:Code}(h:AWP P x (GH (AWP P y Q) Q) σ):AWP P (.seq x y) Q σ:=by
 intro T0 B a w r;refine wp_seq (wp_mono (h T0 B a w r) ?_);rintro e a' w' ⟨σ',hq,hr,hb⟩;cases e with
 |normal=>exact wp_mono (hq T0 B a' w' hr) fun e _ _ ⟨σ2,h1,h2,h3⟩=>⟨σ2,h1,h2,hb.trans h3⟩
 |exit id=>exact⟨σ',hq,hr,hb⟩
 |goto l=>exact⟨σ',hq,hr,hb⟩
 |ret=>exact⟨σ',hq,hr,hb⟩
 |panic ch=>exact⟨σ',hq,hr,hb⟩
 |outgrown=>exact⟨σ',hq,hr,hb⟩
theorem tq{c:Operand}{x y:Code}(hc:look P σ 0 c= .one (.d (.bool b)))(ht:b=true->AWP P x Q σ)(hf:b=false->AWP P y Q σ):AWP P (.cond c x y) Q σ:=by
 intro T0 B a w r;obtain⟨X,h,rr⟩:=r;have hv:=rr.look (P:=P) 0 c
 rw[hc]at hv;exact wp_cond_split (kX hv) (fun hb=>ht hb T0 B a w ⟨X,h,rr⟩) (fun hb=>hf hb T0 B a w ⟨X,h,rr⟩)
theorem uL(h:AWP P c (PH id Q) σ):AWP P (.block id c) Q σ:=by
 intro T0 B a w r;refine wp_block (wp_mono (h T0 B a w r) ?_);rintro e a' w' ⟨σ',hq,hr,hb⟩;cases e with
 |exit id'=>
  simp only[PH]at hq;simp only[Exit.inBlock];split at hq
  ·rename_i hh;rw[if_pos hh];exact⟨σ',hq,hr,hb⟩
  ·rename_i hh;rw[if_neg hh];exact⟨σ',hq,hr,hb⟩
 |normal=>exact⟨σ',hq,hr,hb⟩
 |goto l=>exact⟨σ',hq,hr,hb⟩
 |ret=>exact⟨σ',hq,hr,hb⟩
 |panic ch=>exact⟨σ',hq,hr,hb⟩
 |outgrown=>exact⟨σ',hq,hr,hb⟩
theorem W7{ι:Type}(S:ι->St)(μ:ι->Nat)(i0:ι)(h0:Wk σ (S i0))
  (round:∀i,AWP P c (GH (fun σ'=>∃i',μ i'<μ i/\Wk σ' (S i')) Q) (S i)):AWP P (.loop c) Q σ:=by
 intro T0 B a w r b k cs
 have key:∀n i a w,μ i=n->J5 T0 B (S i) a w->
   ∃e a' w',(∃σ',Q e σ'/\J5 T0 B σ' a' w'/\XF B w w')/\Arrives P (lone (b.at a (.code c:: .inLoop c::k)) cs w) b k cs e a' w':=by
  intro n
  induction n using Nat.strongRecOn with
  |_ n ih=>
   intro i a w hn hr
   obtain⟨e,a₁,w₁,⟨σ₁,hq,hr₁,hb₁⟩,gr⟩:=round i T0 B a w hr b (.inLoop c::k) cs
   cases e with
   |normal=>
    obtain⟨i',iQ,hwk⟩:=hq
    obtain⟨e₂,a₂,w₂,⟨σ₂,hq₂,hr₂,hb₂⟩,harr₂⟩:=ih (μ i') (hn▸iQ) i' a₁ w₁ rfl (hwk T0 B a₁ w₁ hr₁)
    exact⟨e₂,a₂,w₂,⟨σ₂,hq₂,hr₂,hb₁.trans hb₂⟩,.of_steps (Steps.trans gr (.one step_inLoop)) harr₂⟩
   |exit id=>exact⟨_,a₁,w₁,⟨σ₁,hq,hr₁,hb₁⟩,.pass (x:=.inLoop c) rfl (fun _ _=>.inl zAE) gr⟩
   |goto l=>exact⟨_,a₁,w₁,⟨σ₁,hq,hr₁,hb₁⟩,.pass (x:=.inLoop c) rfl (fun _ _=>.inl zAE) gr⟩
   |ret=>exact⟨_,a₁,w₁,⟨σ₁,hq,hr₁,hb₁⟩,.pass (x:=.inLoop c) rfl (fun _ _=>.inl zAE) gr⟩
   |panic ch=>exact⟨_,a₁,w₁,⟨σ₁,hq,hr₁,hb₁⟩,.pass (x:=.inLoop c) rfl (fun _ _=>.inl zAE) gr⟩
   |outgrown=>exact⟨_,a₁,w₁,⟨σ₁,hq,hr₁,hb₁⟩,.pass (x:=.inLoop c) rfl (fun _ _=>.inl zAE) gr⟩
 obtain⟨e,a',w',hq,gr⟩:=key _ i0 a w rfl (h0 T0 B a w r)
 exact⟨e,a',w',hq,.of_steps (.one step_loop) gr⟩
end
/-! ### entering a function, and leaving it -/
def Ow:List (List D)->St
 |[]=>[]
 |r::rs=>(vOf (r.map .d),[])::Ow rs
def ki(n:Nat)(args:List (List D)):St:=Ow args++List.replicate (n-args.length) (V.any,[])
def H8(P:Program)(σ:St):ResultVar->List At->Prop
 |.tmp t,xs=>(σ.get t=vOf xs)/\t<σ.length
 |.cell t T,xs=>∃u c cells,σ.get t= .one (.bptr u c)/\σ.ob u 0= .box cells/\qm P T=true/\TR P T=true/\P.cellsOf T≠1/\c+P.cellsOf T<=cells.length/\xs=cut cells c (P.cellsOf T)
def Sw(P:Program)(σ:St):List ResultVar->List (List At)->Prop
 |[],gi=>gi=[]
 |r::rs,gi=>∃xs rest,H8 P σ r xs/\Sw P σ rs rest/\gi=xs::rest
def WS(σ:St):List (List At)->Option (List (List D))
 |[]=>some []
 |xs::rest=>(match rowOf σ xs,WS σ rest with|some r,some rs=>some (r::rs)|_,_=>none)
def kj(σ:St):At->Option D
 |.d (.sl _ _)=>none
 |.d x=>some x
 |.nil s=>some (.sl s [])
 |.sref t j lo len=>(match σ.ob t j with|.arr false size rows=>if lo=0/\len=rows.length then some (.sl size rows)else none|_=>none)
 |_=>none
def ownRow(σ:St):List At->Option (List D)
 |[]=>some []
 |x::xs=>(match kj σ x,ownRow σ xs with|some d,some ds=>some (d::ds)|_,_=>none)
def Ur(σ:St):List (List At)->Option (List (List D))
 |[]=>some []
 |xs::rest=>(match ownRow σ xs,Ur σ rest with|some r,some rs=>some (r::rs)|_,_=>none)
def AE(P:Program)(fn:Func)(own:Bool)(res:List (List D))(e:Exit)(σ:St):Prop:=
 (e= .ret\/e= .normal)/\∃gi,Sw P σ fn.results.toList gi/\(if own then Ur σ gi=some res/\(XP gi.flatten).Nodup else WS σ gi=some res)
def uO(P:Program)(fn:Func)(res:List (List D))(e:Exit)(σ:St):Prop:=
 (e= .ret\/e= .normal)/\∃gi,Sw P σ fn.results.toList gi/\K2 σ gi=some res/\Kf σ gi/\(XP gi.flatten).Nodup
open Go.RowKit
variable{rest:List Oper}{fn:Func}{rv:List ResultVar}{gi:List (List At)}
theorem Ri:∀(args:List (List D))(t:Nat),(Ow args)[t]?=(args[t]?).map fun r=>(vOf (r.map .d),[])
 |[],t=>by simp[Ow]
 |r::rs,0=>by simp[Ow]
 |r::rs,t+1=>by simpa[Ow]using Ri rs t
theorem Jh(args:List (List D)):(Ow args).length=args.length:=by
 induction args with
 |nil=>rfl
 |cons r rs ih=>simp[Ow,ih]
theorem Hr(hT:∀b k,T b k->b<w.heap.size)(ha:YC (fun v row=>∃cs,yw v cs/\YC (Rd T w) cs row) gC args):
  J5 T (fun b=>b<w.heap.size) (ki n args) {tmps:=gC.toArray++Array.replicate (n-gC.toArray.size) undef,defers:=[]} w:=by
 have hl:=ha.length
 refine⟨fun _=>False,fun _ _=>Hd.of undef,?_⟩
 have iu:∀t j,(ki n args).ob t j= .none:=by
  intro t j
  unfold St.ob ki
  rcases Nat.lt_or_ge t args.length with h|h
  ·rw[List.getElem?_append_left zB2,Ri,List.getElem?_eq_getElem h]
   simp[Yt]
  ·rw[List.getElem?_append_right zB2,List.getElem?_replicate]
   split
   ·rename_i e he
    split at he
    ·cases he;simp[Yt]
    ·cases he
   ·rfl
 have bY:∀b k v,T b k->w.cell? ⟨b,k,none⟩=some v->w.cell? ⟨b,k,none⟩=some v/\Tof T (fun _=>False) b k:=fun b k v hb hc=>⟨hc,.inl hb⟩
 refine⟨by simp[ki,Jh,hl],rfl,(fun b hb=>hb),(fun b hb=>hb.elim),hT,fun t ht=>?_,fun t j=>by rw[iu];trivial,fun t j b iH=>absurd (iu t j) iH,fun t j b iH=>absurd (iu t j) iH,fun t j t' j' b iH=>absurd (iu t j) iH⟩
 unfold St.get ki
 rcases Nat.lt_or_ge t args.length with iQ|ej
 ·rw[List.getElem?_append_left (by rw[Jh];exact iQ),Ri,List.getElem?_eq_getElem iQ]
  obtain⟨v,hv,cs,hf,iN⟩:=ha.get' t args[t] (List.getElem?_eq_getElem iQ)
  have eV:(gC.toArray++Array.replicate (n-gC.toArray.size) undef).getD t undef=v:=by
   rw[Array.getD_eq_getD_getElem?,Array.getElem?_append_left zAo]
   simp[hv]
  simp only[eV]
  exact(He hf (Vq (iN.imp fun _ _=>Rd.mono bY))).up
 ·rw[List.getElem?_append_right (by rw[Jh];exact ej),List.getElem?_replicate]
  split
  ·rename_i e he
   split at he
   ·cases he;trivial
   ·cases he
  ·trivial
theorem pQ{ob:Nat->Nat->Ob}{xs:List At}{v:Value}(hv:JU T h ob w (vOf xs) v):∃cs,yw v cs/\YC (YK T h ob w) xs cs:=by
 match xs,hv with
 |[],hv=>
  obtain⟨cs,rfl,iN⟩:=hv;exact⟨cs.toList,.inr ⟨by rw[<-iN.length];simp,zAE⟩,iN⟩
 |[x],hv=>exact⟨[v],.inl ⟨v,rfl,rfl,YK.QQ hv⟩,.cons hv .nil⟩
 |x::y::xs,hv=>
  obtain⟨cs,rfl,iN⟩:=hv;exact⟨cs.toList,.inr ⟨by rw[<-iN.length];simp,zAE⟩,iN⟩
theorem vU(r:Rel T0 B σ a w X h):∀{rs:List ResultVar}{gi:List (List At)},Sw P σ rs gi->
  ∃vs hQ,(rs.mapM (m:=Sem) fun|.tmp t=>pure (a.tmps.getD t undef)|.cell u t=>do loadVar t (<-asAddr (a.tmps.getD u undef))).run P w= .ok vs w/\YC yw vs hQ/\YC (fun xs cs=>YC (YK (Tof T0 X) h σ.ob w) xs cs) gi hQ
 |[],gi,hr=>by cases hr;exact⟨[],[],zAE,.nil,.nil⟩
 |rv::rs,gi,hr=>by
  obtain⟨xs,rest,h1,h2,rfl⟩:=hr
  obtain⟨vs,hQ,iv,hf,iN⟩:=vU r h2
  have one:∃v cs,(match rv with|.tmp t=>(pure (a.tmps.getD t undef):Sem Value)|.cell u t=>do loadVar t (<-asAddr (a.tmps.getD u undef))).run P w= .ok v w/\yw v cs/\YC (YK (Tof T0 X) h σ.ob w) xs cs:=by
   cases rv with
   |tmp t=>
    obtain⟨hg,iQ⟩:=h1
    have hv:=r.slot t iQ
    rw[hg]at hv
    obtain⟨cs,hf,iN⟩:=pQ hv
    exact⟨_,cs,zAE,hf,iN⟩
   |cell t T=>
    obtain⟨u,c,cells,hg,ho,fu,dQ,iH,hle,rfl⟩:=h1
    have hv:=r.get t
    rw[hg]at hv
    obtain⟨b,cs,e,hb,he,hh,iN⟩:=r.box ho hv
    have hlen:=iN.length
    obtain⟨val,hld,hagg,_⟩:=rU (P:=P) (w:=w) fu (b:=b) (off:=c) (cs:=cut cs.toList c (P.cellsOf T)) (XZ _ _ _ zAA) (fun j u hu=>zl hh _ _ (zy _ _ _ _ _ hu))
    refine⟨val,cut cs.toList c (P.cellsOf T),?_,.inr ⟨by rw[XZ _ _ _ zAA];exact iH,hagg dQ⟩,iN.cut _ _⟩
    simp only[Instr.loadAt,Instr.sureAddr,Sem.run_bind,Sem.run_pure,Result.andThen_ok]at hld
    simp only[he,asAddr,Sem.run_bind,Sem.run_pure,Result.andThen_ok]
    exact hld
  obtain⟨v,cs,hrun1,hf1,hal1⟩:=one
  refine⟨v::vs,cs::hQ,?_,.cons hf1 hf,.cons hal1 iN⟩
  simp only[List.mapM_cons,Sem.run_bind,hrun1,Result.andThen_ok,iv,Sem.run_pure]
theorem Wu(r:Rel T0 B σ a w X h)(hr:Sw P σ fn.results.toList gi):
  ∃vs hQ,(results fn a.tmps).run P w= .ok (PX vs) w/\YC yw vs hQ/\YC (fun xs cs=>YC (YK (Tof T0 X) h σ.ob w) xs cs) gi hQ:=by
 obtain⟨vs,hQ,iv,hf,iN⟩:=vU r hr
 refine⟨vs,hQ,?_,hf,iN⟩
 unfold results
 rw[Array.mapM_eq_mapM_toList]
 change(((fn.results.toList.mapM (m:=Sem) fun|.tmp t=>pure (a.tmps.getD t undef)|.cell u t=>do loadVar t (<-asAddr (a.tmps.getD u undef)))>>=fun l=>pure l.toArray)>>=fun(vs:Array Value)=>pure (if h:vs.size=1 then vs[0]else .tuple vs)).run P w=_
 simp only[Sem.run_bind,iv,Result.andThen_ok,Sem.run_pure]
 congr 1
 match vs with
 |[]=>rfl
 |[v]=>rfl
 |v::v'::vs=>simp[PX]
theorem SZ(r:Rel T0 B σ a w X h){T:CS}(hT:∀b k,O4 T0 X h σ b k->T b k):∀{gi:List (List At)}{hQ:List (List Value)}{res:List (List D)},WS σ gi=some res->YC (fun xs cs=>YC (YK (Tof T0 X) h σ.ob w) xs cs) gi hQ->
  YC (fun cs row=>YC (jD false T w) cs row) hQ res
 |[],hQ,res,hr,iN=>by cases iN;simp[WS]at hr;subst hr;exact .nil
 |xs::gi,hQ,res,hr,iN=>by
  cases iN with
  |cons h1 iN=>
   simp only[WS]at hr
   split at hr
   ·rename_i row rs hR eJ
    cases hr
    refine .cons ?_ (SZ r hT eJ iN)
    have:=r.rowOf false hR h1 (fun hh=>by cases hh)
    refine this.imp fun v d hd=>?_
    simp only[jD,Bool.false_eq_true,if_false]at hd⊢
    exact Rd.mono (fun b k v hb hc=>⟨hc,hT b k hb⟩) hd
   ·cases hr
theorem FD:∀{xs:List At}{ds:List D},ownRow σ xs=some ds->YC (fun x d=>kj σ x=some d) xs ds
 |[],ds,hr=>by simp[ownRow]at hr;subst hr;exact .nil
 |x::xs,ds,hr=>by
  simp only[ownRow]at hr
  split at hr
  ·rename_i d bD h1 h2;cases hr;exact .cons h1 (FD h2)
  ·cases hr
theorem L3:∀{gi:List (List At)}{res:List (List D)},Ur σ gi=some res->YC (fun xs row=>YC (fun x d=>kj σ x=some d) xs row) gi res
 |[],res,hr=>by simp[Ur]at hr;subst hr;exact .nil
 |xs::gi,res,hr=>by
  simp only[Ur]at hr
  split at hr
  ·rename_i d bD h1 h2;cases hr;exact .cons (FD h1) (L3 h2)
  ·cases hr
theorem Sf(r:Rel T0 B σ a w X h){x:At}{d:D}{v:Value}(hx:kj σ x=some d)(hv:YK (Tof T0 X) h σ.ob w x v):KN (Tof T0 X) w v d/\(∀b,d.scalar=false->blk v=some b->∃t j lo len,x= .sref t j lo len/\σ.ob t j≠ .none/\(h t j).u b):=by
 cases x with
 |d x=>
  cases x with
  |sl s rows=>simp[kj]at hx
  |int k n=>simp[kj]at hx;subst hx;exact⟨hv,fun b hb=>by cases hb⟩
  |bool b=>simp[kj]at hx;subst hx;exact⟨hv,fun b hb=>by cases hb⟩
  |str s=>simp[kj]at hx;subst hx;exact⟨hv,fun b hb=>by cases hb⟩
  |unk=>simp[kj]at hx;subst hx;exact⟨hv,fun b hb=>by cases hb⟩
 |nil s=>
  simp[kj]at hx;subst hx;cases hv;exact⟨⟨0,[],World.ownsRow_nil w 0 0 s,zBA,.nil⟩,fun b _ hb=>by cases hb⟩
 |sref t j lo len=>
  simp only[kj]at hx;split at hx
  ·rename_i size rows ho;split at hx
   ·rename_i hc;obtain⟨rfl,rfl⟩:=hc;cases hx;obtain⟨_,g5,_⟩:=hv.2.1 _ size rows ho;have he:=g5 rfl rfl
    have h0:=r.obj t j;have ga:=r.ub t j;rw[ho]at h0 ga;refine⟨by rw[he];exact h0,fun b _ hb=>⟨t,j,0,rows.length,rfl,by rw[ho];simp,ga b zAE (by rw[<-he];exact hb)⟩⟩
   ·cases hx
  ·cases hx
 |any=>simp[kj]at hx
 |ptr=>simp[kj]at hx
 |bptr=>simp[kj]at hx
 |fn=>simp[kj]at hx
 |rptr=>simp[kj]at hx
 |tref=>simp[kj]at hx
theorem Dl(hf:P.funcs[f]?=some fn)(hb:fn.body=some c)(iz:Tf P f=true){own:Bool}
  (hw:AWP P c (AE P fn own res) (ki fn.ntmps args)):JK P f own args res:=by
 refine⟨iz,fun T w gC hT iT=>calls_of_wp hf hb ?_⟩
 refine wp_mono (hw T (fun b=>b<w.heap.size) _ w (Hr hT iT)) ?_
 rintro e a' w' ⟨σ',⟨he,gi,fE,iZ⟩,⟨X,h,r⟩,ir⟩
 have fF:Below w.heap.size w w':=⟨ir.os,ir.tape,ir.output,ir.size,ir.block⟩
 obtain⟨vs,hQ,iv,gA,iN⟩:=Wu r fE
 have goal:a'.defers=[]/\∃v,(results fn a'.tmps).run P w'= .ok v w'/\nu own T w res (.returned v) w':=by
  refine⟨r.defers,_,iv,?_⟩
  cases own with
  |false=>
   refine⟨vs,hQ,fun b=>w.heap.size<=b/\b<w'.heap.size,rfl,fF,fun b hb=>hb,gA,?_,fun hh=>by cases hh⟩
   refine SZ r (fun b k hb=>?_) (by simpa using iZ) iN
   rcases hb with hb|⟨t,j,q,size,rows,ho,hb⟩
   ·rcases hb with hb|hb
    ·exact .inl hb
    ·have:=r.hX b hb;exact .inr ⟨zAA,this.2⟩
   ·have:=r.own t j b zAx hb
    exact .inr ⟨zAA,this.2.2⟩
  |true=>
   simp only[if_true]at iZ
   obtain⟨iS,gP⟩:=iZ
   have gR:=L3 iS
   have dR:YC (fun x d=>kj σ' x=some d) gi.flatten res.flatten:=qu gR
   have dS:YC (YK (Tof T X) h σ'.ob w') gi.flatten hQ.flatten:=qu iN
   refine⟨vs,hQ,X,rfl,fF,(fun b hb=>by have:=r.hX b hb;exact⟨zAA,this.2⟩),gA,?_,fun _=>⟨fun i cc d b hc hd gV hb=>?_,fun i j cc cc' d d' b hc hd gD ic gV hsc' hb iq=>?_⟩⟩
   ·clear dR dS gA iv fE iS gP he hw
    induction gR generalizing hQ with
    |nil=>cases iN;exact .nil
    |cons hr _ ih=>
     cases iN with
     |cons bV iN=>
      refine .cons ?_ (ih _ iN)
      clear ih iN
      refine YC.qA (by rw[<-bV.length,hr.length]) (fun i v d hv hd=>?_)
      obtain⟨x,hx,hxd⟩:=hr.get' i d hd
      obtain⟨v',eK,hxv⟩:=bV.get i x hx
      rw[hv]at eK;cases eK
      simp only[jD,if_true]
      exact(Sf r hxd hxv).1
   ·obtain⟨x,hx,hxd⟩:=dR.get' i d hd
    obtain⟨v',eK,hxv⟩:=dS.get i x hx
    rw[hc]at eK;cases eK
    obtain⟨t,j,lo,len,_,iH,fy⟩:=(Sf r hxd hxv).2 b gV hb
    have:=r.own t j b iH fy
    exact⟨zAA,this.2.2,this.2.1⟩
   ·obtain⟨x,hx,hxd⟩:=dR.get' i d hd
    obtain⟨v',eK,hxv⟩:=dS.get i x hx
    rw[hc]at eK;cases eK
    obtain⟨x2,hx2,hxd2⟩:=dR.get' j d' ic
    obtain⟨v2,gQ,hxv2⟩:=dS.get j x2 hx2
    rw[gD]at gQ;cases gQ
    obtain⟨t,u,lo,len,rfl,iH,fy⟩:=(Sf r hxd hxv).2 b gV hb
    obtain⟨t2,u2,lo2,len2,rfl,bm,hbb2⟩:=(Sf r hxd2 hxv2).2 b hsc' iq
    obtain⟨rfl,rfl⟩:=r.inj t u t2 u2 b iH bm fy hbb2
    exact Lv _ i j t u lo len lo2 len2 gP hx hx2
 rcases he with rfl|rfl
 ·exact goal
 ·exact goal
theorem ET(hf:P.funcs[f]?=some fn)(hb:fn.body=some c)(iz:Tf P f=true)
  (hw:AWP P c (uO P fn res) (ki fn.ntmps args)):Yg P f args res:=by
 refine⟨iz,fun T w gC hT iT=>calls_of_wp hf hb ?_⟩
 refine wp_mono (hw T (fun b=>b<w.heap.size) _ w (Hr hT iT)) ?_
 rintro e a' w' ⟨σ',⟨he,gi,fE,fQ,fg,gP⟩,⟨X,h,r⟩,ir⟩
 have fF:Below w.heap.size w w':=⟨ir.os,ir.tape,ir.output,ir.size,ir.block⟩
 obtain⟨vs,hQ,iv,gA,iN⟩:=Wu r fE
 have goal:a'.defers=[]/\∃v,(results fn a'.tmps).run P w'= .ok v w'/\oe w res (.returned v) w':=by
  refine⟨r.defers,_,iv,vs,hQ,rfl,fF,gA,?_,?_⟩
  ·clear gP fg fE iv gA hw
   induction iN generalizing res with
   |nil=>simp[K2]at fQ;subst fQ;exact .nil
   |cons h1 _ ih=>
    simp only[K2]at fQ
    split at fQ
    ·rename_i row rs hR eJ
     cases fQ
     exact .cons (by rw[<-h1.length];exact(qk hR).1) (ih eJ)
    ·cases fQ
  ·refine(Ro r (qu iN) (qD fQ).1 (xl fg) gP).mono (fun b hb=>?_)
   have:=r.yQ _ b hb
   exact⟨zAA,this.2.2.1⟩
 rcases he with rfl|rfl
 ·exact goal
 ·exact goal
open Go.RowKit
variable{os:List Ob}{op:BinOp}
theorem St.ta(e:Ent)(σ:St):St.get (e::σ) 0=e.1:=rfl
theorem St.tP(e:Ent)(σ:St)(n:Nat):St.get (e::σ) (n+1)=St.get σ n:=by simp[St.get]
theorem St.pK(e:Ent)(σ:St)(j:Nat):St.ob (e::σ) 0 j=Yt e.2 j:=rfl
theorem St.pc(e:Ent)(σ:St)(n j:Nat):St.ob (e::σ) (n+1) j=St.ob σ n j:=by simp[St.ob]
theorem DT(o:Ob)(os:List Ob):Yt (o::os) 0=o:=rfl
theorem WU(o:Ob)(os:List Ob)(n:Nat):Yt (o::os) (n+1)=Yt os n:=by simp[Yt]
theorem sA(n:Nat):Yt [] n= .none:=by simp[Yt]
def lkI(P:Program)(σ:St)(x:Operand):Prop×Int:=
 match unc (look P σ 0 x)with
 |.one (.d (.int _ n))=>(gOf (look P σ 0 x)=true,n)
 |_=>(False,0)
def lkK(P:Program)(σ:St)(x:Operand):IntKind:=
 match unc (look P σ 0 x)with
 |.one (.d (.int k _))=>k
 |_=>.i64
theorem W8(h:(lkI P σ x).1):Um P σ x (lkK P σ x) (lkI P σ x).2:=by
 unfold lkI at h⊢;unfold lkK;unfold Um;split at h
 ·rename_i k n heq;rw[heq];exact⟨h,rfl⟩
 ·exact h.elim
def xA(P:Program)(σ:St)(gy:Nat):Option Operand->Prop×Nat
 |none=>(True,gy)
 |some x=>((lkI P σ x).1/\0<=(lkI P σ x).2,(lkI P σ x).2.toNat)
theorem T4{x:Option Operand}(h:(xA P σ gy x).1):bnd P σ gy x (xA P σ gy x).2:=by
 cases x with
 |none=>rfl
 |some x=>
  have h1:=W8 h.1;exact⟨_,_,h1.1,h1.2,h.2,rfl⟩
def rowAt(rows:List (List D))(i:Nat):List D:=rows.getD i []
def bAt(s:ByteArray)(i:Nat):Nat:=(s.data.toList.getD i 0).toNat
def PC(P:Program)(σ:St)(T:TypeId)(x ix:Operand):Prop×V:=
 match unc (look P σ 0 x)with
 |.one (.d (.sl size rows))=>((gOf (look P σ 0 x)=true/\(lkI P σ ix).1)/\0<=(lkI P σ ix).2/\(Xj P T=true/\size=P.cellsOf (ZV P T)/\0<size)/\(lkI P σ ix).2<(rows.length:Int),.one (.rptr (rowAt rows (lkI P σ ix).2.toNat) 0))
 |.one (.sref t j lo len)=>((gOf (look P σ 0 x)=true/\(lkI P σ ix).1)/\0<=(lkI P σ ix).2/\(Xj P T=true/\0<P.cellsOf (ZV P T)/\(match σ.ob t j with|.arr _ size _=>size=P.cellsOf (ZV P T)|_=>False))/\(lkI P σ ix).2<(len:Int),.one (.ptr t j (lo+(lkI P σ ix).2.toNat) 0))
 |.one (.tref t j m c none)=>((gOf (look P σ 0 x)=true/\(lkI P σ ix).1)/\0<=(lkI P σ ix).2/\(Xj P T=true/\0<P.cellsOf (ZV P T))/\(match σ.ob t j with|.arr true _ rows=>m<rows.length/\(match(rowAt rows m)[c]? with|some (.sl n s)=>n=P.cellsOf (ZV P T)/\(lkI P σ ix).2<(s.length:Int)|_=>False)|_=>False),.one (.tref t j m c (some ((lkI P σ ix).2.toNat*P.cellsOf (ZV P T)))))
 |.one (.bptr t c)=>((gOf (look P σ 0 x)=true/\(lkI P σ ix).1)/\0<=(lkI P σ ix).2/\(match σ.ob t 0 with|.box _=>True|_=>False)/\(match D0 P T with|some n=>1<n/\(lkI P σ ix).2<(n:Int)|none=>False),.one (.bptr t (c+(lkI P σ ix).2.toNat*P.cellsOf (ZV P T))))
 |_=>(False,.any)
def Ap(P:Program)(σ:St)(T:TypeId)(x:Operand):Prop×V:=
 match unc (look P σ 0 x)with
 |.one (.bptr t c)=>(match σ.ob t 0 with|.box cells=>(gOf (look P σ 0 x)=true/\qm P T=true/\c+P.cellsOf T<=cells.length,ldV P T (cut cells c (P.cellsOf T)))|_=>(False,.any))
 |.one (.ptr t j i c)=>(match σ.ob t j with|.arr q size rows=>((gOf (look P σ 0 x)=true/\qm P T=true/\c+P.cellsOf T<=size)/\i<rows.length,ldV P T (Si q t j i c (cut (rowAt rows i) c (P.cellsOf T))))|_=>(False,.any))
 |.one (.rptr r c)=>(gOf (look P σ 0 x)=true/\qm P T=true/\c+P.cellsOf T<=r.length,ldV P T ((cut r c (P.cellsOf T)).map .d))
 |.one (.tref t j i c (some k))=>(match σ.ob t j with
  |.arr true _ rows=>(match(rowAt rows i)[c]? with
   |some (.sl 1 s)=>((gOf (look P σ 0 x)=true/\qm P T=true)/\i<rows.length/\P.cellsOf T=1/\k<s.length/\(rowAt s k).all D.scalar=true,ldV P T ((rowAt s k).map .d))
   |_=>(False,.any))
  |_=>(False,.any))
 |_=>(False,.any)
def RW(P:Program)(σ:St)(T:TypeId)(x:Operand)(f:Nat):Prop×V:=
 match unc (look P σ 0 x)with
 |.one (.bptr t c)=>(gOf (look P σ 0 x)=true/\kp P T f=true/\(match σ.ob t 0 with|.box _=>True|_=>False),.one (.bptr t (c+JF P T f)))
 |.one (.ptr t j i c)=>(gOf (look P σ 0 x)=true/\kp P T f=true/\(match σ.ob t j with|.arr _ _ _=>True|_=>False),.one (.ptr t j i (c+JF P T f)))
 |.one (.rptr r c)=>(gOf (look P σ 0 x)=true/\kp P T f=true,.one (.rptr r (c+JF P T f)))
 |.one (.tref t j i c (some k))=>(gOf (look P σ 0 x)=true/\kp P T f=true/\(match σ.ob t j with|.arr true _ _=>True|_=>False),.one (.tref t j i c (some (k+JF P T f))))
 |_=>(False,.any)
def Ey(P:Program)(op:BinOp)(T:TypeId)(x y:V):Prop×V:=
 match op,x,y with
 |.eql,.one (.d (.int k m)),.one (.d (.int k' n))=>(k'=k,.one (.d (.bool (m==n))))
 |.neq,.one (.d (.int k m)),.one (.d (.int k' n))=>(k'=k,.one (.d (.bool (m !=n))))
 |.lss,.one (.d (.int k m)),.one (.d (.int k' n))=>(k'=k,.one (.d (.bool (decide (m<n)))))
 |.leq,.one (.d (.int k m)),.one (.d (.int k' n))=>(k'=k,.one (.d (.bool (decide (m<=n)))))
 |.gtr,.one (.d (.int k m)),.one (.d (.int k' n))=>(k'=k,.one (.d (.bool (decide (m>n)))))
 |.geq,.one (.d (.int k m)),.one (.d (.int k' n))=>(k'=k,.one (.d (.bool (decide (m>=n)))))
 |.add,.one (.d (.int k m)),.one (.d (.int k' n))=>(k'=k,.one (.d (.int k (k.wrap (m+n)))))
 |.sub,.one (.d (.int k m)),.one (.d (.int k' n))=>(k'=k,.one (.d (.int k (k.wrap (m-n)))))
 |.mul,.one (.d (.int k m)),.one (.d (.int k' n))=>(k'=k,.one (.d (.int k (k.wrap (m*n)))))
 |.quo,.one (.d (.int k m)),.one (.d (.int k' n))=>(k'=k/\n≠0,.one (.d (.int k (k.wrap (m.tdiv n)))))
 |.rem,.one (.d (.int k m)),.one (.d (.int k' n))=>(k'=k/\n≠0,.one (.d (.int k (m.tmod n))))
 |.and,.one (.d (.int k m)),.one (.d (.int k' n))=>(k'=k,.one (.d (.int k (EY k m n))))
 |.or,.one (.d (.int k m)),.one (.d (.int k' n))=>(k'=k,.one (.d (.int k (iOr k m n))))
 |.xor,.one (.d (.int k m)),.one (.d (.int k' n))=>(k'=k,.one (.d (.int k (te k m n))))
 |.shl,.one (.d (.int k m)),.one (.d (.int _ n))=>(0<=n,.one (.d (.int k (k.wrap (m*2^min n.toNat k.bits)))))
 |.shr,.one (.d (.int k m)),.one (.d (.int _ n))=>(0<=n,.one (.d (.int k (m.fdiv (2^min n.toNat k.bits)))))
 |.add,.one (.d (.str m)),.one (.d (.str n))=>(((m.size+n.size:Nat):Int)<=9223372036854775807,.one (.d (.str (m++n))))
 |.eql,.one (.d (.str m)),.one (.d (.str n))=>(True,.one (.d (.bool (decide (m=n)))))
 |.neq,.one (.d (.str m)),.one (.d (.str n))=>(True,.one (.d (.bool (!decide (m=n)))))
 |.eql,.one (.d (.bool m)),.one (.d (.bool n))=>(Lu P T=true,.one (.d (.bool (m==n))))
 |.neq,.one (.d (.bool m)),.one (.d (.bool n))=>(Lu P T=true,.one (.d (.bool (!(m==n)))))
 |.eql,.agg xs,.agg ys=>(P5 P T=true/\(JB P (zx P T) xs ys).isSome=true,.one (.d (.bool ((JB P (zx P T) xs ys).getD false))))
 |.neq,.agg xs,.agg ys=>(P5 P T=true/\(JB P (zx P T) xs ys).isSome=true,.one (.d (.bool (!(JB P (zx P T) xs ys).getD false))))
 |_,_,_=>(False,.any)
def Sg(P:Program)(σ:St)(T:TypeId):List (Nat×Operand)->List At->Prop×List At
 |[],r=>(True,r)
 |(i,x)::ps,r=>((bOk P T i=true/\gOf (look P σ (bTy P T i) x)=true/\(unc (look P σ (bTy P T i) x)).flat=true/\
   (unc (look P σ (bTy P T i) x)).cells.length=P.cellsOf (bTy P T i)/\RP P T i+P.cellsOf (bTy P T i)<=r.length)/\(Sg P σ T ps (place r (RP P T i) (unc (look P σ (bTy P T i) x)).cells)).1,
   (Sg P σ T ps (place r (RP P T i) (unc (look P σ (bTy P T i) x)).cells)).2)
theorem Hj{P:Program}{σ:St}{T:TypeId}:∀{ps:List (Nat×Operand)}{r:List At},(Sg P σ T ps r).1->Tr P σ T ps r (Sg P σ T ps r).2
 |[],_,_=>rfl
 |(_,_)::_,_,h=>⟨h.1.1,h.1.2.1,h.1.2.2.1,h.1.2.2.2.1,h.1.2.2.2.2,Hj h.2⟩
def isB:V->Bool
 |.one (.d (.bool _))=>true
 |_=>false
def bOf:V->Bool
 |.one (.d (.bool b))=>b
 |_=>false
theorem sF:∀{v:V},isB v=true->v= .one (.d (.bool (bOf v)))
 |.one (.d (.bool _)),_=>rfl
def evV(P:Program)(σ:St)(op:Op)(ty:TypeId):Prop×V:=
 match op with
 |.move x=>(True,look P σ ty x)
 |.assign x=>(True,look P σ ty x)
 |.pick c a b=>
  (match unc (look P σ ty c)with
  |.one (.d (.bool bc))=>((gOf (look P σ ty c)=true/\(bc=true->isB (unc (look P σ ty a))=true)/\(bc=false->isB (unc (look P σ ty b))=true))/\(bc=true->gOf (look P σ ty a)=true)/\(bc=false->gOf (look P σ ty b)=true),.one (.d (.bool (cond bc (bOf (unc (look P σ ty a))) (bOf (unc (look P σ ty b)))))))
  |_=>(False,.any))
 |.load T x=>Ap P σ T x
 |.fieldAddr T x f=>RW P σ T x f
 |.nilCheck x=>(match unc (look P σ 0 x)with
  |.one (.bptr t c)=>(gOf (look P σ 0 x)=true/\(match σ.ob t 0 with|.box _=>True|_=>False),.one (.bptr t c))
  |_=>(False,.any))
 |.indexAddr T x ix=>PC P σ T x ix
 |.index T x ix=>
  (match unc (look P σ 0 x)with
  |.one (.d (.str s))=>((gOf (look P σ 0 x)=true/\(lkI P σ ix).1)/\0<=(lkI P σ ix).2/\Su P T=true/\(lkI P σ ix).2<(s.size:Int),.one (.d (.int .u8 (bAt s (lkI P σ ix).2.toNat))))
  |.agg xs=>((gOf (look P σ 0 x)=true/\(lkI P σ ix).1)/\0<=(lkI P σ ix).2/\(match D0 P T with|some n=>(lkI P σ ix).2<(n:Int)|none=>False)/\qm P (ZV P T)=true/\(lkI P σ ix).2.toNat*P.cellsOf (ZV P T)+P.cellsOf (ZV P T)<=xs.length,
    ldV P (ZV P T) (cut xs ((lkI P σ ix).2.toNat*P.cellsOf (ZV P T)) (P.cellsOf (ZV P T))))
  |_=>(False,.any))
 |.slice T x lo hi none=>
  (match unc (look P σ 0 x)with
  |.one (.d (.str s))=>((gOf (look P σ 0 x)=true/\Su P T=true/\(xA P σ 0 lo).1/\(xA P σ s.size hi).1)/\(xA P σ 0 lo).2<=(xA P σ s.size hi).2/\(xA P σ s.size hi).2<=s.size,.one (.d (.str (s.extract (xA P σ 0 lo).2 (xA P σ s.size hi).2))))
  |.one (.d (.sl size rows))=>((gOf (look P σ 0 x)=true/\Xj P T=true/\size=P.cellsOf (ZV P T)/\(xA P σ 0 lo).1/\(xA P σ rows.length hi).1)/\(xA P σ 0 lo).2<=(xA P σ rows.length hi).2/\(xA P σ rows.length hi).2<=rows.length,
    .one (.d (.sl size (cut rows (xA P σ 0 lo).2 ((xA P σ rows.length hi).2-(xA P σ 0 lo).2)))))
  |.one (.sref t j o len)=>((gOf (look P σ 0 x)=true/\Xj P T=true/\(match σ.ob t j with|.arr _ size _=>size=P.cellsOf (ZV P T)|_=>False)/\(xA P σ 0 lo).1/\(xA P σ len hi).1)/\(xA P σ 0 lo).2<=(xA P σ len hi).2/\(xA P σ len hi).2<=len,
    .one (.sref t j (o+(xA P σ 0 lo).2) ((xA P σ len hi).2-(xA P σ 0 lo).2)))
  |_=>(False,.any))
 |.binOp op T x y _=>((gOf (look P σ T x)=true/\gOf (look P σ T y)=true)/\(Ey P op T (unc (look P σ T x)) (unc (look P σ T y))).1,(Ey P op T (unc (look P σ T x)) (unc (look P σ T y))).2)
 |.unOp .not _ x=>(match unc (look P σ 0 x)with|.one (.d (.bool b))=>(gOf (look P σ 0 x)=true,.one (.d (.bool (!b))))|_=>(False,.any))
 |.unOp .neg _ x=>(match unc (look P σ 0 x)with|.one (.d (.int k n))=>(gOf (look P σ 0 x)=true,.one (.d (.int k (k.wrap (-n)))))|_=>(False,.any))
 |.convert S T x=>(match unc (look P σ 0 x),wq P T with|.one (.d (.int _ n)),some k=>(gOf (look P σ 0 x)=true/\(P.underlying S).isSome=true,.one (.d (.int k (k.wrap n))))|_,_=>(False,.any))
 |.extract x i=>(match unc (look P σ 0 x)with|.tup xs=>(gOf (look P σ 0 x)=true/\i<xs.length/\(xs.getD i .any).flat=true,xs.getD i .any)|_=>(False,.any))
 |.field T x f=>
  (match unc (look P σ 0 x)with
  |.agg xs=>(gOf (look P σ 0 x)=true/\kp P T f=true/\qm P (qf P T f)=true/\JF P T f+P.cellsOf (qf P T f)<=xs.length,ldV P (qf P T f) (cut xs (JF P T f) (P.cellsOf (qf P T f))))
  |_=>(False,.any))
 |.build T parts=>(match Wl P 12 T with|some z=>((Qg P T=true/\TR P T=true)/\(Sg P σ T parts.toList z).1,.agg (Sg P σ T parts.toList z).2)|none=>(False,.any))
 |.call ⟨.builtin .len,⟨[x]⟩,⟨[t]⟩⟩=>
  (match unc (look P σ t x)with
  |.one (.d (.str s))=>(gOf (look P σ t x)=true/\Su P t=true,.one (.d (.int .i64 s.size)))
  |.one (.d (.sl _ rows))=>(gOf (look P σ t x)=true/\Xj P t=true,.one (.d (.int .i64 rows.length)))
  |.one (.nil _)=>(gOf (look P σ t x)=true/\Xj P t=true,.one (.d (.int .i64 0)))
  |.one (.sref u j _ len)=>(gOf (look P σ t x)=true/\Xj P t=true/\(match σ.ob u j with|.arr _ _ _=>True|.lit _ _=>True|_=>False),.one (.d (.int .i64 len)))
  |.one (.tref u j i c none)=>(match σ.ob u j with
   |.arr true _ rows=>(match(rowAt rows i)[c]? with
    |some (.sl _ s)=>((gOf (look P σ t x)=true/\Xj P t=true)/\i<rows.length,.one (.d (.int .i64 s.length)))
    |_=>(False,.any))
   |_=>(False,.any))
  |_=>(False,.any))
 |.call ⟨.builtin .max,⟨[x,y]⟩,_⟩=>((lkI P σ x).1/\(lkI P σ y).1/\lkK P σ y=lkK P σ x,.one (.d (.int (lkK P σ x) (if(lkI P σ y).2>(lkI P σ x).2 then(lkI P σ y).2 else(lkI P σ x).2))))
 |.call ⟨.builtin .min,⟨[x,y]⟩,_⟩=>((lkI P σ x).1/\(lkI P σ y).1/\lkK P σ y=lkK P σ x,.one (.d (.int (lkK P σ x) (if(lkI P σ y).2<(lkI P σ x).2 then(lkI P σ y).2 else(lkI P σ x).2))))
 |_=>(False,.any)
theorem Al{o:Ob}(h:(match o with|.box _=>True|_=>False)):∃cells,o= .box cells:=by
 cases o with
 |box c=>exact⟨c,rfl⟩
 |none=>exact h.elim
 |arr q s r=>exact h.elim
 |lit s r=>exact h.elim
theorem nA{o:Ob}(h:(match o with|.arr _ _ _=>True|_=>False)):∃q size rows,o= .arr q size rows:=by
 cases o with
 |arr q s r=>exact⟨q,s,r,rfl⟩
 |none=>exact h.elim
 |box c=>exact h.elim
 |lit s r=>exact h.elim
theorem nM{o:Ob}(h:(match o with|.arr _ _ _=>True|.lit _ _=>True|_=>False)):(∃q size rows,o= .arr q size rows)\/∃size rows,o= .lit size rows:=by
 cases o with
 |arr q s r=>exact .inl ⟨q,s,r,rfl⟩
 |none=>exact h.elim
 |box c=>exact h.elim
 |lit s r=>exact .inr ⟨s,r,rfl⟩
theorem vO{o:Ob}(h:(match o with|.arr _ size _=>size=n|_=>False)):∃q rows,o= .arr q n rows:=by
 cases o with
 |arr q s r=>simp at h;subst h;exact⟨q,r,rfl⟩
 |none=>exact h.elim
 |box c=>exact h.elim
 |lit s r=>exact h.elim
theorem sG{T:TypeId}{x y:V}(hc:(Ey P op T x y).1):AA P op T x y (Ey P op T x y).2:=by
 unfold Ey at hc⊢;split at hc;all_goals first
  |exact hc.elim
  |exact⟨.inr hc,rfl⟩
  |exact⟨.inr hc.1,hc.2,rfl⟩
  |exact⟨.inl (.inl rfl),hc,rfl⟩
  |exact⟨.inl (.inr rfl),hc,rfl⟩
  |exact⟨hc,rfl⟩
  |rfl
  |(obtain⟨q,hq⟩:=Option.isSome_iff_exists.1 hc.2;exact⟨hc.1,q,hq,.inl ⟨rfl,by rw[hq];rfl⟩⟩)
  |(obtain⟨q,hq⟩:=Option.isSome_iff_exists.1 hc.2;exact⟨hc.1,q,hq,.inr ⟨rfl,by rw[hq];rfl⟩⟩)
theorem wK{op:Op}{ty:TypeId}(hc:(evV P σ op ty).1):Yj P σ op ty (evV P σ op ty).2:=by
 unfold evV at hc⊢;split at hc
 ·rfl
 ·rfl
 ·rename_i c a b;split at hc
  ·rename_i bc h1;exact⟨bc,_,_,hc.1.1,h1,(fun hh=>sF (hc.1.2.1 hh)),(fun hh=>sF (hc.1.2.2 hh)),hc.2.1,hc.2.2,zAZ⟩
  ·exact hc.elim
 ·rename_i T x;unfold Ap at hc⊢;simp only[Yj];split at hc
  ·rename_i t c hx;split at hc
   ·rename_i cells ho;simp only[hx,ho];exact⟨hc.1,hc.2.1,cells,rfl,hc.2.2,zAZ⟩
   ·exact hc.elim
  ·rename_i t j i c hx;split at hc
   ·rename_i size rows ho;simp only[hx,ho];exact⟨hc.1.1,hc.1.2.1,_,size,rows,rfl,hc.2,hc.1.2.2,zAZ⟩
   ·exact hc.elim
  ·rename_i r c hx;simp only[hx];exact⟨hc.1,hc.2.1,hc.2.2,zAZ⟩
  ·rename_i t j i c k hx;split at hc
   ·rename_i size rows ho;split at hc
    ·rename_i s iZ;simp only[hx,ho,iZ];exact⟨hc.1.1,hc.1.2,size,rows,s,rfl,hc.2.1,iZ,hc.2.2.1,hc.2.2.2.1,hc.2.2.2.2,zAZ⟩
    ·exact hc.elim
   ·exact hc.elim
  ·exact hc.elim
 ·rename_i T x f;unfold RW at hc⊢;simp only[Yj];split at hc
  ·rename_i t c hx;simp only[hx];exact⟨hc.1,hc.2.1,Al hc.2.2,zAZ⟩
  ·rename_i t j i c hx;simp only[hx];exact⟨hc.1,hc.2.1,nA hc.2.2,zAZ⟩
  ·rename_i r c hx;simp only[hx];exact⟨hc.1,hc.2,zAZ⟩
  ·rename_i t j i c k hx;have h3:=hc.2.2
   split at h3
   ·rename_i size rows ho;simp only[hx];exact⟨hc.1,hc.2.1,⟨size,rows,ho⟩,zAZ⟩
   ·exact h3.elim
  ·exact hc.elim
 ·rename_i x;simp only[Yj];split at hc
  ·rename_i t c hx;simp only[hx];exact⟨hc.1,Al hc.2,zAZ⟩
  ·exact hc.elim
 ·rename_i T x ix;unfold PC at hc⊢;simp only[Yj];split at hc
  ·rename_i size rows hx;simp only[hx];exact⟨_,_,W8 hc.1.2,hc.2.1,hc.1.1,hc.2.2.1.1,hc.2.2.1.2.1,hc.2.2.1.2.2,hc.2.2.2,zAZ⟩
  ·rename_i t j lo len hx;simp only[hx];exact⟨_,_,W8 hc.1.2,hc.2.1,hc.1.1,hc.2.2.1.1,hc.2.2.1.2.1,vO hc.2.2.1.2.2,hc.2.2.2,zAZ⟩
  ·rename_i t j m c hx;have h3:=hc.2.2.2
   split at h3
   ·rename_i size rows ho;obtain⟨hm,h4⟩:=h3;split at h4
    ·rename_i n s hr;obtain⟨rfl,iQ⟩:=h4;simp only[hx];exact⟨_,_,W8 hc.1.2,hc.2.1,hc.1.1,hc.2.2.1.1,hc.2.2.1.2,⟨size,rows,s,ho,hm,hr,iQ⟩,zAZ⟩
    ·exact h4.elim
   ·exact h3.elim
  ·rename_i t c hx;simp only[hx];refine⟨_,_,W8 hc.1.2,hc.2.1,hc.1.1,Al hc.2.2.1,?_,zAZ⟩;have:=hc.2.2.2
   split at this
   ·rename_i n hn;exact⟨n,hn,this.1,this.2⟩
   ·exact this.elim
  ·exact hc.elim
 ·rename_i T x ix;simp only[Yj];split at hc
  ·rename_i s hx;simp only[hx];exact⟨_,_,W8 hc.1.2,hc.2.1,hc.1.1,hc.2.2.1,hc.2.2.2,zAZ⟩
  ·rename_i xs hx;simp only[hx];refine⟨_,_,W8 hc.1.2,hc.2.1,hc.1.1,?_,hc.2.2.2.1,hc.2.2.2.2,zAZ⟩;have:=hc.2.2.1
   split at this
   ·rename_i n hn;exact⟨n,hn,this⟩
   ·exact this.elim
  ·exact hc.elim
 ·rename_i T x lo hi;simp only[Yj];split at hc
  ·rename_i s hx;simp only[hx];exact⟨hc.1.1,hc.1.2.1,_,_,T4 hc.1.2.2.1,T4 hc.1.2.2.2,hc.2.1,hc.2.2,zAZ⟩
  ·rename_i size rows hx;simp only[hx];exact⟨hc.1.1,hc.1.2.1,hc.1.2.2.1,_,_,T4 hc.1.2.2.2.1,T4 hc.1.2.2.2.2,hc.2.1,hc.2.2,zAZ⟩
  ·rename_i t j o len hx;simp only[hx];exact⟨hc.1.1,hc.1.2.1,vO hc.1.2.2.1,_,_,T4 hc.1.2.2.2.1,T4 hc.1.2.2.2.2,hc.2.1,hc.2.2,zAZ⟩
  ·exact hc.elim
 ·exact⟨hc.1.1,hc.1.2,sG hc.2⟩
 ·simp only[Yj];split at hc
  ·rename_i b hx;simp only[hx];exact⟨hc,zAZ⟩
  ·exact hc.elim
 ·simp only[Yj];split at hc
  ·rename_i k n hx;simp only[hx];exact⟨hc,zAZ⟩
  ·exact hc.elim
 ·rename_i S T x;simp only[Yj];split at hc
  ·rename_i k0 n k hx hk;simp only[hx,hk];exact⟨hc.1,hc.2,k,rfl,zAZ⟩
  ·exact hc.elim
 ·rename_i x i;simp only[Yj];split at hc
  ·rename_i xs hx;simp only[hx];exact⟨hc.1,by simp[List.getD_eq_getElem?_getD,List.getElem?_eq_getElem hc.2.1],hc.2.2⟩
  ·exact hc.elim
 ·simp only[Yj];split at hc
  ·rename_i xs hx;simp only[hx];exact⟨hc.1,hc.2.1,hc.2.2.1,hc.2.2.2,zAZ⟩
  ·exact hc.elim
 ·simp only[Yj];split at hc
  ·rename_i z hz;exact⟨hc.1.1,hc.1.2,z,_,hz,Hj hc.2,zAZ⟩
  ·exact hc.elim
 ·simp only[Yj];split at hc
  ·rename_i s hx;simp only[hx];exact⟨hc.1,hc.2,zAZ⟩
  ·rename_i s rows hx;simp only[hx];exact⟨hc.1,hc.2,zAZ⟩
  ·rename_i s hx;simp only[hx];exact⟨hc.1,hc.2,zAZ⟩
  ·rename_i u j lo len hx;simp only[hx];exact⟨hc.1,hc.2.1,nM hc.2.2,zAZ⟩
  ·rename_i u j i c hx;split at hc
   ·rename_i rows ho;split at hc
    ·rename_i s iZ;simp only[hx,ho,iZ];exact⟨hc.1.1,hc.1.2,_,rows,_,s,rfl,hc.2,iZ,zAZ⟩
    ·exact hc.elim
   ·exact hc.elim
  ·exact hc.elim
 ·simp only[Yj];have hy:=W8 hc.2.1
  rw[hc.2.2]at hy;exact⟨_,_,_,W8 hc.1,hy,zAZ⟩
 ·simp only[Yj];have hy:=W8 hc.2.1
  rw[hc.2.2]at hy;exact⟨_,_,_,W8 hc.1,hy,zAZ⟩
 ·exact hc.elim
open Go.RowKit
def SQ(P:Program)(σ:St)(T:TypeId)(size:Nat):List (Nat×Operand)->Nat->Prop×List (List D)
 |[],_=>(True,[])
 |(i,x)::ps,k=>((i=k/\gOf (look P σ T x)=true/\(unc (look P σ T x)).flat=true/\zg (unc (look P σ T x)).cells=true/\(rowOf σ (unc (look P σ T x)).cells).isSome=true/\((rowOf σ (unc (look P σ T x)).cells).getD []).length=size)/\(SQ P σ T size ps (k+1)).1,
   (rowOf σ (unc (look P σ T x)).cells).getD []::(SQ P σ T size ps (k+1)).2)
theorem DO{P:Program}{σ:St}{T:TypeId}{size:Nat}:∀{ps:List (Nat×Operand)}{k:Nat},(SQ P σ T size ps k).1->N1 P σ T size ps k (SQ P σ T size ps k).2
 |[],_,_=>rfl
 |(_,x)::_,_,h=>by
  obtain⟨⟨h1,h2,h3,h4,h5,h6⟩,h7⟩:=h
  obtain⟨r,hr⟩:=Option.isSome_iff_exists.1 h5
  refine⟨h1,h2,h3,h4,r,_,hr,?_,DO h7,?_⟩
  ·rw[hr]at h6;exact h6
  ·simp only[SQ,hr,Option.getD_some]
def S6(σ:St)(x:V)(size:Nat):Prop×List (List D)×St:=
 match x with
 |.one (.nil _)=>(True,[],σ)
 |.one (.sref t j lo len)=>(match σ.ob t j with|.arr false s iJ=>(s=size/\lo=0/\len=iJ.length,iJ,σ.Zy t j .none)|_=>(False,[],σ))
 |_=>(False,[],σ)
theorem rT{x:V}(h:(S6 σ x size).1):S3 σ x size (S6 σ x size).2.1 (S6 σ x size).2.2:=by
 unfold S6 at h⊢;split at h
 ·exact⟨rfl,rfl⟩
 ·rename_i t j lo len;split at h
  ·rename_i s iJ ho;obtain⟨rfl,rfl,rfl⟩:=h;exact⟨iJ,ho,rfl,Nat.le_refl _,(List.take_length).symm,rfl⟩
  ·exact h.elim
 ·exact h.elim
def N5(σ:St)(x:V)(size:Nat):Prop×List (List D):=
 match x with
 |.one (.d (.sl s rows))=>(s=size,rows)
 |.one (.nil _)=>(True,[])
 |.one (.sref t j lo len)=>(match σ.ob t j with|.arr false s rows=>(s=size/\lo+len<=rows.length,cut rows lo len)|_=>(False,[]))
 |_=>(False,[])
theorem tk{x:V}(h:(N5 σ x size).1):Wb σ x size (N5 σ x size).2:=by
 unfold N5 at h⊢;split at h
 ·exact⟨h,rfl⟩
 ·rfl
 ·rename_i t j lo len;split at h
  ·rename_i s rows ho;obtain⟨rfl,hle⟩:=h;exact⟨rows,ho,hle,rfl⟩
  ·exact h.elim
 ·exact h.elim
def evS(P:Program)(σ:St)(o:Oper)(d:Nat):Prop×St:=
 match o.op with
 |.alloc T=>(match Wl P 12 T with|some row=>(σ.fresh d=true/\Qg P T=true,σ.new d (.one (.bptr d 0)) [.box row])|none=>(False,σ))
 |.box T x=>(σ.fresh d=true/\gOf (look P σ T x)=true/\(unc (look P σ T x)).flat=true/\Yi d (unc (look P σ T x)).cells=false,σ.new d (.one (.bptr d 0)) [.box (unc (look P σ T x)).cells])
 |.buildSlice T n parts=>((σ.fresh d=true/\Xj P T=true/\Qg P (ZV P T)=true/\0<P.cellsOf (ZV P T)/\parts.toList.length=n/\n*P.cellsOf (ZV P T)<=16777216)/\(SQ P σ (ZV P T) (P.cellsOf (ZV P T)) parts.toList 0).1,
   σ.new d (.one (.sref d 0 0 (SQ P σ (ZV P T) (P.cellsOf (ZV P T)) parts.toList 0).2.length)) [.arr false (P.cellsOf (ZV P T)) (SQ P σ (ZV P T) (P.cellsOf (ZV P T)) parts.toList 0).2])
 |.makeSlice T x y=>(match Wl P 12 (ZV P T)with
   |some z=>(match zD z with
    |some zr=>((x=y/\σ.fresh d=true/\Xj P T=true/\Qg P (ZV P T)=true/\0<P.cellsOf (ZV P T)/\(lkI P σ x).1)/\0<=(lkI P σ x).2/\P.bytesOf (ZV P T)*(lkI P σ x).2.toNat<=281474976710656/\(lkI P σ x).2<=9223372036854775807,
      σ.new d (.one (.sref d 0 0 (lkI P σ x).2.toNat)) [.arr false (P.cellsOf (ZV P T)) (List.replicate (lkI P σ x).2.toNat zr)])
    |none=>(False,σ))
   |none=>(False,σ))
 |.call ⟨.builtin .append,⟨[x,y]⟩,⟨[t,t']⟩⟩=>
   (((t=t'/\gOf (look P σ t x)=true/\gOf (look P σ t y)=true/\Xj P t=true/\Qg P (ZV P t)=true/\0<P.cellsOf (ZV P t))/\(S6 σ (unc (look P σ t x)) (P.cellsOf (ZV P t))).1/\(N5 σ (unc (look P σ t y)) (P.cellsOf (ZV P t))).1/\(S6 σ (unc (look P σ t x)) (P.cellsOf (ZV P t))).2.2.fresh d=true)/\
    ((S6 σ (unc (look P σ t x)) (P.cellsOf (ZV P t))).2.1.length+(N5 σ (unc (look P σ t y)) (P.cellsOf (ZV P t))).2.length)*P.bytesOf (ZV P t)<=140737488355328/\
    (S6 σ (unc (look P σ t x)) (P.cellsOf (ZV P t))).2.1.length+(N5 σ (unc (look P σ t y)) (P.cellsOf (ZV P t))).2.length<=9223372036854775807,
   (S6 σ (unc (look P σ t x)) (P.cellsOf (ZV P t))).2.2.new d (.one (.sref d 0 0 ((S6 σ (unc (look P σ t x)) (P.cellsOf (ZV P t))).2.1.length+(N5 σ (unc (look P σ t y)) (P.cellsOf (ZV P t))).2.length)))
    [.arr false (P.cellsOf (ZV P t)) ((S6 σ (unc (look P σ t x)) (P.cellsOf (ZV P t))).2.1++(N5 σ (unc (look P σ t y)) (P.cellsOf (ZV P t))).2)])
 |op=>((evV P σ op o.type).1,σ.put d (evV P σ op o.type).2)
def Bn(P:Program)(σ:St)(T:TypeId)(x y:Operand):Prop×St:=
 match unc (look P σ 0 x)with
 |.one (.bptr t c)=>(match σ.ob t 0 with
  |.box cells=>(qm P T=true/\gOf (look P σ 0 x)=true/\gOf (look P σ T y)=true/\(unc (look P σ T y)).flat=true/\(unc (look P σ T y)).cells.length=P.cellsOf T/\c+P.cellsOf T<=cells.length,σ.Zy t 0 (.box (place cells c (unc (look P σ T y)).cells)))
  |_=>(False,σ))
 |.one (.ptr t j i c)=>(match σ.ob t j with
  |.arr q size rows=>((qm P T=true/\gOf (look P σ 0 x)=true/\gOf (look P σ T y)=true/\(unc (look P σ T y)).flat=true/\(rowOf σ (unc (look P σ T y)).cells).isSome=true/\zg (unc (look P σ T y)).cells=true/\((rowOf σ (unc (look P σ T y)).cells).getD []).length=P.cellsOf T/\c+P.cellsOf T<=size)/\i<rows.length/\(q=true->((rowOf σ (unc (look P σ T y)).cells).getD []).all D.scalar=true/\(cut (rowAt rows i) c (P.cellsOf T)).all D.scalar=true),
    σ.Zy t j (.arr q size (rows.set i (place (rowAt rows i) c ((rowOf σ (unc (look P σ T y)).cells).getD [])))))
  |_=>(False,σ))
 |_=>(False,σ)
theorem th(cB:∀c,o.op= .call c->∀f,c.callee≠ .value (.func f))(hc:(evS P σ o d).1):Step P o d σ (evS P σ o d).2:=by
 unfold evS at hc⊢;split at hc
 ·rename_i T iE;unfold Step;rw[iE];split at hc
  ·rename_i row hR;simp only[hR];exact⟨hc.1,hc.2,row,rfl,rfl⟩
  ·exact hc.elim
 ·rename_i T x iE;unfold Step;rw[iE];exact⟨hc.1,hc.2.1,hc.2.2.1,hc.2.2.2,rfl⟩
 ·rename_i T n parts iE;unfold Step;rw[iE];obtain⟨⟨h1,h2,h3,h4,h5,h6⟩,h7⟩:=hc;exact .inl ⟨h1,h2,h3,h4,h5,h6,.inl ⟨_,DO h7,rfl⟩⟩
 ·rename_i T x y iE;unfold Step;rw[iE];split at hc
  ·rename_i z hz;split at hc
   ·rename_i zr fx;obtain⟨⟨h1,h2,h3,h4,h5,h6⟩,h7,h8,h9⟩:=hc;have hl:=W8 h6
    simp only[hz];refine⟨h1,h2,h3,h4,h5,false,z,zr,lkK P σ x,(lkI P σ x).2.toNat,(fun hh=>by cases hh),rfl,fx,?_,h8,zAA,rfl⟩;rw[Int.toNat_of_nonneg h7];exact hl
   ·exact hc.elim
  ·exact hc.elim
 ·rename_i x y t t' iE;unfold Step;rw[iE];obtain⟨⟨⟨rfl,h1,h2,h3,h4,h5⟩,h6,h7,h8⟩,h9,cA⟩:=hc;exact⟨x,y,t,rfl,rfl,h1,h2,h3,h4,h5,_,_,_,rT h6,tk h7,h8,h9,cA,rfl⟩
 ·rename_i op h1 h2 h3 h4 h5;have hv:=wK hc
  unfold Step;split
  ·rename_i T iE;exact absurd iE (h1 T)
  ·rename_i T x iE;exact absurd iE (h2 T x)
  ·rename_i T n ps iE;exact absurd iE (h3 T n ps)
  ·rename_i T x y iE;exact absurd iE (h4 T x y)
  ·rename_i c iE;split
   ·rename_i eo;rw[iE]at hv;simp only[Yj]at hv;split at hv
    ·rename_i cP _ _;rw[eo]at cP;cases cP
    ·rename_i cP _;rw[eo]at cP;cases cP
    ·rename_i cP _;rw[eo]at cP;cases cP
    ·exact hv.elim
   ·rename_i f eo;exact absurd eo (cB c iE f)
   ·exact⟨_,hv,rfl⟩
  ·exact .inl ⟨_,hv,rfl⟩
  ·exact⟨_,hv,rfl⟩
theorem pW{T:TypeId}(hc:(Bn P σ T x y).1):qO P σ T x y (Bn P σ T x y).2:=by
 unfold Bn at hc⊢;unfold qO;split at hc
 ·rename_i t c hx;split at hc
  ·rename_i cells ho;obtain⟨h1,h2,h3,h4,h5,h6⟩:=hc;first|(rw[hx];simp only[ho])|simp only[ho]
   exact⟨h1,h2,h3,h4,cells,rfl,h5,h6,rfl⟩
  ·exact hc.elim
 ·rename_i t j i c hx;split at hc
  ·rename_i q size rows ho;obtain⟨⟨h1,h2,h3,h4,h5,h6,h7,h8⟩,h9,cA⟩:=hc;obtain⟨ds,ck⟩:=Option.isSome_iff_exists.1 h5;first|(rw[hx];simp only[ho])|simp only[ho]
   refine⟨h1,h2,h3,h4,q,size,rows,ds,rfl,h9,ck,h6,?_,h8,fun hq=>?_,?_⟩
   ·rw[ck]at h7;exact h7
   ·have:=cA hq;rw[ck]at this;exact this
   ·rw[ck];rfl
  ·exact hc.elim
 ·exact hc.elim
def wL:List At->Bool
 |[]=>false
 |.nil _::_=>true
 |_::xs=>wL xs
def vY(P:Program)(T:TypeId):Bool:=match Wl P 12 (ZV P T)with|some z=>wL z|none=>false
def Dk:List At->Bool
 |[]=>true
 |.d (.sl _ _)::_=>false
 |.d _::xs=>Dk xs
 |_=>false
def oz(P:Program)(σ:St)(T:TypeId)(x y:Operand):Bool:=
 match unc (look P σ 0 x)with
 |.one (.ptr t j _ _)=>(match σ.ob t j with|.arr true _ _=>!Dk (unc (look P σ T y)).cells|_=>false)
 |.one (.tref _ _ _ _ (some _))=>true
 |_=>false
def stops(P:Program)(bar:Oper->Bool)(o:Oper):Bool:=
 match o.op with
 |.call ⟨.value _,_,_⟩=>true
 |.call ⟨.builtin .append,_,⟨t::_⟩⟩=>vY P t
 |.buildSlice T _ _=>vY P T||ng bar o
 |.makeSlice T _ _=>vY P T
 |.makeFunc _ _ _=>true
 |.convert _ T _=>(wq P T).isNone
 |.indexAddr _ _ _=>o.guard.isSome
 |.index _ _ _=>o.guard.isSome
 |.slice _ _ _ _ _=>o.guard.isSome
 |_=>false
def jx(P:Program)(ops:Array Oper)(bar:Oper->Bool)(o:Oper)(rest:List Oper)(σ:St)(Q:St->Prop):Prop:=∃σ',ze P ops bar o σ σ'/\CD P ops bar rest σ' Q
def Ev(P:Program)(ops:Array Oper)(bar:Oper->Bool):List Oper->St->(St->Prop)->Prop
 |[],σ,Q=>Q σ
 |o::rest,σ,Q=>
  if stops P bar o then jx P ops bar o rest σ Q else
  match o.guard with
  |none=>
   (match o.dst with
   |some d=>(evS P σ o d).1/\Ev P ops bar rest (evS P σ o d).2 Q
   |none=>(match o.op with|.store T x y=>if oz P σ T x y then jx P ops bar o rest σ Q else(Bn P σ T x y).1/\Ev P ops bar rest (Bn P σ T x y).2 Q|_=>False))
  |some (j,want)=>
   (match(ops[j]?).bind (·.dst),o.dst with
   |some dj,some d=>(match jR want (σ.get dj)with
    |some g=>(dj<σ.length/\(g=true->(evV P σ o.op o.type).1/\gOf (evV P σ o.op o.type).2=true/\(unc (evV P σ o.op o.type).2).flat=true))/\Ev P ops bar rest (σ.put d (.cnd g (unc (evV P σ o.op o.type).2))) Q
    |none=>False)
   |_,_=>False)
theorem Jm{P:Program}{ops:Array Oper}{bar:Oper->Bool}:∀{l:List Oper}{σ:St}{Q:St->Prop},Ev P ops bar l σ Q->CD P ops bar l σ Q
 |[],_,_,h=>h
 |o::rest,σ,Q,h=>by
  unfold Ev at h
  split at h
  ·exact h
  ·rename_i hC
   have cB:∀c,o.op= .call c->∀f,c.callee≠ .value (.func f):=by
    intro c iE f eo
    obtain⟨cc,ca,ct⟩:=c
    simp only at eo;subst eo
    exact hC (by simp[stops,iE])
   split at h
   ·rename_i hg
    split at h
    ·rename_i d hd
     refine⟨_,.inl ?_,Jm h.2⟩
     unfold Xm
     simp only[hg,hd]
     exact th cB h.1
    ·rename_i hd
     split at h
     ·rename_i T x y iE
      split at h
      ·exact h
      ·refine⟨_,.inl ?_,Jm h.2⟩
       unfold Xm
       simp only[hg,hd,iE]
       exact pW h.1
     ·exact h.elim
   ·rename_i j want hg
    split at h
    ·rename_i dj d fA hd
     split at h
     ·rename_i g fK
      refine⟨_,.inl ?_,Jm h.2⟩
      unfold Xm
      simp only[hg]
      refine⟨dj,d,g,_,fA,h.1.1,hd,fK,fun bC=>?_,rfl⟩
      obtain⟨h1,h2,h3⟩:=h.1.2 bC
      have base:∃v0,Yj P σ o.op o.type v0/\gOf v0=true/\unc (evV P σ o.op o.type).2=unc v0/\(unc (evV P σ o.op o.type).2).flat=true:=⟨_,wK h1,h2,rfl,h3⟩
      unfold M6
      split
      ·rename_i c iE
       split
       ·rename_i f eo;exact absurd eo (cB c iE f)
       ·exact base
      ·exact base
     ·exact h.elim
    ·exact h.elim
theorem nG{Q:Exit->St->Prop}{l:List Oper}(h:Ev P l.toArray bar l σ (Q .normal)):AWP P (.region id l.toArray false) Q σ:=w7 (Jm h)
theorem Bg{Q:St->Prop}{c:Call}{own:Bool}(iE:o.op= .call c)(hc:c.callee= .value (.func f))(hg:o.guard=none)(hd:o.dst=some d)
  (iT:JE P σ c.args.toList c.argTypes.toList rows) (hs:JK P f own rows res) (hC:Ym P σ c.args.toList c.argTypes.toList=true\/Kn own res) (h:Ev P ops bar rest (σ.put d (jF res)) Q):jx P ops bar o rest σ Q:=by
 refine⟨_,.inl ?_,Jm h⟩
 unfold Xm;simp only[hg,hd]
 unfold Step
 rw[iE]
 simp only[hc]
 exact .inl ⟨own,res,⟨rows,iT,hs,hC⟩,rfl⟩
theorem CH{Q:St->Prop}{c:Call}(iE:o.op= .call c)(hc:c.callee= .value (.func f))(hg:o.guard=none)(hd:o.dst=some d)
  (iT:JE P σ c.args.toList c.argTypes.toList rows) (hs:JK P f true rows res) (hC:Ym P σ c.args.toList c.argTypes.toList=true\/Kn true res) (hf:σ.fresh d=true) (h:Ev P ops bar rest (σ.new d (kJ d res) (xy res.flatten)) Q):jx P ops bar o rest σ Q:=by
 refine⟨_,.inl ?_,Jm h⟩
 unfold Xm;simp only[hg,hd]
 unfold Step
 rw[iE]
 simp only[hc]
 exact .inr (.inl ⟨res,⟨rows,iT,hs,hC⟩,hf,rfl⟩)
theorem w9{Q:St->Prop}{c:Call}{own:Bool}{res:List D}(iE:o.op= .call c)(hc:c.callee= .value (.func f))(hg:o.guard=some (j,want))(hd:o.dst=some d)
  (fA:(ops[j]?).bind (·.dst)=some dj) (iQ:dj<σ.length) (fK:jR want (σ.get dj)=some g)
  (iT:g=true->JE P σ c.args.toList c.argTypes.toList rows) (hs:g=true->JK P f own rows [res]) (hC:Ym P σ c.args.toList c.argTypes.toList=true\/Kn own [res]) (h:Ev P ops bar rest (σ.put d (.cnd g (jF [res]))) Q):jx P ops bar o rest σ Q:=by
 refine⟨_,.inl ?_,Jm h⟩
 unfold Xm;simp only[hg]
 refine⟨dj,d,g,_,fA,iQ,hd,fK,fun bC=>?_,rfl⟩
 unfold M6
 rw[iE]
 simp only[hc]
 exact⟨own,res,⟨rows,iT bC,hs bC,hC⟩,rfl⟩
theorem Cb{Q:St->Prop}{S T:TypeId}{s:ByteArray}(iE:o.op= .convert S T x)(hg:o.guard=none)(hd:o.dst=some d)
  (h1:gOf (look P σ S x)=true) (h2:Su P S=true) (h3:ML P T=true) (h4:unc (look P σ S x)= .one (.d (.str s))) (h5:s.size<=9223372036854775807) (h:Ev P ops bar rest (σ.put d (.one (.d (.sl 1 (yJ s.data.toList))))) Q):jx P ops bar o rest σ Q:=by
 refine⟨_,.inl ?_,Jm h⟩
 unfold Xm;simp only[hg,hd]
 unfold Step
 rw[iE]
 exact .inr (.inr ⟨s,h1,h2,h3,h4,h5,rfl⟩)
theorem oE{Q:St->Prop}(cB:∀c,o.op= .call c->∀f,c.callee≠ .value (.func f))(hg:o.guard=none)(hd:o.dst=some d)
  (h1:(evS P σ o d).1) (h:Ev P ops bar rest (evS P σ o d).2 Q):jx P ops bar o rest σ Q:=by
 refine⟨_,.inl ?_,Jm h⟩
 unfold Xm;simp only[hg,hd]
 exact th cB h1
theorem Au{Q:St->Prop}{c:Call}(qs:List Bool)(iE:o.op= .call c)(hc:c.callee= .value (.func f))(hg:o.guard=none)(hd:o.dst=some d)
  (iT:JE P σ c.args.toList c.argTypes.toList rows) (hs:Yg P f rows res) (hq:xe qs res.flatten) (hf:σ.fresh d=true) (h:Ev P ops bar rest (σ.new d (kJ d res) (Ya qs res.flatten)) Q):jx P ops bar o rest σ Q:=by
 refine⟨_,.inl ?_,Jm h⟩
 unfold Xm;simp only[hg,hd]
 unfold Step
 rw[iE]
 simp only[hc]
 exact .inr (.inr ⟨rows,res,qs,iT,hs,hq,hf,rfl⟩)
def zc(P:Program)(σ:St)(T:TypeId)(size:Nat):List (Nat×Operand)->Nat->Prop×List (List At)
 |[],_=>(True,[])
 |(i,x)::ps,k=>((i=k/\gOf (look P σ T x)=true/\(unc (look P σ T x)).flat=true/\(unc (look P σ T x)).cells.length=size)/\(zc P σ T size ps (k+1)).1,(unc (look P σ T x)).cells::(zc P σ T size ps (k+1)).2)
theorem H5{P:Program}{σ:St}{T:TypeId}{size:Nat}:∀{ps:List (Nat×Operand)}{k:Nat},(zc P σ T size ps k).1->NR P σ T size ps k (zc P σ T size ps k).2
 |[],_,_=>rfl
 |(_,x)::_,_,h=>by
  obtain⟨⟨h1,h2,h3,h4⟩,h7⟩:=h
  exact⟨h1,h2,h3,h4,_,H5 h7,rfl⟩
theorem sc{Q:St->Prop}{T:TypeId}(iE:o.op= .buildSlice T n parts)(hg:o.guard=none)(hd:o.dst=some d)
  (h1:σ.fresh d=true/\Xj P T=true/\Qg P (ZV P T)=true/\0<P.cellsOf (ZV P T)/\parts.toList.length=n/\n*P.cellsOf (ZV P T)<=16777216) (h2:(zc P σ (ZV P T) (P.cellsOf (ZV P T)) parts.toList 0).1)
  (h3:Yi d (zc P σ (ZV P T) (P.cellsOf (ZV P T)) parts.toList 0).2.flatten=false)
  (h:Ev P ops bar rest (σ.new d (.one (.sref d 0 0 (zc P σ (ZV P T) (P.cellsOf (ZV P T)) parts.toList 0).2.length)) [.lit (P.cellsOf (ZV P T)) (zc P σ (ZV P T) (P.cellsOf (ZV P T)) parts.toList 0).2]) Q):jx P ops bar o rest σ Q:=by
 refine⟨_,.inl ?_,Jm h⟩
 unfold Xm;simp only[hg,hd]
 unfold Step
 rw[iE]
 exact .inl ⟨h1.1,h1.2.1,h1.2.2.1,h1.2.2.2.1,h1.2.2.2.2.1,h1.2.2.2.2.2,.inr ⟨_,H5 h2,h3,rfl⟩⟩
def V1(σ:St)(x:V)(size:Nat):Prop×List (List D)×List (Nat×Nat):=
 match x with
 |.one (.nil _)=>(True,[],[])
 |.one (.sref t j lo len)=>(match σ.ob t j with|.arr true s iJ=>(s=size/\lo=0/\len=iJ.length,iJ,[(t,j)])|_=>(False,[],[]))
 |_=>(False,[],[])
theorem uJ{x:V}(h:(V1 σ x size).1):tA σ x size (V1 σ x size).2.1 (V1 σ x size).2.2:=by
 unfold V1 at h⊢;split at h
 ·exact⟨rfl,rfl⟩
 ·rename_i t j lo len;split at h
  ·rename_i s iJ ho;obtain⟨rfl,rfl,rfl⟩:=h;exact⟨ho,rfl,rfl,rfl⟩
  ·exact h.elim
 ·exact h.elim
def UA(σ:St)(x:V)(size:Nat):Prop×List (List D)×List (Nat×Nat):=
 match x with
 |.one (.sref t j lo len)=>(match σ.ob t j with|.lit s rows=>((s=size/\lo=0/\len=rows.length)/\(K2 σ rows).isSome=true/\Kf σ rows,(K2 σ rows).getD [],XP rows.flatten)|_=>(False,[],[]))
 |_=>(False,[],[])
theorem ux{x:V}(h:(UA σ x size).1):um σ x size (UA σ x size).2.1 (UA σ x size).2.2:=by
 unfold UA at h⊢;split at h
 ·rename_i t j lo len;split at h
  ·rename_i s rows ho;obtain⟨⟨rfl,rfl,rfl⟩,h1,h2⟩:=h;obtain⟨ns,cB⟩:=Option.isSome_iff_exists.1 h1;exact⟨rows,ho,rfl,rfl,by rw[cB];rfl,h2,rfl⟩
  ·exact h.elim
 ·exact h.elim
theorem kR:∀(σ:St)(d:Nat)(v:V)(t:Nat),(σ.put d v)[t]?=if t=d then(σ[t]?).map (fun e=>(v,e.2))else σ[t]?
 |[],_,_,_=>by simp[St.put]
 |e::σ,0,v,t=>by cases t<;>simp[St.put]
 |e::σ,d+1,v,t=>by
  cases t with
  |zero=>simp[St.put]
  |succ t=>have:=kR σ d v t;simpa[St.put]using this
theorem xW:∀(σ:St)(d:Nat)(v:V)(os:List Ob)(t:Nat),(σ.new d v os)[t]?=if t=d then(σ[t]?).map (fun _=>(v,os))else σ[t]?
 |[],_,_,_,_=>by simp[St.new]
 |e::σ,0,v,os,t=>by cases t<;>simp[St.new]
 |e::σ,d+1,v,os,t=>by
  cases t with
  |zero=>simp[St.new]
  |succ t=>have:=xW σ d v os t;simpa[St.new]using this
theorem JQ:∀(σ:St)(a j:Nat)(o:Ob)(t:Nat),(σ.Zy a j o)[t]?=if t=a then(σ[t]?).map (fun e=>(e.1,e.2.set j o))else σ[t]?
 |[],_,_,_,_=>by simp[St.Zy]
 |e::σ,0,j,o,t=>by cases t<;>simp[St.Zy]
 |e::σ,a+1,j,o,t=>by
  cases t with
  |zero=>simp[St.Zy]
  |succ t=>have:=JQ σ a j o t;simpa[St.Zy]using this
theorem jC:Xs σ d=true↔σ[d]?=some (.any,[])\/∃x,σ[d]?=some (.one (.d x),[]):=by
 unfold Xs;constructor
 ·intro h;split at h
  ·rename_i h1;exact .inl h1
  ·rename_i x h1;exact .inr ⟨x,h1⟩
  ·cases h
 ·rintro(h|⟨x,h⟩)<;>rw[h]
theorem Qs{a:Nat}{o:Ob}(h:Xs σ d=true):Xs (σ.Zy a j o) d=true:=by
 rw[jC]at*;rw[JQ];rcases h with h|⟨x,h⟩
 ·left;rw[h];split<;>rfl
 ·right;refine⟨x,?_⟩;rw[h];split<;>rfl
theorem JP:∀{l:List (Nat×Nat)}{σ:St}{d:Nat},Xs σ d=true->Xs (σ.Z7 l) d=true
 |[],_,_,h=>h
 |p::l,σ,d,h=>by rw[St.Z7];exact JP (l:=l) (Qs h)
theorem WE(iH:d≠d')(h:Xs σ d=true):Xs (σ.new d' v os) d=true:=by
 unfold Xs at*;simp only[xW,if_neg iH];exact h
theorem Xo{T:TypeId}(h:xh d x=false):look P (σ.put d v) T x=look P σ T x:=by
 cases x with
 |tmp t=>
  have iH:t≠d:=fun e=>by subst e;simp[xh]at h
  simp[look,St.zu,iH]
 |const c=>rfl
 |global g=>rfl
 |func f=>rfl
theorem xt:∀(σ:St)(d:Nat)(v:V)(t j:Nat)(o:Ob),(σ.put d v).Zy t j o=(σ.Zy t j o).put d v
 |[],_,_,_,_,_=>rfl
 |e::σ,0,v,0,j,o=>rfl
 |e::σ,d+1,v,0,j,o=>rfl
 |e::σ,0,v,t+1,j,o=>rfl
 |e::σ,d+1,v,t+1,j,o=>by simp[St.put,St.Zy,xt σ d v t j o]
theorem Us{d:Nat}{v:V}:∀(l:List (Nat×Nat))(σ:St),(σ.put d v).Z7 l=(σ.Z7 l).put d v
 |[],_=>rfl
 |p::l,σ=>by rw[St.Z7,St.Z7,xt,Us l]
theorem Mi{σ:St}{d:Nat}{v:V}:∀(xs:List At),KD (σ.put d v) xs=KD σ xs
 |[]=>rfl
 |x::xs=>by
  have:mvD (σ.put d v) x=mvD σ x:=by cases x<;>simp[mvD,St.Jc]
  simp only[KD,this,Mi xs]
theorem PQ{σ:St}{d:Nat}{v:V}:∀(xs:List At),Qk (σ.put d v) xs=Qk σ xs
 |[]=>rfl
 |x::xs=>by
  have:Fq (σ.put d v) x=Fq σ x:=by cases x<;>simp[Fq,St.Jc]
  simp only[Qk,this,PQ xs]
theorem Ph:∀(l:List (Nat×V))(σ:St),(σ.Jl l).ob=σ.ob
 |[],_=>rfl
 |p::l,σ=>by rw[St.Jl,Ph l,St.Jc]
theorem WH{P:Program}{T:TypeId}{x:Operand}:∀(l:List (Nat×V))(σ:St),(∀p∈l,xh p.1 x=false)->look P (σ.Jl l) T x=look P σ T x
 |[],_,_=>rfl
 |p::l,σ,h=>by rw[St.Jl,WH l _ (fun q hq=>h q (by simp[hq])),Xo (h p zAE)]
theorem ji{t j:Nat}{o:Ob}:∀(l:List (Nat×V))(σ:St),(σ.Jl l).Zy t j o=(σ.Zy t j o).Jl l
 |[],_=>rfl
 |p::l,σ=>by rw[St.Jl,ji l,xt,St.Jl]
theorem xX{L:List (Nat×Nat)}:∀(l:List (Nat×V))(σ:St),(σ.Jl l).Z7 L=(σ.Z7 L).Jl l
 |[],_=>rfl
 |p::l,σ=>by rw[St.Jl,xX l,Us,St.Jl]
theorem vx:∀{σ:St}{t d:Nat}{v v':V}{os:List Ob},t≠d->(σ.put t v').new d v os=(σ.new d v os).put t v'
 |[],_,_,_,_,_,_=>rfl
 |e::σ,0,0,_,_,_,h=>absurd rfl h
 |e::σ,0,d+1,_,_,_,_=>rfl
 |e::σ,t+1,0,_,_,_,_=>rfl
 |e::σ,t+1,d+1,v,v',os,h=>by simp[St.put,St.new,vx (σ:=σ) (v:=v) (v':=v') (os:=os) (fun hh=>h (congrArg (·+1) hh))]
theorem AS{d:Nat}{v:V}{os:List Ob}:∀(l:List (Nat×V))(σ:St),(∀p∈l,p.1≠d)->(σ.Jl l).new d v os=(σ.new d v os).Jl l
 |[],_,_=>rfl
 |p::l,σ,h=>by rw[St.Jl,AS l _ (fun q hq=>h q (by simp[hq])),vx (h p zAE),St.Jl]
theorem OQ{d:Nat}{v:V}(hv:v.ref d=false):∀{σ:St}{k t:Nat},yk d k σ=true->yk d k (σ.put t v)=true
 |[],_,_,h=>h
 |e::σ,k,0,h=>by
  simp only[yk,St.put,Bool.and_eq_true,Bool.or_eq_true,Bool.not_eq_true']at h⊢
  exact⟨h.1.imp id (fun hh=>⟨hv,hh.2⟩),h.2⟩
 |e::σ,k,t+1,h=>by
  simp only[yk,St.put,Bool.and_eq_true]at h⊢
  exact⟨h.1,OQ hv h.2⟩
theorem Ss{d:Nat}:∀(l:List (Nat×V)){σ:St},(∀p∈l,p.2.ref d=false)->σ.fresh d=true->(σ.Jl l).fresh d=true
 |[],_,_,h=>h
 |p::l,σ,hl,h=>by
  refine Ss l (fun q hq=>hl q (by simp[hq])) ?_
  simp only[St.fresh,Bool.and_eq_true,decide_eq_true_eq,St.Jd]at h⊢
  exact⟨h.1,OQ (hl p zAE) h.2⟩
theorem Vr{t:TypeId}(iE:o.op= .call ⟨.builtin .append,#[x,y],#[t,t]⟩)(h:P9 o n=true):xh n x=false/\xh n y=false:=by
 have hx:x∈o.op.operands.toList:=by rw[iE];simp[Op.operands,Call.operands]
 have hy:y∈o.op.operands.toList:=by rw[iE];simp[Op.operands,Call.operands]
 simp only[P9,Bool.not_eq_true']at h;exact⟨Bool.eq_false_iff.2 (List.any_eq_false.1 h x hx),Bool.eq_false_iff.2 (List.any_eq_false.1 h y hy)⟩
theorem Bv{σ σ':St}(h:σ'.ob=σ.ob):∀(xs:List At),KD σ' xs=KD σ xs
 |[]=>rfl
 |x::xs=>by
  have:mvD σ' x=mvD σ x:=by cases x<;>simp[mvD,h]
  simp only[KD,this,Bv h xs]
theorem Gv{σ σ':St}(h:σ'.ob=σ.ob):∀(xs:List At),Qk σ' xs=Qk σ xs
 |[]=>rfl
 |x::xs=>by
  have:Fq σ' x=Fq σ x:=by cases x<;>simp[Fq,h]
  simp only[Qk,this,Gv h xs]
theorem E4{σ σ':St}(h:σ'.ob=σ.ob):∀(xs:List (List At)),K2 σ' xs=K2 σ xs
 |[]=>rfl
 |x::xs=>by simp only[K2,Bv h,E4 h xs]
theorem IF{σ σ':St}(h:σ'.ob=σ.ob):∀(xs:List (List At)),Kf σ' xs=Kf σ xs
 |[]=>rfl
 |x::xs=>by simp only[Kf,Gv h,IF h xs]
theorem pS(h:σ'.ob=σ.ob){x:V}(hd:tA σ x size iJ l):tA σ' x size iJ l:=by
 unfold tA at*;rw[h];exact hd
theorem r7(h:σ'.ob=σ.ob){x:V}(hd:um σ x size news l):um σ' x size news l:=by
 unfold um at*;simp only[h,E4 h,IF h];exact hd
theorem rm(h:σ'.ob=σ.ob){x:V}(hd:Be σ x size iJ l):Be σ' x size iJ l:=by
 unfold Be at*;rw[h];exact hd
theorem DA{d:Nat}:∀{os:List Ob}{j:Nat}{cells:List At},XG d os=false->Yt os j= .box cells->Yi d cells=false
 |[],j,cells,_,h=>by simp[Yt]at h
 |o::os,0,cells,hr,h=>by
  simp only[Yt,List.getElem?_cons_zero]at h
  subst h
  simp only[XG,Bool.or_eq_false_iff]at hr;exact hr.1
 |o::os,j+1,cells,hr,h=>by
  have h':Yt os j= .box cells:=zB0
  refine DA (os:=os) (j:=j) ?_ h'
  cases o<;>simp only[XG,Bool.or_eq_false_iff]at hr<;>first|exact hr.2|exact hr
theorem Gk{X:St}(hd:o.dst=some d)(hlen:X.length=σ.length)(gW:∀t,X.get t=σ.get t)(fv:∀t j cells,X.ob t j= .box cells->σ.ob t j= .box cells)
  (gr:∀t j q s rows,X.ob t j= .arr q s rows->∃ig,σ.ob t j= .arr q s ig) (hf:X.fresh d=true)
  (hs:∀l:List (Nat×V),(∀p∈l,p.1≠d/\P9 o p.1=true/\p.2.ref d=false)->Ue P ops o (σ.Jl l) ((X.Jl l).new d v os)) (hc:∀l:List (Nat×V),PF o (σ.Jl l) ((X.Jl l).new d v os)):mH P ops o σ (X.new d v os):=by
 have iQ:=St.zV hf
 have aw:∀t e,X[t]?=some e->t≠d->e.1.ref d=false/\XG d e.2=false:=fun t e he iH=>by
  have h1:=hf
  simp only[St.fresh,Bool.and_eq_true]at h1
  exact xq h1.2 t e he zAA
 refine⟨d,hd,by rw[St.WO,hlen],fun t iH=>?_,fun t j cells iH hb=>?_,fun t j q s rows iH hb=>?_,fun l hl=>?_⟩
 ·rw[St.VZ,if_neg (fun hh=>iH hh.1),gW]
  refine⟨rfl,?_⟩
  rw[<-gW]
  unfold St.get
  cases he:X[t]? with
  |none=>rfl
  |some e=>exact(aw t e he iH).1
 ·rw[St.Jv,if_neg (fun hh=>iH hh.1)]at hb
  refine⟨fv t j cells hb,?_⟩
  unfold St.ob at hb
  cases he:X[t]? with
  |none=>rw[he]at hb;cases hb
  |some e=>rw[he]at hb;exact DA (aw t e he iH).2 hb
 ·rw[St.Jv,if_neg (fun hh=>iH hh.1)]at hb
  exact gr t j q s rows hb
 ·have e:=AS (d:=d) (v:=v) (os:=os) l X (fun p hp=>(hl p hp).1)
  rw[<-e]
  exact⟨hs l hl,hc l⟩
theorem FB{cells:List At}(h:(σ.Z7 L).ob t j= .box cells):σ.ob t j= .box cells:=by
 rw[St.Ks]at h;split at h
 ·cases h
 ·exact h
theorem G9{s:Nat}(h:(σ.Z7 L).ob t j= .arr q s rows):σ.ob t j= .arr q s rows:=by
 rw[St.Ks]at h;split at h
 ·cases h
 ·exact h
theorem tg{Q:St->Prop}{t:TypeId}(iE:o.op= .call ⟨.builtin .append,#[x,y],#[t,t]⟩)(hg:o.guard=none)(hd:o.dst=some d)(hU:bar o=true)
  (gT:size=P.cellsOf (ZV P t)) (h1:gOf (look P σ t x)=true/\gOf (look P σ t y)=true/\Xj P t=true/\Qg P (ZV P t)=true/\0<P.cellsOf (ZV P t))
  (h2:(V1 σ (unc (look P σ t x)) size).1/\(V1 σ (unc (look P σ t x)) size).2=(iJ,l1)) (h3:(UA σ (unc (look P σ t y)) size).1/\(UA σ (unc (look P σ t y)) size).2=(news,l2))
  (h4:(l1++l2).Nodup/\(σ.Z7 (l1++l2)).fresh d=true) (h5:(iJ.length+news.length)*P.bytesOf (ZV P t)<=140737488355328/\iJ.length+news.length<=9223372036854775807)
  (h:Ev P ops bar rest ((σ.Z7 (l1++l2)).new d (.one (.sref d 0 0 (iJ.length+news.length))) [.arr true size (iJ++news)]) Q):jx P ops bar o rest σ Q:=by
 subst gT
 have e1:=uJ h2.1
 have e2:=ux h3.1
 rw[h2.2]at e1
 rw[h3.2]at e2
 have cl:∀σ0:St,PF o σ0 ((σ0.Z7 (l1++l2)).new d (.one (.sref d 0 0 (iJ.length+news.length))) [.arr true (P.cellsOf (ZV P t)) (iJ++news)]):=fun σ0 d' ic hc=>WE (fun e=>ic zBs) (JP hc)
 have go:∀l:List (Nat×V),(∀p∈l,p.1≠d/\P9 o p.1=true/\p.2.ref d=false)->Ue P ops o (σ.Jl l) (((σ.Jl l).Z7 (l1++l2)).new d (.one (.sref d 0 0 (iJ.length+news.length))) [.arr true (P.cellsOf (ZV P t)) (iJ++news)]):=by
  rintro l hl T0 B a w K Q' ⟨X,hh,r⟩ hK
  have hw:Region.wanted o (yielded ops a.tmps)=true:=zBS
  rw[if_pos hw]
  have lx:look P (σ.Jl l) t x=look P σ t x:=WH l σ (fun p hp=>(Vr iE (hl p hp).2.1).1)
  have ly:look P (σ.Jl l) t y=look P σ t y:=WH l σ (fun p hp=>(Vr iE (hl p hp).2.1).2)
  refine Fw r iE hd (by rw[lx];exact h1.1) (by rw[ly];exact h1.2.1) h1.2.2.1 h1.2.2.2.1 h1.2.2.2.2 (by rw[lx];exact pS (Ph l σ) e1) (by rw[ly];exact r7 (Ph l σ) e2) h4.1 ?_ h5.1 h5.2 hK
  rw[xX]
  exact Ss l (fun p hp=>(hl p hp).2.2) h4.2
 have go0:Ue P ops o σ ((σ.Z7 (l1++l2)).new d (.one (.sref d 0 0 (iJ.length+news.length))) [.arr true (P.cellsOf (ZV P t)) (iJ++news)]):=go [] (fun p hp=>by cases hp)
 refine⟨_,.inr ⟨hU,go0,cl σ,fun hh=>by simp[UK,iE]at hh,fun _=>Gk hd (St.Ka _ _) (fun t=>St.xB _ _ t) (fun t j cells hb=>FB hb) (fun t j q s rows hb=>⟨rows,G9 hb⟩) h4.2 (fun l hl=>?_) (fun l=>?_),fun hh _=>by first|(simp[KV,iE]at hh;done)|(unfold KV at hh;rw[iE]at hh;split at hh<;>simp_all)⟩,Jm h⟩
 ·rw[<-xX];exact go l hl
 ·rw[<-xX];exact cl _
theorem uR(r:Rel T0 B σ a w X h)(hd:o.dst=some d)(hv:Yj P σ o.op o.type (.one (.sref u j 0 n)))(ho:σ.ob u j= .arr false size rows)(hle:n<=rows.length)
  (gG:(σ.Zy u j .none).fresh d=true) (hK:∀a' w',J5 T0 B ((σ.Zy u j .none).new d (.one (.sref d 0 0 n)) [.arr false size (rows.take n)]) a' w'->XF B w w'->K a' w'):o.wp P a w K Q:=by
 obtain⟨val,iv,bE⟩:=Wt r hv
 unfold Oper.wp
 rw[iv,Oper.upon_value,hd]
 have bn:YK (Tof T0 X) h σ.ob w (.sref u j 0 n) val:=bE
 obtain⟨_,_,fL,_⟩:=bn.2.1 _ _ _ ho
 have he:val=NX (h u j).v n:=fL rfl
 have h0:=r.obj u j
 rw[ho]at h0
 obtain⟨e,xs,iS,gw,iN⟩:=h0
 have iu:σ.ob u j≠ .none:=zAx
 have bZ:(rows.take n).length=n:=zA6
 have gk:(rows.take n).flatten=rows.flatten.take (n*size):=K3 rows size gw n hle
 have gS:w.ownsRow 0 e size val (rows.take n).length (xs.take (n*size)):=by rw[he,bZ];exact kl iS hle
 have iQ:=St.zV gG
 have gN:((σ.Zy u j .none).new d (.one (.sref d 0 0 n)) [.arr false size (rows.take n)]).ob d 0= .arr false size (rows.take n):=zA8
 have hJ:∀b,blk val=some b->¬B b/\¬X b/\b<w.heap.size/\∀u' j',(σ.Zy u j .none).ob u' j'≠ .none->¬(h u' j').u b:=by
  intro b hb
  rw[he,Vz]at hb
  have bl:=r.ub u j b iu hb
  have gI:=r.own u j b iu bl
  refine⟨gI.1,gI.2.1,gI.2.2,fun u' j' iH iq=>?_⟩
  have cQ:σ.ob u' j'≠ .none:=by
   intro hh
   rw[St.Xx σ u j _ u' j' iu]at iH
   split at iH
   ·exact iH rfl
   ·exact iH hh
  have:=r.inj u j u' j' b iu cQ bl iq
  obtain⟨rfl,rfl⟩:=this
  rw[St.Xx σ u j _ u j iu]at iH
  simp at iH
 refine hK _ _ ⟨X,fun t k=>if t=d then Hd.of val else h t k,?_⟩ (XF.refl _ _)
 refine(r.drop u j).wC gG (fun b=>blk val=some b) (Nat.le_refl _) (fun _ _ _=>rfl) (fun b hb=>⟨(hJ b hb).1,(hJ b hb).2.1,fun t k _ iH=>(hJ b hb).2.2.2 t k iH⟩) (fun _ hb=>hb) (fun _ hb=>.inl hb) _ _ [.arr false size (rows.take n)] (fun _=>Hd.of val) ?_ (fun k=>?_) (fun k b _ hb=>hb) (fun k b iH iq=>?_) (fun k k' b iH gE _ _=>?_)
 ·refine⟨KS gS,fun q' iw ig hh=>?_,fun iw ig hh=>by rw[gN]at hh;cases hh⟩
  rw[gN]at hh;cases hh
  simp only[if_true]
  have:=VR gS
  rwa[bZ]at this⊢
 ·cases k with
  |zero=>exact⟨e,xs.take (n*size),gS,fun q hq=>gw q (List.mem_of_mem_take hq),by rw[gk];exact(iN.imp fun _ _ hh=>hh).take _⟩
  |succ k=>simp[Yt,J9]
 ·exact⟨.inr iq,(hJ b iq).2.1,(hJ b iq).2.2.1⟩
 ·have:∀k,Yt [Ob.arr false size (rows.take n)] k≠ .none->k=0:=by
   intro k hk
   cases k with
   |zero=>rfl
   |succ k=>simp[Yt]at hk
  rw[this k iH,this k' gE]
theorem uo(r:Rel T0 B σ a w X h)(hd:o.dst=some d)(hv:Yj P σ o.op o.type (.one (.sref u j 0 n)))(ho:σ.ob u j= .arr true size rows)(hle:n<=rows.length)
  (gG:(σ.Zy u j .none).fresh d=true) (hK:∀a' w',J5 T0 B ((σ.Zy u j .none).new d (.one (.sref d 0 0 n)) [.arr true size (rows.take n)]) a' w'->XF B w w'->K a' w'):o.wp P a w K Q:=by
 obtain⟨val,iv,bE⟩:=Wt r hv
 unfold Oper.wp
 rw[iv,Oper.upon_value,hd]
 have bn:YK (Tof T0 X) h σ.ob w (.sref u j 0 n) val:=bE
 obtain⟨_,_,fL,_⟩:=bn.2.1 _ _ _ ho
 have he:val=NX (h u j).v n:=fL rfl
 have h0:=r.obj u j
 rw[ho]at h0
 obtain⟨e,xs,iS,gw,iN,dJ⟩:=h0
 have iu:σ.ob u j≠ .none:=zAx
 have bZ:(rows.take n).length=n:=zA6
 have gk:(rows.take n).flatten=rows.flatten.take (n*size):=K3 rows size gw n hle
 have gS:w.ownsRow 0 e size val (rows.take n).length (xs.take (n*size)):=by rw[he,bZ];exact kl iS hle
 have iQ:=St.zV gG
 have gN:((σ.Zy u j .none).new d (.one (.sref d 0 0 n)) [.arr true size (rows.take n)]).ob d 0= .arr true size (rows.take n):=zA8
 have hJ:∀b,(h u j).u b->¬B b/\¬X b/\b<w.heap.size/\∀u' j',(σ.Zy u j .none).ob u' j'≠ .none->¬(h u' j').u b:=by
  intro b bl
  have gI:=r.own u j b iu bl
  refine⟨gI.1,gI.2.1,gI.2.2,fun u' j' iH iq=>?_⟩
  have cQ:σ.ob u' j'≠ .none:=by
   intro hh
   rw[St.Xx σ u j _ u' j' iu]at iH
   split at iH
   ·exact iH rfl
   ·exact iH hh
  have:=r.inj u j u' j' b iu cQ bl iq
  obtain⟨rfl,rfl⟩:=this
  rw[St.Xx σ u j _ u j iu]at iH
  simp at iH
 refine hK _ _ ⟨X,fun t k=>if t=d then({v:=val,u:=(h u j).u,n:=(h u j).n}:Hd)else h t k,?_⟩ (XF.refl _ _)
 refine(r.drop u j).wC gG (fun b=>(h u j).u b) (Nat.le_refl _) (fun _ _ _=>rfl) (fun b hb=>⟨(hJ b hb).1,(hJ b hb).2.1,fun t k _ iH=>(hJ b hb).2.2.2 t k iH⟩) (fun _ hb=>hb) (fun _ hb=>.inl hb) _ _ [.arr true size (rows.take n)] (fun _=>({v:=val,u:=(h u j).u,n:=(h u j).n}:Hd)) ?_ (fun k=>?_) (fun k b _ hb=>r.ub u j b iu (by have hb:blk val=some b:=hb;rw[he,Vz]at hb;exact hb)) (fun k b iH iq=>?_) (fun k k' b iH gE _ _=>?_)
 ·refine⟨KS gS,fun q' iw ig hh=>?_,fun iw ig hh=>by rw[gN]at hh;cases hh⟩
  rw[gN]at hh;cases hh
  simp only[if_true]
  have:=VR gS
  rwa[bZ]at this⊢
 ·cases k with
  |zero=>
   have bF:xs.length=rows.length*size:=by rw[iN.1,YV rows _ gw]
   have dP:n*size<=xs.length:=by rw[bF];exact Nat.mul_le_mul_right _ hle
   have hp:=Ke.pick iN (p:=n*size) (q:=n*size) (n:=0) (Nat.le_refl _) zAA
   simp only[cut,List.take_zero,List.append_nil]at hp
   refine⟨e,xs.take (n*size),gS,fun q hq=>gw q (List.mem_of_mem_take hq),?_,fun k x dd hx fU gV=>?_⟩
   ·rw[gk]
    refine hp.mono (fun b hb=>⟨hb.1,?_⟩)
    have hZ:=hb.2
    intro hh
    have hh:blk val=some b:=hh
    rw[he,Vz]at hh
    exact hZ hh
   ·rw[gk]at fU
    have hk:k<n*size:=by have:=(List.getElem?_eq_some_iff.1 hx).1;rw[List.length_take]at this;omega
    rw[List.getElem?_take,if_pos hk]at hx fU
    exact dJ k x dd hx fU gV
  |succ k=>simp[Yt,J9]
 ·exact⟨.inr iq,(hJ b iq).2.1,(hJ b iq).2.2.1⟩
 ·have:∀k,Yt [Ob.arr true size (rows.take n)] k≠ .none->k=0:=by
   intro k hk
   cases k with
   |zero=>rfl
   |succ k=>simp[Yt]at hk
  rw[this k iH,this k' gE]
theorem Rel.mL(r:Rel T0 B σ a w X h)(hX:∀b,X b->X' b)(cO:∀b,X' b->X b\/(¬B b/\b<w.heap.size/\∀t j,σ.ob t j≠ .none->¬(h t j).u b)):Rel T0 B σ a w X' h:=by
 have hT:∀b k v,Tof T0 X b k->w.cell? ⟨b,k,none⟩=some v->w.cell? ⟨b,k,none⟩=some v/\Tof T0 X' b k:=fun b k v hb hc=>⟨hc,hb.imp id (hX b)⟩;refine⟨r.size,r.defers,r.hB,fun b hb=>?_,r.hT,fun t ht=>JU.mono hT (r.slot t ht),fun t j=>?_,r.ub,fun t j b ho hb=>?_,r.inj⟩
 ·rcases cO b hb with hb|hb
  ·exact r.hX b hb
  ·exact⟨hb.1,hb.2.1⟩
 ·have h0:=r.obj t j;cases ho:σ.ob t j with
  |none=>trivial
  |box cells=>rw[ho]at h0;obtain⟨b,cs,e,hv,hh,iN⟩:=h0;exact⟨b,cs,e,hv,hh,iN.imp fun _ _=>YK.mono hT⟩
  |arr q size rows=>
   rw[ho]at h0;cases q with
   |false=>obtain⟨e,xs,fZ,hz,iN⟩:=h0;exact⟨e,xs,fZ,hz,iN.imp fun _ _=>Rd.mono hT⟩
   |true=>exact h0
  |lit size rows=>rw[ho]at h0;obtain⟨e,xs,fZ,hz,iN⟩:=h0;exact⟨e,xs,fZ,hz,iN.imp fun _ _=>YK.mono hT⟩
 ·have:=r.own t j b ho hb;refine⟨this.1,fun hx=>?_,this.2.2⟩;rcases cO b hx with hx|hx
  ·exact this.2.1 hx
  ·exact hx.2.2 t j ho hb
theorem uv(r:Rel T0 B σ a w X h)(hd:o.dst=some d)(hv:Yj P σ o.op o.type (.one (.sref u j 0 n)))(ho:σ.ob u j= .arr true size rows)(hle:n<=rows.length)
  (gG:(σ.Zy u j .none).fresh d=true) (hK:∀a' w',J5 T0 B ((σ.Zy u j .none).new d (.one (.sref d 0 0 n)) [.arr false size (rows.take n)]) a' w'->XF B w w'->K a' w'):o.wp P a w K Q:=by
 obtain⟨val,iv,bE⟩:=Wt r hv
 unfold Oper.wp
 rw[iv,Oper.upon_value,hd]
 have bn:YK (Tof T0 X) h σ.ob w (.sref u j 0 n) val:=bE
 obtain⟨_,_,fL,_⟩:=bn.2.1 _ _ _ ho
 have he:val=NX (h u j).v n:=fL rfl
 have h0:=r.obj u j
 rw[ho]at h0
 obtain⟨e,xs,iS,gw,iN,dJ⟩:=h0
 have iu:σ.ob u j≠ .none:=zAx
 have bZ:(rows.take n).length=n:=zA6
 have gk:(rows.take n).flatten=rows.flatten.take (n*size):=K3 rows size gw n hle
 have gS:w.ownsRow 0 e size val (rows.take n).length (xs.take (n*size)):=by rw[he,bZ];exact kl iS hle
 have iQ:=St.zV gG
 have gN:((σ.Zy u j .none).new d (.one (.sref d 0 0 n)) [.arr false size (rows.take n)]).ob d 0= .arr false size (rows.take n):=zA8
 have hJ:∀b,(h u j).u b->¬B b/\¬X b/\b<w.heap.size/\∀u' j',(σ.Zy u j .none).ob u' j'≠ .none->¬(h u' j').u b:=by
  intro b bl
  have gI:=r.own u j b iu bl
  refine⟨gI.1,gI.2.1,gI.2.2,fun u' j' iH iq=>?_⟩
  have cQ:σ.ob u' j'≠ .none:=by
   intro hh
   rw[St.Xx σ u j _ u' j' iu]at iH
   split at iH
   ·exact iH rfl
   ·exact iH hh
  have:=r.inj u j u' j' b iu cQ bl iq
  obtain⟨rfl,rfl⟩:=this
  rw[St.Xx σ u j _ u j iu]at iH
  simp at iH
 have hvb:∀b,blk val=some b->(h u j).u b/\blk (h u j).v=some b:=fun b hb=>by rw[he,Vz]at hb;exact⟨r.ub u j b iu hb,hb⟩
 have r1:=(r.drop u j).mL (X':=fun b=>X b\/((h u j).u b/\blk (h u j).v≠some b)) (fun b hb=>.inl hb) (fun b hb=>hb.imp id (fun hh=>⟨(hJ b hh.1).1,(hJ b hh.1).2.2.1,(hJ b hh.1).2.2.2⟩))
 refine hK _ _ ⟨fun b=>X b\/((h u j).u b/\blk (h u j).v≠some b),fun t k=>if t=d then Hd.of val else h t k,?_⟩ (XF.refl _ _)
 refine r1.wC gG (fun b=>blk val=some b) (Nat.le_refl _) (fun _ _ _=>rfl) (fun b hb=>⟨(hJ b (hvb b hb).1).1,?_,fun t k _ iH=>(hJ b (hvb b hb).1).2.2.2 t k iH⟩) (fun _ hb=>hb) (fun _ hb=>.inl hb) _ _ [.arr false size (rows.take n)] (fun _=>Hd.of val) ?_ (fun k=>?_) (fun k b _ hb=>hb) (fun k b iH iq=>?_) (fun k k' b iH gE _ _=>?_)
 ·rintro(hx|hx)
  ·exact(hJ b (hvb b hb).1).2.1 hx
  ·exact hx.2 (hvb b hb).2
 ·refine⟨KS gS,fun q' iw ig hh=>?_,fun iw ig hh=>by rw[gN]at hh;cases hh⟩
  rw[gN]at hh;cases hh
  simp only[if_true]
  have:=VR gS
  rwa[bZ]at this⊢
 ·cases k with
  |zero=>
   refine⟨e,xs.take (n*size),gS,fun q hq=>gw q (List.mem_of_mem_take hq),?_⟩
   rw[gk]
   exact(iN.rd (T:=Tof T0 (fun b=>X b\/((h u j).u b/\blk (h u j).v≠some b))) (fun b k hb=>.inr (.inr hb))).take _
  |succ k=>simp[Yt,J9]
 ·refine⟨.inr iq,?_,(hJ b (hvb b iq).1).2.2.1⟩
  rintro(hx|hx)
  ·exact(hJ b (hvb b iq).1).2.1 hx
  ·exact hx.2 (hvb b iq).2
 ·have:∀k,Yt [Ob.arr false size (rows.take n)] k≠ .none->k=0:=by
   intro k hk
   cases k with
   |zero=>rfl
   |succ k=>simp[Yt]at hk
  rw[this k iH,this k' gE]
theorem tr{Q:St->Prop}{t:TypeId}{len lo:Nat}(iE:o.op= .call ⟨.builtin .append,#[x,y],#[t,t]⟩)(hg:o.guard=none)(hd:o.dst=some d)(hU:bar o=true)
  (gT:size=P.cellsOf (ZV P t)) (h1:gOf (look P σ t x)=true/\gOf (look P σ t y)=true/\Xj P t=true/\Qg P (ZV P t)=true/\0<P.cellsOf (ZV P t))
  (h2:unc (look P σ t x)= .one (.sref u j 0 len)) (h3:unc (look P σ t y)= .one (.sref u j lo n)) (ho:σ.ob u j= .arr true size rows) (hle:len<=lo) (dP:lo+n<=rows.length)
  (gz:cut rows lo n=news) (h4:(σ.Zy u j .none).fresh d=true) (h5:(len+n)*P.bytesOf (ZV P t)<=140737488355328/\len+n<=9223372036854775807)
  (h:Ev P ops bar rest ((σ.Zy u j .none).new d (.one (.sref d 0 0 ((rows.take len).length+news.length))) [.arr true size (rows.take len++news)]) Q):jx P ops bar o rest σ Q:=by
 subst gT
 subst gz
 rw[XZ _ _ _ dP,List.length_take,Nat.min_eq_left zAA]at h
 have cl:∀σ0:St,PF o σ0 ((σ0.Zy u j .none).new d (.one (.sref d 0 0 (len+n))) [.arr true (P.cellsOf (ZV P t)) (rows.take len++cut rows lo n)]):=fun σ0 d' ic hc=>WE (fun e=>ic zBs) (Qs hc)
 have go:∀l:List (Nat×V),(∀p∈l,p.1≠d/\P9 o p.1=true/\p.2.ref d=false)->Ue P ops o (σ.Jl l) (((σ.Jl l).Zy u j .none).new d (.one (.sref d 0 0 (len+n))) [.arr true (P.cellsOf (ZV P t)) (rows.take len++cut rows lo n)]):=by
  rintro l hl T0 B a w K Q' ⟨X,hh,r⟩ hK
  have hw:Region.wanted o (yielded ops a.tmps)=true:=zBS
  rw[if_pos hw]
  have lx:look P (σ.Jl l) t x=look P σ t x:=WH l σ (fun p hp=>(Vr iE (hl p hp).2.1).1)
  have ly:look P (σ.Jl l) t y=look P σ t y:=WH l σ (fun p hp=>(Vr iE (hl p hp).2.1).2)
  refine Ff r iE hd (by rw[lx];exact h1.1) (by rw[ly];exact h1.2.1) h1.2.2.1 h1.2.2.2.1 h1.2.2.2.2 (by rw[lx];exact h2) (by rw[ly];exact h3) (by rw[Ph];exact ho) hle dP ?_ h5.1 h5.2 hK
  show((σ.Jl l).Zy u j .none).fresh d=true
  rw[ji]
  exact Ss l (fun p hp=>(hl p hp).2.2) h4
 have go0:Ue P ops o σ ((σ.Zy u j .none).new d (.one (.sref d 0 0 (len+n))) [.arr true (P.cellsOf (ZV P t)) (rows.take len++cut rows lo n)]):=go [] (fun p hp=>by cases hp)
 refine⟨_,.inr ⟨hU,go0,cl σ,fun hh=>by simp[UK,iE]at hh,fun _=>Gk hd (St.Xf _ _ _ _) (fun t=>St.QP _ _ _ _ t) (fun t i cells hb=>FB (L:=[(u,j)]) hb) (fun t i q s rows hb=>⟨rows,G9 (L:=[(u,j)]) hb⟩) h4 (fun l hl=>?_) (fun l=>?_),fun hh _=>by first|(simp[KV,iE]at hh;done)|(unfold KV at hh;rw[iE]at hh;split at hh<;>simp_all)⟩,Jm h⟩
 ·rw[<-ji];exact go l hl
 ·rw[<-ji];exact cl _
theorem s4{Q:St->Prop}{t:TypeId}{lo:Nat}(iE:o.op= .call ⟨.builtin .append,#[x,y],#[t,t]⟩)(hg:o.guard=none)(hd:o.dst=some d)(hU:bar o=true)
  (gT:size=P.cellsOf (ZV P t)) (h1:gOf (look P σ t x)=true/\gOf (look P σ t y)=true/\Xj P t=true/\Qg P (ZV P t)=true/\0<P.cellsOf (ZV P t))
  (h2:Be σ (unc (look P σ t x)) size iJ l1) (h3:unc (look P σ t y)= .one (.sref u j lo n)) (ho:σ.ob u j= .arr true size rows) (av:(u,j)∉l1) (hle:lo+n<=rows.length) (gz:cut rows lo n=news)
  (h4:((σ.Zy u j (.arr true size (Jw rows lo n))).Z7 l1).fresh d=true) (h5:(iJ.length+n)*P.bytesOf (ZV P t)<=140737488355328/\iJ.length+n<=9223372036854775807)
  (h:Ev P ops bar rest (((σ.Zy u j (.arr true size (Jw rows lo n))).Z7 l1).new d (.one (.sref d 0 0 (iJ.length+news.length))) [.arr true size (iJ++news)]) Q):jx P ops bar o rest σ Q:=by
 subst gT
 subst gz
 rw[XZ _ _ _ hle]at h
 have cl:∀σ0:St,PF o σ0 (((σ0.Zy u j (.arr true (P.cellsOf (ZV P t)) (Jw rows lo n))).Z7 l1).new d (.one (.sref d 0 0 (iJ.length+n))) [.arr true (P.cellsOf (ZV P t)) (iJ++cut rows lo n)]):=fun σ0 d' ic hc=>WE (fun e=>ic zBs) (JP (Qs hc))
 have go:∀l:List (Nat×V),(∀p∈l,p.1≠d/\P9 o p.1=true/\p.2.ref d=false)->Ue P ops o (σ.Jl l) ((((σ.Jl l).Zy u j (.arr true (P.cellsOf (ZV P t)) (Jw rows lo n))).Z7 l1).new d (.one (.sref d 0 0 (iJ.length+n))) [.arr true (P.cellsOf (ZV P t)) (iJ++cut rows lo n)]):=by
  rintro l hl T0 B a w K Q' ⟨X,hh,r⟩ hK
  have hw:Region.wanted o (yielded ops a.tmps)=true:=zBS
  rw[if_pos hw]
  have lx:look P (σ.Jl l) t x=look P σ t x:=WH l σ (fun p hp=>(Vr iE (hl p hp).2.1).1)
  have ly:look P (σ.Jl l) t y=look P σ t y:=WH l σ (fun p hp=>(Vr iE (hl p hp).2.1).2)
  refine EF r iE hd (by rw[lx];exact h1.1) (by rw[ly];exact h1.2.1) h1.2.2.1 h1.2.2.2.1 h1.2.2.2.2 (by rw[lx];exact rm (Ph l σ) h2) (by rw[ly];exact h3) (by rw[Ph];exact ho) hle av ?_ h5.1 h5.2 hK
  rw[ji,xX]
  exact Ss l (fun p hp=>(hl p hp).2.2) h4
 have iu:σ.ob u j≠ .none:=zAx
 have go0:Ue P ops o σ (((σ.Zy u j (.arr true (P.cellsOf (ZV P t)) (Jw rows lo n))).Z7 l1).new d (.one (.sref d 0 0 (iJ.length+n))) [.arr true (P.cellsOf (ZV P t)) (iJ++cut rows lo n)]):=go [] (fun p hp=>by cases hp)
 refine⟨_,.inr ⟨hU,go0,cl σ,fun hh=>by simp[UK,iE]at hh,fun _=>Gk hd (by rw[St.Ka,St.Xf]) (fun t=>by rw[St.xB,St.QP]) (fun t i cells hb=>?_) (fun t i q s ig hb=>?_) h4 (fun l hl=>?_) (fun l=>?_),fun hh _=>by first|(simp[KV,iE]at hh;done)|(unfold KV at hh;rw[iE]at hh;split at hh<;>simp_all)⟩,Jm h⟩
 ·have hb:=FB hb
  rw[St.Xx σ u j _ t i iu]at hb
  split at hb
  ·cases hb
  ·exact hb
 ·have hb:=G9 hb
  rw[St.Xx σ u j _ t i iu]at hb
  split at hb
  ·rename_i hc;cases hb;rw[hc.1,hc.2];exact⟨rows,ho⟩
  ·exact⟨ig,hb⟩
 ·rw[<-xX,<-ji];exact go l hl
 ·rw[<-xX,<-ji];exact cl _
theorem BN{f:At->Bool}{v:V}(hv:v.yn f=false):∀{σ:St}{d:Nat},σ.yn f=false->(σ.put d v).yn f=false
 |[],_,_=>rfl
 |e::σ,0,h=>by simp only[St.yn,Bool.or_eq_false_iff]at h;simp[St.put,St.yn,hv,h.1.2,h.2]
 |e::σ,d+1,h=>by simp only[St.yn,Bool.or_eq_false_iff]at h;simp[St.put,St.yn,h.1.1,h.1.2,BN hv h.2]
theorem II{σ:St}:∀{xs:List At}{ds:List D},KD σ xs=some ds->∀p∈XP xs,∃q s rows,σ.ob p.1 p.2= .arr q s rows
 |[],_,_,p,hp=>by cases hp
 |x::xs,ds,h,p,hp=>by
  simp only[KD]at h
  split at h
  ·rename_i d bD h1 h2
   have ih:=II h2
   cases x with
   |sref t j lo len=>
    simp only[XP,List.mem_cons]at hp
    rcases hp with rfl|hp
    ·simp only[mvD]at h1
     split at h1
     ·rename_i q s rows ho;exact⟨q,s,rows,ho⟩
     ·cases h1
    ·exact ih p hp
   |_=>exact ih p hp
  ·cases h
theorem LW{t' iw:Nat}{q':Bool}{ig:List (List D)}{cells:List At}{xs:List At}(hm:KD σ xs=some ds)(hL:XP xs=L)(ho:σ.ob t j= .arr q size rows)(hn:(t,j)∉L)(hb:σ.ob t' 0= .box cells):
  ((σ.Z7 L).Zy t j (.arr q' iw ig)).ob t' 0= .box cells:=by
 have h1:(σ.Z7 L).ob t j≠ .none:=by rw[St.Ks,if_neg hn,ho];simp
 rw[St.Xx _ t j _ t' 0 h1]
 split
 ·rename_i hc;rw[hc.1,hc.2,ho]at hb;cases hb
 ·rw[St.Ks]
  split
  ·rename_i hc
   obtain⟨q,s,rows,he⟩:=II hm (t',0) (by rw[hL];exact hc)
   rw[he]at hb;cases hb
  ·exact hb
structure StM(P:Program)(σ:St)(T:TypeId)(x y:Operand)(t j i c size:Nat)(rows:List (List D))(ds:List D)(l:List (Nat×Nat)):Prop where
 hx:unc (look P σ 0 x)= .one (.ptr t j i c)
 ho:σ.ob t j= .arr true size rows
 hi:i<rows.length
 h1:qm P T=true/\gOf (look P σ 0 x)=true/\gOf (look P σ T y)=true/\(unc (look P σ T y)).flat=true
 h2:KD σ (unc (look P σ T y)).cells=some ds
 h3:Qk σ (unc (look P σ T y)).cells
 h4:XP (unc (look P σ T y)).cells=l
 h5:l.Nodup/\(t,j)∉l/\(σ.Z7 l).yn (At.isT t)=false
 h6:ds.length=P.cellsOf T/\c+P.cellsOf T<=size
theorem StM.Jl{P:Program}{o:Oper}{T:TypeId}{x y:Operand}(iE:o.op= .store T x y){t j i c size:Nat}{rows:List (List D)}{ds:List D}{l:List (Nat×Nat)}:∀(q:List (Nat×V)){σ:St},(∀p∈q,VV o p.1=true/\Mh p.2=true)->StM P σ T x y t j i c size rows ds l->StM P (σ.Jl q) T x y t j i c size rows ds l
 |[],_,_,h=>h
 |p::q,σ,hq,h=>by
  refine StM.Jl iE q (fun p' bW=>hq p' (by simp[bW])) ?_
  obtain⟨hu,hp⟩:=hq p zAE
  simp only[VV,iE,Bool.and_eq_true,Bool.not_eq_true']at hu
  have hv:p.2.yn (At.isT t)=false:=by
   generalize p.2=v at hp
   unfold Mh at hp
   split at hp<;>first|rfl|cases hp
  refine⟨?_,?_,h.hi,?_,?_,?_,?_,⟨h.h5.1,h.h5.2.1,?_⟩,h.h6⟩
  ·rw[Xo hu.1];exact h.hx
  ·rw[St.Jc];exact h.ho
  ·rw[Xo hu.1,Xo hu.2];exact h.h1
  ·rw[Xo hu.2,Mi];exact h.h2
  ·rw[Xo hu.2,PQ];exact h.h3
  ·rw[Xo hu.2];exact h.h4
  ·rw[Us];exact BN hv h.h5.2.2
theorem Nl{l:List (Nat×Nat)}{t j:Nat}{ob:Ob}:∀(q:List (Nat×V))(σ:St),((σ.Jl q).Z7 l).Zy t j ob=((σ.Z7 l).Zy t j ob).Jl q
 |[],_=>rfl
 |p::q,σ=>by rw[St.Jl,St.Jl,Nl q,Us,xt]
theorem LQ{T:TypeId}{c:Nat}(iE:o.op= .store T x y)(hg:o.guard=none)(hd:o.dst=none)(h:StM P σ T x y t j i c size rows ds l):
  Ue P ops o σ ((σ.Z7 l).Zy t j (.arr true size (rows.set i (place (rowAt rows i) c ds)))):=by
 obtain⟨hx,ho,hi,h1,h2,h3,h4,h5,h6⟩:=h
 subst h4
 rintro T0 B a w K Q' ⟨X,hh,r⟩ hK
 have hw:Region.wanted o (yielded ops a.tmps)=true:=zBS
 rw[if_pos hw]
 exact Iy r iE hd h1.1 h1.2.1 h1.2.2.1 hx ho hi h1.2.2.2 h2 h3 h5.1 h5.2.1 h5.2.2 h6.1 h6.2 hK
theorem sO{Q:St->Prop}{T:TypeId}{c:Nat}(iE:o.op= .store T x y)(hg:o.guard=none)(hd:o.dst=none)(hU:bar o=true)
  (hx:unc (look P σ 0 x)= .one (.ptr t j i c)) (ho:σ.ob t j= .arr true size rows) (hi:i<rows.length) (h1:qm P T=true/\gOf (look P σ 0 x)=true/\gOf (look P σ T y)=true/\(unc (look P σ T y)).flat=true)
  (h2:KD σ (unc (look P σ T y)).cells=some ds) (h3:Qk σ (unc (look P σ T y)).cells) (h4:XP (unc (look P σ T y)).cells=l) (h5:l.Nodup/\(t,j)∉l/\(σ.Z7 l).yn (At.isT t)=false) (h6:ds.length=P.cellsOf T/\c+P.cellsOf T<=size)
  (h:Ev P ops bar rest ((σ.Z7 l).Zy t j (.arr true size (rows.set i (place (rowAt rows i) c ds)))) Q):jx P ops bar o rest σ Q:=by
 have hm:StM P σ T x y t j i c size rows ds l:=⟨hx,ho,hi,h1,h2,h3,h4,h5,h6⟩
 refine⟨_,.inr ⟨hU,LQ iE hg hd hm,fun d' _ hc=>Qs (JP hc),fun _=>⟨⟨by rw[St.Xf,St.Ka],fun u=>by rw[St.QP,St.xB]⟩,fun q hq=>?_,fun t' cells hb=>?_⟩,fun hh=>by simp[kr,iE]at hh,fun hh _=>by simp[KV,iE]at hh⟩,Jm h⟩
 ·rw[<-Nl]
  exact⟨LQ iE hg hd (hm.Jl iE q hq),fun d' _ hc=>Qs (JP hc)⟩
 ·exact LW hm.h2 hm.h4 hm.ho hm.h5.2.1 hb
theorem Et{T:TypeId}(iE:o.op= .store T x y)(hg:o.guard=none)(hd:o.dst=none)(g5:ds.length=size)(h:StM P σ T x y t j i 0 size rows ds l):
  Ue P ops o σ ((σ.Z7 l).Zy t j (.arr true size (rows.set i ds))):=by
 rintro T0 B a w K Q' ⟨X,hh,r⟩ hK
 refine LQ iE hg hd h T0 B a w K Q' ⟨X,hh,r⟩ ?_
 have h0:=r.obj t j
 rw[h.ho]at h0
 obtain⟨_,_,_,hz,_⟩:=h0
 have e:place (rowAt rows i) 0 ds=ds:=by
  have hr:(rowAt rows i).length=size:=by
   have:rowAt rows i=rows[i]'h.hi:=by simp[rowAt,List.getD_eq_getElem?_getD,List.getElem?_eq_getElem h.hi]
   rw[this];exact hz _ (List.getElem_mem h.hi)
  unfold place
  rw[List.take_zero,List.nil_append,List.drop_eq_nil_of_le zAA,List.append_nil]
 rw[e];exact hK
theorem rR{Q:St->Prop}{T:TypeId}(iE:o.op= .store T x y)(hg:o.guard=none)(hd:o.dst=none)(hU:bar o=true)
  (hx:unc (look P σ 0 x)= .one (.ptr t j i 0)) (ho:σ.ob t j= .arr true size rows) (hi:i<rows.length) (h1:qm P T=true/\gOf (look P σ 0 x)=true/\gOf (look P σ T y)=true/\(unc (look P σ T y)).flat=true)
  (h2:KD σ (unc (look P σ T y)).cells=some ds) (h3:Qk σ (unc (look P σ T y)).cells) (h4:XP (unc (look P σ T y)).cells=l) (h5:l.Nodup/\(t,j)∉l/\(σ.Z7 l).yn (At.isT t)=false) (h6:ds.length=P.cellsOf T/\P.cellsOf T=size)
  (h:Ev P ops bar rest ((σ.Z7 l).Zy t j (.arr true size (rows.set i ds))) Q):jx P ops bar o rest σ Q:=by
 have hm:StM P σ T x y t j i 0 size rows ds l:=⟨hx,ho,hi,h1,h2,h3,h4,h5,h6.1,zAA⟩
 have hf:ds.length=size:=zAA
 refine⟨_,.inr ⟨hU,Et iE hg hd hf hm,fun d' _ hc=>Qs (JP hc),fun _=>⟨⟨by rw[St.Xf,St.Ka],fun u=>by rw[St.QP,St.xB]⟩,fun q hq=>?_,fun t' cells hb=>?_⟩,fun hh=>by simp[kr,iE]at hh,fun hh _=>by simp[KV,iE]at hh⟩,Jm h⟩
 ·rw[<-Nl]
  exact⟨Et iE hg hd hf (hm.Jl iE q hq),fun d' _ hc=>Qs (JP hc)⟩
 ·exact LW hm.h2 hm.h4 hm.ho hm.h5.2.1 hb
structure StN(P:Program)(σ:St)(T:TypeId)(x y:Operand)(t j i c k q n size:Nat)(s rows:List (List D))(ds:List D)(l:List (Nat×Nat)):Prop where
 hx:unc (look P σ 0 x)= .one (.tref t j i c (some (k*n+q)))
 ho:σ.ob t j= .arr true size rows
 hi:i<rows.length
 hc:(rows.getD i [])[c]?=some (.sl n s)
 hk:k<s.length
 h1:qm P T=true/\gOf (look P σ 0 x)=true/\gOf (look P σ T y)=true/\(unc (look P σ T y)).flat=true
 h2:KD σ (unc (look P σ T y)).cells=some ds
 h3:Qk σ (unc (look P σ T y)).cells
 h4:XP (unc (look P σ T y)).cells=l
 h5:l.Nodup/\(t,j)∉l
 h6:ds.length=P.cellsOf T/\q+P.cellsOf T<=n
theorem StN.Jl{P:Program}{o:Oper}{T:TypeId}{x y:Operand}(iE:o.op= .store T x y){t j i c k n0 n size:Nat}{s rows:List (List D)}{ds:List D}{l:List (Nat×Nat)}:∀(q:List (Nat×V)){σ:St},(∀p∈q,VV o p.1=true/\Mh p.2=true)->StN P σ T x y t j i c k n0 n size s rows ds l->StN P (σ.Jl q) T x y t j i c k n0 n size s rows ds l
 |[],_,_,h=>h
 |p::q,σ,hq,h=>by
  refine StN.Jl iE q (fun p' bW=>hq p' (by simp[bW])) ?_
  obtain⟨hu,hp⟩:=hq p zAE
  simp only[VV,iE,Bool.and_eq_true,Bool.not_eq_true']at hu
  refine⟨?_,?_,h.hi,h.hc,h.hk,?_,?_,?_,?_,h.h5,h.h6⟩
  ·rw[Xo hu.1];exact h.hx
  ·rw[St.Jc];exact h.ho
  ·rw[Xo hu.1,Xo hu.2];exact h.h1
  ·rw[Xo hu.2,Mi];exact h.h2
  ·rw[Xo hu.2,PQ];exact h.h3
  ·rw[Xo hu.2];exact h.h4
theorem DF{T:TypeId}{c q:Nat}(iE:o.op= .store T x y)(hg:o.guard=none)(hd:o.dst=none)(h:StN P σ T x y t j i c k q n size s rows ds l):
  Ue P ops o σ ((σ.Z7 l).Zy t j (.arr true size (rows.set i (place (rowAt rows i) c [.sl n (s.set k (place (rowAt s k) q ds))])))):=by
 obtain⟨hx,ho,hi,hc,hk,h1,h2,h3,h4,h5,h6⟩:=h
 subst h4
 rintro T0 B a w K Q' ⟨X,hh,r⟩ hK
 have hw:Region.wanted o (yielded ops a.tmps)=true:=zBS
 rw[if_pos hw]
 exact HE r iE hd h1.1 h1.2.1 h1.2.2.1 hx ho hi hc hk h1.2.2.2 h2 h3 h5.1 h5.2 h6.1 h6.2 hK
theorem rH{Q:St->Prop}{T:TypeId}{c q:Nat}(iE:o.op= .store T x y)(hg:o.guard=none)(hd:o.dst=none)(hU:bar o=true)
  (hm:StN P σ T x y t j i c k q n size s rows ds l)
  (h:Ev P ops bar rest ((σ.Z7 l).Zy t j (.arr true size (rows.set i (place (rowAt rows i) c [.sl n (s.set k (place (rowAt s k) q ds))])))) Q):jx P ops bar o rest σ Q:=by
 refine⟨_,.inr ⟨hU,DF iE hg hd hm,fun d' _ hc=>Qs (JP hc),fun _=>⟨⟨by rw[St.Xf,St.Ka],fun u=>by rw[St.QP,St.xB]⟩,fun q hq=>?_,fun t' cells hb=>?_⟩,fun hh=>by simp[kr,iE]at hh,fun hh _=>by simp[KV,iE]at hh⟩,Jm h⟩
 ·rw[<-Nl]
  exact⟨DF iE hg hd (hm.Jl iE q hq),fun d' _ hc=>Qs (JP hc)⟩
 ·exact LW hm.h2 hm.h4 hm.ho hm.h5.2 hb
open Go.RowKit
def O8(P:Program)(σ:St):ResultVar->Prop×List At
 |.tmp t=>(match σ.get t with
  |.one x=>(t<σ.length,[x])
  |.agg []=>(t<σ.length,[])
  |.agg (x::y::xs)=>(t<σ.length,x::y::xs)
  |_=>(False,[]))
 |.cell t T=>(match σ.get t with
  |.one (.bptr u c)=>(match σ.ob u 0 with
    |.box cells=>(qm P T=true/\TR P T=true/\P.cellsOf T≠1/\c+P.cellsOf T<=cells.length,cut cells c (P.cellsOf T))
    |_=>(False,[]))
  |_=>(False,[]))
def KK(P:Program)(σ:St):List ResultVar->Prop×List (List At)
 |[]=>(True,[])
 |r::rs=>((O8 P σ r).1/\(KK P σ rs).1,(O8 P σ r).2::(KK P σ rs).2)
theorem uk(h:(O8 P σ r).1):H8 P σ r (O8 P σ r).2:=by
 cases r with
 |tmp t=>
  simp only[O8]at h⊢;simp only[H8];cases hx:σ.get t with
  |one x=>rw[hx]at h;exact⟨rfl,h⟩
  |agg xs=>
   rw[hx]at h;match xs,h with
   |[],h=>exact⟨rfl,h⟩
   |[x],h=>exact h.elim
   |x::y::xs,h=>exact⟨rfl,h⟩
  |any=>rw[hx]at h;exact h.elim
  |tup xs=>rw[hx]at h;exact h.elim
  |cnd g x=>rw[hx]at h;exact h.elim
  |fix u x=>rw[hx]at h;exact h.elim
 |cell t T=>
  simp only[O8]at h⊢;split at h
  ·rename_i u c hx;split at h
   ·rename_i cells ho;exact⟨u,c,cells,hx,ho,h.1,h.2.1,h.2.2.1,h.2.2.2,rfl⟩
   ·exact h.elim
  ·exact h.elim
theorem T2{P:Program}{σ:St}:∀{rs:List ResultVar},(KK P σ rs).1->Sw P σ rs (KK P σ rs).2
 |[],_=>rfl
 |_::_,h=>⟨_,_,uk h.1,T2 h.2,rfl⟩
theorem oX(hf:fn.results=rv.toArray)(h:(KK P σ rv).1/\WS σ (KK P σ rv).2=some res):AE P fn false res .ret σ:=
 ⟨.inl rfl,_,by rw[hf];exact T2 h.1,by simpa using h.2⟩
theorem nP(hf:fn.results=rv.toArray)(h:(KK P σ rv).1/\Ur σ (KK P σ rv).2=some res/\(XP (KK P σ rv).2.flatten).Nodup):AE P fn true res .ret σ:=
 ⟨.inl rfl,_,by rw[hf];exact T2 h.1,by simpa using h.2⟩
theorem Il(hf:fn.results=rv.toArray)(h:(KK P σ rv).1/\K2 σ (KK P σ rv).2=some res/\Kf σ (KK P σ rv).2/\(XP (KK P σ rv).2.flatten).Nodup):uO P fn res .ret σ:=
 ⟨.inl rfl,_,by rw[hf];exact T2 h.1,h.2⟩
attribute [simp] Be K2 KD mvD Kf Qk Fq Ya xe zc V1 UA St.Z7 wL vY Dk oz VG Si DX St.yn V.yn V.AD DC Tx xY At.isT
attribute [simp] isB bOf Ev stops ng OP evS Bn evV Ey Ap RW PC xA Sg SQ S6 N5 lkI lkK Vm.look cst unc gOf jR V.flat V.cells St.put St.Zy St.new St.ta St.tP St.pK St.pc DT WU sA
 GH PH ldV cut place rowOf ye zg At.CP JE V.zb Ym jF kJ DE vOf K0 xy KK O8 WS Ur ownRow kj XP ki Ow Yi At.ref D.scalar Kn D.C1 zD po JB
open Go.RowKit
theorem Dw{row:List D}(ho:Ke w cs row S):∃(hf:Nat->Hd)(Sk:Nat->Nat->Prop),(∀j c,cs[j]?=some c->(hf j).v=c)/\(∀k b,Sk k b->S b)/\(∀i j b,Sk i b->Sk j b->i=j)/\
  ∀j size rows,row[j]?=some (.sl size rows)->(∀b,(hf j).u b->Sk j b)/\(∀b,blk (hf j).v=some b->(hf j).u b)/\∀T h ob,J9 T h ob w (hf j) (.arr true size rows):=by
 obtain⟨hl,Sk,h1,h2,h3⟩:=ho
 have hex:∀j,∃hd:Hd,(∀c,cs[j]?=some c->hd.v=c)/\(∀size rows,row[j]?=some (.sl size rows)->(∀b,hd.u b->Sk j b)/\(∀b,blk hd.v=some b->hd.u b)/\∀T h ob,J9 T h ob w hd (.arr true size rows)):=by
  intro j
  cases hj:row[j]? with
  |none=>exact⟨Hd.of ((cs[j]?).getD undef),fun c gD=>by simp[Hd.of,gD],fun size rows hh=>by cases hh⟩
  |some dd=>
   have cS:j<cs.length:=by rw[hl];exact(List.getElem?_eq_some_iff.1 hj).1
   have bG:cs[j]?=some cs[j]:=List.getElem?_eq_getElem cS
   cases dd with
   |int k n=>exact⟨Hd.of cs[j],fun c gD=>by rw[bG]at gD;cases gD;rfl,fun size rows hh=>by cases hh⟩
   |bool k=>exact⟨Hd.of cs[j],fun c gD=>by rw[bG]at gD;cases gD;rfl,fun size rows hh=>by cases hh⟩
   |str k=>exact⟨Hd.of cs[j],fun c gD=>by rw[bG]at gD;cases gD;rfl,fun size rows hh=>by cases hh⟩
   |unk=>exact⟨Hd.of cs[j],fun c gD=>by rw[bG]at gD;cases gD;rfl,fun size rows hh=>by cases hh⟩
   |sl size rows=>
    have ho:=h1 j _ _ bG hj
    generalize hv:cs[j]=v at ho
    cases ho with
    |sl v size rows S e xs ab ho hz hb hl hk ay ic=>
     refine⟨⟨v,fun k=>(xs[k]?).getD undef,Sk j⟩,fun c gD=>by rw[bG,hv]at gD;cases gD;rfl,fun iw ig hh=>?_⟩
     cases hh
     exact⟨fun b hb=>hb,hb,fun T h ob=>⟨e,xs,ho,hz,⟨hl,ab,hk,fun k b hb=>ay k b hb,ic⟩,fun k x d hx _ _=>by simp[hx]⟩⟩
 obtain⟨hf,bX⟩:=Classical.axiomOfChoice hex
 exact⟨hf,Sk,fun j=>(bX j).1,h2,h3,fun j=>(bX j).2⟩
theorem Ke.top{row:List D}(ho:Ke w cs row S):YC (Wg T w) cs row:=by
 obtain⟨hl,Sk,h1,h2,h3⟩:=ho;refine YC.qA hl (fun k x d hx hd=>?_);have ho:=h1 k x d hx hd
 cases ho with
 |int k n=>exact Rd.int _ _
 |bool b=>exact Rd.bool _
 |str s=>exact Rd.str _
 |unk v h=>exact Rd.unk _ h
 |sl v size rows S e xs ab ho hz hb hl hk ay ic=>exact⟨e,xs,ho⟩
def mK(n:Nat)(v:Value)(row:List D)(args:List (List D)):St:=(.fix v (vOf (K0 0 0 row)),Ya [] row)::(Ow args++List.replicate (n-(args.length+1)) (V.any,[]))
def St.nB:St->List At->List D->St
 |σ,.sref t j _ _::xs,.sl size rows::ds=>St.nB (σ.Zy t j (.arr true size rows)) xs ds
 |σ,_::xs,_::ds=>St.nB σ xs ds
 |σ,_,_=>σ
def CB:List D->List D->Prop
 |.sl s r::ds,.sl s' r'::bD=>s=s'/\r.length=r'.length/\CB ds bD
 |.sl _ _::_,_=>False
 |_::ds,_::bD=>CB ds bD
 |[],[]=>True
 |_,_=>False
def wQ(σ:St):List At->Prop
 |[]=>True
 |.sref t j _ _::xs=>(match σ.ob t j with|.arr true _ _=>True|_=>False)/\wQ σ xs
 |_::xs=>wQ σ xs
def At.mn:At->Bool
 |.tref _ _ _ _ _=>true
 |_=>false
theorem Pg:∀{xs:List At}{t j:Nat},(t,j)∈XP xs->∃(k lo len:Nat),xs[k]?=some (At.sref t j lo len)
 |[],t,j,h=>zBC
 |x::xs,t,j,h=>by
  cases x with
  |sref t' j' lo len=>
   simp only[XP,List.mem_cons,Prod.mk.injEq]at h
   rcases h with⟨rfl,rfl⟩|h
   ·exact⟨0,lo,len,rfl⟩
   ·obtain⟨k,lo,len,hk⟩:=Pg h;exact⟨k+1,lo,len,by simpa using hk⟩
  |_=>obtain⟨k,lo,len,hk⟩:=Pg (xs:=xs) h;exact⟨k+1,lo,len,by simpa using hk⟩
theorem MY(iH:d≠d')(h:Xs σ d=true):Xs (σ.put d' v) d=true:=by
 unfold Xs at*;simp only[kR,if_neg iH];exact h
end Go.Vm
