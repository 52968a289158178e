/- An abstract machine La the model of Go, by value, and that it is sound: part Vb. No condition. -/
import Derived.Test.YthecodaabaaaoaaGreatVa
set_option linter.unusedVariables false
set_option linter.unusedSimpArgs false
namespace Go.Vm
open Go.RowKit
variable{Q:Exit->Act->World->Prop}{K:Act->World->Prop}{h h':Nat->Nat->Hd}{rows news s iJ res rs:List (List D)}{B X' X S S' N:Nat->Prop}{o:Oper}{P:Program}{σ σ' σ1:St}{x y:Operand}{p:At->Bool}{T0 T T':CS}{a:Act}{v val:Value}{n d size j t lo c g len i u:Nat}{w' w:World}{fO:Nat->Nat->Ob}{ys vs:List Value}{k:IntKind}{f:FuncId}{q:Bool}{cur:Array Value}{hd:Hd}
theorem YK.tu{ob:Nat->Nat->Ob}(hT:∀b k v,T b k->w.cell? ⟨b,k,none⟩=some v->w'.cell? ⟨b,k,none⟩=some v/\T' b k)(hc:∀t j,Cpt h h' ob fO t j)
  {x:At} (r:YK T h ob w x v):YK T' h' fO w' x v:=by
 obtain⟨d,hd⟩:∃d,x.ref d=false:=by
  cases x with
  |sref t j lo len=>exact⟨t+1,by simp[At.ref]⟩
  |ptr t j i c=>exact⟨t+1,by simp[At.ref]⟩
  |bptr t c=>exact⟨t+1,by simp[At.ref]⟩
  |fn f t=>exact⟨t+1,by simp[At.ref]⟩
  |tref t j i c o=>exact⟨t+1,by simp[At.ref]⟩
  |any=>exact⟨0,rfl⟩
  |d x=>exact⟨0,rfl⟩
  |nil s=>exact⟨0,rfl⟩
  |rptr r c=>exact⟨0,rfl⟩
 exact YK.carry hT (d:=d) (fun t j _=>hc t j) hd r
def Tx(p:At->Bool):List At->Bool
 |[]=>false
 |x::xs=>p x||Tx p xs
def V.AD(p:At->Bool):V->Bool
 |.one x=>p x
 |.agg xs=>Tx p xs
 |_=>false
def DC(p:At->Bool):List V->Bool
 |[]=>false
 |x::xs=>x.AD p||DC p xs
def V.yn(p:At->Bool):V->Bool
 |.tup xs=>DC p xs
 |.cnd _ x=>x.AD p
 |.fix _ x=>x.AD p
 |.one x=>p x
 |.agg xs=>Tx p xs
 |.any=>false
def xY(p:At->Bool):List Ob->Bool
 |[]=>false
 |.box cells::os=>Tx p cells||xY p os
 |.lit _ rows::os=>Tx p rows.flatten||xY p os
 |_::os=>xY p os
def St.yn(p:At->Bool):St->Bool
 |[]=>false
 |e::σ=>e.1.yn p||xY p e.2||St.yn p σ
def At.isT(t:Nat):At->Bool
 |.tref u _ _ _ _=>u==t
 |_=>false
theorem kK:∀(xs:List At),Tx (fun _=>false) xs=false
 |[]=>rfl
 |_::xs=>by simp[Tx,kK xs]
theorem Ly:∀(xs:List V),DC (fun _=>false) xs=false
 |[]=>rfl
 |x::xs=>by cases x<;>simp[DC,V.AD,kK,Ly xs]
theorem wh(x:V):x.AD (fun _=>false)=false:=by cases x<;>simp[V.AD,kK]
theorem qV(x:V):x.yn (fun _=>false)=false:=by cases x<;>simp[V.yn,kK,Ly,wh]
theorem VU:∀(os:List Ob),xY (fun _=>false) os=false
 |[]=>rfl
 |o::os=>by cases o<;>simp[xY,kK,VU os]
theorem St.qV:∀(σ:St),St.yn (fun _=>false) σ=false
 |[]=>rfl
 |e::σ=>by simp[St.yn,Go.Vm.qV,Go.Vm.VU,St.qV σ]
theorem St.NY{p:At->Bool}:∀{σ:St},σ.yn p=false->∀t,(σ.get t).yn p=false
 |[],_,t=>by simp[St.get,V.yn]
 |e::σ,h,0=>by simp only[St.yn,Bool.or_eq_false_iff]at h;exact h.1.1
 |e::σ,h,t+1=>by
  simp only[St.yn,Bool.or_eq_false_iff]at h
  have:=St.NY h.2 t
  simpa[St.get]using this
theorem DD{p:At->Bool}:∀{os:List Ob},xY p os=false->∀j,xY p [Yt os j]=false
 |[],_,j=>by simp[Yt,xY]
 |o::os,h,0=>by cases o<;>simp_all[Yt,xY]
 |o::os,h,j+1=>by
  have h2:xY p os=false:=by cases o<;>simp_all[xY]
  have:=DD h2 j
  simpa[Yt]using this
theorem St.HZ{p:At->Bool}:∀{σ:St},σ.yn p=false->∀t j,xY p [σ.ob t j]=false
 |[],_,t,j=>by simp[St.ob,xY]
 |e::σ,h,0,j=>by simp only[St.yn,Bool.or_eq_false_iff]at h;exact DD h.1.2 j
 |e::σ,h,t+1,j=>by
  simp only[St.yn,Bool.or_eq_false_iff]at h
  have:=St.HZ h.2 t j
  simpa[St.ob]using this
theorem HW{ob:Nat->Nat->Ob}(f:∀{x:At}{v:Value},p x=false->YK T h ob w x v->YK T' h' fO w' x v){xs:List At}(hx:Tx p xs=false)
  (r:YC (YK T h ob w) xs vs):YC (YK T' h' fO w') xs vs:=by
 induction r with
 |nil=>exact .nil
 |cons r _ ih=>
  simp only[Tx,Bool.or_eq_false_iff]at hx
  exact .cons (f hx.1 r) (ih hx.2)
theorem zX.map{ob:Nat->Nat->Ob}(f:∀{x:At}{v:Value},p x=false->YK T h ob w x v->YK T' h' fO w' x v){x:V}(hx:x.AD p=false)
  (r:zX T h ob w x v):zX T' h' fO w' x v:=by
 cases x with
 |any=>exact r
 |one x=>exact f hx r
 |agg xs=>obtain⟨cs,e,r⟩:=r;exact⟨cs,e,HW f hx r⟩
 |tup xs=>exact r.elim
 |cnd g x=>exact r.elim
 |fix u x=>exact r.elim
theorem JU.map{ob:Nat->Nat->Ob}(f:∀{x:At}{v:Value},p x=false->YK T h ob w x v->YK T' h' fO w' x v){x:V}(hx:x.yn p=false)
  (r:JU T h ob w x v):JU T' h' fO w' x v:=by
 cases x with
 |any=>exact r
 |one x=>exact f hx r
 |agg xs=>obtain⟨cs,e,r⟩:=r;exact⟨cs,e,HW f hx r⟩
 |tup xs=>
  obtain⟨vs,e,r⟩:=r
  refine⟨vs,e,?_⟩
  clear e
  generalize vs.toList=vl at r
  simp only[V.yn]at hx
  induction r with
  |nil=>exact .nil
  |cons r _ ih=>
   simp only[DC,Bool.or_eq_false_iff]at hx
   exact .cons (zX.map f hx.1 r) (ih hx.2)
 |cnd g x=>exact⟨fun hg=>zX.map f hx (r.1 hg),r.2⟩
 |fix u x=>exact⟨r.1,zX.map f hx r.2⟩
theorem J9.map{ob:Nat->Nat->Ob}(f:∀{x:At}{v:Value},p x=false->YK T h ob w x v->YK T' h' fO w' x v)
  (hT:∀b k v,T b k->w.cell? ⟨b,k,none⟩=some v->w'.cell? ⟨b,k,none⟩=some v/\T' b k) {o:Ob}
  (ga:o≠ .none->∀b,blk hd.v=some b->hd.u b) (hb:o≠ .none->∀b,hd.u b->w'.heap[b]?=w.heap[b]?) (hx:xY p [o]=false) (r:J9 T h ob w hd o):J9 T' h' fO w' hd o:=by
 cases o with
 |none=>trivial
 |box cells=>
  obtain⟨b,cs,e,hv,hh,iN⟩:=r
  simp only[xY,Bool.or_false]at hx
  exact⟨b,cs,e,hv,by rw[hb zAE b (ga zAE b (by rw[hv];rfl))];exact hh,HW f hx iN⟩
 |arr q size rows=>
  have hk:∀{e:TypeId}{n:Nat}{xs:List Value},w.ownsRow 0 e size hd.v n xs->w'.ownsRow 0 e size hd.v n xs:=fun ho=>qy (fun b h=>hb zAE b (ga zAE b h)) ho
  cases q with
  |false=>
   obtain⟨e,xs,ho,hz,iN⟩:=r
   exact⟨e,xs,hk ho,hz,iN.imp fun _ _=>Rd.mono hT⟩
  |true=>
   obtain⟨e,xs,ho,hz,iN,hn⟩:=r
   exact⟨e,xs,hk ho,hz,iN.N8 (fun b h=>hb zAE b h.1),hn⟩
 |lit size rows=>
  obtain⟨e,xs,ho,hz,iN⟩:=r
  simp only[xY,Bool.or_false]at hx
  exact⟨e,xs,qy (fun b h=>hb zAE b (ga zAE b h)) ho,hz,HW f hx iN⟩
def Ob.tw:Ob->Ob->Prop
 |.arr q s r,.arr q' s' r'=>q=q'/\s=s'/\r.length=r'.length
 |.lit s r,.lit s' r'=>s=s'/\r.length=r'.length
 |.box _,.box _=>True
 |_,_=>False
theorem Rel.change(r:Rel T0 B σ a w X h)(iu:σ.ob t j≠ .none)(gT:w'.heap.size=w.heap.size)(hw:∀k,¬(h t j).u k->w'.heap[k]?=w.heap[k]?)(M:Nat->Prop)
  (hM:∀b,M b->¬B b/\¬X b/\b<w.heap.size/\∀u i,σ.ob u i≠ .none->¬(h u i).u b) (o':Ob) (eR:(σ.ob t j).tw o') (ic:Hd) (hv:ic.v=(h t j).v) (hu:∀b,ic.u b->(h t j).u b\/M b) (ga:∀b,blk ic.v=some b->ic.u b)
  (p:At->Bool) (hp:σ.yn p=false) (hn:(∀u i c o,p (.tref t u i c o)=true)\/ic.n=(h t j).n)
  (eu:J9 (Tof T0 X) (fun u i=>if u=t/\i=j then ic else h u i) (σ.Zy t j o').ob w' ic o'):Rel T0 B (σ.Zy t j o') a w' X (fun u i=>if u=t/\i=j then ic else h u i):=by
 have gd:∀u i,¬(u=t/\i=j)->(σ.Zy t j o').ob u i=σ.ob u i:=by
  intro u i iH
  rw[St.Xx σ t j o' u i iu,if_neg iH]
 have gZ:(σ.Zy t j o').ob t j=o':=by rw[St.Xx σ t j o' t j iu];simp
 have hT:∀b k v,Tof T0 X b k->w.cell? ⟨b,k,none⟩=some v->w'.cell? ⟨b,k,none⟩=some v/\Tof T0 X b k:=by
  intro b' k v iq iZ
  refine⟨?_,iq⟩
  have iH:¬(h t j).u b':=by
   intro fh
   have iS:=r.own t j b' iu fh
   rcases iq with iq|iq
   ·exact iS.1 (r.hT _ _ iq)
   ·exact iS.2.1 iq
  rw[World.cell?_of_block (hw b' iH)];exact iZ
 have hhv:∀u i,((fun u i=>if u=t/\i=j then ic else h u i) u i).v=(h u i).v:=by
  intro u i
  by_cases hc:u=t/\i=j
  ·simp only[hc,and_self,if_true];exact hv
  ·simp only[hc,if_false]
 have hsl:∀u i q size rows,(σ.Zy t j o').ob u i= .arr q size rows->∃im,σ.ob u i= .arr q size im/\im.length=rows.length:=by
  intro u i q size rows ho
  by_cases hc:u=t/\i=j
  ·obtain⟨rfl,rfl⟩:=hc
   rw[gZ]at ho;subst ho
   cases gU:σ.ob u i with
   |arr q0 s0 r0=>rw[gU]at eR;obtain⟨rfl,rfl,hl⟩:=eR;exact⟨r0,rfl,hl⟩
   |none=>rw[gU]at eR;exact eR.elim
   |box c=>rw[gU]at eR;exact eR.elim
   |lit s r=>rw[gU]at eR;exact eR.elim
  ·rw[gd u i hc]at ho;exact⟨rows,ho,rfl⟩
 have hll:∀u i size rows,(σ.Zy t j o').ob u i= .lit size rows->∃im,σ.ob u i= .lit size im/\im.length=rows.length:=by
  intro u i size rows ho
  by_cases hc:u=t/\i=j
  ·obtain⟨rfl,rfl⟩:=hc
   rw[gZ]at ho;subst ho
   cases gU:σ.ob u i with
   |arr q0 s0 r0=>rw[gU]at eR;exact eR.elim
   |none=>rw[gU]at eR;exact eR.elim
   |box c=>rw[gU]at eR;exact eR.elim
   |lit s r=>rw[gU]at eR;obtain⟨rfl,hl⟩:=eR;exact⟨r,rfl,hl⟩
  ·rw[gd u i hc]at ho;exact⟨rows,ho,rfl⟩
 have hbl:∀u i cells,(σ.Zy t j o').ob u i= .box cells->∃gl,σ.ob u i= .box gl:=by
  intro u i cells ho
  by_cases hc:u=t/\i=j
  ·obtain⟨rfl,rfl⟩:=hc
   rw[gZ]at ho;subst ho
   cases gU:σ.ob u i with
   |arr q0 s0 r0=>rw[gU]at eR;exact eR.elim
   |none=>rw[gU]at eR;exact eR.elim
   |box c=>exact⟨c,rfl⟩
   |lit s r=>rw[gU]at eR;exact eR.elim
  ·rw[gd u i hc]at ho;exact⟨cells,ho⟩
 have at_:∀{x:At}{v:Value},p x=false->YK (Tof T0 X) h σ.ob w x v->YK (Tof T0 X) (fun u i=>if u=t/\i=j then ic else h u i) (σ.Zy t j o').ob w' x v:=by
  intro x v az rx
  cases x with
  |any=>exact rx
  |d x=>exact Rd.mono hT rx
  |nil s=>exact rx
  |sref u i lo len=>
   refine⟨rx.1,fun q size rows ho=>?_,fun size rows ho=>?_⟩
   ·obtain⟨im,gU,hl⟩:=hsl u i q size rows ho
    rw[hhv,<-hl];exact rx.2.1 q size im gU
   ·obtain⟨im,gU,hl⟩:=hll u i size rows ho
    rw[hhv,<-hl];exact rx.2.2 size im gU
  |ptr u i k c=>
   refine⟨rx.1,fun q size rows ho=>?_⟩
   obtain⟨im,gU,hl⟩:=hsl u i q size rows ho
   rw[hhv];exact rx.2 q size im gU
  |bptr u c=>
   refine⟨rx.1,fun cells ho=>?_⟩
   obtain⟨gl,gU⟩:=hbl u 0 cells ho
   rw[hhv];exact rx.2 gl gU
  |fn f u=>
   refine⟨rx.1,fun cells ho=>?_⟩
   obtain⟨gl,gU⟩:=hbl u 0 cells ho
   rw[hhv];exact rx.2 gl gU
  |tref u i k c o=>
   refine⟨rx.1,fun size rows ho=>?_⟩
   obtain⟨im,gU,hl⟩:=hsl u i true size rows ho
   have h1:=rx.2 size im gU
   by_cases hc:u=t/\i=j
   ·obtain⟨rfl,rfl⟩:=hc
    rcases hn with hn|hn
    ·rw[hn]at az;cases az
    ·simp only[and_self,if_true,hn];exact h1
   ·simp only[hc,if_false];exact h1
  |rptr rr c=>
   obtain⟨b,off,g,e,hk⟩:=rx
   exact⟨b,off,g,e,fun k d hd=>⟨(hT _ _ _ (hk k d hd).2.1 (hk k d hd).1).1,(hk k d hd).2.1,Rd.mono hT (hk k d hd).2.2⟩⟩
 have gf:∀u i,(σ.Zy t j o').ob u i≠ .none->σ.ob u i≠ .none:=by
  intro u i gF
  by_cases fh:u=t/\i=j
  ·obtain⟨rfl,rfl⟩:=fh;exact iu
  ·rw[gd u i fh]at gF;exact gF
 refine⟨by rw[r.size,St.Xf],r.defers,by rw[gT];exact r.hB,fun b hb=>by rw[gT];exact r.hX b hb,r.hT,fun u fh=>?_,fun u i=>?_,fun u i b' iH iq=>?_,fun u i b' iH iq=>?_,fun u i u' i' b' iH gE gX hZ=>?_⟩
 ·rw[St.Xf]at fh
  rw[St.QP];exact JU.map at_ (St.NY hp u) (r.slot u fh)
 ·by_cases hc:u=t/\i=j
  ·obtain⟨rfl,rfl⟩:=hc;rw[gZ];simp only[and_self,if_true];exact eu
  ·rw[gd u i hc]
   simp only[hc,if_false]
   exact J9.map at_ hT (fun ho b=>r.ub u i b ho) (fun ho b hb=>hw b (fun hbt=>hc (r.inj u i t j b ho iu hb hbt))) (St.HZ hp u i) (r.obj u i)
 ·by_cases hc:u=t/\i=j
  ·simp only[hc,and_self,if_true]at iq⊢;exact ga b' iq
  ·simp only[hc,if_false]at iq⊢;exact r.ub u i b' (gf u i iH) iq
 ·rw[gT]
  by_cases hc:u=t/\i=j
  ·simp only[hc,and_self,if_true]at iq
   rcases hu b' iq with h1|h1
   ·exact r.own t j b' iu h1
   ·have:=hM b' h1;exact⟨this.1,this.2.1,this.2.2.1⟩
  ·simp only[hc,if_false]at iq;exact r.own u i b' (gf u i iH) iq
 ·by_cases hc:u=t/\i=j
  ·by_cases gD:u'=t/\i'=j
   ·exact⟨by rw[hc.1,gD.1],by rw[hc.2,gD.2]⟩
   ·simp only[hc,and_self,if_true]at gX
    simp only[gD,if_false]at hZ
    rcases hu b' gX with h1|h1
    ·have:=r.inj t j u' i' b' iu (gf u' i' gE) h1 hZ
     rw[hc.1,hc.2];exact this
    ·exact absurd hZ ((hM b' h1).2.2.2 u' i' (gf u' i' gE))
  ·by_cases gD:u'=t/\i'=j
   ·simp only[gD,and_self,if_true]at hZ
    simp only[hc,if_false]at gX
    rcases hu b' hZ with h1|h1
    ·have:=r.inj u i t j b' (gf u i iH) iu gX h1
     rw[gD.1,gD.2];exact this
    ·exact absurd gX ((hM b' h1).2.2.2 u i (gf u i iH))
   ·simp only[hc,if_false]at gX
    simp only[gD,if_false]at hZ
    exact r.inj u i u' i' b' (gf u i iH) (gf u' i' gE) gX hZ
theorem Rel.ve(r:Rel T0 B σ a w X h)(iu:σ.ob t j≠ .none)(gT:w'.heap.size=w.heap.size)(hw:∀k,¬(h t j).u k->w'.heap[k]?=w.heap[k]?)
  (o':Ob) (eR:(σ.ob t j).tw o') (eu:J9 (Tof T0 X) h (σ.Zy t j o').ob w' (h t j) o'):Rel T0 B (σ.Zy t j o') a w' X h:=by
 have hh:(fun u i=>if u=t/\i=j then h t j else h u i)=h:=by
  funext u i
  by_cases hc:u=t/\i=j
  ·simp[hc]
  ·simp[hc]
 have:=r.change iu gT hw (fun _=>False) (fun _ hh=>hh.elim) o' eR (h t j) rfl (fun b hb=>.inl hb) (fun b hb=>r.ub t j b iu hb) (fun _=>false) (St.qV σ) (.inr rfl) (by rw[hh];exact eu)
 rw[hh]at this;exact this
theorem run_store{T:TypeId}{ti:TypeInfo}(hi:P.info? T=some ti){o:Nat}{e:TypeId}(hg:w.heap[g]?=some (.cells cur e (0,0)))(gT:val.cells.size=P.cellsOf T)(hle:o+P.cellsOf T<=cur.size)(h1:∀u∈val.cells.toList,u.oneCell'=true):
  (Instr.storeAt T (.pointer (some ⟨g,o,none⟩)) val).run P w= .ok () (w.setRow g (place cur.toList o val.cells.toList).toArray):=by
 have hC:=run_storeCells_at P g o e val.cells.toList 0 cur w hg zAo h1
 have iH:¬val.cells.size≠P.cellsOf T:=zAA
 simp only[Instr.storeAt,Instr.sureAddr,storeVar,Sem.run_bind,Sem.run_pure,Result.andThen_ok,KX hi,if_neg iH]
 rw[hC]
 simp[place]
theorem XF.setRow(hg:¬B g)(cs:Array Value):XF B w (w.setRow g cs):=
 ⟨rfl,rfl,rfl,by simp[World.setRow],fun k hk=>setRow_other w g k cs (fun e=>hg (e▸hk))⟩
theorem Gw(r:Rel T0 B σ a w X h){T:TypeId}(iE:o.op= .store T x y)(hd:o.dst=none)(ht:qm P T=true)(dH:gOf (look P σ 0 x)=true)(dI:gOf (look P σ T y)=true)
  (hx:unc (look P σ 0 x)= .one (.bptr t c)) {cells:List At} (ho:σ.ob t 0= .box cells) (gk:(unc (look P σ T y)).flat=true) (hl:(unc (look P σ T y)).cells.length=P.cellsOf T) (hle:c+P.cellsOf T<=cells.length)
  (hK:∀a' w',J5 T0 B (σ.Zy t 0 (.box (place cells c (unc (look P σ T y)).cells))) a' w'->XF B w w'->K a' w'):o.wp P a w K Q:=by
 obtain⟨_,ti,_,hi,_,_⟩:=WG ht
 have hax:=r.arg (P:=P) 0 x hx dH
 obtain⟨b,cs,e,hb,he,hh,iN⟩:=r.box ho hax
 have hy:=W5 gk (r.arg (P:=P) T y rfl dI)
 have fI:=hy.length
 have hO:=iN.length
 have e1:cs.toList.length=cs.size:=Array.length_toList
 have e2:(a.eval y).cells.toList.length=(a.eval y).cells.size:=Array.length_toList
 have iv:=run_store (P:=P) (w:=w) hi (o:=c) (val:=a.eval y) hh zAA zAA (fun u hu=>by obtain⟨x',_,dU⟩:=hy.mem hu;exact YK.QQ dU)
 have iu:σ.ob t 0≠ .none:=zAx
 have hJ:blk (h t 0).v=some b:=by rw[hb];rfl
 have hB:=r.nJ iu hJ
 have ga:=r.ub t 0 b iu hJ
 unfold Oper.wp
 simp only[execOp,iE,he,Sem.run_bind,iv,Result.andThen_ok,Sem.run_pure,Oper.upon_skip,hd]
 refine hK _ _ ⟨X,h,?_⟩ (XF.setRow hB.1 _)
 have gn:=setRow_heap w b cs (place cs.toList c (a.eval y).cells.toList).toArray e (0,0) hh
 refine r.ve iu zB5 (fun k hk=>setRow_other w b k _ (fun e=>hk (e▸ga))) _ (by rw[ho];trivial) ?_
 have r2:Rel T0 B (σ.Zy t 0 (.box (place cells c (unc (look P σ T y)).cells))) a (w.setRow b (place cs.toList c (a.eval y).cells.toList).toArray) X h->True:=fun _=>trivial
 have hT:∀b' k v,Tof T0 X b' k->w.cell? ⟨b',k,none⟩=some v->(w.setRow b (place cs.toList c (a.eval y).cells.toList).toArray).cell? ⟨b',k,none⟩=some v/\Tof T0 X b' k:=by
  intro b' k v iq iZ
  refine⟨?_,iq⟩
  have iH:b'≠b:=by
   rintro rfl
   rcases iq with iq|iq
   ·exact hB.1 (r.hT _ _ iq)
   ·exact hB.2.1 iq
  rw[World.cell?_of_block (setRow_other w b b' _ iH)];exact iZ
 have gd:∀u i,¬(u=t/\i=0)->(σ.Zy t 0 (.box (place cells c (unc (look P σ T y)).cells))).ob u i=σ.ob u i:=by
  intro u i iH
  rw[St.Xx σ t 0 _ u i iu,if_neg iH]
 have gZ:(σ.Zy t 0 (.box (place cells c (unc (look P σ T y)).cells))).ob t 0= .box (place cells c (unc (look P σ T y)).cells):=by rw[St.Xx σ t 0 _ t 0 iu];simp
 have hcp:∀u i,Cpt h h σ.ob (σ.Zy t 0 (.box (place cells c (unc (look P σ T y)).cells))).ob u i:=by
  intro u i
  by_cases hu:u=t/\i=0
  ·obtain⟨rfl,rfl⟩:=hu
   refine⟨fun q size rows hD=>?_,fun size rows hD=>?_,fun iW hD=>⟨rfl,cells,ho⟩⟩
   ·rw[gZ]at hD;cases hD
   ·rw[gZ]at hD;cases hD
  ·exact Cpt.same rfl (gd u i hu)
 have at_:∀{x:At}{v:Value},YK (Tof T0 X) h σ.ob w x v->YK (Tof T0 X) h (σ.Zy t 0 (.box (place cells c (unc (look P σ T y)).cells))).ob (w.setRow b (place cs.toList c (a.eval y).cells.toList).toArray) x v:=fun rx=>YK.tu hT hcp rx
 refine⟨b,_,e,hb,gn,?_⟩
 have:=(iN.place c hy).imp (fun _ _=>at_)
 simpa using this
open Go.RowKit
variable{ds zr es:List D}{l:List UInt8}
theorem xm{α:Type}(size c:Nat)(ds:List α)(hc:c+ds.length<=size):∀(rows:List (List α))(i:Nat)(row:List α),rows[i]?=some row->(∀r∈rows,r.length=size)->
  (rows.set i (place row c ds)).flatten=place rows.flatten (i*size+c) ds
 |[],i,row,hr,_=>by simp at hr
 |r0::rows,0,row,hr,hz=>by
  simp at hr;subst hr
  have h0:r0.length=size:=hz r0 zAE
  simp only[List.set_cons_zero,List.flatten_cons,place,Nat.zero_mul,Nat.zero_add]
  rw[List.take_append_of_le_length zAA,List.drop_append_of_le_length zAA]
  simp
 |r0::rows,i+1,row,hr,hz=>by
  have h0:r0.length=size:=hz r0 zAE
  have ih:=xm size c ds hc rows i row (by simpa using hr) (fun r hr=>hz r zB3)
  rw[List.set_cons_succ,List.flatten_cons,ih,List.flatten_cons]
  unfold place
  have e1:(i+1)*size+c=r0.length+(i*size+c):=by rw[h0,Nat.add_mul];omega
  have e2:(i+1)*size+c+ds.length=r0.length+(i*size+c+ds.length):=by rw[h0,Nat.add_mul];omega
  rw[e2,e1,List.take_length_add_append,List.drop_length_add_append]
  simp
theorem Oo{α:Type}(l:List α)(n off:Nat)(xs:List α)(hl:off+xs.length<=n)(hn:n<=l.length):(place l off xs).take n=place (l.take n) off xs:=by
 unfold place;rw[List.take_take,Nat.min_eq_left zAA,List.drop_take];rw[List.take_append,List.take_append];simp only[List.length_append,List.length_take];rw[Nat.min_eq_left zAA,List.take_of_length_le (l:=List.take off l) zAo,List.take_of_length_le (l:=xs) zAA]
theorem kx{α:Type}(l:List α)(o:Nat)(xs:List α)(hl:o+xs.length<=l.length)(k:Nat)(v:α)(hv:(place l o xs)[k]?=some v):
  (o<=k/\k<o+xs.length/\xs[k-o]?=some v)\/(¬(o<=k/\k<o+xs.length)/\l[k]?=some v):=by
 unfold place at hv
 have h1:(l.take o).length=o:=zAo
 rcases Nat.lt_or_ge k o with hk|hk
 ·rw[List.append_assoc,List.getElem?_append_left zAA,List.getElem?_take,if_pos hk]at hv
  exact .inr ⟨zAA,hv⟩
 ·rw[List.append_assoc,List.getElem?_append_right zAA,h1]at hv
  rcases Nat.lt_or_ge (k-o) xs.length with bg|bg
  ·rw[List.getElem?_append_left bg]at hv
   exact .inl ⟨hk,zAA,hv⟩
  ·rw[List.getElem?_append_right bg,List.getElem?_drop]at hv
   refine .inr ⟨zAA,?_⟩
   rw[show o+xs.length+(k-o-xs.length)=k by omega]at hv;exact hv
theorem GO(r:Rel T0 B σ a w X h){T:TypeId}(iE:o.op= .store T x y)(hd:o.dst=none)(ht:qm P T=true)(dH:gOf (look P σ 0 x)=true)(dI:gOf (look P σ T y)=true)
  (hx:unc (look P σ 0 x)= .one (.ptr t j i c)) (ho:σ.ob t j= .arr q size rows) (hi:i<rows.length) (gk:(unc (look P σ T y)).flat=true) (ck:rowOf σ (unc (look P σ T y)).cells=some ds) (hC:zg (unc (look P σ T y)).cells=true)
  (hl:ds.length=P.cellsOf T) (hle:c+P.cellsOf T<=size) (hq:q=true->(∀d∈ds,d.scalar=true)/\∀k d,k<P.cellsOf T->(rows.getD i [])[c+k]?=some d->d.scalar=true)
  (hK:∀a' w',J5 T0 B (σ.Zy t j (.arr q size (rows.set i (place (rows.getD i []) c ds)))) a' w'->XF B w w'->K a' w'):o.wp P a w K Q:=by
 obtain⟨_,ti,_,hti,_,_⟩:=WG ht
 have hax:=r.arg (P:=P) 0 x hx dH
 obtain⟨b,cap,cur,e,xs,hb,he,hh,gx,fW,fX,fz,hz,dg,iN,iS⟩:=r.arr ho hax
 have hy:=W5 gk (r.arg (P:=P) T y rfl dI)
 have hrd:=r.rowOf true ck hy (fun _=>hC)
 simp only[if_true]at hrd
 have fI:=hrd.length
 have e2:(a.eval y).cells.toList.length=(a.eval y).cells.size:=Array.length_toList
 have e3:cur.toList.length=cur.size:=Array.length_toList
 have hR:rows[i]?=some (rows.getD i []):=zAv
 have hmul:i*size+size<=rows.length*size:=zBT
 have hcap2:rows.length*size<=cap*size:=Nat.mul_le_mul_right _ gx
 have iv:=run_store (P:=P) (w:=w) hti (o:=i*size+c) (val:=a.eval y) hh zAA zAA (fun u hu=>by obtain⟨x',_,dU⟩:=hy.mem hu;exact YK.QQ dU)
 have iu:σ.ob t j≠ .none:=zAx
 have hJ:blk (h t j).v=some b:=by rw[hb];rfl
 have hB:=r.nJ iu hJ
 have ga:=r.ub t j b iu hJ
 unfold Oper.wp
 simp only[execOp,iE,he,Sem.run_bind,iv,Result.andThen_ok,Sem.run_pure,Oper.upon_skip,hd]
 refine hK _ _ ⟨X,h,?_⟩ (XF.setRow hB.1 _)
 refine r.ve iu zB5 (fun k hk=>setRow_other w b k _ (fun e=>hk (e▸ga))) _ (by rw[ho];simp[Ob.tw]) ?_
 have gn:=setRow_heap w b cur (place cur.toList (i*size+c) (a.eval y).cells.toList).toArray e (0,0) hh
 have hT:∀b' k v,Tof T0 X b' k->w.cell? ⟨b',k,none⟩=some v->(w.setRow b (place cur.toList (i*size+c) (a.eval y).cells.toList).toArray).cell? ⟨b',k,none⟩=some v/\Tof T0 X b' k:=by
  intro b' k v iq iZ
  refine⟨?_,iq⟩
  have iH:b'≠b:=by
   rintro rfl
   rcases iq with iq|iq
   ·exact hB.1 (r.hT _ _ iq)
   ·exact hB.2.1 iq
  rw[World.cell?_of_block (setRow_other w b b' _ iH)];exact iZ
 have bF:xs.length=rows.length*size:=by rw[dg,YV rows size hz]
 have dK:(rows.getD i []).length=size:=hz _ (List.mem_of_getElem? hR)
 have gI:(w.setRow b (place cur.toList (i*size+c) (a.eval y).cells.toList).toArray).ownsRow 0 e size (h t j).v (rows.set i (place (rows.getD i []) c ds)).length (place xs (i*size+c) (a.eval y).cells.toList):=by
  refine⟨?_,.inr ⟨b,cap,_,by simpa using hb,Nat.zero_le _,gn,by simpa using gx,fW,?_,?_⟩⟩
  ·rw[QC _ _ _ zAA,bF];simp
  ·simp only[List.size_toArray]
   rw[QC _ _ _ zAA,e3,fX]
  ·simp only[List.length_set]
   rw[Oo _ _ _ _ zAA zAA,fz]
 have eD:∀r∈rows.set i (place (rows.getD i []) c ds),r.length=size:=by
  intro r' gb
  rcases List.mem_or_eq_of_mem_set gb with gb|gb
  ·exact hz r' gb
  ·rw[gb,QC _ _ _ zAA,dK]
 cases q with
 |false=>
  refine⟨e,_,gI,eD,?_⟩
  rw[xm size c ds zAA rows i _ hR hz]
  exact((iN rfl).imp fun _ _=>Rd.mono hT).place _ (hrd.imp fun _ _=>Rd.mono hT)
 |true=>
  obtain⟨⟨_,Sk,h1,h2,h3⟩,hn⟩:=iS rfl
  obtain⟨hq1,hq2⟩:=hq rfl
  have iZ:∀k u,(place xs (i*size+c) (a.eval y).cells.toList)[k]?=some u->(i*size+c<=k/\k<i*size+c+ds.length/\(a.eval y).cells.toList[k-(i*size+c)]?=some u)\/(¬(i*size+c<=k/\k<i*size+c+ds.length)/\xs[k]?=some u):=by
   intro k u hu
   exact kx xs _ _ zAA k u hu|>.imp (fun hh=>⟨hh.1,zAA,hh.2.2⟩) (fun hh=>⟨by rw[<-fI];exact hh.1,hh.2⟩)
  have cU:∀k d,(rows.set i (place (rows.getD i []) c ds)).flatten[k]?=some d->(i*size+c<=k/\k<i*size+c+ds.length/\ds[k-(i*size+c)]?=some d)\/(¬(i*size+c<=k/\k<i*size+c+ds.length)/\rows.flatten[k]?=some d):=by
   intro k d fU
   rw[xm size c ds zAA rows i _ hR hz]at fU
   exact kx _ _ _ (by rw[YV rows size hz];omega) k d fU
  refine⟨e,_,gI,eD,⟨?_,Sk,fun k u d hu fU=>?_,h2,h3⟩,fun k u d hu fU gV=>?_⟩
  ·rw[QC _ _ _ zAA,dg,YV rows size hz,YV _ size eD];simp
  ·rcases iZ k u hu with⟨p1,p2,p3⟩|⟨p1,p3⟩
   ·rcases cU k d fU with⟨_,_,p4⟩|⟨p4,_⟩
    ·obtain⟨d',ic,gb⟩:=hrd.get _ _ p3
     rw[p4]at ic;cases ic
     have hs:=hq1 d (List.mem_of_getElem? p4)
     cases gb with
     |int k n=>exact .int _ _ _
     |bool b=>exact .bool _ _
     |str s=>exact .str _ _
     |unk v h=>exact .unk _ h _
     |nil=>simp[D.scalar]at hs
     |sl=>simp[D.scalar]at hs
    ·exact absurd ⟨p1,p2⟩ p4
   ·rcases cU k d fU with⟨p4,p5,_⟩|⟨_,p4⟩
    ·exact absurd ⟨p4,p5⟩ p1
    ·refine(h1 k u d p3 p4).N8 (fun b' iq=>setRow_other w b b' _ ?_)
     rintro rfl
     exact(h2 k b' iq).2 hJ
  ·rcases cU k d fU with⟨p4,p5,p6⟩|⟨p4,p6⟩
   ·have:=hq1 d (List.mem_of_getElem? p6)
    rw[gV]at this;cases this
   ·rcases iZ k u hu with⟨p1,p2,_⟩|⟨_,p3⟩
    ·exact absurd ⟨p1,p2⟩ p4
    ·exact hn k u d p3 p6 gV
open Go.RowKit
variable{z:List At}{base:Option Addr}
theorem M7(t ty e e0:TypeId)(i:TypeInfo)(ht:P.underlying t=some (.slice e))(hi:P.info? e=some i)
  (g cT sCap:Nat) (cur:Array Value) (hg:w.heap[g]?=some (.cells cur e0 (0,0)))
  (a:Addr) (m c:Nat) (news:List Value) (hl:news.length=m*i.size) (gz:∀j u,news[j]?=some u->w.cell? (a.add j)=some u) (h1:∀u∈news,u.oneCell'=true)
  (dc:cT+m<=sCap) (hfit:cT*i.size+news.length<=cur.size):
  (Builtin.append_ #[t,t] ty #[.slice (some ⟨g,0,none⟩) cT sCap,.slice (some a) m c]).run P w=
   .ok (.slice (some ⟨g,0,none⟩) (cT+m) sCap) (w.setRow g (cur.toList.take (cT*i.size)++news++cur.toList.drop (cT*i.size+news.length)).toArray):=by
 have hf:=run_firstCells_some (P:=P) w i.size m a m c news hl gz
 have hC:=run_storeCells_at P g (cT*i.size) e0 news 0 cur w hg (by simpa using hfit) h1
 simp only[Nat.add_zero]at hC
 simp[Builtin.append_,run_underlying ht,sizeOf,typeInfo,hi,Builtin.lenOf,dc,hf,Addr.add_lit,hC]
theorem R0(t ty e e0:TypeId)(i:TypeInfo)(z:Value)(ht:P.underlying t=some (.slice e))(hi:P.info? e=some i)(hz:i.zero=some z)
  (ev:z.cells.size=i.size) (gT:0<i.size) (v:Value) (n:Nat) (xs:List Value) (iS:w.ownsRow 0 e0 i.size v n xs)
  (a:Addr) (m c:Nat) (news:List Value) (hl:news.length=m*i.size) (gz:∀j u,news[j]?=some u->w.cell? (a.add j)=some u) (h1:∀u∈news,u.oneCell'=true)
  (h63:n+m<=maxLen) (gJ:(n+m)*i.bytes<=140737488355328):
  ∃v' w' e1,(Builtin.append_ #[t,t] ty #[v,.slice (some a) m c]).run P w= .ok v' w'/\w'.ownsRow 0 e1 i.size v' (n+m) (xs++news)/\w.grownBy w' (blk v)/\
   (∀b,blk v'=some b->(w.heap.size<=b/\b<w'.heap.size)\/blk v=some b):=by
 have hlen:(xs++news).length=(n+m)*i.size:=by rw[List.length_append,iS.1,hl,Nat.add_mul]
 rcases iS.2 with⟨rfl,rfl⟩|⟨g,cap,cur,rfl,_,hg,fc,ae,fX,htake⟩
 ·have hx:xs=[]:=List.eq_nil_of_length_eq_zero (by simpa using iS.1)
  subst hx
  obtain⟨v',w',hr,ho,eC,_⟩:=run_append_own (P:=P) w w.heap.size t ty e i z i.size i.bytes ht hi hz rfl rfl ev gT (.slice none 0 0) 0 [] (World.ownsRow_nil w _ e i.size) a m c news hl gz h1 h63 gJ (Nat.le_refl _)
  refine⟨v',w',e,hr,?_,eC,fun b hb=>.inl ?_⟩
  ·refine⟨ho.1,ho.2.imp id ?_⟩
   rintro⟨g,cap,cur,hv,_,rest⟩
   exact⟨g,cap,cur,hv,Nat.zero_le _,rest⟩
  ·have iq:v'.ownBlock=some b:=by
    cases v' with
    |slice o l c=>cases o with
     |none=>simp[blk]at hb
     |some ad=>simpa[blk,Value.ownBlock]using hb
    |pointer o=>rcases ho.2 with⟨hv,_⟩|⟨g,cap,cur,hv,_⟩<;>cases hv
    |_=>simp[blk]at hb
   exact ho.lt b iq
 ·by_cases dc:n+m<=cap
  ·have hfit:n*i.size+news.length<=cur.size:=by rw[hl,fX,<-Nat.add_mul];exact Nat.mul_le_mul_right _ dc
   have hr:=M7 (P:=P) (w:=w) t ty e e0 i ht hi g n cap cur hg a m c news hl gz h1 dc hfit
   refine⟨_,_,e0,hr,⟨hlen,.inr ⟨g,cap,_,rfl,Nat.zero_le _,setRow_heap w g cur _ e0 _ hg,dc,ae,?_,?_⟩⟩,⟨rfl,rfl,rfl,by simp[World.setRow],fun k _ hk=>setRow_other w g k _ (fun e=>hk (by simp[blk,e]))⟩,fun b hb=>.inr (by simpa[blk]using hb)⟩
   ·simp only[List.size_toArray,List.length_append,List.length_take,List.length_drop,Array.length_toList]
    omega
   ·rw[htake,<-hlen]
    exact List.take_left
  ·have holds:∀j u,xs[j]?=some u->w.cell? ((⟨g,0,none⟩:Addr).add j)=some u:=iS.cells (g:=g) rfl
   have hsmall:n+m<=9223372036854775807:=by simp only[maxLen]at h63;omega
   have hr:=run_append_grow (P:=P) w t ty e i z ht hi hz ⟨g,0,none⟩ n cap xs iS.1 holds a m c news hl gz zAA zAA (growslice_fits zAA gJ)
   have ej:=grownCap_ge w (n+m) cap e
   have hcm2:grownCap w (n+m) cap e<=maxLen:=grownCap_le_maxLen w (n+m) cap e h63
   refine⟨_,_,e,hr,⟨hlen,.inr ⟨w.heap.size,_,_,rfl,Nat.zero_le _,heap_alloc_new w.drew _,ej,hcm2,?_,?_⟩⟩,⟨rfl,rfl,rfl,zAE,fun k hk _=>(World.grownBy_alloc w.drew _ none).block k hk zAE⟩,fun b hb=>.inl ?_⟩
   ·simp only[Array.size_append,List.size_toArray,size_zeroCells,ev,iS.1,hl,<-Nat.add_mul]
    congr 1
    omega
   ·simp only[Array.toList_append,List.append_assoc]
    rw[<-List.append_assoc,<-hlen]
    exact List.take_left
   ·simp[blk]at hb;subst hb;simp
theorem UJ(t ty e:TypeId)(i:TypeInfo)(ht:P.underlying t=some (.slice e))(hi:P.info? e=some i)(base:Option Addr)(n cap:Nat)(fc:n<=cap)(hb:base=none->cap=0):
  (Builtin.append_ #[t,t] ty #[.slice base n cap,.slice none 0 0]).run P w= .ok (.slice base n cap) w:=by
 cases base with
 |none=>
  have:=hb rfl;subst this
  have:n=0:=zAA
  subst this
  simp[Builtin.append_,run_underlying ht,sizeOf,typeInfo,hi,Builtin.lenOf,Builtin.firstCells]
 |some ad=>simp[Builtin.append_,run_underlying ht,sizeOf,typeInfo,hi,Builtin.lenOf,Builtin.firstCells,fc,storeCells]
theorem Rel.less(r:Rel T0 B σ a w X h)(hl:σ'.length=σ.length)(gW:∀t,σ'.get t=σ.get t)(hk:∀t j,σ'.ob t j≠ .none->σ'.ob t j=σ.ob t j):Rel T0 B σ' a w X h:=by
 have back:∀t j o,σ'.ob t j=o->o≠ .none->σ.ob t j=o:=by
  intro t j o ho iH;rw[<-hk t j (by rw[ho];exact iH)];exact ho
 have at_:∀{x:At}{v:Value},(fun _:At=>false) x=false->YK (Tof T0 X) h σ.ob w x v->YK (Tof T0 X) h σ'.ob w x v:=by
  intro x v _ rx;cases x with
  |any=>exact rx
  |d x=>exact rx
  |nil s=>exact rx
  |sref u i lo len=>exact⟨rx.1,fun q size rows ho=>rx.2.1 q size rows (back u i _ ho zAE),fun size rows ho=>rx.2.2 size rows (back u i _ ho zAE)⟩
  |ptr u i k c=>exact⟨rx.1,fun q size rows ho=>rx.2 q size rows (back u i _ ho zAE)⟩
  |bptr u c=>exact⟨rx.1,fun cells ho=>rx.2 cells (back u 0 _ ho zAE)⟩
  |fn f u=>exact⟨rx.1,fun cells ho=>rx.2 cells (back u 0 _ ho zAE)⟩
  |tref u i k c o=>exact⟨rx.1,fun size rows ho=>rx.2 size rows (back u i _ ho zAE)⟩
  |rptr rr c=>exact rx
 have gf:∀u i,σ'.ob u i≠ .none->σ.ob u i≠ .none:=fun u i hn=>by rw[<-hk u i hn];exact hn
 refine⟨by rw[r.size,hl],r.defers,r.hB,r.hX,r.hT,fun u hu=>?_,fun u i=>?_,fun u i b hn=>r.ub u i b (gf u i hn),fun u i b hn=>r.own u i b (gf u i hn),fun u i u' i' b hn gF=>r.inj u i u' i' b (gf u i hn) (gf u' i' gF)⟩
 ·rw[gW u];exact JU.map at_ (qV _) (r.slot u zAA)
 ·by_cases hn:σ'.ob u i= .none
  ·rw[hn];trivial
  ·rw[hk u i hn];exact J9.map at_ (fun b k v hb hc=>⟨hc,hb⟩) (fun ho b=>r.ub u i b ho) (fun _ _ _=>rfl) (VU _) (r.obj u i)
theorem St.Tq(σ:St)(t j u i:Nat):(σ.Zy t j .none).ob u i=if u=t/\i=j then .none else σ.ob u i:=by
 by_cases iu:σ.ob t j= .none
 ·have key:∀(σ:St)(t u:Nat),σ.ob t j= .none->(σ.Zy t j .none).ob u i=σ.ob u i:=by
   intro σ;induction σ with
   |nil=>intro t u _;simp[St.Zy]
   |cons e σ ih=>
    intro t u ho;cases t with
    |zero=>cases u with
     |zero=>
      simp only[St.Zy,St.ob,List.getElem?_cons_zero,BV]at ho⊢;split
      ·rename_i hh;rw[hh.1,ho]
      ·rfl
     |succ u=>simp[St.Zy,St.ob]
    |succ t=>cases u with
     |zero=>simp[St.Zy,St.ob]
     |succ u=>
      have:=ih t u (by simpa[St.ob]using ho);simp only[St.ob,St.Zy]at this⊢;simpa using this
  rw[key σ t u iu];split
  ·rename_i hh;rw[hh.1,hh.2];exact iu
  ·rfl
 ·exact St.Xx σ t j _ u i iu
theorem Rel.drop(r:Rel T0 B σ a w X h)(t j:Nat):Rel T0 B (σ.Zy t j .none) a w X h:=by
 refine r.less (St.Xf _ _ _ _) (fun u=>St.QP _ _ _ _ u) (fun u i hn=>?_);rw[St.Tq]at hn⊢;split
 ·rename_i hh;rw[if_pos hh]at hn;exact absurd rfl hn
 ·rfl
def St.Z7:St->List (Nat×Nat)->St
 |σ,[]=>σ
 |σ,p::l=>St.Z7 (σ.Zy p.1 p.2 .none) l
theorem St.Ka:∀(l:List (Nat×Nat))(σ:St),(σ.Z7 l).length=σ.length
 |[],σ=>rfl
 |p::l,σ=>by rw[St.Z7,St.Ka l,St.Xf]
theorem St.xB:∀(l:List (Nat×Nat))(σ:St)(t:Nat),(σ.Z7 l).get t=σ.get t
 |[],σ,t=>rfl
 |p::l,σ,t=>by rw[St.Z7,St.xB l,St.QP]
theorem St.Ks:∀(l:List (Nat×Nat))(σ:St)(t j:Nat),(σ.Z7 l).ob t j=if(t,j)∈l then .none else σ.ob t j
 |[],σ,t,j=>by simp[St.Z7]
 |p::l,σ,t,j=>by
  rw[St.Z7,St.Ks l,St.Tq]
  by_cases h1:(t,j)∈l
  ·simp[h1]
  ·by_cases h2:t=p.1/\j=p.2
   ·have:(t,j)=p:=by rw[h2.1,h2.2]
    rw[if_neg h1,if_pos h2,if_pos (by rw[this];simp)]
   ·have:¬(t,j)=p:=fun e=>h2 (by rw[<-e];exact⟨rfl,rfl⟩)
    simp[h1,h2,this]
theorem Rel.Z7(r:Rel T0 B σ a w X h)(l:List (Nat×Nat)):Rel T0 B (σ.Z7 l) a w X h:=by
 refine r.less (St.Ka l σ) (St.xB l σ) (fun u i hn=>?_);rw[St.Ks]at hn⊢;split
 ·rename_i hh;rw[if_pos hh]at hn;exact absurd rfl hn
 ·rfl
open Go.RowKit
theorem xb{T:TypeId}(hz:Qg P T=true):∃i z row,P.info? T=some i/\i.zero=some z/\Wl P 12 T=some row/\i.size=row.length/\z.cells.size=i.size/\i.size=P.cellsOf T/\(∀T' h ob w,YC (YK T' h ob w) row z.cells.toList):=by
 have fx:∃row,Wl P 12 T=some row:=by
  unfold Qg at hz;split at hz
  ·rename_i row i hr hi;exact⟨row,hr⟩
  ·cases hz
 obtain⟨row,hr⟩:=fx;obtain⟨i,z,hi,eW,gT,iN⟩:=Gs hz hr;refine⟨i,z,row,hi,eW,hr,gT,?_,by simp[Program.cellsOf,hi],iN⟩;have:=(iN (fun _ _=>True) (fun _ _=>Hd.of undef) (fun _ _=>.none) default).length
 have e1:z.cells.toList.length=z.cells.size:=Array.length_toList;omega
def Wb(σ:St)(x:V)(size:Nat)(news:List (List D)):Prop:=
 match x with
 |.one (.d (.sl s rows))=>s=size/\news=rows
 |.one (.nil _)=>news=[]
 |.one (.sref t j lo len)=>∃rows,σ.ob t j= .arr false size rows/\lo+len<=rows.length/\news=cut rows lo len
 |_=>False
def S3(σ:St)(x:V)(size:Nat)(iJ:List (List D))(σ1:St):Prop:=
 match x with
 |.one (.nil _)=>iJ=[]/\σ1=σ
 |.one (.sref t j lo len)=>∃rows,σ.ob t j= .arr false size rows/\lo=0/\len<=rows.length/\iJ=rows.take len/\σ1=σ.Zy t j .none
 |_=>False
theorem Vz(v:Value)(n:Nat):blk (NX v n)=blk v:=by
 cases v with
 |slice o _ _=>cases o<;>rfl
 |_=>rfl
theorem K3(rows:List (List D))(size:Nat)(hz:∀r∈rows,r.length=size)(len:Nat)(hle:len<=rows.length):(rows.take len).flatten=rows.flatten.take (len*size):=by
 induction rows generalizing len with
 |nil=>simp
 |cons r rows ih=>
  cases len with
  |zero=>simp
  |succ len=>
   have h1:=hz r zAE;have h2:=ih (fun q hq=>hz q (by simp[hq])) len (by simpa using hle);have h3:(len+1)*size=r.length+len*size:=by rw[Nat.add_mul,h1];omega
   rw[List.take_succ_cons,List.flatten_cons,List.flatten_cons,h2,h3,List.take_length_add_append]
theorem kl{e:TypeId}{xs:List Value}(ho:w.ownsRow 0 e size v n xs)(hle:len<=n):w.ownsRow 0 e size (NX v len) len (xs.take (len*size)):=by
 have hm:len*size<=n*size:=Nat.mul_le_mul_right _ hle;refine⟨by rw[List.length_take,ho.1];omega,?_⟩;rcases ho.2 with⟨rfl,rfl⟩|⟨g,cap,cur,rfl,hx,hg,fc,ae,fX,fz⟩
 ·have:len=0:=zAA;subst this;exact .inl ⟨rfl,rfl⟩
 ·refine .inr ⟨g,cap,cur,rfl,hx,hg,zAA,ae,fX,?_⟩;rw[<-fz,List.take_take];congr 1;omega
theorem E3(r:Rel T0 B σ a w X h){x:V}(hs:Wb σ x size news)(hv:JU (Tof T0 X) h σ.ob w x v):
  (∀n∈news,n.length=size)/\((v= .slice none 0 0/\news=[])\/∃ad c xs,v= .slice (some ad) news.length c/\(∀j u,xs[j]?=some u->w.cell? (ad.add j)=some u)/\YC (Rd (Tof T0 X) w) xs news.flatten):=by
 unfold Wb at hs
 split at hs
 ·rename_i s rows
  obtain⟨rfl,rfl⟩:=hs
  refine⟨Fg (show Rd _ _ _ _ from hv),?_⟩
  cases(show Rd _ _ _ _ from hv)with
  |nil=>exact .inl ⟨rfl,rfl⟩
  |sl ad len cap s rows g hl hc hm hz cH hg hr=>
   refine .inr ⟨ad,cap,(List.range news.flatten.length).map g,by rw[hl],fun j u hu=>?_,?_⟩
   ·rw[List.getElem?_map]at hu
    rcases Nat.lt_or_ge j news.flatten.length with hj|hj
    ·rw[List.getElem?_range hj]at hu
     cases hu
     have iH:news.flatten≠[]:=by intro he;rw[he]at hj;simp at hj
     have:=(hg j _ (List.getElem?_eq_getElem hj)).1
     obtain⟨b,off,sp⟩:=ad
     have:=cH iH
     simp at this;subst this
     rw[qN];assumption
    ·rw[List.getElem?_eq_none (by simpa using hj)]at hu;cases hu
   ·refine YC.qA zAE (fun k u d hu hd=>?_)
    rw[List.getElem?_map]at hu
    have hk:=(List.getElem?_eq_some_iff.1 hd).1
    rw[List.getElem?_range hk]at hu
    cases hu
    exact hr k d hd
 ·subst hs
  exact⟨(by intro n hn;cases hn),.inl ⟨hv,rfl⟩⟩
 ·rename_i t j lo len
  obtain⟨rows,ho,hle,rfl⟩:=hs
  have h0:=r.obj t j
  rw[ho]at h0
  obtain⟨e,xs,⟨hl,iS⟩,hz,iN⟩:=h0
  refine⟨fun x hx=>hz x (List.mem_of_mem_drop (List.mem_of_mem_take hx)),?_⟩
  have eK:YK (Tof T0 X) h σ.ob w (.sref t j lo len) v:=hv
  obtain⟨_,_,_,base,cap,rfl,gx,_,dJ,hb⟩:=eK.2.1 _ size rows ho
  have hO:(cut rows lo len).length=len:=XZ _ _ _ hle
  by_cases gM:0<len
  ·obtain⟨b,e7,hh,rfl⟩:=hb gM
   rcases iS with⟨hn,_⟩|⟨g,bI,cur,eK,_,hgg,fc,fW,fX,fz⟩
   ·rw[hh]at hn;cases hn
   ·rw[hh]at eK;cases eK
    refine .inr ⟨_,cap,cut xs (lo*size) (len*size),by rw[hO],fun j u hu=>?_,?_⟩
    ·have h1:=zy _ _ _ _ _ hu
     rw[qN]
     refine zl hgg _ _ ?_
     rw[<-fz,List.getElem?_take]at h1
     split at h1
     ·exact h1
     ·cases h1
    ·have bF:xs.length=rows.length*size:=by rw[iN.length,YV rows size hz]
     have hmul:lo*size+len*size<=rows.length*size:=zBU
     refine YC.qA ?_ (fun k u d hu hd=>?_)
     ·rw[XZ _ _ _ zAA,YV (cut rows lo len) size (fun x hx=>hz x (List.mem_of_mem_drop (List.mem_of_mem_take hx))),hO]
     ·have h1:=zy _ _ _ _ _ hu
      have h2:=kD rows size lo len hz k d hd
      obtain⟨d',ic,hr⟩:=iN.get _ _ h1
      rw[h2]at ic;cases ic
      exact hr
  ·have:len=0:=zAA
   subst this
   have e8:cut rows lo 0=[]:=by simp[cut]
   rw[e8]
   cases base with
   |none=>have:=dJ rfl;subst this;exact .inl ⟨rfl,rfl⟩
   |some ad=>exact .inr ⟨ad,cap,[],rfl,zAE,.nil⟩
 ·exact hs.elim
theorem Dh(r:Rel T0 B σ a w X h){t:TypeId}(iE:o.op= .call ⟨.builtin .append,#[x,y],#[t,t]⟩)(hd:o.dst=some d)
  (dH:gOf (look P σ t x)=true) (dI:gOf (look P σ t y)=true) (ht:Xj P t=true) (hz:Qg P (ZV P t)=true) (gM:0<P.cellsOf (ZV P t))
  (g6:S3 σ (unc (look P σ t x)) (P.cellsOf (ZV P t)) iJ σ1) (ew:Wb σ (unc (look P σ t y)) (P.cellsOf (ZV P t)) news) (gG:σ1.fresh d=true)
  (gJ:(iJ.length+news.length)*P.bytesOf (ZV P t)<=140737488355328) (dT:iJ.length+news.length<=9223372036854775807)
  (hK:∀a' w',J5 T0 B (σ1.new d (.one (.sref d 0 0 (iJ.length+news.length))) [.arr false (P.cellsOf (ZV P t)) (iJ++news)]) a' w'->XF B w w'->K a' w'):o.wp P a w K Q:=by
 obtain⟨ti,hu,hi,eM⟩:=QD ht
 obtain⟨i,z,row,gm,eW,fx,eN,ev,fG,fj⟩:=xb hz
 rw[hi]at gm;cases gm
 have bp:P.bytesOf (ZV P t)=ti.bytes:=zBW
 rw[bp]at gJ
 rw[<-fG]at g6 ew gM hK
 have di:=r.arg (P:=P) t x rfl dH
 have af:=r.arg (P:=P) t y rfl dI
 obtain⟨hnz,gV⟩:=E3 r ew af
 have fC:∃e0 xs,w.ownsRow 0 e0 ti.size (a.eval x) iJ.length xs/\(∀q∈iJ,q.length=ti.size)/\YC (Rd (Tof T0 X) w) xs iJ.flatten/\Rel T0 B σ1 a w X h/\
   (∀b,blk (a.eval x)=some b->¬B b/\¬X b/\b<w.heap.size/\∀u j,σ1.ob u j≠ .none->¬(h u j).u b):=by
  unfold S3 at g6
  split at g6
  ·rename_i s heq
   obtain⟨rfl,rfl⟩:=g6
   rw[heq]at di
   have he:a.eval x= .slice none 0 0:=di
   rw[he]
   exact⟨0,[],World.ownsRow_nil w 0 0 _,zBA,.nil,r,(fun b hb=>by cases hb)⟩
  ·rename_i u j lo len heq
   obtain⟨rows,ho,rfl,hle,rfl,rfl⟩:=g6
   rw[heq]at di
   have dk:YK (Tof T0 X) h σ.ob w (.sref u j 0 len) (a.eval x):=di
   obtain⟨_,_,fL,_⟩:=dk.2.1 _ _ _ ho
   have he:a.eval x=NX (h u j).v len:=fL rfl
   have h0:=r.obj u j
   rw[ho]at h0
   obtain⟨e,xs,iS,gw,iN⟩:=h0
   have iu:σ.ob u j≠ .none:=zAx
   have bZ:(rows.take len).length=len:=zA6
   have gk:(rows.take len).flatten=rows.flatten.take (len*ti.size):=K3 rows ti.size gw len hle
   refine⟨e,xs.take (len*ti.size),by rw[he,bZ];exact kl iS hle,fun q hq=>gw q (List.mem_of_mem_take hq),by rw[gk];exact iN.take _,r.drop u j,fun b hb=>?_⟩
   rw[he,Vz]at hb
   have bl:=r.ub u j b iu hb
   have gI:=r.own u j b iu bl
   refine⟨gI.1,gI.2.1,gI.2.2,fun u' j' iH iq=>?_⟩
   have cQ:σ.ob u' j'≠ .none:=by
    intro hh
    rw[St.Xx σ u j _ u' j' iu]at iH
    split at iH
    ·exact iH rfl
    ·exact iH hh
   have:=r.inj u j u' j' b iu cQ bl iq
   obtain⟨rfl,rfl⟩:=this
   rw[St.Xx σ u j _ u j iu]at iH
   simp at iH
  ·exact g6.elim
 obtain⟨e0,xs,iS,hoz,bt,r1,hJ⟩:=fC
 have hflr:∀q∈iJ++news,q.length=ti.size:=by
  intro q hq
  rcases List.mem_append.1 hq with hq|hq
  ·exact hoz q hq
  ·exact hnz q hq
 have key:∀(v':Value)(w':World)(e1:TypeId)(ys:List Value),(Builtin.append_ #[t,t] o.type #[a.eval x,a.eval y]).run P w= .ok v' w'->w'.ownsRow 0 e1 ti.size v' (iJ.length+news.length) (xs++ys)->
   YC (Rd (Tof T0 X) w) ys news.flatten->w.grownBy w' (blk (a.eval x))->(∀b,blk v'=some b->(w.heap.size<=b/\b<w'.heap.size)\/blk (a.eval x)=some b)->o.wp P a w K Q:=by
  intro v' w' e1 ys iv hD bq eC hbv
  have iQ:=St.zV gG
  have hT:∀b k v,Tof T0 X b k->w.cell? ⟨b,k,none⟩=some v->w'.cell? ⟨b,k,none⟩=some v/\Tof T0 X b k:=by
   intro b k v hb iZ
   refine⟨?_,hb⟩
   have iH:some b≠blk (a.eval x):=by
    intro e
    have h1:=hJ b e.symm
    rcases hb with hb|hb
    ·exact h1.1 (r.hT b k hb)
    ·exact h1.2.1 hb
   rw[World.cell?_of_block (eC.block b (r.Tlt hb) iH)];exact iZ
  unfold Oper.wp
  have aA:(execOp a.eval o).run P w= .ok (.value v') w':=by
   simp only[execOp,iE,resolve,invoke,builtin,Sem.run_bind,Sem.run_pure,Result.andThen_ok,List.map_toArray,List.map_cons,List.map_nil,iv]
  rw[aA,Oper.upon_value,hd]
  refine hK _ _ ⟨X,fun u j=>if u=d then Hd.of v' else h u j,?_⟩ ⟨eC.os,eC.tape,eC.output,eC.size,fun k hk=>eC.block k (r.hB k hk) (fun e=>(hJ k e.symm).1 hk)⟩
  have gN:(σ1.new d (.one (.sref d 0 0 (iJ.length+news.length))) [.arr false ti.size (iJ++news)]).ob d 0= .arr false ti.size (iJ++news):=zA8
  have gS:w'.ownsRow 0 e1 ti.size v' (iJ++news).length (xs++ys):=by rw[List.length_append];exact hD
  have dh:YC (Rd (Tof T0 X) w') (xs++ys) (iJ++news).flatten:=by
   rw[List.flatten_append]
   exact(bt.imp fun _ _=>Rd.mono hT).append (bq.imp fun _ _=>Rd.mono hT)
  refine r1.wC gG (fun b=>blk (a.eval x)=some b) eC.size (fun k hk iH=>eC.block k hk (fun e=>iH e.symm)) (fun b hb=>⟨(hJ b hb).1,(hJ b hb).2.1,fun u j _ iH=>(hJ b hb).2.2.2 u j iH⟩) (fun _ hb=>hb) (fun _ hb=>.inl hb) _ _ [.arr false ti.size (iJ++news)] (fun _=>Hd.of v') ?_ (fun j=>?_) (fun j b _ hb=>hb) (fun j b iH iq=>?_) (fun j j' b iH gE _ _=>?_)
  ·refine⟨KS hD,fun q' iw ig hh=>?_,fun iw ig hh=>by rw[gN]at hh;cases hh⟩
   rw[gN]at hh;cases hh
   simp only[if_true,List.length_append]
   have:=VR gS
   rwa[List.length_append]at this
  ·cases j with
   |zero=>exact⟨e1,xs++ys,gS,hflr,dh⟩
   |succ j=>simp[Yt,J9]
  ·rcases hbv b iq with h1|h1
   ·exact⟨.inl h1.1,fun hx=>by have:=(r.hX b hx).2;omega,h1.2⟩
   ·have h2:=hJ b h1
    exact⟨.inr h1,h2.2.1,by have:=eC.size;omega⟩
  ·have:∀j,Yt [Ob.arr false ti.size (iJ++news)] j≠ .none->j=0:=by
    intro j hj
    cases j with
    |zero=>rfl
    |succ j=>simp[Yt]at hj
   rw[this j iH,this j' gE]
 rcases gV with⟨bd,rfl⟩|⟨ad,c,ys,bd,iZ,bq⟩
 ·have gA:∃base cap,a.eval x= .slice base iJ.length cap/\iJ.length<=cap/\(base=none->cap=0):=by
   rcases iS.2 with⟨h1,h2⟩|⟨g,cap,cur,h1,_,_,fc,_⟩
   ·exact⟨none,0,by rw[h1,h2],zAA,fun _=>rfl⟩
   ·exact⟨_,cap,h1,fc,(fun hh=>by cases hh)⟩
  obtain⟨base,cap,hex,fc,hb0⟩:=gA
  refine key (a.eval x) w e0 [] ?_ (by simpa using iS) .nil ⟨rfl,rfl,rfl,Nat.le_refl _,fun _ _ _=>rfl⟩ (fun b hb=>.inr hb)
  rw[hex,bd]
  exact UJ t o.type _ ti hu hi base iJ.length cap fc hb0
 ·have fI:ys.length=news.length*ti.size:=by rw[bq.length,YV news ti.size hnz]
  obtain⟨v',w',e1,iv,hD,eC,hbv⟩:=R0 (P:=P) (w:=w) t o.type _ e0 ti z hu hi eW ev zAA (a.eval x) iJ.length xs iS ad news.length c ys fI iZ
   (fun u fh=>by
    obtain⟨k,hk⟩:=List.mem_iff_getElem?.1 fh
    obtain⟨d',_,gb⟩:=bq.get k u hk
    exact Rd.QQ gb) (by simp only[maxLen];omega) gJ
  refine key v' w' e1 ys ?_ hD bq eC hbv
  rw[bd];exact iv
open Go.RowKit
variable{parts:Array (Nat×Operand)}
def N1(P:Program)(σ:St)(T:TypeId)(size:Nat):List (Nat×Operand)->Nat->List (List D)->Prop
 |[],_,rs=>rs=[]
 |(i,x)::ps,k,rs=>i=k/\gOf (look P σ T x)=true/\(unc (look P σ T x)).flat=true/\zg (unc (look P σ T x)).cells=true/\
   ∃r rest,rowOf σ (unc (look P σ T x)).cells=some r/\r.length=size/\N1 P σ T size ps (k+1) rest/\rs=r::rest
theorem L6{α:Type}(l:List α)(o:Nat)(xs ys:List α)(hl:o+(xs++ys).length<=l.length):place (place l o xs) (o+xs.length) ys=place l o (xs++ys):=by
 simp only[List.length_append]at hl;unfold place;have h1:(l.take o++xs).length=o+xs.length:=zAo
 have h2:(l.take o++xs++l.drop (o+xs.length)).take (o+xs.length)=l.take o++xs:=by
  rw[List.take_append_of_le_length zAA,List.take_of_length_le zAA]
 have h3:(l.take o++xs++l.drop (o+xs.length)).drop (o+xs.length+ys.length)=l.drop (o+(xs++ys).length):=by
  rw[show o+xs.length+ys.length=(l.take o++xs).length+ys.length by omega,List.drop_length_add_append,List.drop_drop];congr 1;simp;omega
 rw[h2,h3];simp
theorem LU(r:Rel T0 B σ a w X h)(T:TypeId)(size:Nat):∀(ps:List (Nat×Operand))(k:Nat)(rs:List (List D))(cells:Array Value),N1 P σ T size ps k rs->(k+ps.length)*size<=cells.size->
   ∃iW ys,Instr.fill (fun i=>some (i*size,size)) cells (ps.map fun x=>(x.1,a.eval x.2))=some iW/\iW.toList=place cells.toList (k*size) ys/\YC (Rd (Tof T0 X) w) ys rs.flatten/\(∀q∈rs,q.length=size)/\rs.length=ps.length
 |[],k,rs,cells,hb,_=>zBQ
 |(i,x)::ps,k,rs,cells,hb,hl=>by
  obtain⟨rfl,hg,hf,hC,r0,rest,ep,hlen,hb,rfl⟩:=hb
  have hx:=W5 hf (r.arg (P:=P) T x rfl hg)
  have hrd:=r.rowOf true ep hx (fun _=>hC)
  simp only[if_true]at hrd
  have bH:=hrd.length
  have e1:cells.toList.length=cells.size:=Array.length_toList
  have e2:(a.eval x).cells.toList.length=(a.eval x).cells.size:=Array.length_toList
  have hmul:(i+(ps.length+1))*size=i*size+size+ps.length*size:=zBc
  simp only[List.length_cons]at hl
  have heq:=Sq (i*size) (a.eval x).cells cells zAA
  have eN:((a.eval x).cells.zipIdx.foldl (fun cs x=>cs.setIfInBounds (i*size+x.2) x.1) cells).size=cells.size:=by
   rw[<-Array.length_toList,heq,QC _ _ _ zAA,e1]
  have hmul2:(i+1+ps.length)*size=i*size+size+ps.length*size:=zBc
  obtain⟨iW,ys,h1,h2,h3,h4,h5⟩:=LU r T size ps (i+1) rest _ hb (by rw[eN];omega)
  have fI:ys.length=ps.length*size:=by rw[h3.length,YV rest size h4,h5]
  refine⟨iW,(a.eval x).cells.toList++ys,?_,?_,?_,?_,by simp[h5]⟩
  ·simp only[List.map_cons,Instr.fill]
   rw[if_neg zAo]
   exact h1
  ·rw[h2,heq]
   rw[show(i+1)*size=i*size+(a.eval x).cells.toList.length by rw[Nat.add_mul];omega]
   exact L6 _ _ _ _ zAo
  ·rw[List.flatten_cons];exact hrd.append h3
  ·intro q hq
   rcases List.mem_cons.1 hq with rfl|hq
   ·exact hlen
   ·exact h4 q hq
theorem Lh(r:Rel T0 B σ a w X h){T:TypeId}(iE:o.op= .buildSlice T n parts)(hd:o.dst=some d)(gG:σ.fresh d=true)
  (ht:Xj P T=true) (hz:Qg P (ZV P T)=true) (gM:0<P.cellsOf (ZV P T)) (hn:parts.toList.length=n) (hsm:n*P.cellsOf (ZV P T)<=16777216) (hb:N1 P σ (ZV P T) (P.cellsOf (ZV P T)) parts.toList 0 rows)
  (hK:∀a' w',J5 T0 B (σ.new d (.one (.sref d 0 0 rows.length)) [.arr false (P.cellsOf (ZV P T)) rows]) a' w'->XF B w w'->K a' w'):o.wp P a w K Q:=by
 obtain⟨ti,hu,hi,eM⟩:=QD ht
 obtain⟨i,z,row,gm,eW,fx,eN,ev,fG,fj⟩:=xb hz
 rw[hi]at gm;cases gm
 have eE:(zeroValue (ZV P T)).run P w= .ok z w:=by simp[zeroValue,typeInfo,hi,eW]
 obtain⟨zero,hzero⟩:∃zero:Array Value,(n*P.cellsOf (ZV P T)=0->zero=#[])/\(¬n*P.cellsOf (ZV P T)=0->zero=z.cells):=by
  by_cases h0:n*P.cellsOf (ZV P T)=0
  ·exact⟨#[],fun _=>rfl,fun hh=>absurd h0 hh⟩
  ·exact⟨z.cells,fun hh=>absurd hh h0,fun _=>rfl⟩
 obtain⟨iW,ys,h1,h2,h3,h4,h5⟩:=LU r (ZV P T) (P.cellsOf (ZV P T)) parts.toList 0 rows ((Array.range (n*P.cellsOf (ZV P T))).map (zero[·%zero.size]!)) hb (by simp[hn])
 have fI:ys.length=n*P.cellsOf (ZV P T):=by rw[h3.length,YV rows _ h4,h5,hn]
 have hO:iW.toList=ys:=by
  rw[h2]
  unfold place
  simp[fI]
 have eZ:(parts.map fun(x:Nat×Operand)=>(x.1,a.eval x.2)).toList=parts.toList.map fun x=>(x.1,a.eval x.2):=zAE
 have iv:(execOp a.eval o).run P w= .ok (.value (.slice (some ⟨w.heap.size,0,none⟩) n n)) (w.alloc (.cells iW (ZV P T))):=by
  have e9:¬(n*P.cellsOf (ZV P T)>2^24):=zAA
  by_cases h0:n*P.cellsOf (ZV P T)=0
  ·have cE:=hzero.1 h0
   subst cE
   simp only[execOp,iE,Instr.buildSlice,Sem.run_bind,run_underlying hu,Result.andThen_ok,KX hi,if_neg e9,if_pos h0,eZ,h1,newRow,Sem.run_pure,run_newObj_alloc]
  ·have cE:=hzero.2 h0
   subst cE
   simp only[execOp,iE,Instr.buildSlice,Sem.run_bind,run_underlying hu,Result.andThen_ok,KX hi,if_neg e9,if_neg h0,eE,eZ,h1,newRow,Sem.run_pure,run_newObj_alloc]
 unfold Oper.wp
 rw[iv,Oper.upon_value,hd]
 have hlen:rows.length=n:=by rw[h5,hn]
 have hT:∀b k v,Tof T0 X b k->w.cell? ⟨b,k,none⟩=some v->(w.alloc (.cells iW (ZV P T))).cell? ⟨b,k,none⟩=some v/\Tof T0 X b k:=by
  intro b k v hb iZ
  refine⟨?_,hb⟩
  rw[World.cell?_of_block ((World.grownBy_alloc w (.cells iW (ZV P T)) none).block b (r.Tlt hb) zAE)];exact iZ
 have aB:iW.size=n*P.cellsOf (ZV P T):=by rw[<-Array.length_toList,hO,fI]
 have fW:n<=maxLen:=by
  have:n<=n*P.cellsOf (ZV P T):=Nat.le_mul_of_pos_right _ gM
  simp only[maxLen];omega
 have:=r.s6 gG (World.grownBy_alloc w (.cells iW (ZV P T)) none) (.slice (some ⟨w.heap.size,0,none⟩) n n) (size:=P.cellsOf (ZV P T)) (rows:=rows)
  ⟨ZV P T,ys,⟨by rw[fI,hlen],.inr ⟨w.heap.size,n,iW,by rw[hlen],Nat.zero_le _,heap_alloc_new w _,zAA,fW,aB,by rw[hO,hlen,List.take_of_length_le zAA]⟩⟩,h4,h3.imp fun _ _=>Rd.mono hT⟩
  (fun b hb=>by simp[blk]at hb;subst hb;exact⟨Nat.le_refl _,zAE⟩)
 exact hK _ _ this.1 this.2
theorem D8(r:Rel T0 B σ a w X h){T:TypeId}(iE:o.op= .buildSlice T n parts)(hd:o.dst=some d)
  (ht:Xj P T=true) (hz:Qg P (ZV P T)=true) (gM:0<P.cellsOf (ZV P T)) (hn:parts.toList.length=n) (hsm:n*P.cellsOf (ZV P T)<=16777216) (hb:N1 P σ (ZV P T) (P.cellsOf (ZV P T)) parts.toList 0 rows)
  (hK:∀a' w',J5 T0 B (σ.put d (.one (.d (.sl (P.cellsOf (ZV P T)) rows)))) a' w'->XF B w w'->K a' w'):o.wp P a w K Q:=by
 obtain⟨ti,hu,hi,eM⟩:=QD ht
 obtain⟨i,z,row,gm,eW,fx,eN,ev,fG,fj⟩:=xb hz
 rw[hi]at gm;cases gm
 have eE:(zeroValue (ZV P T)).run P w= .ok z w:=by simp[zeroValue,typeInfo,hi,eW]
 obtain⟨zero,hzero⟩:∃zero:Array Value,(n*P.cellsOf (ZV P T)=0->zero=#[])/\(¬n*P.cellsOf (ZV P T)=0->zero=z.cells):=by
  by_cases h0:n*P.cellsOf (ZV P T)=0
  ·exact⟨#[],fun _=>rfl,fun hh=>absurd h0 hh⟩
  ·exact⟨z.cells,fun hh=>absurd hh h0,fun _=>rfl⟩
 obtain⟨iW,ys,h1,h2,h3,h4,h5⟩:=LU r (ZV P T) (P.cellsOf (ZV P T)) parts.toList 0 rows ((Array.range (n*P.cellsOf (ZV P T))).map (zero[·%zero.size]!)) hb (by simp[hn])
 have fI:ys.length=n*P.cellsOf (ZV P T):=by rw[h3.length,YV rows _ h4,h5,hn]
 have hO:iW.toList=ys:=by
  rw[h2]
  unfold place
  simp[fI]
 have eZ:(parts.map fun(x:Nat×Operand)=>(x.1,a.eval x.2)).toList=parts.toList.map fun x=>(x.1,a.eval x.2):=zAE
 have iv:(execOp a.eval o).run P w= .ok (.value (.slice (some ⟨w.heap.size,0,none⟩) n n)) (w.alloc (.cells iW (ZV P T))):=by
  have e9:¬(n*P.cellsOf (ZV P T)>2^24):=zAA
  by_cases h0:n*P.cellsOf (ZV P T)=0
  ·have cE:=hzero.1 h0
   subst cE
   simp only[execOp,iE,Instr.buildSlice,Sem.run_bind,run_underlying hu,Result.andThen_ok,KX hi,if_neg e9,if_pos h0,eZ,h1,newRow,Sem.run_pure,run_newObj_alloc]
  ·have cE:=hzero.2 h0
   subst cE
   simp only[execOp,iE,Instr.buildSlice,Sem.run_bind,run_underlying hu,Result.andThen_ok,KX hi,if_neg e9,if_neg h0,eE,eZ,h1,newRow,Sem.run_pure,run_newObj_alloc]
 unfold Oper.wp
 rw[iv,Oper.upon_value,hd]
 have hlen:rows.length=n:=by rw[h5,hn]
 have bh:=World.grownBy_alloc w (.cells iW (ZV P T)) none
 have r2:=r.grow (X':=fun b=>X b\/b=w.heap.size) bh (fun b hb=>.inl hb) (fun b hb=>hb.imp id (fun hh=>by subst hh;exact⟨Nat.le_refl _,zAE⟩))
 have hT:∀b k v,Tof T0 X b k->w.cell? ⟨b,k,none⟩=some v->(w.alloc (.cells iW (ZV P T))).cell? ⟨b,k,none⟩=some v/\Tof T0 (fun b=>X b\/b=w.heap.size) b k:=by
  intro b k v hb iZ
  refine⟨?_,hb.imp id .inl⟩
  rw[World.cell?_of_block (bh.block b (r.Tlt hb) zAE)];exact iZ
 have aB:iW.size=n*P.cellsOf (ZV P T):=by rw[<-Array.length_toList,hO,fI]
 have fW:n<=maxLen:=by
  have:n<=n*P.cellsOf (ZV P T):=Nat.le_mul_of_pos_right _ gM
  simp only[maxLen];omega
 refine hK _ _ ⟨_,_,r2.put d _ _ ?_⟩ (XF.T5 bh r.hB)
 exact vo (e:=ZV P T) (xs:=ys) ⟨by rw[fI,hlen],.inr ⟨w.heap.size,n,iW,by rw[hlen],Nat.zero_le _,heap_alloc_new w _,zAA,fW,aB,by rw[hO,hlen,List.take_of_length_le zAA]⟩⟩ h4 (fun b k hb=>by simp[blk]at hb;subst hb;exact .inr (.inr rfl)) (h3.imp fun _ _=>Rd.mono hT)
def zD:List At->Option (List D)
 |[]=>some []
 |.d x::xs=>(zD xs).map (x::·)
 |.nil s::xs=>(zD xs).map (.sl s []::·)
 |_=>none
theorem Dz{T:CS}{ob:Nat->Nat->Ob}:∀{xs:List At}{ds:List D}{vs:List Value},zD xs=some ds->YC (YK T h ob w) xs vs->YC (Rd T w) vs ds
 |[],ds,vs,hz,iN=>by cases iN;simp[zD]at hz;subst hz;exact .nil
 |x::xs,ds,vs,hz,iN=>by
  cases iN with
  |cons hx iN=>
   cases x with
   |d x=>
    simp only[zD,Option.map_eq_some_iff]at hz
    obtain⟨bD,eD,rfl⟩:=hz
    exact .cons hx (Dz eD iN)
   |nil s=>
    simp only[zD,Option.map_eq_some_iff]at hz
    obtain⟨bD,eD,rfl⟩:=hz
    cases hx
    exact .cons (.nil _) (Dz eD iN)
   |any=>simp[zD]at hz
   |sref=>simp[zD]at hz
   |ptr=>simp[zD]at hz
   |bptr=>simp[zD]at hz
   |fn=>simp[zD]at hz
   |rptr=>simp[zD]at hz
   |tref=>simp[zD]at hz
theorem ks{α:Type}(z:List α)(n k:Nat)(hk:k<n*z.length):(List.replicate n z).flatten[k]?=z[k%z.length]?:=by
 induction n generalizing k with
 |zero=>simp at hk
 |succ n ih=>
  rw[List.replicate_succ,List.flatten_cons];rcases Nat.lt_or_ge k z.length with iQ|ej
  ·rw[List.getElem?_append_left iQ,Nat.mod_eq_of_lt iQ]
  ·rw[List.getElem?_append_right ej,ih (k-z.length) (by rw[Nat.add_mul]at hk;omega)];congr 1;rw[Nat.mod_eq_sub_mod ej]
theorem HM(r:Rel T0 B σ a w X h){T:TypeId}(iE:o.op= .makeSlice T x x)(hd:o.dst=some d)(gG:σ.fresh d=true)
  (ht:Xj P T=true) (hz:Qg P (ZV P T)=true) (fx:Wl P 12 (ZV P T)=some z) (hzd:zD z=some zr) (gM:0<P.cellsOf (ZV P T)) (hx:Um P σ x k (n:Int)) (bp:P.bytesOf (ZV P T)*n<=281474976710656) (dT:n<=9223372036854775807)
  (hK:∀a' w',J5 T0 B (σ.new d (.one (.sref d 0 0 n)) [.arr false (P.cellsOf (ZV P T)) (List.replicate n zr)]) a' w'->XF B w w'->K a' w'):o.wp P a w K Q:=by
 obtain⟨ti,hu,hi,eM⟩:=QD ht
 obtain⟨i,zv,row,gm,eW,bu,eN,ev,fG,fj⟩:=xb hz
 rw[hi]at gm;cases gm
 rw[fx]at bu;cases bu
 have hex:=qW r hx
 have hby':(ti.bytes:Int)*(n:Int)<=281474976710656:=by
  have:P.bytesOf (ZV P T)=ti.bytes:=zBW
  rw[this]at bp
  have h:((ti.bytes*n:Nat):Int)<=281474976710656:=zAA
  rwa[Int.natCast_mul]at h
 have iv:=run_make (P:=P) w T (ZV P T) ti zv hu hi eW k k n n zAA (Int.le_refl _) hby' zAA
 simp only[Int.toNat_natCast]at iv
 unfold Oper.wp
 simp only[execOp,iE,hex,Sem.run_bind,iv,Result.andThen_ok,Sem.run_pure,Oper.upon_value,hd]
 have hzrd:=Dz hzd (fj (Tof T0 X) h σ.ob w)
 have hzl:=hzrd.length
 have e1:zv.cells.toList.length=zv.cells.size:=Array.length_toList
 have cV:zr.length=ti.size:=zAA
 have hT:∀b k v,Tof T0 X b k->w.cell? ⟨b,k,none⟩=some v->(w.alloc (.cells (madeCells zv.cells (n*ti.size)) (ZV P T))).cell? ⟨b,k,none⟩=some v/\Tof T0 X b k:=by
  intro b k v hb iZ
  refine⟨?_,hb⟩
  rw[World.cell?_of_block ((World.grownBy_alloc w (.cells (madeCells zv.cells (n*ti.size)) (ZV P T)) none).block b (r.Tlt hb) zAE)];exact iZ
 have eb:(madeCells zv.cells (n*ti.size)).toList.length=n*ti.size:=by rw[Array.length_toList,size_madeCells]
 have aC:∀q u,(madeCells zv.cells (n*ti.size)).toList[q]?=some u->zv.cells.toList[q%ti.size]?=some u:=by
  intro q u hq
  have iQ:q<n*ti.size:=zBI
  have hmod:q%ti.size<zv.cells.size:=by rw[ev];exact Nat.mod_lt _ zAA
  have:(madeCells zv.cells (n*ti.size)).toList[q]?=some (zv.cells[q%zv.cells.size]!):=by
   simp[madeCells,iQ]
  rw[this]at hq
  cases hq
  rw[ev]
  simp[hmod]
 have dh:YC (Rd (Tof T0 X) w) (madeCells zv.cells (n*ti.size)).toList (List.replicate n zr).flatten:=by
  refine YC.qA (by rw[eb,YV _ ti.size (by intro q hq;rw[List.eq_of_mem_replicate hq];exact cV)];simp) (fun q u dd hq fU=>?_)
  have iQ:q<n*ti.size:=zBI
  rw[ks zr n q (by rw[cV];exact iQ),cV]at fU
  obtain⟨d',ic,gb⟩:=hzrd.get _ _ (aC q u hq)
  rw[fU]at ic;cases ic
  exact gb
 have:=r.s6 gG (World.grownBy_alloc w (.cells (madeCells zv.cells (n*ti.size)) (ZV P T)) none) (.slice (some ⟨w.heap.size,0,none⟩) n n) (size:=P.cellsOf (ZV P T)) (rows:=List.replicate n zr)
  ⟨ZV P T,(madeCells zv.cells (n*ti.size)).toList,⟨by rw[eb,fG];simp,.inr ⟨w.heap.size,n,_,zAE,Nat.zero_le _,heap_alloc_new w _,zAE,by simp only[maxLen];omega,by rw[size_madeCells,fG],by rw[List.take_of_length_le (by rw[eb,fG];simp)]⟩⟩,
   (by intro q hq;rw[List.eq_of_mem_replicate hq];omega),dh.imp fun _ _=>Rd.mono hT⟩
  (fun b hb=>by simp[blk]at hb;subst hb;exact⟨Nat.le_refl _,zAE⟩)
 rw[List.length_replicate]at this
 exact hK _ _ this.1 this.2
open Go.RowKit
def yJ(l:List UInt8):List (List D):=l.map fun b=>[D.int .u8 (b.toNat:Int)]
def ML(P:Program)(t:TypeId):Bool:=match P.underlying t with
 |some (.slice e)=>(match P.underlying e with|some (.int .u8)=>true|_=>false)
 |_=>false
theorem IM{t:TypeId}(ht:ML P t=true):∃e,P.underlying t=some (.slice e)/\P.underlying e=some (.int .u8):=by
 unfold ML at ht;split at ht
 ·rename_i e he;split at ht
  ·rename_i h2;exact⟨e,he,h2⟩
  ·cases ht
 ·cases ht
theorem T9(l:List UInt8):(yJ l).flatten=l.map fun b=>D.int .u8 (b.toNat:Int):=by
 induction l with
 |nil=>rfl
 |cons b l ih=>simp only[yJ,List.map_cons,List.flatten_cons]at ih⊢;rw[ih];rfl
theorem P0(r:Rel T0 B σ a w X h){S T:TypeId}(iE:o.op= .convert S T x)(hg:gOf (look P σ S x)=true)(hS:ML P S=true)(hT:Su P T=true)
  (ew:Wb σ (unc (look P σ S x)) 1 (yJ l)):∃val,(execOp a.eval o).run P w= .ok (.value val) w/\JU (Tof T0 X) h σ.ob w (.one (.d (.str ⟨l.toArray⟩))) val:=by
 obtain⟨e,hs,he⟩:=IM hS
 have hv:=r.arg (P:=P) S x rfl hg
 obtain⟨_,gV⟩:=E3 r ew hv
 refine⟨.string ⟨l.toArray⟩,?_,.str _⟩
 rcases gV with⟨hex,e8⟩|⟨ad,c,xs,hex,iZ,iN⟩
 ·have hl:l=[]:=by cases l with
   |nil=>rfl
   |cons b l=>simp[yJ]at e8
  subst hl
  have hr:(convert S T (.slice none 0 0)).run P w= .ok (.string ⟨#[]⟩) w:=by
   rw[run_convert_bytes_string w S T e none 0 0 hs he (jl hT)]
   rfl
  simp only[execOp,iE,hex,Sem.run_bind,hr,Result.andThen_ok,Sem.run_pure,List.toArray]
 ·have hlen:(yJ l).length=l.length:=by simp[yJ]
  rw[hlen]at hex
  have hr:=run_convert_bytes_back (P:=P) w S T e ad c l hs he (jl hT) (fun j hj=>by
   rw[T9]at iN
   obtain⟨u,hu,hr⟩:=iN.get' j (D.int .u8 (l[j].toNat:Int)) (by simp[hj])
   have:=SY hr
   subst this
   exact iZ j _ hu)
  simp only[execOp,iE,hex,Sem.run_bind,hr,Result.andThen_ok,Sem.run_pure]
theorem P1(r:Rel T0 B σ a w X h){S T:TypeId}{s:ByteArray}(iE:o.op= .convert S T x)(hd:o.dst=some d)(hg:gOf (look P σ S x)=true)(hS:Su P S=true)(hT:ML P T=true)
  (hx:unc (look P σ S x)= .one (.d (.str s))) (gT:s.size<=9223372036854775807)
  (hK:∀a' w',J5 T0 B (σ.put d (.one (.d (.sl 1 (yJ s.data.toList))))) a' w'->XF B w w'->K a' w'):o.wp P a w K Q:=by
 obtain⟨e,fU,he⟩:=IM hT
 have hex:=PY (r.arg (P:=P) S x hx hg)
 have iv:=run_bytes_of_string (P:=P) w S T e s (jl hS) fU he
 unfold Oper.wp
 simp only[execOp,iE,hex,Sem.run_bind,iv,Result.andThen_ok,Sem.run_pure,Oper.upon_value,hd]
 generalize gx:grownCap w s.size 0 e=cap at*
 have ej:s.size<=cap:=by rw[<-gx];exact grownCap_ge w s.size 0 e
 have fW:cap<=maxLen:=by rw[<-gx];exact grownCap_le_maxLen w s.size 0 e (by simp only[maxLen];omega)
 generalize hw':w.drew.alloc (.cells (bytesRow s cap) e ((bytesRow s cap).size,(bytesRow s cap).size+1))=w'
 have bh:w.grownBy w' none:=by
  rw[<-hw']
  exact⟨rfl,rfl,rfl,zAE,fun k hk _=>(World.grownBy_alloc w.drew _ none).block k hk zAE⟩
 have eu:w'.heap[w.heap.size]?=some (.cells (bytesRow s cap) e ((bytesRow s cap).size,(bytesRow s cap).size+1)):=by rw[<-hw'];exact heap_alloc_new w.drew _
 have hsize:w.heap.size<w'.heap.size:=(Array.getElem?_eq_some_iff.1 eu).1
 have r2:=r.grow (X':=fun b=>X b\/b=w.heap.size) bh (fun b hb=>.inl hb) (fun b hb=>hb.imp id (fun hh=>by subst hh;exact⟨Nat.le_refl _,hsize⟩))
 refine hK _ _ ⟨_,_,r2.put d _ _ ?_⟩ (XF.T5 bh r.hB)
 have gk:=T9 s.data.toList
 refine Rd.sl ⟨w.heap.size,0,none⟩ s.size cap 1 _ (fun k=>.int .u8 ((s.data.toList.getD k 0).toNat:Int)) (by simp[yJ]) ej fW (by intro q hq;simp[yJ]at hq;obtain⟨b,_,rfl⟩:=hq;rfl) (fun _=>rfl) (fun k dd hk=>?_) (fun k dd hk=>?_)
 ·rw[gk,List.getElem?_map]at hk
  cases hb:s.data.toList[k]? with
  |none=>rw[hb]at hk;cases hk
  |some b=>
   refine⟨?_,.inr (.inr rfl)⟩
   simp only[Nat.zero_add]
   refine zl eu _ _ ?_
   have hklt:k<s.data.size:=by have:=(List.getElem?_eq_some_iff.1 hb).1;simpa using this
   simp only[bytesRow]
   rw[Array.toList_append,List.getElem?_append_left (by simpa using hklt)]
   simp[hb]
 ·rw[gk,List.getElem?_map]at hk
  cases hb:s.data.toList[k]? with
  |none=>rw[hb]at hk;cases hk
  |some b=>
   rw[hb]at hk;cases hk
   rw[List.getD_eq_getElem?_getD,hb]
   exact .int _ _
open Go.RowKit
variable{l1 l2:List (Nat×Nat)}
def XP:List At->List (Nat×Nat)
 |[]=>[]
 |.sref t j _ _::xs=>(t,j)::XP xs
 |_::xs=>XP xs
def mvD(σ:St):At->Option D
 |.d (.sl _ _)=>none
 |.d x=>some x
 |.nil s=>some (.sl s [])
 |.sref t j lo len=>(match σ.ob t j with|.arr _ size rows=>if lo=0/\len=rows.length then some (.sl size rows)else none|_=>none)
 |_=>none
def Fq(σ:St):At->Prop
 |.sref t j _ _=>(match σ.ob t j with|.arr false _ rows=>∀r∈rows,∀x∈r,x.scalar=true|_=>True)
 |_=>True
def KD(σ:St):List At->Option (List D)
 |[]=>some []
 |x::xs=>(match mvD σ x,KD σ xs with|some d,some ds=>some (d::ds)|_,_=>none)
def Qk(σ:St):List At->Prop
 |[]=>True
 |x::xs=>Fq σ x/\Qk σ xs
def K2(σ:St):List (List At)->Option (List (List D))
 |[]=>some []
 |xs::rest=>(match KD σ xs,K2 σ rest with|some r,some rs=>some (r::rs)|_,_=>none)
def Kf(σ:St):List (List At)->Prop
 |[]=>True
 |x::xs=>Qk σ x/\Kf σ xs
theorem Lv:∀(xs:List At)(i j:Nat)(t u lo len cm ez:Nat),(XP xs).Nodup->xs[i]?=some (.sref t u lo len)->xs[j]?=some (.sref t u cm ez)->i=j:=by
 intro xs;induction xs with
 |nil=>intro i j t u lo len cm ez _ hi;simp at hi
 |cons x xs ih=>
  intro i j t u lo len cm ez gP hi hj;have mem:∀(k lo len:Nat),xs[k]?=some (At.sref t u lo len)->(t,u)∈XP xs:=by
   intro k lo len hk;clear ih gP hi hj;induction xs generalizing k with
   |nil=>simp at hk
   |cons y ys ax=>
    cases k with
    |zero=>simp at hk;subst hk;simp[XP]
    |succ k=>
     have:=ax k (by simpa using hk);cases y<;>simp[XP,this]
  have nd':(XP xs).Nodup:=by
   cases x<;>simp only[XP]at gP<;>first|exact gP|exact(List.nodup_cons.1 gP).2
  cases i with
  |zero=>
   simp at hi;subst hi;cases j with
   |zero=>rfl
   |succ j=>
    simp only[XP]at gP;exact absurd (mem j cm ez (by simpa using hj)) (List.nodup_cons.1 gP).1
  |succ i=>
   cases j with
   |zero=>
    simp at hj;subst hj;simp only[XP]at gP;exact absurd (mem i lo len (by simpa using hi)) (List.nodup_cons.1 gP).1
   |succ j=>rw[ih i j t u lo len cm ez nd' (by simpa using hi) (by simpa using hj)]
theorem E5:∀{xs:List At}{k t j lo len:Nat},xs[k]?=some (At.sref t j lo len)->(t,j)∈XP xs
 |[],k,t,j,lo,len,h=>by simp at h
 |x::xs,0,t,j,lo,len,h=>by simp at h;subst h;simp[XP]
 |x::xs,k+1,t,j,lo,len,h=>by
  have:=E5 (xs:=xs) (k:=k) zBh
  cases x<;>simp[XP,this]
theorem qk{σ:St}:∀{xs:List At}{ds:List D},KD σ xs=some ds->xs.length=ds.length/\∀(k:Nat)(x:At)(d:D),xs[k]?=some x->ds[k]?=some d->mvD σ x=some d
 |[],ds,h=>by simp[KD]at h;subst h;exact⟨rfl,fun k x d hx=>by simp at hx⟩
 |x::xs,ds,h=>by
  simp only[KD]at h
  split at h
  ·rename_i d bD h1 h2
   cases h
   obtain⟨hl,ih⟩:=qk h2
   refine⟨by simp[hl],fun k y e hy he=>?_⟩
   cases k with
   |zero=>simp at hy he;subst hy;subst he;exact h1
   |succ k=>exact ih k y e (by simpa using hy) (by simpa using he)
  ·cases h
theorem MO{σ:St}:∀{xs ys:List At}{ds es:List D},KD σ xs=some ds->KD σ ys=some es->KD σ (xs++ys)=some (ds++es)
 |[],ys,ds,es,h1,h2=>by simp[KD]at h1;subst h1;simpa using h2
 |x::xs,ys,ds,es,h1,h2=>by
  simp only[KD]at h1
  split at h1
  ·rename_i d bD h3 h4
   cases h1
   simp[KD,h3,MO h4 h2]
  ·cases h1
theorem qD{σ:St}:∀{gi:List (List At)}{rs:List (List D)},K2 σ gi=some rs->KD σ gi.flatten=some rs.flatten/\gi.length=rs.length/\∀n,(∀x∈gi,x.length=n)->∀r∈rs,r.length=n
 |[],rs,h=>by simp[K2]at h;subst h;exact⟨rfl,rfl,fun n _ r hr=>by cases hr⟩
 |xs::gi,rs,h=>by
  simp only[K2]at h
  split at h
  ·rename_i r rs' h1 h2
   cases h
   obtain⟨i1,i2,i3⟩:=qD h2
   refine⟨by rw[List.flatten_cons,List.flatten_cons];exact MO h1 i1,by simp[i2],fun n hn q hq=>?_⟩
   rcases List.mem_cons.1 hq with rfl|hq
   ·rw[<-(qk h1).1];exact hn xs zAE
   ·exact i3 n (fun x hx=>hn x (by simp[hx])) q hq
  ·cases h
theorem Rt{σ:St}:∀{xs:List At},Qk σ xs->∀(k:Nat)(x:At),xs[k]?=some x->Fq σ x
 |[],_,k,x,hx=>by simp at hx
 |y::xs,h,0,x,hx=>by simp at hx;subst hx;exact h.1
 |y::xs,h,k+1,x,hx=>Rt h.2 k x (by simpa using hx)
theorem Rl{σ:St}:∀{xs ys:List At},Qk σ xs->Qk σ ys->Qk σ (xs++ys)
 |[],_,_,h=>h
 |_::_,_,h1,h2=>⟨h1.1,Rl h1.2 h2⟩
theorem xl{σ:St}:∀{gi:List (List At)},Kf σ gi->Qk σ gi.flatten
 |[],_=>trivial
 |xs::gi,h=>by rw[List.flatten_cons];exact Rl h.1 (xl h.2)
theorem Rd.own{d:D}(hs:d.scalar=true)(hr:Rd T w v d):Own w v d S:=by
 cases hr with
 |int k n=>exact .int _ _ _
 |bool b=>exact .bool _ _
 |str s=>exact .str _ _
 |unk v h=>exact .unk _ h _
 |nil=>cases hs
 |sl=>cases hs
theorem Rel.ni(r:Rel T0 B σ a w X h)(ho:σ.ob t j= .arr q size rows)(hq:q=false->∀r∈rows,∀x∈r,x.scalar=true):Own w (h t j).v (.sl size rows) (h t j).u:=by
 have h0:=r.obj t j;have ga:=r.ub t j;rw[ho]at h0 ga;cases q with
 |false=>
  obtain⟨e,xs,fZ,hz,iN⟩:=h0;refine .sl _ size rows _ e xs (fun _ _=>False) fZ hz (fun b hb=>ga b zAE hb) iN.length (fun k x d hx hd=>?_) (fun k b hb=>hb.elim) (fun i j b hb=>hb.elim);obtain⟨d',ic,hr⟩:=iN.get k x hx;rw[hd]at ic;cases ic;obtain⟨r0,ep,hdr⟩:=List.mem_flatten.1 (List.mem_of_getElem? hd);exact Rd.own (hq rfl r0 ep d hdr) hr
 |true=>
  obtain⟨e,xs,fZ,hz,⟨hl,Sk,h1,h2,h3⟩,hn⟩:=h0;exact .sl _ size rows _ e xs Sk fZ hz (fun b hb=>ga b zAE hb) hl h1 (fun k b hb=>h2 k b hb) h3
def zd(σ:St)(h:Nat->Nat->Hd)(l:List (Nat×Nat))(b:Nat):Prop:=∃p∈l,σ.ob p.1 p.2≠ .none/\(h p.1 p.2).u b
theorem Ro(r:Rel T0 B σ a w X h){xs:List At}(iN:YC (YK (Tof T0 X) h σ.ob w) xs vs)(fQ:KD σ xs=some ds)(iz:Qk σ xs)(gP:(XP xs).Nodup):Ke w vs ds (zd σ h (XP xs)):=by
 obtain⟨hl,fQ⟩:=qk fQ;refine⟨by rw[<-iN.length,hl],fun k b=>∃t j lo len,xs[k]?=some (.sref t j lo len)/\σ.ob t j≠ .none/\(h t j).u b,fun k v d hv hd=>?_,?_,?_⟩
 ·obtain⟨x,hx,hr⟩:=iN.get' k v hv;have hm:=fQ k x d hx hd
  have ho:=Rt iz k x hx;cases x with
  |d x=>
   cases x with
   |sl s rows=>simp[mvD]at hm
   |int k n=>simp[mvD]at hm;subst hm;exact Rd.own rfl hr
   |bool b=>simp[mvD]at hm;subst hm;exact Rd.own rfl hr
   |str s=>simp[mvD]at hm;subst hm;exact Rd.own rfl hr
   |unk=>simp[mvD]at hm;subst hm;exact Rd.own rfl hr
  |nil s=>
   simp[mvD]at hm;subst hm;cases hr;exact .sl _ s [] _ 0 [] (fun _ _=>False) (World.ownsRow_nil w 0 0 s) zBA (fun b hb=>by cases hb) rfl (fun k x d hx=>by simp at hx) (fun k b hb=>hb.elim) (fun i j b hb=>hb.elim)
  |sref t j lo len=>
   simp only[mvD]at hm;split at hm
   ·rename_i q size rows iu;split at hm
    ·rename_i hc;obtain⟨rfl,rfl⟩:=hc;cases hm;obtain⟨_,g5,_⟩:=hr.2.1 q size rows iu;rw[g5 rfl rfl];refine(r.ni iu (fun hq=>?_)).mono (fun b hb=>⟨t,j,0,rows.length,hx,by rw[iu];simp,hb⟩);subst hq;simp only[Fq,iu]at ho;exact ho
    ·cases hm
   ·cases hm
  |any=>simp[mvD]at hm
  |ptr=>simp[mvD]at hm
  |bptr=>simp[mvD]at hm
  |fn=>simp[mvD]at hm
  |rptr=>simp[mvD]at hm
  |tref=>simp[mvD]at hm
 ·rintro k b ⟨t,j,lo,len,hx,iH,hu⟩;exact⟨(t,j),E5 hx,iH,hu⟩
 ·rintro i k b ⟨t,j,lo,len,hx,iH,hu⟩ ⟨t',j',cm,ez,dU,gE,fh⟩;obtain⟨rfl,rfl⟩:=r.inj t j t' j' b iH gE hu fh;exact Lv xs i k t j lo len cm ez gP hx dU
theorem Ke.append{xs:List Value}(h1:Ke w xs ds S)(h2:Ke w ys es S')(hd:∀b,S b->S' b->False):Ke w (xs++ys) (ds++es) (fun b=>S b\/S' b):=by
 obtain⟨l1,Sk,a1,a2,a3⟩:=h1;obtain⟨l2,ab,b1,b2,b3⟩:=h2;refine⟨by simp[l1,l2],fun k=>if k<xs.length then Sk k else ab (k-xs.length),fun k x d hx ic=>?_,fun k b hb=>?_,fun i j b hi hj=>?_⟩
 ·by_cases hk:k<xs.length
  ·simp only[hk,if_true];rw[List.getElem?_append_left hk]at hx;rw[List.getElem?_append_left zAA]at ic;exact a1 k x d hx ic
  ·simp only[hk,if_false];rw[List.getElem?_append_right zAA]at hx;rw[List.getElem?_append_right zAA,<-l1]at ic;exact b1 _ x d hx ic
 ·by_cases hk:k<xs.length
  ·simp only[hk,if_true]at hb;exact .inl (a2 k b hb)
  ·simp only[hk,if_false]at hb;exact .inr (b2 _ b hb)
 ·by_cases gm:i<xs.length
  ·simp only[gm,if_true]at hi;by_cases eY:j<xs.length
   ·simp only[eY,if_true]at hj;exact a3 i j b hi hj
   ·simp only[eY,if_false]at hj;exact(hd b (a2 i b hi) (b2 _ b hj)).elim
  ·simp only[gm,if_false]at hi;by_cases eY:j<xs.length
   ·simp only[eY,if_true]at hj;exact(hd b (a2 j b hj) (b2 _ b hi)).elim
   ·simp only[eY,if_false]at hj;have:=b3 _ _ b hi hj;omega
theorem Ke.mono{xs:List Value}(hS:∀b,S b->S' b)(h1:Ke w xs ds S):Ke w xs ds S':=by
 obtain⟨l1,Sk,a1,a2,a3⟩:=h1;exact⟨l1,Sk,a1,fun k b hb=>hS b (a2 k b hb),a3⟩
theorem Ke.nil(S:Nat->Prop):Ke w [] [] S:=⟨rfl,fun _ _=>False,fun k x d hx=>by simp at hx,fun _ _ hb=>hb.elim,fun _ _ _ hb=>hb.elim⟩
theorem Rel.yQ(r:Rel T0 B σ a w X h)(l:List (Nat×Nat))(b:Nat)(hb:zd σ h l b):¬B b/\¬X b/\b<w.heap.size/\∀u i,(σ.Z7 l).ob u i≠ .none->¬(h u i).u b:=by
 obtain⟨p,hp,iH,hu⟩:=hb;have ho:=r.own p.1 p.2 b iH hu
 refine⟨ho.1,ho.2.1,ho.2.2,fun u i hn fh=>?_⟩;rw[St.Ks]at hn;split at hn
 ·exact hn rfl
 ·rename_i av;obtain⟨h1,h2⟩:=r.inj p.1 p.2 u i b iH hn hu fh;exact av (by rw[<-h1,<-h2];exact hp)
open Go.RowKit
def NR(P:Program)(σ:St)(T:TypeId)(size:Nat):List (Nat×Operand)->Nat->List (List At)->Prop
 |[],_,rs=>rs=[]
 |(i,x)::ps,k,rs=>i=k/\gOf (look P σ T x)=true/\(unc (look P σ T x)).flat=true/\(unc (look P σ T x)).cells.length=size/\
   ∃rest,NR P σ T size ps (k+1) rest/\rs=(unc (look P σ T x)).cells::rest
theorem C4(r:Rel T0 B σ a w X h)(T:TypeId)(size:Nat):∀(ps:List (Nat×Operand))(k:Nat)(rs:List (List At))(cells:Array Value),NR P σ T size ps k rs->(k+ps.length)*size<=cells.size->
   ∃iW ys,Instr.fill (fun i=>some (i*size,size)) cells (ps.map fun x=>(x.1,a.eval x.2))=some iW/\iW.toList=place cells.toList (k*size) ys/\YC (YK (Tof T0 X) h σ.ob w) rs.flatten ys/\(∀q∈rs,q.length=size)/\rs.length=ps.length
 |[],k,rs,cells,hb,_=>zBQ
 |(i,x)::ps,k,rs,cells,hb,hl=>by
  obtain⟨rfl,hg,hf,hlen,rest,hb,rfl⟩:=hb
  have hx:=W5 hf (r.arg (P:=P) T x rfl hg)
  have bH:=hx.length
  have e1:cells.toList.length=cells.size:=Array.length_toList
  have e2:(a.eval x).cells.toList.length=(a.eval x).cells.size:=Array.length_toList
  have hmul:(i+(ps.length+1))*size=i*size+size+ps.length*size:=zBc
  simp only[List.length_cons]at hl
  have heq:=Sq (i*size) (a.eval x).cells cells zAA
  have eN:((a.eval x).cells.zipIdx.foldl (fun cs x=>cs.setIfInBounds (i*size+x.2) x.1) cells).size=cells.size:=by
   rw[<-Array.length_toList,heq,QC _ _ _ zAA,e1]
  have hmul2:(i+1+ps.length)*size=i*size+size+ps.length*size:=zBc
  obtain⟨iW,ys,h1,h2,h3,h4,h5⟩:=C4 r T size ps (i+1) rest _ hb (by rw[eN];omega)
  have fI:ys.length=ps.length*size:=by rw[<-h3.length,YV rest size h4,h5]
  refine⟨iW,(a.eval x).cells.toList++ys,?_,?_,?_,?_,by simp[h5]⟩
  ·simp only[List.map_cons,Instr.fill]
   rw[if_neg zAo]
   exact h1
  ·rw[h2,heq]
   rw[show(i+1)*size=i*size+(a.eval x).cells.toList.length by rw[Nat.add_mul];omega]
   exact L6 _ _ _ _ zAo
  ·rw[List.flatten_cons];exact hx.append h3
  ·intro q hq
   rcases List.mem_cons.1 hq with rfl|hq
   ·exact hlen
   ·exact h4 q hq
theorem PD(r:Rel T0 B σ a w X h){T:TypeId}{rows:List (List At)}(iE:o.op= .buildSlice T n parts)(hd:o.dst=some d)(gG:σ.fresh d=true)
  (ht:Xj P T=true) (hz:Qg P (ZV P T)=true) (gM:0<P.cellsOf (ZV P T)) (hn:parts.toList.length=n) (hsm:n*P.cellsOf (ZV P T)<=16777216) (hb:NR P σ (ZV P T) (P.cellsOf (ZV P T)) parts.toList 0 rows) (hrf:Yi d rows.flatten=false)
  (hK:∀a' w',J5 T0 B (σ.new d (.one (.sref d 0 0 rows.length)) [.lit (P.cellsOf (ZV P T)) rows]) a' w'->XF B w w'->K a' w'):o.wp P a w K Q:=by
 obtain⟨ti,hu,hi,eM⟩:=QD ht
 obtain⟨i,z,row,gm,eW,fx,eN,ev,fG,fj⟩:=xb hz
 rw[hi]at gm;cases gm
 have eE:(zeroValue (ZV P T)).run P w= .ok z w:=by simp[zeroValue,typeInfo,hi,eW]
 obtain⟨zero,hzero⟩:∃zero:Array Value,(n*P.cellsOf (ZV P T)=0->zero=#[])/\(¬n*P.cellsOf (ZV P T)=0->zero=z.cells):=by
  by_cases h0:n*P.cellsOf (ZV P T)=0
  ·exact⟨#[],fun _=>rfl,fun hh=>absurd h0 hh⟩
  ·exact⟨z.cells,fun hh=>absurd hh h0,fun _=>rfl⟩
 obtain⟨iW,ys,h1,h2,h3,h4,h5⟩:=C4 r (ZV P T) (P.cellsOf (ZV P T)) parts.toList 0 rows ((Array.range (n*P.cellsOf (ZV P T))).map (zero[·%zero.size]!)) hb (by simp[hn])
 have fI:ys.length=n*P.cellsOf (ZV P T):=by rw[<-h3.length,YV rows _ h4,h5,hn]
 have hO:iW.toList=ys:=by
  rw[h2]
  unfold place
  simp[fI]
 have eZ:(parts.map fun(x:Nat×Operand)=>(x.1,a.eval x.2)).toList=parts.toList.map fun x=>(x.1,a.eval x.2):=zAE
 have iv:(execOp a.eval o).run P w= .ok (.value (.slice (some ⟨w.heap.size,0,none⟩) n n)) (w.alloc (.cells iW (ZV P T))):=by
  have e9:¬(n*P.cellsOf (ZV P T)>2^24):=zAA
  by_cases h0:n*P.cellsOf (ZV P T)=0
  ·have cE:=hzero.1 h0
   subst cE
   simp only[execOp,iE,Instr.buildSlice,Sem.run_bind,run_underlying hu,Result.andThen_ok,KX hi,if_neg e9,if_pos h0,eZ,h1,newRow,Sem.run_pure,run_newObj_alloc]
  ·have cE:=hzero.2 h0
   subst cE
   simp only[execOp,iE,Instr.buildSlice,Sem.run_bind,run_underlying hu,Result.andThen_ok,KX hi,if_neg e9,if_neg h0,eE,eZ,h1,newRow,Sem.run_pure,run_newObj_alloc]
 unfold Oper.wp
 rw[iv,Oper.upon_value,hd]
 have hlen:rows.length=n:=by rw[h5,hn]
 have hg:=World.grownBy_alloc w (.cells iW (ZV P T)) none
 have iQ:=St.zV gG
 have hT:∀b k v,Tof T0 X b k->w.cell? ⟨b,k,none⟩=some v->(w.alloc (.cells iW (ZV P T))).cell? ⟨b,k,none⟩=some v/\Tof T0 X b k:=by
  intro b k v hb iZ
  refine⟨?_,hb⟩
  rw[World.cell?_of_block (hg.block b (r.Tlt hb) zAE)];exact iZ
 have aB:iW.size=n*P.cellsOf (ZV P T):=by rw[<-Array.length_toList,hO,fI]
 have fW:n<=maxLen:=by
  have:n<=n*P.cellsOf (ZV P T):=Nat.le_mul_of_pos_right _ gM
  simp only[maxLen];omega
 have iS:(w.alloc (.cells iW (ZV P T))).ownsRow 0 (ZV P T) (P.cellsOf (ZV P T)) (.slice (some ⟨w.heap.size,0,none⟩) n n) rows.length ys:=
  ⟨by rw[fI,hlen],.inr ⟨w.heap.size,n,iW,by rw[hlen],Nat.zero_le _,heap_alloc_new w _,zAA,fW,aB,by rw[hO,hlen,List.take_of_length_le zAA]⟩⟩
 refine hK _ _ ⟨X,fun t j=>if t=d then Hd.of (.slice (some ⟨w.heap.size,0,none⟩) n n)else h t j,?_⟩ (XF.T5 hg r.hB)
 have gN:(σ.new d (.one (.sref d 0 0 rows.length)) [.lit (P.cellsOf (ZV P T)) rows]).ob d 0= .lit (P.cellsOf (ZV P T)) rows:=zA8
 have hc:∀t j,t≠d->Cpt h (fun t j=>if t=d then Hd.of (.slice (some ⟨w.heap.size,0,none⟩) n n)else h t j) σ.ob (σ.new d (.one (.sref d 0 0 rows.length)) [.lit (P.cellsOf (ZV P T)) rows]).ob t j:=by
  intro t j iH
  have he:(σ.new d (.one (.sref d 0 0 rows.length)) [.lit (P.cellsOf (ZV P T)) rows]).ob t j=σ.ob t j:=zBn
  exact Cpt.same (by simp[iH]) he
 refine r.new gG hg (fun _ hb=>hb) (fun _ hb=>.inl hb) _ _ [.lit (P.cellsOf (ZV P T)) rows] (fun _=>Hd.of (.slice (some ⟨w.heap.size,0,none⟩) n n)) ?_ (fun j=>?_) (fun j b _ hb=>hb) (fun j b _ iq=>?_) (fun j j' b iH gE _ _=>?_)
 ·refine⟨KS iS,fun q' iw ig hD=>(by rw[gN]at hD;cases hD),fun iw ig hD=>?_⟩
  rw[gN]at hD;cases hD
  simp only[if_true]
  exact VR iS
 ·cases j with
  |zero=>exact⟨ZV P T,ys,iS,h4,Vo hT hc hrf h3⟩
  |succ j=>simp[Yt,J9]
 ·simp[Hd.of,blk]at iq;subst iq
  refine⟨Nat.le_refl _,fun dU=>?_,zAE⟩
  have:=(r.hX _ dU).2;omega
 ·have:∀j,Yt [Ob.lit (P.cellsOf (ZV P T)) rows] j≠ .none->j=0:=by
   intro j hj
   cases j with
   |zero=>rfl
   |succ j=>simp[Yt]at hj
  rw[this j iH,this j' gE]
theorem wa{T:CS}{ob:Nat->Nat->Ob}:∀{xs:List At}{ds:List D}{vs:List Value},zD xs=some ds->YC (YK T h ob w) xs vs->(∀x∈xs,∀s r,x≠ .d (.sl s r))->∀(w':World)(S:Nat->Prop)(k:Nat)(v:Value)(d:D),vs[k]?=some v->ds[k]?=some d->Own w' v d S
 |[],ds,vs,hz,iN,_,w',S,k,v,d,hv,_=>by cases iN;simp at hv
 |x::xs,ds,vs,hz,iN,cB,w',S,k,v,d,hv,hd=>by
  cases iN with
  |cons hx iN=>
   cases x with
   |d x=>
    simp only[zD,Option.map_eq_some_iff]at hz
    obtain⟨bD,eD,rfl⟩:=hz
    cases k with
    |zero=>
     simp at hv hd;subst hv;subst hd
     cases x with
     |sl s r=>exact absurd rfl (cB _ zAE s r)
     |int k n=>cases(show Rd _ _ _ _ from hx);exact .int _ _ _
     |bool b=>cases(show Rd _ _ _ _ from hx);exact .bool _ _
     |str s=>cases(show Rd _ _ _ _ from hx);exact .str _ _
     |unk=>exact .unk _ (Rd.QQ hx) _
    |succ k=>exact wa eD iN (fun x hx=>cB x (by simp[hx])) w' S k v d (by simpa using hv) (by simpa using hd)
   |nil s=>
    simp only[zD,Option.map_eq_some_iff]at hz
    obtain⟨bD,eD,rfl⟩:=hz
    cases k with
    |zero=>
     simp at hv hd;subst hv;subst hd
     cases hx
     exact .sl _ s [] _ 0 [] (fun _ _=>False) (World.ownsRow_nil w' 0 0 s) zBA (fun b hb=>by cases hb) rfl (fun k x d hx=>by simp at hx) (fun k b hb=>hb.elim) (fun i j b hb=>hb.elim)
    |succ k=>exact wa eD iN (fun x hx=>cB x (by simp[hx])) w' S k v d (by simpa using hv) (by simpa using hd)
   |any=>simp[zD]at hz
   |sref=>simp[zD]at hz
   |ptr=>simp[zD]at hz
   |bptr=>simp[zD]at hz
   |fn=>simp[zD]at hz
   |rptr=>simp[zD]at hz
   |tref=>simp[zD]at hz
def tA(σ:St)(x:V)(size:Nat)(iJ:List (List D))(l:List (Nat×Nat)):Prop:=
 match x with
 |.one (.nil _)=>iJ=[]/\l=[]
 |.one (.sref t j lo len)=>σ.ob t j= .arr true size iJ/\lo=0/\len=iJ.length/\l=[(t,j)]
 |_=>False
def um(σ:St)(x:V)(size:Nat)(news:List (List D))(l:List (Nat×Nat)):Prop:=
 match x with
 |.one (.sref t j lo len)=>∃rows,σ.ob t j= .lit size rows/\lo=0/\len=rows.length/\K2 σ rows=some news/\Kf σ rows/\l=XP rows.flatten
 |_=>False
theorem Fb(r:Rel T0 B σ a w X h){t e0:TypeId}{m cap:Nat}{ti:TypeInfo}{z:Value}{xs:List Value}(iE:o.op= .call ⟨.builtin .append,#[x,y],#[t,t]⟩)(hd:o.dst=some d)
  (hu:P.underlying t=some (.slice (ZV P t))) (hi:P.info? (ZV P t)=some ti) (eW:ti.zero=some z) (ev:z.cells.size=ti.size) (gM:0<ti.size) (gG:σ.fresh d=true) (gJ:(m+n)*ti.bytes<=140737488355328) (dT:m+n<=9223372036854775807)
  (iS:w.ownsRow 0 e0 ti.size (a.eval x) m xs) (fB:∀b,blk (a.eval x)=some b->N b) (hN:∀b,N b->¬B b/\¬X b/\b<w.heap.size/\∀u j,σ.ob u j≠ .none->¬(h u j).u b)
  (bd:a.eval y= .slice base n cap) (dJ:base=none->cap=0/\n=0) (fI:ys.length=n*ti.size) (iZ:∀ad,base=some ad->∀k v,ys[k]?=some v->w.cell? (ad.add k)=some v) (h1c:∀v∈ys,v.oneCell'=true)
  (dK:rs.length=m+n) (hrz:∀q∈rs,q.length=ti.size) (hOw:Ke w (xs++ys) rs.flatten (fun b=>N b/\blk (a.eval x)≠some b))
  (hK:∀a' w',J5 T0 B (σ.new d (.one (.sref d 0 0 (m+n))) [.arr true ti.size rs]) a' w'->XF B w w'->K a' w'):o.wp P a w K Q:=by
 have iQ:=St.zV gG
 have key:∀(v':Value)(w':World)(e1:TypeId),(Builtin.append_ #[t,t] o.type #[a.eval x,a.eval y]).run P w= .ok v' w'->w'.ownsRow 0 e1 ti.size v' (m+n) (xs++ys)->
   w.grownBy w' (blk (a.eval x))->(∀b,blk v'=some b->(w.heap.size<=b/\b<w'.heap.size)\/blk (a.eval x)=some b)->o.wp P a w K Q:=by
  intro v' w' e1 iv hD eC hbv
  unfold Oper.wp
  have aA:(execOp a.eval o).run P w= .ok (.value v') w':=by
   simp only[execOp,iE,resolve,invoke,builtin,Sem.run_bind,Sem.run_pure,Result.andThen_ok,List.map_toArray,List.map_cons,List.map_nil,iv]
  rw[aA,Oper.upon_value,hd]
  refine hK _ _ ⟨X,fun u j=>if u=d then⟨v',fun k=>((xs++ys)[k]?).getD undef,fun b=>blk v'=some b\/(N b/\blk (a.eval x)≠some b)⟩else h u j,?_⟩
   ⟨eC.os,eC.tape,eC.output,eC.size,fun k hk=>eC.block k (r.hB k hk) (fun e=>(hN k (fB k e.symm)).1 hk)⟩
  have gN:(σ.new d (.one (.sref d 0 0 (m+n))) [.arr true ti.size rs]).ob d 0= .arr true ti.size rs:=zA8
  have gS:w'.ownsRow 0 e1 ti.size v' rs.length (xs++ys):=by rw[dK];exact hD
  have hOw2:Ke w' (xs++ys) rs.flatten (fun b=>(blk v'=some b\/(N b/\blk (a.eval x)≠some b))/\blk v'≠some b):=by
   refine(hOw.N8 (fun b hb=>eC.block b (hN b hb.1).2.2.1 (fun e=>hb.2 e.symm))).mono (fun b hb=>⟨.inr hb,fun e=>?_⟩)
   rcases hbv b e with hl|hl
   ·have:=(hN b hb.1).2.2.1;omega
   ·exact hb.2 hl
  refine r.wC gG N eC.size (fun k hk iH=>eC.block k hk (fun e=>iH (fB k e.symm))) (fun b hb=>⟨(hN b hb).1,(hN b hb).2.1,fun u j _ iH=>(hN b hb).2.2.2 u j iH⟩) (fun _ hb=>hb) (fun _ hb=>.inl hb) _ _ [.arr true ti.size rs]
   (fun _=>⟨v',fun k=>((xs++ys)[k]?).getD undef,fun b=>blk v'=some b\/(N b/\blk (a.eval x)≠some b)⟩) ?_ (fun j=>?_) (fun j b _ hb=>.inl hb) (fun j b iH iq=>?_) (fun j j' b iH gE _ _=>?_)
  ·refine⟨KS hD,fun q' iw ig hh=>?_,fun iw ig hh=>by rw[gN]at hh;cases hh⟩
   rw[gN]at hh;cases hh
   simp only[if_true]
   rw[<-dK]
   exact VR gS
  ·cases j with
   |zero=>exact⟨e1,xs++ys,gS,hrz,hOw2,fun k x d hx _ _=>by simp[hx]⟩
   |succ j=>simp[Yt,J9]
  ·rcases iq with iq|iq
   ·rcases hbv b iq with h1|h1
    ·exact⟨.inl h1.1,fun hx=>by have:=(r.hX b hx).2;omega,h1.2⟩
    ·have h2:=hN b (fB b h1)
     exact⟨.inr (fB b h1),h2.2.1,by have:=eC.size;omega⟩
   ·have h2:=hN b iq.1
    exact⟨.inr iq.1,h2.2.1,by have:=eC.size;omega⟩
  ·have:∀j,Yt [Ob.arr true ti.size rs] j≠ .none->j=0:=by
    intro j hj
    cases j with
    |zero=>rfl
    |succ j=>simp[Yt]at hj
   rw[this j iH,this j' gE]
 cases base with
 |none=>
  obtain⟨rfl,rfl⟩:=dJ rfl
  have hys:ys=[]:=List.eq_nil_of_length_eq_zero (by rw[fI];simp)
  have gA:∃base cap,a.eval x= .slice base m cap/\m<=cap/\(base=none->cap=0):=by
   rcases iS.2 with⟨h1,h2⟩|⟨g,cap,cur,h1,_,_,fc,_⟩
   ·exact⟨none,0,by rw[h1,h2],zAA,fun _=>rfl⟩
   ·exact⟨_,cap,h1,fc,(fun hh=>by cases hh)⟩
  obtain⟨base,cap,hex,fc,hb0⟩:=gA
  refine key (a.eval x) w e0 ?_ (by rw[hys];simpa using iS) ⟨rfl,rfl,rfl,Nat.le_refl _,fun _ _ _=>rfl⟩ (fun b hb=>.inr hb)
  rw[bd,hex]
  exact UJ t o.type _ ti hu hi base m cap fc hb0
 |some ad=>
  obtain⟨v',w',e1,iv,hD,eC,hbv⟩:=R0 (P:=P) (w:=w) t o.type _ e0 ti z hu hi eW ev gM (a.eval x) m xs iS ad n cap ys fI (iZ ad rfl) h1c (by simp only[maxLen];omega) gJ
  refine key v' w' e1 ?_ hD eC hbv
  rw[bd];exact iv
theorem Fw(r:Rel T0 B σ a w X h){t:TypeId}(iE:o.op= .call ⟨.builtin .append,#[x,y],#[t,t]⟩)(hd:o.dst=some d)
  (dH:gOf (look P σ t x)=true) (dI:gOf (look P σ t y)=true) (ht:Xj P t=true) (hz:Qg P (ZV P t)=true) (gM:0<P.cellsOf (ZV P t))
  (g6:tA σ (unc (look P σ t x)) (P.cellsOf (ZV P t)) iJ l1) (ew:um σ (unc (look P σ t y)) (P.cellsOf (ZV P t)) news l2) (gP:(l1++l2).Nodup) (gG:(σ.Z7 (l1++l2)).fresh d=true)
  (gJ:(iJ.length+news.length)*P.bytesOf (ZV P t)<=140737488355328) (dT:iJ.length+news.length<=9223372036854775807)
  (hK:∀a' w',J5 T0 B ((σ.Z7 (l1++l2)).new d (.one (.sref d 0 0 (iJ.length+news.length))) [.arr true (P.cellsOf (ZV P t)) (iJ++news)]) a' w'->XF B w w'->K a' w'):o.wp P a w K Q:=by
 obtain⟨ti,hu,hi,eM⟩:=QD ht
 obtain⟨i,z,row,gm,eW,fx,eN,ev,fG,fj⟩:=xb hz
 rw[hi]at gm;cases gm
 have bp:P.bytesOf (ZV P t)=ti.bytes:=zBW
 rw[bp]at gJ
 rw[<-fG]at g6 ew gM hK
 have di:=r.arg (P:=P) t x rfl dH
 have af:=r.arg (P:=P) t y rfl dI
 obtain⟨t2,j2,rows,hsy,bz,fQ,fg,bH⟩:∃t2 j2 rows,unc (look P σ t y)= .one (.sref t2 j2 0 rows.length)/\σ.ob t2 j2= .lit ti.size rows/\K2 σ rows=some news/\Kf σ rows/\l2=XP rows.flatten:=by
  unfold um at ew
  split at ew
  ·rename_i t2 j2 lo len heq
   obtain⟨rows,ho,rfl,rfl,hm,hk,rfl⟩:=ew
   exact⟨t2,j2,rows,heq,ho,hm,hk,rfl⟩
  ·exact ew.elim
 subst bH
 obtain⟨hmv1,hmv2,hmv3⟩:=qD fQ
 have hmok':=xl fg
 rw[hsy]at af
 have h0:=r.obj t2 j2
 rw[bz]at h0
 obtain⟨e2,ys,gS,hz2,dh⟩:=h0
 obtain⟨_,hfull2,_⟩:=af.2.2 _ _ bz
 have hey0:a.eval y=(h t2 j2).v:=hfull2 rfl rfl
 have hnz:∀q∈news,q.length=ti.size:=hmv3 _ hz2
 have fV:=Ro r dh hmv1 hmok' (List.nodup_append.1 gP).2.1
 have fC:∃e0 xs,w.ownsRow 0 e0 ti.size (a.eval x) iJ.length xs/\(∀q∈iJ,q.length=ti.size)/\Ke w xs iJ.flatten (fun b=>zd σ h l1 b/\blk (a.eval x)≠some b)/\(∀b,blk (a.eval x)=some b->zd σ h l1 b):=by
  unfold tA at g6
  split at g6
  ·rename_i s heq
   obtain⟨rfl,rfl⟩:=g6
   rw[heq]at di
   have he:a.eval x= .slice none 0 0:=di
   rw[he]
   exact⟨0,[],World.ownsRow_nil w 0 0 _,zBA,Ke.nil _,(fun b hb=>by cases hb)⟩
  ·rename_i u j lo len heq
   obtain⟨ho,rfl,rfl,rfl⟩:=g6
   rw[heq]at di
   have dk:YK (Tof T0 X) h σ.ob w (.sref u j 0 iJ.length) (a.eval x):=di
   obtain⟨_,g5,_⟩:=dk.2.1 _ _ _ ho
   have he:a.eval x=(h u j).v:=g5 rfl rfl
   have h0:=r.obj u j
   rw[ho]at h0
   obtain⟨e,xs,iS,gw,iN,hn⟩:=h0
   have iu:σ.ob u j≠ .none:=zAx
   rw[he]
   exact⟨e,xs,iS,gw,iN.mono (fun b hb=>⟨⟨(u,j),zAE,iu,hb.1⟩,hb.2⟩),fun b hb=>⟨(u,j),zAE,iu,r.ub u j b iu hb⟩⟩
  ·exact g6.elim
 obtain⟨e0,xs,iS,hoz,bt,fB⟩:=fC
 have fI:ys.length=news.length*ti.size:=by rw[fV.1,YV news ti.size hnz]
 have fR:∀b,zd σ h l1 b->zd σ h (XP rows.flatten) b->False:=by
  rintro b ⟨p,hp,iH,hu⟩ ⟨p',bW,gE,fh⟩
  obtain⟨e1,e2⟩:=r.inj p.1 p.2 p'.1 p'.2 b iH gE hu fh
  have eA:p=p':=Prod.ext e1 e2
  subst eA
  exact(List.nodup_append.1 gP).2.2 p hp p bW rfl
 have bJ:∀b,zd σ h (l1++XP rows.flatten) b↔zd σ h l1 b\/zd σ h (XP rows.flatten) b:=by
  intro b
  constructor
  ·rintro⟨p,hp,hr⟩
   rcases List.mem_append.1 hp with hp|hp
   ·exact .inl ⟨p,hp,hr⟩
   ·exact .inr ⟨p,hp,hr⟩
  ·rintro(⟨p,hp,hr⟩|⟨p,hp,hr⟩)
   ·exact⟨p,by simp[hp],hr⟩
   ·exact⟨p,by simp[hp],hr⟩
 have bm:∀b,zd σ h (XP rows.flatten) b->blk (a.eval x)≠some b:=fun b hb e=>fR b (fB b e) hb
 have hv:∃base cap,a.eval y= .slice base news.length cap/\(base=none->cap=0/\news.length=0)/\∀ad,base=some ad->∀k v,ys[k]?=some v->w.cell? (ad.add k)=some v:=by
  rw[hey0]
  rcases gS.2 with⟨hn1,hn2⟩|⟨g2,cap2,cur2,gQ,_,eS,hnc2,hmx2,hcs2,htk2⟩
  ·have hnl:news.length=0:=by rw[<-hmv2];exact hn2
   exact⟨none,0,by rw[hn1,hnl],fun _=>⟨rfl,hnl⟩,fun ad hh=>by cases hh⟩
  ·refine⟨_,cap2,by rw[gQ,hmv2],fun hh=>(by cases hh),fun ad hh k v hk=>?_⟩
   cases hh
   rw[qN]
   refine zl eS _ _ ?_
   rw[<-htk2,List.getElem?_take]at hk
   split at hk
   ·simpa using hk
   ·cases hk
 obtain⟨base,cap,bd,dJ,iZ⟩:=hv
 refine Fb (r.Z7 (l1++XP rows.flatten)) iE hd hu hi eW ev gM gG gJ dT iS (fun b hb=>(bJ b).2 (.inl (fB b hb))) (r.yQ (l1++XP rows.flatten)) bd dJ fI iZ
  (fun u fh=>by
   obtain⟨x',_,dU⟩:=dh.mem fh
   exact YK.QQ dU) (List.length_append ..) (fun q hq=>(List.mem_append.1 hq).elim (hoz q) (hnz q)) ?_ hK
 rw[List.flatten_append]
 exact(bt.append fV (fun b gX hZ=>fR b gX.1 hZ)).mono (fun b hb=>hb.elim (fun hb=>⟨(bJ b).2 (.inl hb.1),hb.2⟩) (fun hb=>⟨(bJ b).2 (.inr hb),bm b hb⟩))
theorem Ke.pick{xs:List Value}(h1:Ke w xs ds S){p q:Nat}(hp:p<=q)(hq:q+n<=xs.length):Ke w (xs.take p++cut xs q n) (ds.take p++cut ds q n) S:=by
 obtain⟨hl,Sk,hk,hs,hd⟩:=h1;have cG:(xs.take p).length=p:=zA6
 have bK:(ds.take p).length=p:=zA6;refine⟨by rw[List.length_append,List.length_append,cG,bK,XZ _ _ _ hq,XZ _ _ _ zAA],fun k=>if k<p then Sk k else Sk (q+(k-p)),fun k x d hx ic=>?_,fun k b hb=>?_,fun i j b hi hj=>?_⟩
 ·by_cases hkp:k<p
  ·rw[List.getElem?_append_left zAA]at hx ic;rw[List.getElem?_take,if_pos hkp]at hx ic;simp only[if_pos hkp];exact hk k x d hx ic
  ·rw[List.getElem?_append_right zAA,cG]at hx;rw[List.getElem?_append_right zAA,bK]at ic;simp only[if_neg hkp];exact hk _ x d (zy _ _ _ _ _ hx) (zy _ _ _ _ _ ic)
 ·dsimp only at hb;split at hb<;>exact hs _ b hb
 ·dsimp only at hi hj;split at hi<;>split at hj
  ·exact hd _ _ b hi hj
  ·have:=hd _ _ b hi hj;omega
  ·have:=hd _ _ b hi hj;omega
  ·have:=hd _ _ b hi hj;omega
theorem Rm(rows:List (List D))(size:Nat)(hz:∀r∈rows,r.length=size)(lo n:Nat)(hle:lo+n<=rows.length):(cut rows lo n).flatten=cut rows.flatten (lo*size) (n*size):=by
 have hdz:∀r∈rows.drop lo,r.length=size:=fun r hr=>hz r (List.mem_of_mem_drop hr);have e1:(rows.drop lo).flatten=rows.flatten.drop (lo*size):=by
  have h1:=K3 rows size hz lo zAA;have h2:(rows.take lo).flatten++(rows.drop lo).flatten=rows.flatten:=zBY;have h3:(rows.take lo).flatten.length=lo*size:=by rw[YV _ size (fun r hr=>hz r (List.mem_of_mem_take hr)),List.length_take];congr 1;omega
  rw[<-h2,<-h3,List.drop_left]
 unfold cut;rw[K3 (rows.drop lo) size hdz n (by rw[List.length_drop];omega),e1]
theorem Ff(r:Rel T0 B σ a w X h){t:TypeId}(iE:o.op= .call ⟨.builtin .append,#[x,y],#[t,t]⟩)(hd:o.dst=some d)
  (dH:gOf (look P σ t x)=true) (dI:gOf (look P σ t y)=true) (ht:Xj P t=true) (hz:Qg P (ZV P t)=true) (gM:0<P.cellsOf (ZV P t))
  (hx:unc (look P σ t x)= .one (.sref u j 0 len)) (hy:unc (look P σ t y)= .one (.sref u j lo n)) (ho:σ.ob u j= .arr true (P.cellsOf (ZV P t)) rows) (hle:len<=lo) (dP:lo+n<=rows.length) (gG:(σ.Z7 [(u,j)]).fresh d=true)
  (gJ:(len+n)*P.bytesOf (ZV P t)<=140737488355328) (dT:len+n<=9223372036854775807)
  (hK:∀a' w',J5 T0 B ((σ.Z7 [(u,j)]).new d (.one (.sref d 0 0 (len+n))) [.arr true (P.cellsOf (ZV P t)) (rows.take len++cut rows lo n)]) a' w'->XF B w w'->K a' w'):o.wp P a w K Q:=by
 obtain⟨ti,hu,hi,eM⟩:=QD ht
 obtain⟨i,z,row,gm,eW,fx,eN,ev,fG,fj⟩:=xb hz
 rw[hi]at gm;cases gm
 have bp:P.bytesOf (ZV P t)=ti.bytes:=zBW
 rw[bp]at gJ
 rw[<-fG]at ho gM hK
 have di:=r.arg (P:=P) t x rfl dH
 have af:=r.arg (P:=P) t y rfl dI
 rw[hx]at di
 rw[hy]at af
 have dk:YK (Tof T0 X) h σ.ob w (.sref u j 0 len) (a.eval x):=di
 have hvy':YK (Tof T0 X) h σ.ob w (.sref u j lo n) (a.eval y):=af
 obtain⟨_,_,fL,_⟩:=dk.2.1 _ _ _ ho
 have he:a.eval x=NX (h u j).v len:=fL rfl
 obtain⟨_,_,_,base,cap,bd,gx,ae,dJ,hb⟩:=hvy'.2.1 _ _ _ ho
 have h0:=r.obj u j
 rw[ho]at h0
 obtain⟨e0,zs,dL,gw,iN,hn⟩:=h0
 have iu:σ.ob u j≠ .none:=zAx
 have hzl:zs.length=rows.length*ti.size:=dL.1
 have hm1:len*ti.size<=lo*ti.size:=Nat.mul_le_mul_right _ hle
 have hm2:lo*ti.size+n*ti.size<=zs.length:=by rw[hzl,<-Nat.add_mul];exact Nat.mul_le_mul_right _ dP
 let xs:=zs.take (len*ti.size)
 let ys:=cut zs (lo*ti.size) (n*ti.size)
 have iS:w.ownsRow 0 e0 ti.size (a.eval x) len xs:=by rw[he];exact kl dL zAA
 have fI:ys.length=n*ti.size:=XZ _ _ _ hm2
 have hblx:blk (a.eval x)=blk (h u j).v:=by rw[he,Vz]
 have gj:(rows.take len++cut rows lo n).flatten=rows.flatten.take (len*ti.size)++cut rows.flatten (lo*ti.size) (n*ti.size):=by
  rw[List.flatten_append,K3 rows ti.size gw len zAA,Rm rows ti.size gw lo n dP]
 have hflr:∀q∈rows.take len++cut rows lo n,q.length=ti.size:=by
  intro q hq
  rcases List.mem_append.1 hq with hq|hq
  ·exact gw q (List.mem_of_mem_take hq)
  ·exact gw q (List.mem_of_mem_drop (List.mem_of_mem_take hq))
 have hlen:(rows.take len++cut rows lo n).length=len+n:=by rw[List.length_append,List.length_take,XZ _ _ _ dP];omega
 have hg0:∀b,(h u j).u b->zd σ h [(u,j)] b:=fun b hb=>⟨(u,j),zAE,iu,hb⟩
 have fB:∀b,blk (a.eval x)=some b->zd σ h [(u,j)] b:=fun b hb=>hg0 b (r.ub u j b iu (by rw[<-hblx];exact hb))
 refine Fb (r.Z7 [(u,j)]) (xs:=xs) (ys:=ys) iE hd hu hi eW ev zAA gG gJ dT iS fB (r.yQ [(u,j)]) bd (fun hh=>⟨dJ hh,by have:=dJ hh;omega⟩) fI (fun ad had k v hv=>?_) (fun v hv=>?_) hlen hflr ?_ hK
 ·have fS:0<n:=by
   rcases Nat.eq_zero_or_pos n with h0|h0
   ·have hk:=(List.getElem?_eq_some_iff.1 hv).1
    rw[fI,h0]at hk
    simp at hk
   ·exact h0
  obtain⟨b,e7,hh,fk⟩:=hb fS
  rw[had]at fk
  cases fk
  rcases dL.2 with⟨hn1,_⟩|⟨g,bI,cur,eK,_,hgg,fc,fW,fX,fz⟩
  ·rw[hh]at hn1;cases hn1
  ·rw[hh]at eK;cases eK
   have h1:=zy _ _ _ _ _ hv
   rw[qN]
   refine zl hgg _ _ ?_
   rw[<-fz,List.getElem?_take]at h1
   split at h1
   ·exact h1
   ·cases h1
 ·have gQ:v∈zs:=List.mem_of_mem_drop (List.mem_of_mem_take hv)
  obtain⟨hl,Sk,hk,_⟩:=iN
  obtain⟨k,g7⟩:=List.mem_iff_getElem?.1 gQ
  have cS:k<rows.flatten.length:=by rw[<-hl];exact(List.getElem?_eq_some_iff.1 g7).1
  exact(hk k v _ g7 (List.getElem?_eq_getElem cS)).QQ
 ·rw[gj]
  exact(iN.pick hm1 hm2).mono (fun b hb=>⟨hg0 b hb.1,by rw[hblx];exact hb.2⟩)
open Go.RowKit
def DX:List At->Bool
 |[]=>true
 |.d (.sl _ _)::_=>false
 |_::xs=>DX xs
theorem AY:∀{xs:List At},DX xs=true->∀x∈xs,∀s r,x≠ .d (.sl s r)
 |[],_,x,hx,_,_=>zBv
 |y::xs,h,x,hx,s,r=>by
  have h2:DX xs=true/\∀s r,y≠ .d (.sl s r):=by
   cases y with
   |d z=>cases z with
    |sl s r=>cases h
    |_=>exact⟨h,fun s r e=>by cases e⟩
   |_=>exact⟨h,fun s r e=>by cases e⟩
  rcases List.mem_cons.1 hx with rfl|hx
  ·exact h2.2 s r
  ·exact AY h2.1 x hx s r
theorem FM(r:Rel T0 B σ a w X h){T:TypeId}(iE:o.op= .makeSlice T x x)(hd:o.dst=some d)(gG:σ.fresh d=true)
  (ht:Xj P T=true) (hz:Qg P (ZV P T)=true) (fx:Wl P 12 (ZV P T)=some z) (hzd:zD z=some zr) (hzf:DX z=true) (gM:0<P.cellsOf (ZV P T)) (hx:Um P σ x k (n:Int)) (bp:P.bytesOf (ZV P T)*n<=281474976710656) (dT:n<=9223372036854775807)
  (hK:∀a' w',J5 T0 B (σ.new d (.one (.sref d 0 0 n)) [.arr true (P.cellsOf (ZV P T)) (List.replicate n zr)]) a' w'->XF B w w'->K a' w'):o.wp P a w K Q:=by
 obtain⟨ti,hu,hi,eM⟩:=QD ht
 obtain⟨i,zv,row,gm,eW,bu,eN,ev,fG,fj⟩:=xb hz
 rw[hi]at gm;cases gm
 rw[fx]at bu;cases bu
 have hex:=qW r hx
 have hby':(ti.bytes:Int)*(n:Int)<=281474976710656:=by
  have:P.bytesOf (ZV P T)=ti.bytes:=zBW
  rw[this]at bp
  have h:((ti.bytes*n:Nat):Int)<=281474976710656:=zAA
  rwa[Int.natCast_mul]at h
 have iv:=run_make (P:=P) w T (ZV P T) ti zv hu hi eW k k n n zAA (Int.le_refl _) hby' zAA
 simp only[Int.toNat_natCast]at iv
 unfold Oper.wp
 simp only[execOp,iE,hex,Sem.run_bind,iv,Result.andThen_ok,Sem.run_pure,Oper.upon_value,hd]
 have hzrd:=Dz hzd (fj (Tof T0 X) h σ.ob w)
 have hzl:=hzrd.length
 have e1:zv.cells.toList.length=zv.cells.size:=Array.length_toList
 have cV:zr.length=ti.size:=zAA
 have eb:(madeCells zv.cells (n*ti.size)).toList.length=n*ti.size:=by rw[Array.length_toList,size_madeCells]
 have aC:∀q u,(madeCells zv.cells (n*ti.size)).toList[q]?=some u->zv.cells.toList[q%ti.size]?=some u:=by
  intro q u hq
  have iQ:q<n*ti.size:=zBI
  have hmod:q%ti.size<zv.cells.size:=by rw[ev];exact Nat.mod_lt _ zAA
  have:(madeCells zv.cells (n*ti.size)).toList[q]?=some (zv.cells[q%zv.cells.size]!):=by
   simp[madeCells,iQ]
  rw[this]at hq
  cases hq
  rw[ev]
  simp[hmod]
 have dh:Ke (w.alloc (.cells (madeCells zv.cells (n*ti.size)) (ZV P T))) (madeCells zv.cells (n*ti.size)).toList (List.replicate n zr).flatten (fun _=>False):=by
  refine⟨by rw[eb,YV _ ti.size (by intro q hq;rw[List.eq_of_mem_replicate hq];exact cV)];simp,fun _ _=>False,fun q u dd hq fU=>?_,fun _ _ hb=>hb,fun _ _ _ hb=>hb.elim⟩
  have iQ:q<n*ti.size:=zBI
  rw[ks zr n q (by rw[cV];exact iQ),cV]at fU
  exact wa hzd (fj (Tof T0 X) h σ.ob w) (AY hzf) _ _ _ u dd (aC q u hq) fU
 have:=r.pN gG (World.grownBy_alloc w (.cells (madeCells zv.cells (n*ti.size)) (ZV P T)) none) (.slice (some ⟨w.heap.size,0,none⟩) n n) (e:=ZV P T) (size:=P.cellsOf (ZV P T)) (rows:=List.replicate n zr) (xs:=(madeCells zv.cells (n*ti.size)).toList)
  ⟨by rw[eb,fG];simp,.inr ⟨w.heap.size,n,_,zAE,Nat.zero_le _,heap_alloc_new w _,zAE,by simp only[maxLen];omega,by rw[size_madeCells,fG],by rw[List.take_of_length_le (by rw[eb,fG];simp)]⟩⟩
  (by intro q hq;rw[List.eq_of_mem_replicate hq];omega) dh
  (fun b hb=>by simp[blk]at hb;subst hb;exact⟨Nat.le_refl _,zAE⟩)
 rw[List.length_replicate]at this
 exact hK _ _ this.1 this.2
theorem Ke.place{xs:List Value}(h1:Ke w xs ds S)(h2:Ke w ys es S')(hd:∀b,S b->S' b->False)(o:Nat)(ho:o+ys.length<=xs.length):Ke w (Vm.place xs o ys) (Vm.place ds o es) (fun b=>S b\/S' b):=by
 obtain⟨l1,Sk,a1,a2,a3⟩:=h1;obtain⟨l2,ab,b1,b2,b3⟩:=h2;refine⟨by rw[QC _ _ _ ho,QC _ _ _ zAA,l1],fun k=>if o<=k/\k<o+ys.length then ab (k-o)else Sk k,fun k x d hx ic=>?_,fun k b hb=>?_,fun i j b hi hj=>?_⟩
 ·rcases kx xs o ys ho k x hx with⟨p1,p2,p3⟩|⟨p1,p3⟩
  ·rcases kx ds o es zAA k d ic with⟨_,_,p4⟩|⟨p4,_⟩
   ·simp only[p1,p2,and_self,if_true];exact b1 _ x d p3 p4
   ·exact absurd ⟨p1,zAA⟩ p4
  ·rcases kx ds o es zAA k d ic with⟨p4,p5,_⟩|⟨_,p4⟩
   ·exact absurd ⟨p4,zAA⟩ p1
   ·simp only[p1,if_false];exact a1 k x d p3 p4
 ·by_cases hk:o<=k/\k<o+ys.length
  ·simp only[hk,and_self,if_true]at hb;exact .inr (b2 _ b hb)
  ·simp only[hk,if_false]at hb;exact .inl (a2 k b hb)
 ·by_cases gm:o<=i/\i<o+ys.length
  ·simp only[gm,and_self,if_true]at hi;by_cases eY:o<=j/\j<o+ys.length
   ·simp only[eY,and_self,if_true]at hj;have:=b3 _ _ b hi hj;omega
   ·simp only[eY,if_false]at hj;exact(hd b (a2 j b hj) (b2 _ b hi)).elim
  ·simp only[gm,if_false]at hi;by_cases eY:o<=j/\j<o+ys.length
   ·simp only[eY,and_self,if_true]at hj;exact(hd b (a2 i b hi) (b2 _ b hj)).elim
   ·simp only[eY,if_false]at hj;exact a3 i j b hi hj
theorem Iy(r:Rel T0 B σ a w X h){T:TypeId}(iE:o.op= .store T x y)(hd:o.dst=none)(ht:qm P T=true)(dH:gOf (look P σ 0 x)=true)(dI:gOf (look P σ T y)=true)
  (hx:unc (look P σ 0 x)= .one (.ptr t j i c)) (ho:σ.ob t j= .arr true size rows) (hi:i<rows.length) (gk:(unc (look P σ T y)).flat=true) (ck:KD σ (unc (look P σ T y)).cells=some ds) (iz:Qk σ (unc (look P σ T y)).cells)
  (gP:(XP (unc (look P σ T y)).cells).Nodup) (hnt:(t,j)∉XP (unc (look P σ T y)).cells) (htr:(σ.Z7 (XP (unc (look P σ T y)).cells)).yn (At.isT t)=false) (hl:ds.length=P.cellsOf T) (hle:c+P.cellsOf T<=size)
  (hK:∀a' w',J5 T0 B ((σ.Z7 (XP (unc (look P σ T y)).cells)).Zy t j (.arr true size (rows.set i (place (rows.getD i []) c ds)))) a' w'->XF B w w'->K a' w'):o.wp P a w K Q:=by
 obtain⟨_,ti,_,hti,_,_⟩:=WG ht
 have hax:=r.arg (P:=P) 0 x hx dH
 obtain⟨b,cap,cur,e,xs,hb,he,hh,gx,fW,fX,fz,hz,dg,_,iS⟩:=r.arr ho hax
 obtain⟨iS,hn⟩:=iS rfl
 have hy:=W5 gk (r.arg (P:=P) T y rfl dI)
 have fV:=Ro r hy ck iz gP
 have fI:=fV.1
 have e2:(a.eval y).cells.toList.length=(a.eval y).cells.size:=Array.length_toList
 have e3:cur.toList.length=cur.size:=Array.length_toList
 have hR:rows[i]?=some (rows.getD i []):=zAv
 have hmul:i*size+size<=rows.length*size:=zBT
 have hcap2:rows.length*size<=cap*size:=Nat.mul_le_mul_right _ gx
 have iv:=run_store (P:=P) (w:=w) hti (o:=i*size+c) (val:=a.eval y) hh zAA zAA (fun u hu=>by obtain⟨x',_,dU⟩:=hy.mem hu;exact YK.QQ dU)
 have iu:σ.ob t j≠ .none:=zAx
 have hJ:blk (h t j).v=some b:=by rw[hb];rfl
 have hB:=r.nJ iu hJ
 have ga:=r.ub t j b iu hJ
 have bF:xs.length=rows.length*size:=by rw[dg,YV rows size hz]
 have dK:(rows.getD i []).length=size:=hz _ (List.mem_of_getElem? hR)
 generalize hL:XP (unc (look P σ T y)).cells=L at*
 have r1:=r.Z7 L
 have eO:(σ.Z7 L).ob t j= .arr true size rows:=by rw[St.Ks,if_neg hnt,ho]
 have gH:=r.yQ L
 have fR:∀b',(h t j).u b'->zd σ h L b'->False:=by
  rintro b' fh ⟨p,hp,iH,hup⟩
  obtain⟨q1,q2⟩:=r.inj t j p.1 p.2 b' iu iH fh hup
  exact hnt (by rw[q1,q2];exact hp)
 unfold Oper.wp
 simp only[execOp,iE,he,Sem.run_bind,iv,Result.andThen_ok,Sem.run_pure,Oper.upon_skip,hd]
 refine hK _ _ ⟨X,_,r1.change (by rw[eO];simp) zB5 (fun k hk=>setRow_other w b k _ (fun e=>hk (e▸ga))) (zd σ h L) (fun b' iq=>gH b' iq) _ (by rw[eO];simp[Ob.tw])
  ⟨(h t j).v,fun k=>((place xs (i*size+c) (a.eval y).cells.toList)[k]?).getD undef,fun b'=>(h t j).u b'\/zd σ h L b'⟩ rfl (fun b' iq=>iq) (fun b' iq=>.inl (r.ub t j b' iu iq)) (At.isT t) htr (.inl (fun u i c=>by simp[At.isT])) ?_⟩ (XF.setRow hB.1 _)
 have gn:=setRow_heap w b cur (place cur.toList (i*size+c) (a.eval y).cells.toList).toArray e (0,0) hh
 have ir:∀b',b'≠b->(w.setRow b (place cur.toList (i*size+c) (a.eval y).cells.toList).toArray).heap[b']?=w.heap[b']?:=fun b' iH=>setRow_other w b b' _ iH
 have eD:∀r∈rows.set i (place (rows.getD i []) c ds),r.length=size:=by
  intro r' gb
  rcases List.mem_or_eq_of_mem_set gb with gb|gb
  ·exact hz r' gb
  ·rw[gb,QC _ _ _ zAA,dK]
 refine⟨e,place xs (i*size+c) (a.eval y).cells.toList,⟨?_,.inr ⟨b,cap,_,by simpa using hb,Nat.zero_le _,gn,by simpa using gx,fW,?_,?_⟩⟩,eD,?_,fun k u d hu _ _=>by simp[hu]⟩
 ·rw[QC _ _ _ zAA,bF];simp
 ·simp only[List.size_toArray]
  rw[QC _ _ _ zAA,e3,fX]
 ·simp only[List.length_set]
  rw[Oo _ _ _ _ zAA zAA,fz]
 ·rw[xm size c ds zAA rows i _ hR hz]
  have k1:Ke (w.setRow b (place cur.toList (i*size+c) (a.eval y).cells.toList).toArray) xs rows.flatten (fun b=>(h t j).u b/\blk (h t j).v≠some b):=iS.N8 (fun b' iq=>ir b' (fun e=>iq.2 (by rw[e];exact hJ)))
  have k2:Ke (w.setRow b (place cur.toList (i*size+c) (a.eval y).cells.toList).toArray) (a.eval y).cells.toList ds (zd σ h L):=fV.N8 (fun b' iq=>ir b' (fun e=>fR b' (by rw[e];exact ga) iq))
  refine(k1.place k2 (fun b' h1 h2=>fR b' h1.1 h2) _ zAA).mono (fun b' iq=>?_)
  rcases iq with iq|iq
  ·exact⟨.inl iq.1,iq.2⟩
  ·exact⟨.inr iq,fun e=>fR b' (r.ub t j b' iu e) iq⟩
theorem Own.rW{S2:Nat->Prop}(fZ:Own w v (.sl n s) S){k q:Nat}(hk:k<s.length)(hy:Ke w ys ds S2)(hle:q+ds.length<=n)(hd:∀b,S b->S2 b->False):
  ∃g cap cur e,v= .slice (some ⟨g,0,none⟩) s.length cap/\S g/\w.heap[g]?=some (.cells cur e (0,0))/\k*n+q+ys.length<=cur.size/\Own (w.setRow g (place cur.toList (k*n+q) ys).toArray) v (.sl n (s.set k (place (s.getD k []) q ds))) (fun b=>S b\/S2 b):=by
 cases fZ with
 |sl v size rows S e xs Sk ho hz hb hl g7 hs ic=>
  have fI:=hy.1
  obtain⟨dg,⟨_,h0⟩|⟨g,cap,cur,hv,ej,hh,gx,fW,fX,fz⟩⟩:=ho
  ·omega
  have hSg:S g:=hb g (by rw[hv];rfl)
  have hR:s[k]?=some (s.getD k []):=by simp[List.getD_eq_getElem?_getD,List.getElem?_eq_getElem hk]
  have hmul:k*n+n<=s.length*n:=by rw[<-Nat.succ_mul];exact Nat.mul_le_mul_right _ hk
  have hcap2:s.length*n<=cap*n:=Nat.mul_le_mul_right _ gx
  have e3:cur.toList.length=cur.size:=Array.length_toList
  have dK:(s.getD k []).length=n:=hz _ (List.mem_of_getElem? hR)
  refine⟨g,cap,cur,e,hv,hSg,hh,zAA,?_⟩
  have gn:=setRow_heap w g cur (place cur.toList (k*n+q) ys).toArray e (0,0) hh
  have ir:∀b',b'≠g->(w.setRow g (place cur.toList (k*n+q) ys).toArray).heap[b']?=w.heap[b']?:=fun b' iH=>setRow_other w g b' _ iH
  have eD:∀r∈s.set k (place (s.getD k []) q ds),r.length=n:=by
   intro r' gb
   rcases List.mem_or_eq_of_mem_set gb with gb|gb
   ·exact hz r' gb
   ·rw[gb,QC _ _ _ zAA,dK]
  have hJ:blk v=some g:=by rw[hv];rfl
  have k1:Ke (w.setRow g (place cur.toList (k*n+q) ys).toArray) xs s.flatten (fun b=>S b/\blk v≠some b):=
   Ke.N8 (fun b' iq=>ir b' (fun e=>iq.2 (by rw[e];exact hJ))) (show Ke w xs s.flatten (fun b=>S b/\blk v≠some b)from⟨hl,Sk,g7,fun k b hb=>hs k b hb,ic⟩)
  have k2:Ke (w.setRow g (place cur.toList (k*n+q) ys).toArray) ys ds S2:=hy.N8 (fun b' iq=>ir b' (fun e=>hd b' (by rw[e];exact hSg) iq))
  have k3:=k1.place k2 (fun b' h1 h2=>hd b' h1.1 h2) (k*n+q) (by rw[dg];omega)
  rw[<-xm n q ds zAA s k _ hR hz]at k3
  obtain⟨hl3,Sk3,a1,a2,a3⟩:=k3
  refine .sl v n _ _ e (place xs (k*n+q) ys) Sk3 ⟨?_,.inr ⟨g,cap,_,by simpa using hv,ej,gn,by simpa using gx,fW,?_,?_⟩⟩ eD (fun b' iq=>.inl (hb b' iq)) hl3 a1 (fun k b iq=>?_) a3
  ·rw[QC _ _ _ (by rw[dg];omega),dg];simp
  ·simp only[List.size_toArray]
   rw[QC _ _ _ zAA,e3,fX]
  ·simp only[List.length_set]
   rw[Oo _ _ _ _ zAA zAA,fz]
  ·rcases a2 k b iq with h1|h1
   ·exact⟨.inl h1.1,h1.2⟩
   ·exact⟨.inr h1,fun e=>hd b (hb b e) h1⟩
theorem HE(r:Rel T0 B σ a w X h){T:TypeId}(iE:o.op= .store T x y)(hd:o.dst=none)(ht:qm P T=true)(dH:gOf (look P σ 0 x)=true)(dI:gOf (look P σ T y)=true)
  {k q:Nat} (hx:unc (look P σ 0 x)= .one (.tref t j i c (some (k*n+q)))) (ho:σ.ob t j= .arr true size rows) (hi:i<rows.length) (iZ:(rows.getD i [])[c]?=some (.sl n s)) (hk:k<s.length)
  (gk:(unc (look P σ T y)).flat=true) (ck:KD σ (unc (look P σ T y)).cells=some ds) (iz:Qk σ (unc (look P σ T y)).cells)
  (gP:(XP (unc (look P σ T y)).cells).Nodup) (hnt:(t,j)∉XP (unc (look P σ T y)).cells) (hl:ds.length=P.cellsOf T) (hle:q+P.cellsOf T<=n)
  (hK:∀a' w',J5 T0 B ((σ.Z7 (XP (unc (look P σ T y)).cells)).Zy t j (.arr true size (rows.set i (place (rows.getD i []) c [.sl n (s.set k (place (s.getD k []) q ds))])))) a' w'->XF B w w'->K a' w'):o.wp P a w K Q:=by
 obtain⟨_,ti,_,hti,_,_⟩:=WG ht
 have iu:σ.ob t j≠ .none:=zAx
 have h0:=r.obj t j
 rw[ho]at h0
 obtain⟨e,vs,fZ,hz,⟨hl0,Sk,o1,o2,o3⟩,hn⟩:=h0
 have hR:rows[i]?=some (rows.getD i []):=zAv
 have gj:rows.flatten[i*size+c]?=some (.sl n s):=j0 rows size hz i _ hR c _ iZ
 have iQ:i*size+c<vs.length:=by rw[hl0];exact(List.getElem?_eq_some_iff.1 gj).1
 have hvs:vs[i*size+c]?=some vs[i*size+c]:=List.getElem?_eq_getElem iQ
 have hnv:=hn _ _ _ hvs gj rfl
 have iS:=o1 _ _ _ hvs gj
 have hy:=W5 gk (r.arg (P:=P) T y rfl dI)
 have fV:=Ro r hy ck iz gP
 have fI:=fV.1
 have e2:(a.eval y).cells.toList.length=(a.eval y).cells.size:=Array.length_toList
 generalize hL:XP (unc (look P σ T y)).cells=L at*
 have fR:∀b',(h t j).u b'->zd σ h L b'->False:=by
  rintro b' fh ⟨p,hp,iH,hup⟩
  obtain⟨q1,q2⟩:=r.inj t j p.1 p.2 b' iu iH fh hup
  exact hnt (by rw[q1,q2];exact hp)
 have hSu:∀b,Sk (i*size+c) b->(h t j).u b:=fun b hb=>(o2 _ b hb).1
 obtain⟨g,cap,cur,e1,hv,hSg,hh,gT,gI⟩:=iS.rW (q:=q) hk fV zAA (fun b h1 h2=>fR b (hSu b h1) h2)
 have hax:=r.arg (P:=P) 0 x hx dH
 have he:a.eval x= .pointer (some ⟨g,k*n+q,none⟩):=by
  obtain⟨b,n',bI,h1,h2⟩:=hax.2 size rows ho
  rw[hnv,hv]at h1
  cases h1;exact h2
 have iv:=run_store (P:=P) (w:=w) hti (o:=k*n+q) (val:=a.eval y) hh zAA zAA (fun u hu=>by obtain⟨x',_,dU⟩:=hy.mem hu;exact YK.QQ dU)
 have hgB:=r.own t j g iu (hSu g hSg)
 have r1:=r.Z7 L
 have eO:(σ.Z7 L).ob t j= .arr true size rows:=by rw[St.Ks,if_neg hnt,ho]
 have gH:=r.yQ L
 have fX:c+1<=size:=by
  have h1:=(List.getElem?_eq_some_iff.1 iZ).1
  have h2:=hz _ (List.mem_of_getElem? hR)
  omega
 have hfp:=xm size c [D.sl n (s.set k (place (s.getD k []) q ds))] (by simpa using fX) rows i _ hR hz
 have hml:i*size+c+[D.sl n (s.set k (place (s.getD k []) q ds))].length<=rows.flatten.length:=by rw[<-hl0];simp;omega
 have dK:(rows.getD i []).length=size:=hz _ (List.mem_of_getElem? hR)
 have eD:∀r∈rows.set i (place (rows.getD i []) c [D.sl n (s.set k (place (s.getD k []) q ds))]),r.length=size:=by
  intro r' gb
  rcases List.mem_or_eq_of_mem_set gb with gb|gb
  ·exact hz r' gb
  ·rw[gb,QC _ _ _ (by rw[dK];simpa using fX),dK]
 have ir:∀b',b'≠g->(w.setRow g (place cur.toList (k*n+q) (a.eval y).cells.toList).toArray).heap[b']?=w.heap[b']?:=fun b' iH=>setRow_other w g b' _ iH
 have hJ:∀b,blk (h t j).v=some b->(w.setRow g (place cur.toList (k*n+q) (a.eval y).cells.toList).toArray).heap[b]?=w.heap[b]?:=fun b hb=>ir b (fun e=>(o2 _ g hSg).2 (by rw[<-e];exact hb))
 unfold Oper.wp
 simp only[execOp,iE,he,Sem.run_bind,iv,Result.andThen_ok,Sem.run_pure,Oper.upon_skip,hd]
 refine hK _ _ ⟨X,_,r1.change (by rw[eO];simp) zB5 (fun k' g7=>ir k' (fun e=>g7 (e▸hSu g hSg))) (zd σ h L) (fun b' iq=>gH b' iq) _ (by rw[eO];simp[Ob.tw])
  ⟨(h t j).v,(h t j).n,fun b'=>(h t j).u b'\/zd σ h L b'⟩ rfl (fun b' iq=>iq) (fun b' iq=>.inl (r.ub t j b' iu iq)) (fun _=>false) (St.qV _) (.inr rfl) ?_⟩ (XF.setRow hgB.1 _)
 refine⟨e,vs,by rw[List.length_set];exact qy hJ fZ,eD,⟨?_,fun k'=>if k'=i*size+c then(fun b=>Sk (i*size+c) b\/zd σ h L b)else Sk k',fun k' x dd hx fU=>?_,fun k' b hb=>?_,fun p' q' b hp hq=>?_⟩,fun k' x dd hx fU gV=>?_⟩
 ·rw[hfp,QC _ _ _ hml,hl0]
 ·rw[hfp]at fU
  rcases kx _ _ _ hml k' dd fU with⟨k1,k2,k3⟩|⟨k1,k3⟩
  ·have g7:k'=i*size+c:=by simp at k2;omega
   subst g7
   rw[hvs]at hx;cases hx
   simp at k3;subst k3
   simp only[if_true];exact gI
  ·have g7:¬k'=i*size+c:=fun g7=>k1 ⟨zAA,by simp;omega⟩
   simp only[g7,if_false]
   exact(o1 k' x dd hx k3).N8 (fun b hb=>ir b (fun e=>g7 (o3 k' _ b hb (by rw[e];exact hSg))))
 ·by_cases g7:k'=i*size+c
  ·simp only[g7,if_true]at hb
   rcases hb with hb|hb
   ·exact⟨.inl (o2 _ b hb).1,(o2 _ b hb).2⟩
   ·exact⟨.inr hb,fun e=>fR b (r.ub t j b iu e) hb⟩
  ·simp only[g7,if_false]at hb;exact⟨.inl (o2 k' b hb).1,(o2 k' b hb).2⟩
 ·by_cases bW:p'=i*size+c
  ·by_cases fe:q'=i*size+c
   ·rw[bW,fe]
   ·simp only[bW,if_true]at hp
    simp only[fe,if_false]at hq
    rcases hp with hp|hp
    ·rw[bW];exact(o3 _ _ b hp hq)
    ·exact(fR b (o2 q' b hq).1 hp).elim
  ·simp only[bW,if_false]at hp
   by_cases fe:q'=i*size+c
   ·simp only[fe,if_true]at hq
    rcases hq with hq|hq
    ·rw[fe];exact(o3 _ _ b hp hq)
    ·exact(fR b (o2 p' b hp).1 hq).elim
   ·simp only[fe,if_false]at hq;exact o3 p' q' b hp hq
 ·rw[hfp]at fU
  rcases kx _ _ _ hml k' dd fU with⟨k1,k2,k3⟩|⟨k1,k3⟩
  ·have g7:k'=i*size+c:=by simp at k2;omega
   subst g7
   rw[hvs]at hx;cases hx;exact hnv
  ·exact hn k' x dd hx k3 gV
theorem Rr{α β:Type}(f:α->β)(l:List α)(k:Nat):cut (l.map f) k (l.length-k)=(l.drop k).map f:=by
 unfold cut;rw[<-List.map_drop,<-List.map_take,List.take_of_length_le (by rw[List.length_drop];exact Nat.le_refl _)]
def hol:D->D
 |.sl _ _=>.unk
 |d=>d
def Jw(rows:List (List D))(lo n:Nat):List (List D):=rows.take lo++(cut rows lo n).map (fun r=>r.map hol)++rows.drop (lo+n)
theorem qM(h:lo+n<=rows.length):(Jw rows lo n).length=rows.length:=by
 simp only[Jw,List.length_append,List.length_map,List.length_take,List.length_drop,XZ _ _ _ h];omega
theorem IL{cm n':Nat}(h:lo+n<=rows.length)(h':lo+n<=cm):cut (Jw rows lo n) cm n'=cut rows cm n':=by
 unfold cut;congr 1;have hl:(rows.take lo++(cut rows lo n).map (fun r=>r.map hol)).length=lo+n:=by
  simp only[List.length_append,List.length_map,List.length_take,XZ _ _ _ h];omega
 unfold Jw;rw[List.drop_append,List.drop_eq_nil_of_le zAA,hl,List.drop_drop,List.nil_append];congr 1;omega
theorem Own.pr{d:D}(hs:d.scalar=true)(ho:Own w v d S):Own w v d S':=by
 cases ho with
 |int k n=>exact .int _ _ _
 |bool b=>exact .bool _ _
 |str s=>exact .str _ _
 |unk v h=>exact .unk _ h _
 |sl=>cases hs
theorem Own.hol{d:D}(ho:Own w v d S):Own w v (Vm.hol d) S':=by
 cases d with
 |sl s r=>exact .unk _ ho.QQ _
 |int k n=>exact ho.pr rfl
 |bool b=>exact ho.pr rfl
 |str s=>exact ho.pr rfl
 |unk=>exact ho.pr rfl
theorem wE(d:D):(hol d).scalar=true:=by cases d<;>rfl
theorem Lm(hz:∀r∈rows,r.length=size)(hle:lo+n<=rows.length){k:Nat}{d:D}(hd:(Jw rows lo n).flatten[k]?=some d):
  (lo*size<=k/\k<lo*size+n*size/\∃d',rows.flatten[k]?=some d'/\d=hol d')\/(¬(lo*size<=k/\k<lo*size+n*size)/\rows.flatten[k]?=some d):=by
 have gk:rows.flatten.length=rows.length*size:=YV rows size hz
 have hm:lo*size+n*size<=rows.length*size:=zBU
 have e1:(rows.take lo).flatten=rows.flatten.take (lo*size):=K3 rows size hz lo zAA
 have e2:((cut rows lo n).map (fun r=>r.map hol)).flatten=(cut rows.flatten (lo*size) (n*size)).map hol:=by
  rw[<-Rm rows size hz lo n hle,List.map_flatten]
 have l1:((rows.take lo).flatten).length=lo*size:=by rw[e1,List.length_take];omega
 have l2:(((cut rows lo n).map (fun r=>r.map hol)).flatten).length=n*size:=by rw[e2,List.length_map,XZ _ _ _ zAA]
 unfold Jw at hd
 rw[List.flatten_append,List.flatten_append]at hd
 by_cases h1:k<lo*size+n*size
 ·rw[List.getElem?_append_left (by rw[List.length_append,l1,l2];exact h1)]at hd
  by_cases h0:k<lo*size
  ·rw[List.getElem?_append_left (by rw[l1];exact h0),e1,List.getElem?_take,if_pos h0]at hd
   exact .inr ⟨zAA,hd⟩
  ·rw[List.getElem?_append_right (by rw[l1];omega),l1,e2,List.getElem?_map]at hd
   cases hc:(cut rows.flatten (lo*size) (n*size))[k-lo*size]? with
   |none=>rw[hc]at hd;cases hd
   |some d'=>
    rw[hc]at hd
    have:=zy _ _ _ _ _ hc
    rw[show lo*size+(k-lo*size)=k by omega]at this
    exact .inl ⟨zAA,h1,d',this,(by cases hd;rfl)⟩
 ·rw[List.getElem?_append_right (by rw[List.length_append,l1,l2];omega),List.length_append,l1,l2]at hd
  have e3:(rows.drop (lo+n)).flatten=rows.flatten.drop (lo*size+n*size):=by
   have h2:(rows.take (lo+n)).flatten++(rows.drop (lo+n)).flatten=rows.flatten:=zBY
   have h3:(rows.take (lo+n)).flatten.length=lo*size+n*size:=by rw[K3 rows size hz (lo+n) hle,List.length_take,Nat.add_mul];omega
   rw[<-h2,<-h3,List.drop_left]
  rw[e3,List.getElem?_drop,show lo*size+n*size+(k-(lo*size+n*size))=k by omega]at hd
  exact .inr ⟨zAA,hd⟩
theorem Rel.pC(r:Rel T0 B σ a w X h)(ho:σ.ob u j= .arr true size rows)(hle:lo+n<=rows.length):
  ∃(h':Nat->Nat->Hd)(M:Nat->Prop)(e:TypeId)(zs:List Value),Rel T0 B (σ.Zy u j (.arr true size (Jw rows lo n))) a w X h'/\
   (∀b,M b->¬B b/\¬X b/\b<w.heap.size/\∀t i,(σ.Zy u j (.arr true size (Jw rows lo n))).ob t i≠ .none->¬(h' t i).u b)/\(∀t i,(h' t i).v=(h t i).v)/\
   w.ownsRow 0 e size (h u j).v rows.length zs/\(∀q∈rows,q.length=size)/\Ke w (cut zs (lo*size) (n*size)) (cut rows lo n).flatten M/\(∀v∈zs,v.oneCell'=true):=by
 have iu:σ.ob u j≠ .none:=zAx
 have h0:=r.obj u j
 rw[ho]at h0
 obtain⟨e,zs,fZ,hz,⟨hl0,Sk,o1,o2,o3⟩,hn⟩:=h0
 have gk:rows.flatten.length=rows.length*size:=YV rows size hz
 have hm:lo*size+n*size<=rows.length*size:=zBU
 let M:Nat->Prop:=fun b=>∃k,lo*size<=k/\k<lo*size+n*size/\Sk k b
 let ic:Hd:=⟨(h u j).v,(h u j).n,fun b=>(h u j).u b/\¬M b⟩
 have hMu:∀b,M b->(h u j).u b/\blk (h u j).v≠some b:=fun b ⟨k,_,_,hk⟩=>o2 k b hk
 have eD:∀q∈Jw rows lo n,q.length=size:=by
  intro q hq
  simp only[Jw,List.mem_append,List.mem_map]at hq
  rcases hq with(hq|⟨q',hq,rfl⟩)|hq
  ·exact hz q (List.mem_of_mem_take hq)
  ·rw[List.length_map];exact hz q' (List.mem_of_mem_drop (List.mem_of_mem_take hq))
  ·exact hz q (List.mem_of_mem_drop hq)
 have hr:=r.change (w':=w) iu rfl (fun _ _=>rfl) (fun _=>False) (fun _ hh=>hh.elim) (.arr true size (Jw rows lo n)) (by rw[ho];exact⟨rfl,rfl,(qM hle).symm⟩) ic rfl (fun b hb=>.inl hb.1)
  (fun b hb=>⟨r.ub u j b iu hb,fun iq=>(hMu b iq).2 hb⟩) (fun _=>false) (St.qV σ) (.inr rfl) (by
   refine⟨e,zs,by rw[qM hle];exact fZ,eD,⟨?_,fun k=>if lo*size<=k/\k<lo*size+n*size then(fun _=>False)else Sk k,fun k x d hx hd=>?_,fun k b hb=>?_,fun k k' b hb iq=>?_⟩,fun k x d hx hd gV=>?_⟩
   ·rw[hl0,YV _ size eD,qM hle,gk]
   ·rcases Lm hz hle hd with⟨h1,h2,d',h3,rfl⟩|⟨h1,h2⟩
    ·exact(o1 k x d' hx h3).hol
    ·simp only[h1,if_false];exact o1 k x d hx h2
   ·dsimp only at hb
    split at hb
    ·exact hb.elim
    ·rename_i hk
     refine⟨⟨(o2 k b hb).1,fun⟨k',h1,h2,h3⟩=>?_⟩,(o2 k b hb).2⟩
     have:=o3 k k' b hb h3
     subst this
     exact hk ⟨h1,h2⟩
   ·dsimp only at hb iq
    split at hb
    ·exact hb.elim
    ·split at iq
     ·exact iq.elim
     ·exact o3 k k' b hb iq
   ·rcases Lm hz hle hd with⟨h1,h2,d',h3,rfl⟩|⟨h1,h2⟩
    ·rw[wE]at gV;cases gV
    ·exact hn k x d hx h2 gV)
 have hfc:(cut rows lo n).flatten=cut rows.flatten (lo*size) (n*size):=Rm rows size hz lo n hle
 refine⟨_,M,e,zs,hr,fun b hb=>?_,fun t i=>?_,fZ,hz,?_,fun v hv=>?_⟩
 ·have h1:=r.own u j b iu (hMu b hb).1
  refine⟨h1.1,h1.2.1,h1.2.2,fun t i iH iq=>?_⟩
  split at iq
  ·exact iq.2 hb
  ·rename_i hc
   have gE:σ.ob t i≠ .none:=by
    rw[St.Xx σ u j _ t i iu,if_neg hc]at iH;exact iH
   exact hc (r.inj t i u j b gE iu iq (hMu b hb).1)
 ·split
  ·rename_i hc;rw[hc.1,hc.2]
  ·rfl
 ·rw[hfc]
  have hO:(cut zs (lo*size) (n*size)).length=n*size:=XZ _ _ _ (by rw[hl0,gk];exact hm)
  refine⟨by rw[hO,XZ _ _ _ (by rw[gk];exact hm)],fun k b=>k<n*size/\Sk (lo*size+k) b,fun k x d hx hd=>?_,fun k b hb=>⟨lo*size+k,zAA,zAA,hb.2⟩,fun i k b hi hk=>by have:=o3 _ _ b hi.2 hk.2;omega⟩
  have hk:k<n*size:=by rw[<-hO];exact(List.getElem?_eq_some_iff.1 hx).1
  exact(o1 _ x d (zy _ _ _ _ _ hx) (zy _ _ _ _ _ hd)).mono (fun b hb=>⟨hk,hb⟩)
 ·obtain⟨k,hk⟩:=List.mem_iff_getElem?.1 hv
  have iQ:k<rows.flatten.length:=by rw[<-hl0];exact(List.getElem?_eq_some_iff.1 hk).1
  exact(o1 k v _ hk (List.getElem?_eq_getElem iQ)).QQ
def Be(σ:St)(x:V)(size:Nat)(iJ:List (List D))(l:List (Nat×Nat)):Prop:=
 match x with
 |.one (.nil _)=>iJ=[]/\l=[]
 |.one (.sref t j lo len)=>lo=0/\len=iJ.length/\l=[(t,j)]/\(σ.ob t j= .arr true size iJ\/(σ.ob t j= .lit size []/\iJ=[]))
 |_=>False
theorem EF(r:Rel T0 B σ a w X h){t:TypeId}(iE:o.op= .call ⟨.builtin .append,#[x,y],#[t,t]⟩)(hd:o.dst=some d)
  (dH:gOf (look P σ t x)=true) (dI:gOf (look P σ t y)=true) (ht:Xj P t=true) (hz:Qg P (ZV P t)=true) (gM:0<P.cellsOf (ZV P t))
  (g6:Be σ (unc (look P σ t x)) (P.cellsOf (ZV P t)) iJ l1) (hy:unc (look P σ t y)= .one (.sref u j lo n)) (ho:σ.ob u j= .arr true (P.cellsOf (ZV P t)) rows) (hle:lo+n<=rows.length) (av:(u,j)∉l1)
  (gG:((σ.Zy u j (.arr true (P.cellsOf (ZV P t)) (Jw rows lo n))).Z7 l1).fresh d=true)
  (gJ:(iJ.length+n)*P.bytesOf (ZV P t)<=140737488355328) (dT:iJ.length+n<=9223372036854775807)
  (hK:∀a' w',J5 T0 B (((σ.Zy u j (.arr true (P.cellsOf (ZV P t)) (Jw rows lo n))).Z7 l1).new d (.one (.sref d 0 0 (iJ.length+n))) [.arr true (P.cellsOf (ZV P t)) (iJ++cut rows lo n)]) a' w'->XF B w w'->K a' w'):o.wp P a w K Q:=by
 obtain⟨ti,hu,hi,eM⟩:=QD ht
 obtain⟨i,z,row,gm,eW,fx,eN,ev,fG,fj⟩:=xb hz
 rw[hi]at gm;cases gm
 have bp:P.bytesOf (ZV P t)=ti.bytes:=zBW
 rw[bp]at gJ
 rw[<-fG]at ho gM hK gG g6
 have di:=r.arg (P:=P) t x rfl dH
 have af:=r.arg (P:=P) t y rfl dI
 rw[hy]at af
 have hvy':YK (Tof T0 X) h σ.ob w (.sref u j lo n) (a.eval y):=af
 obtain⟨_,_,_,base,cap,bd,gx,ae,dJ,hb⟩:=hvy'.2.1 _ _ _ ho
 obtain⟨h',M,e0,zs,r0,hM,eK,how0,gw,fV,h1c⟩:=r.pC ho hle
 have iu:σ.ob u j≠ .none:=zAx
 generalize hσ1:σ.Zy u j (.arr true ti.size (Jw rows lo n))=σ1 at*
 have eO:∀t' i',¬(t'=u/\i'=j)->σ1.ob t' i'=σ.ob t' i':=fun t' i' iH=>by rw[<-hσ1,St.Xx σ u j _ t' i' iu,if_neg iH]
 have hzl:zs.length=rows.length*ti.size:=how0.1
 have hm2:lo*ti.size+n*ti.size<=zs.length:=by rw[hzl,<-Nat.add_mul];exact Nat.mul_le_mul_right _ hle
 generalize hys:cut zs (lo*ti.size) (n*ti.size)=ys at*
 have fI:ys.length=n*ti.size:=by rw[<-hys];exact XZ _ _ _ hm2
 have hO:(cut rows lo n).length=n:=XZ _ _ _ hle
 have hnz:∀q∈cut rows lo n,q.length=ti.size:=fun q hq=>gw q (List.mem_of_mem_drop (List.mem_of_mem_take hq))
 have fC:∃e1 xs,w.ownsRow 0 e1 ti.size (a.eval x) iJ.length xs/\(∀q∈iJ,q.length=ti.size)/\Ke w xs iJ.flatten (fun b=>zd σ1 h' l1 b/\blk (a.eval x)≠some b)/\(∀b,blk (a.eval x)=some b->zd σ1 h' l1 b):=by
  unfold Be at g6
  split at g6
  ·rename_i s heq
   obtain⟨rfl,rfl⟩:=g6
   rw[heq]at di
   have he:a.eval x= .slice none 0 0:=di
   rw[he]
   exact⟨0,[],World.ownsRow_nil w 0 0 _,zBA,Ke.nil _,(fun b hb=>by cases hb)⟩
  ·rename_i u2 j2 lo2 len2 heq
   obtain⟨rfl,rfl,rfl,fp⟩:=g6
   rw[heq]at di
   have dk:YK (Tof T0 X) h σ.ob w (.sref u2 j2 0 iJ.length) (a.eval x):=di
   have iH:¬(u2=u/\j2=j):=fun hc=>av (by rw[hc.1,hc.2];simp)
   have h0:=r0.obj u2 j2
   rw[eO u2 j2 iH]at h0
   rcases fp with fp|⟨fp,rfl⟩
   ·obtain⟨_,g5,_⟩:=dk.2.1 _ _ _ fp
    have he:a.eval x=(h' u2 j2).v:=by rw[eK];exact g5 rfl rfl
    rw[fp]at h0
    obtain⟨e,xs,iS,hz2,iN,hn⟩:=h0
    have bL:σ1.ob u2 j2≠ .none:=by rw[eO u2 j2 iH,fp];simp
    rw[he]
    exact⟨e,xs,iS,hz2,iN.mono (fun b hb=>⟨⟨(u2,j2),zAE,bL,hb.1⟩,hb.2⟩),fun b hb=>⟨(u2,j2),zAE,bL,r0.ub u2 j2 b bL hb⟩⟩
   ·obtain⟨_,g5,_⟩:=dk.2.2 _ _ fp
    have he:a.eval x=(h' u2 j2).v:=by rw[eK];exact g5 rfl rfl
    rw[fp]at h0
    obtain⟨e,xs,iS,hz2,iN⟩:=h0
    have bL:σ1.ob u2 j2≠ .none:=by rw[eO u2 j2 iH,fp];simp
    have hxs:xs=[]:=by cases iN;rfl
    subst hxs
    rw[he]
    exact⟨e,[],iS,zBA,Ke.nil _,fun b hb=>⟨(u2,j2),zAE,bL,r0.ub u2 j2 b bL hb⟩⟩
  ·exact g6.elim
 obtain⟨e1,xs,iS,hoz,bt,fB⟩:=fC
 have fR:∀b,zd σ1 h' l1 b->M b->False:=by
  rintro b ⟨p,hp,iH,fh⟩ hb
  exact(hM b hb).2.2.2 p.1 p.2 iH fh
 have gH:=r0.yQ l1
 let N:Nat->Prop:=fun b=>zd σ1 h' l1 b\/M b
 have hN:∀b,N b->¬B b/\¬X b/\b<w.heap.size/\∀u' i',(σ1.Z7 l1).ob u' i'≠ .none->¬(h' u' i').u b:=by
  rintro b (hb|hb)
  ·exact gH b hb
  ·obtain⟨q1,q2,q3,q4⟩:=hM b hb
   refine⟨q1,q2,q3,fun u' i' iH=>q4 u' i' ?_⟩
   rw[St.Ks]at iH
   split at iH
   ·exact absurd rfl iH
   ·exact iH
 have bm:∀b,M b->blk (a.eval x)≠some b:=fun b hb e=>fR b (fB b e) hb
 refine Fb (r0.Z7 l1) (N:=N) (ys:=ys) iE hd hu hi eW ev zAA gG gJ dT iS (fun b hb=>.inl (fB b hb)) hN bd (fun hh=>⟨dJ hh,by have:=dJ hh;omega⟩) fI (fun ad had k v hv=>?_) (fun v hv=>h1c v (by rw[<-hys]at hv;exact List.mem_of_mem_drop (List.mem_of_mem_take hv))) (by rw[List.length_append,hO]) (fun q hq=>(List.mem_append.1 hq).elim (hoz q) (hnz q)) ?_ hK
 ·have fS:0<n:=by
   rcases Nat.eq_zero_or_pos n with h0|h0
   ·have hk:=(List.getElem?_eq_some_iff.1 hv).1
    rw[fI,h0]at hk
    simp at hk
   ·exact h0
  obtain⟨b,e7,hh,fk⟩:=hb fS
  rw[had]at fk
  cases fk
  rcases how0.2 with⟨hn1,_⟩|⟨g,bI,cur,eK,_,hgg,fc,fW,fX,fz⟩
  ·rw[hh]at hn1;cases hn1
  ·rw[hh]at eK;cases eK
   rw[<-hys]at hv
   have h1:=zy _ _ _ _ _ hv
   rw[qN]
   refine zl hgg _ _ ?_
   rw[<-fz,List.getElem?_take]at h1
   split at h1
   ·exact h1
   ·cases h1
 ·rw[List.flatten_append]
  exact(bt.append fV (fun b gX hZ=>fR b gX.1 hZ)).mono (fun b hb=>hb.elim (fun hb=>⟨.inl hb.1,hb.2⟩) (fun hb=>⟨.inr hb,bm b hb⟩))
def oe(w:World)(res:List (List D))(e:Ending)(w':World):Prop:=
 ∃(vs:List Value)(hQ:List (List Value)),e= .returned (PX vs)/\Below w.heap.size w w'/\YC yw vs hQ/\YC (fun(cs:List Value)(row:List D)=>cs.length=row.length) hQ res/\
  Ke w' hQ.flatten res.flatten (fun b=>w.heap.size<=b/\b<w'.heap.size)
def Yg(P:Program)(f:FuncId)(args res:List (List D)):Prop:=
 Tf P f=true/\∀(T:CS)(w:World)(gC:List Value),(∀b k,T b k->b<w.heap.size)->YC (fun v row=>∃cs,yw v cs/\YC (Rd T w) cs row) gC args->Calls P f gC.toArray w (oe w res)
theorem jT{α β:Type}{R:α->β->Prop}:∀{hQ:List (List α)}{res:List (List β)},YC (fun(cs:List α)(row:List β)=>cs.length=row.length) hQ res->(∀(k:Nat)(x:α)(d:β),hQ.flatten[k]?=some x->res.flatten[k]?=some d->R x d)->YC (fun cs row=>YC R cs row) hQ res:=by
 intro hQ res iN;induction iN with
 |nil=>intro _;exact .nil
 |@cons cs row hQ res hl _ ih=>
  intro hk;refine .cons (YC.qA hl (fun k x d hx hd=>hk k x d ?_ ?_)) (ih (fun k x d hx hd=>hk (cs.length+k) x d ?_ ?_))
  ·rw[List.flatten_cons,List.getElem?_append_left (List.getElem?_eq_some_iff.1 hx).1];exact hx
  ·rw[List.flatten_cons,List.getElem?_append_left (List.getElem?_eq_some_iff.1 hd).1];exact hd
  ·rw[List.flatten_cons,List.getElem?_append_right zAA];simpa using hx
  ·rw[List.flatten_cons,List.getElem?_append_right zAA,hl];simpa using hd
theorem Yg.rd{args:List (List D)}(hs:Yg P f args res):JK P f false args res:=by
 refine⟨hs.1,fun T w gC hT ha=>(hs.2 T w gC hT ha).mono ?_⟩;rintro e w' ⟨vs,hQ,he,hb,hf,hl,⟨_,Sk,h1,h2,h3⟩⟩;refine⟨vs,hQ,fun b=>w.heap.size<=b/\b<w'.heap.size,he,hb,fun b hb=>hb,hf,jT hl (fun k x d hx hd=>?_),fun hh=>by cases hh⟩;simp only[jD,Bool.false_eq_true,if_false];exact(h1 k x d hx hd).rd (fun b k' hb=>.inr (h2 k b hb))
def Ya:List Bool->List D->List Ob
 |_,[]=>[]
 |q::qs,.sl size rows::ds=>.arr q size rows::Ya qs ds
 |[],.sl size rows::ds=>.arr true size rows::Ya [] ds
 |qs,_::ds=>.none::Ya qs.tail ds
def xe:List Bool->List D->Prop
 |_,[]=>True
 |q::qs,.sl _ rows::ds=>(q=false->∀r∈rows,∀x∈r,x.scalar=true)/\xe qs ds
 |[],.sl _ _::ds=>xe [] ds
 |qs,_::ds=>xe qs.tail ds
theorem Y5:∀(qs:List Bool)(ds:List D)(k:Nat),xe qs ds->(∀size rows,ds[k]?=some (.sl size rows)->∃q,Yt (Ya qs ds) k= .arr q size rows/\(q=false->∀r∈rows,∀x∈r,x.scalar=true))/\(Yt (Ya qs ds) k≠ .none->∃size rows,ds[k]?=some (.sl size rows))
 |qs,[],k,_=>⟨fun size rows h=>by simp at h,fun h=>by cases qs<;>simp[Ya,Yt]at h⟩
 |q::qs,.sl size rows::ds,0,hf=>⟨fun s r h=>by simp at h;obtain⟨rfl,rfl⟩:=h;exact⟨q,by simp[Ya,Yt],hf.1⟩,fun _=>⟨size,rows,zAE⟩⟩
 |[],.sl size rows::ds,0,hf=>⟨fun s r h=>by simp at h;obtain⟨rfl,rfl⟩:=h;exact⟨true,by simp[Ya,Yt],fun h=>by cases h⟩,fun _=>⟨size,rows,zAE⟩⟩
 |qs,.int k n::ds,0,hf=>⟨fun s r h=>by simp at h,fun h=>by cases qs<;>simp[Ya,Yt]at h⟩
 |qs,.bool b::ds,0,hf=>⟨fun s r h=>by simp at h,fun h=>by cases qs<;>simp[Ya,Yt]at h⟩
 |qs,.str s::ds,0,hf=>⟨fun s r h=>by simp at h,fun h=>by cases qs<;>simp[Ya,Yt]at h⟩
 |qs,.unk::ds,0,hf=>⟨fun s r h=>by simp at h,fun h=>by cases qs<;>simp[Ya,Yt]at h⟩
 |q::qs,.sl size rows::ds,k+1,hf=>by
  have:=Y5 qs ds k hf.2
  simpa[Ya,Yt]using this
 |[],.sl size rows::ds,k+1,hf=>by
  have:=Y5 [] ds k hf
  simpa[Ya,Yt]using this
 |qs,.int _ _::ds,k+1,hf=>by
  have:=Y5 qs.tail ds k zBz
  cases qs<;>simpa[Ya,Yt]using this
 |qs,.bool _::ds,k+1,hf=>by
  have:=Y5 qs.tail ds k zBz
  cases qs<;>simpa[Ya,Yt]using this
 |qs,.str _::ds,k+1,hf=>by
  have:=Y5 qs.tail ds k zBz
  cases qs<;>simpa[Ya,Yt]using this
 |qs,.unk::ds,k+1,hf=>by
  have:=Y5 qs.tail ds k zBz
  cases qs<;>simpa[Ya,Yt]using this
theorem Bh(r:Rel T0 B σ a w X h){c:Call}(qs:List Bool)(iE:o.op= .call c)(hc:c.callee= .value (.func f))(hd:o.dst=some d)(gG:σ.fresh d=true)
  (iT:JE P σ c.args.toList c.argTypes.toList rows) (hs:Yg P f rows res) (hq:xe qs res.flatten)
  (hK:∀a' w',J5 T0 B (σ.new d (kJ d res) (Ya qs res.flatten)) a' w'->XF B w w'->K a' w'):o.wp P a w K Q:=by
 have iQ:=St.zV gG
 unfold Oper.wp
 rw[UF iE hc hs.1,Oper.upon_enter]
 have aD:=r.JE false iT (fun hh=>by cases hh)
 simp only[Bool.false_eq_true,if_false]at aD
 refine(hs.2 (O4 T0 X h σ) w _ (fun b k hb=>r.CM hb) aD).mono ?_
 rintro e w' ⟨vs,hQ,rfl,fF,gA,hlen,⟨_,Sk,h1,h2,h3⟩⟩
 rw[hd]
 have hex:∀j,∃hd:Hd,(∀c,hQ.flatten[j]?=some c->hd.v=c)/\(∀size rows,res.flatten[j]?=some (.sl size rows)->(∀b,hd.u b->Sk j b)/\(∀b,blk hd.v=some b->hd.u b)/\∀T h ob,J9 T h ob w' hd (.arr true size rows)/\((∀r∈rows,∀x∈r,x.scalar=true)->J9 T h ob w' hd (.arr false size rows))):=by
  intro j
  have gk:hQ.flatten.length=res.flatten.length:=by
   have:=jT (R:=fun _ _=>True) hlen (fun _ _ _ _ _=>trivial)
   exact(qu this).length
  cases hj:res.flatten[j]? with
  |none=>exact⟨Hd.of ((hQ.flatten[j]?).getD undef),fun c gD=>by simp[Hd.of,gD],fun size rows hh=>by cases hh⟩
  |some dd=>
   have cS:j<hQ.flatten.length:=by rw[gk];exact(List.getElem?_eq_some_iff.1 hj).1
   have bG:hQ.flatten[j]?=some hQ.flatten[j]:=List.getElem?_eq_getElem cS
   cases dd with
   |int k n=>exact⟨Hd.of hQ.flatten[j],fun c gD=>by rw[bG]at gD;cases gD;rfl,fun size rows hh=>by cases hh⟩
   |bool k=>exact⟨Hd.of hQ.flatten[j],fun c gD=>by rw[bG]at gD;cases gD;rfl,fun size rows hh=>by cases hh⟩
   |str k=>exact⟨Hd.of hQ.flatten[j],fun c gD=>by rw[bG]at gD;cases gD;rfl,fun size rows hh=>by cases hh⟩
   |unk=>exact⟨Hd.of hQ.flatten[j],fun c gD=>by rw[bG]at gD;cases gD;rfl,fun size rows hh=>by cases hh⟩
   |sl size rows=>
    have ho:=h1 j _ _ bG hj
    generalize hv:hQ.flatten[j]=v at ho
    cases ho with
    |sl v size rows S e xs ab ho hz hb hl hk ay ic=>
     refine⟨⟨v,fun k=>(xs[k]?).getD undef,Sk j⟩,fun c gD=>by rw[bG,hv]at gD;cases gD;rfl,fun iw ig hh=>?_⟩
     cases hh
     refine⟨fun b hb=>hb,hb,fun T h ob=>⟨⟨e,xs,ho,hz,⟨hl,ab,hk,fun k b hb=>ay k b hb,ic⟩,fun k x d hx _ _=>by simp[hx]⟩,fun gj=>⟨e,xs,ho,hz,YC.qA hl (fun k x d hx hd=>?_)⟩⟩⟩
     obtain⟨r0,ep,hdr⟩:=List.mem_flatten.1 (List.mem_of_getElem? hd)
     have gV:=gj r0 ep d hdr
     have:=hk k x d hx hd
     cases this with
     |int k n=>exact .int _ _
     |bool b=>exact .bool _
     |str s=>exact .str _
     |unk v h=>exact .unk _ h
     |sl=>cases gV
 obtain⟨hf,bX⟩:=Classical.axiomOfChoice hex
 refine hK _ _ ⟨X,fun t j=>if t=d then hf j else h t j,?_⟩ (XF.MW fF r.hB)
 have iu:∀j,(σ.new d (kJ d res) (Ya qs res.flatten)).ob d j=Yt (Ya qs res.flatten) j:=fun j=>by rw[St.Jv];simp[iQ]
 have fY:YC (fun cs row=>YC (Wg (Tof T0 X) w') cs row) hQ res:=by
  refine jT hlen (fun k x d hx hd=>?_)
  have ho:=h1 k x d hx hd
  cases ho with
  |int k n=>exact Rd.int _ _
  |bool b=>exact Rd.bool _
  |str s=>exact Rd.str _
  |unk v h=>exact Rd.unk _ h
  |sl v size rows S e xs ab ho hz hb hl hk ay ic=>exact⟨e,xs,ho⟩
 refine r.new gG (Below.grownBy fF) (fun b hb=>hb) (fun b hb=>.inl hb) (kJ d res) (PX vs) (Ya qs res.flatten) hf ?_ (fun j=>?_) (fun j b iH hb=>?_) (fun j b iH hb=>?_) (fun j j' b iH gE hb iq=>?_)
 ·exact G4 (h:=fun t j=>if t=d then hf j else h t j) (ob:=(σ.new d (kJ d res) (Ya qs res.flatten)).ob) (t:=d) gA fY (fun i size rows hi=>by
   obtain⟨q,fe,_⟩:=(Y5 qs res.flatten i hq).1 size rows hi
   exact⟨q,by rw[iu];exact fe⟩) (fun i c hi=>by simp only[if_true];exact(bX i).1 c hi)
 ·by_cases iH:Yt (Ya qs res.flatten) j= .none
  ·rw[iH];trivial
  ·obtain⟨size,rows,hj⟩:=(Y5 qs res.flatten j hq).2 iH
   obtain⟨q,fe,hqf⟩:=(Y5 qs res.flatten j hq).1 size rows hj
   rw[fe]
   have:=((bX j).2 size rows hj).2.2 (Tof T0 X) (fun t j=>if t=d then hf j else h t j) (σ.new d (kJ d res) (Ya qs res.flatten)).ob
   cases q with
   |true=>exact this.1
   |false=>exact this.2 (hqf rfl)
 ·obtain⟨size,rows,hj⟩:=(Y5 qs res.flatten j hq).2 iH
  exact((bX j).2 size rows hj).2.1 b hb
 ·obtain⟨size,rows,hj⟩:=(Y5 qs res.flatten j hq).2 iH
  have:=h2 j b (((bX j).2 size rows hj).1 b hb)
  exact⟨this.1,fun hx=>by have:=(r.hX b hx).2;omega,this.2⟩
 ·obtain⟨size,rows,hj⟩:=(Y5 qs res.flatten j hq).2 iH
  obtain⟨iw,ig,eY⟩:=(Y5 qs res.flatten j' hq).2 gE
  exact h3 j j' b (((bX j).2 size rows hj).1 b hb) (((bX j').2 iw ig eY).1 b iq)
end Go.Vm
