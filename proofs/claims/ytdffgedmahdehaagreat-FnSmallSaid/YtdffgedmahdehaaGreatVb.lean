/- An abstract machine Uw the model of Go, by value, and that it is sound: part Vb. No condition. -/
import Derived.Test.YtdffgedmahdehaaGreatVa
set_option linter.unusedVariables false
set_option linter.unusedSimpArgs false
namespace Go.Vm
open Go.RowKit
variable{Q:Exit->Act->World->Prop}{K:Act->World->Prop}{h h':Nat->Nat->Hd}{B X' X S S' N:Nat->Prop}{P:Program}{σ σ' σ1:St}{o:Oper}{rows news res wD rs:List (List D)}{p:At->Bool}{T0 T T':CS}{a:Act}{x y:Operand}{d size n t j g c:Nat}{w' w:World}{v val:Value}{ve:Nat->Nat->Ob}{vs ys:List Value}{k:IntKind}{f:FuncId}{q:Bool}{cur:Array Value}{s:ByteArray}{hd:Hd}
theorem Zf.LU{ob:Nat->Nat->Ob}(hT:∀b k v,T b k->w.cell? ⟨b,k,none⟩=some v->w'.cell? ⟨b,k,none⟩=some v/\T' b k)(hc:∀t j,Cpt h h' ob ve t j)
  {x:At} (r:Zf T h ob w x v):Zf T' h' ve w' x v:=by
 obtain⟨d,hd⟩:∃d,x.ref d=false:=by
  cases x with
  |sref t j lo len=>exact⟨t+1,by simp[At.ref]⟩
  |ptr t j i c=>exact⟨t+1,by simp[At.ref]⟩
  |bptr t c=>exact⟨t+1,by simp[At.ref]⟩
  |fn f t=>exact⟨t+1,by simp[At.ref]⟩
  |tref t j i c o=>exact⟨t+1,by simp[At.ref]⟩
  |any=>exact⟨0,rfl⟩
  |d x=>exact⟨0,rfl⟩
  |nil s=>exact⟨0,rfl⟩
  |rptr r c=>exact⟨0,rfl⟩
 exact Zf.carry hT (d:=d) (fun t j _=>hc t j) hd r
def xL(p:At->Bool):List At->Bool
 |[]=>false
 |x::xs=>p x||xL p xs
def V.OS(p:At->Bool):V->Bool
 |.one x=>p x
 |.agg xs=>xL p xs
 |_=>false
def S8(p:At->Bool):List V->Bool
 |[]=>false
 |x::xs=>x.OS p||S8 p xs
def V.Je(p:At->Bool):V->Bool
 |.tup xs=>S8 p xs
 |.cnd _ x=>x.OS p
 |.fix _ x=>x.OS p
 |.one x=>p x
 |.agg xs=>xL p xs
 |.any=>false
def JU(p:At->Bool):List Ob->Bool
 |[]=>false
 |.box cells::os=>xL p cells||JU p os
 |.lit _ rows::os=>xL p rows.flatten||JU p os
 |_::os=>JU p os
def St.Je(p:At->Bool):St->Bool
 |[]=>false
 |e::σ=>e.1.Je p||JU p e.2||St.Je p σ
def At.isT(t:Nat):At->Bool
 |.tref u _ _ _ _=>u==t
 |_=>false
theorem Kx:∀(xs:List At),xL (fun _=>false) xs=false
 |[]=>rfl
 |_::xs=>by simp[xL,Kx xs]
theorem V7:∀(xs:List V),S8 (fun _=>false) xs=false
 |[]=>rfl
 |x::xs=>by cases x<;>simp[S8,V.OS,Kx,V7 xs]
theorem Oy(x:V):x.OS (fun _=>false)=false:=by cases x<;>simp[V.OS,Kx]
theorem KQ(x:V):x.Je (fun _=>false)=false:=by cases x<;>simp[V.Je,Kx,V7,Oy]
theorem z8:∀(os:List Ob),JU (fun _=>false) os=false
 |[]=>rfl
 |o::os=>by cases o<;>simp[JU,Kx,z8 os]
theorem St.KQ:∀(σ:St),St.Je (fun _=>false) σ=false
 |[]=>rfl
 |e::σ=>by simp[St.Je,Go.Vm.KQ,Go.Vm.z8,St.KQ σ]
theorem St.TC{p:At->Bool}:∀{σ:St},σ.Je p=false->∀t,(σ.get t).Je p=false
 |[],_,t=>by simp[St.get,V.Je]
 |e::σ,h,0=>by simp only[St.Je,Bool.or_eq_false_iff]at h;exact h.1.1
 |e::σ,h,t+1=>by
  simp only[St.Je,Bool.or_eq_false_iff]at h;have:=St.TC h.2 t
  simpa[St.get]using this
theorem RA{p:At->Bool}:∀{os:List Ob},JU p os=false->∀j,JU p [Zq os j]=false
 |[],_,j=>by simp[Zq,JU]
 |o::os,h,0=>by cases o<;>simp_all[Zq,JU]
 |o::os,h,j+1=>by
  have h2:JU p os=false:=by cases o<;>simp_all[JU]
  have:=RA h2 j;simpa[Zq]using this
theorem St.Ry{p:At->Bool}:∀{σ:St},σ.Je p=false->∀t j,JU p [σ.ob t j]=false
 |[],_,t,j=>by simp[St.ob,JU]
 |e::σ,h,0,j=>by simp only[St.Je,Bool.or_eq_false_iff]at h;exact RA h.1.2 j
 |e::σ,h,t+1,j=>by
  simp only[St.Je,Bool.or_eq_false_iff]at h;have:=St.Ry h.2 t j
  simpa[St.ob]using this
theorem Ul{ob:Nat->Nat->Ob}(f:∀{x:At}{v:Value},p x=false->Zf T h ob w x v->Zf T' h' ve w' x v){xs:List At}(hx:xL p xs=false)
  (r:ZU (Zf T h ob w) xs vs):ZU (Zf T' h' ve w') xs vs:=by
 induction r with
 |nil=>exact .nil
 |cons r _ ih=>simp only[xL,Bool.or_eq_false_iff]at hx;exact .cons (f hx.1 r) (ih hx.2)
theorem X0.map{ob:Nat->Nat->Ob}(f:∀{x:At}{v:Value},p x=false->Zf T h ob w x v->Zf T' h' ve w' x v){x:V}(hx:x.OS p=false)
  (r:X0 T h ob w x v):X0 T' h' ve w' x v:=by
 cases x with
 |any=>exact r
 |one x=>exact f hx r
 |agg xs=>obtain⟨cs,e,r⟩:=r;exact⟨cs,e,Ul f hx r⟩
 |tup xs=>exact r.elim
 |cnd g x=>exact r.elim
 |fix u x=>exact r.elim
theorem Yu.map{ob:Nat->Nat->Ob}(f:∀{x:At}{v:Value},p x=false->Zf T h ob w x v->Zf T' h' ve w' x v){x:V}(hx:x.Je p=false)
  (r:Yu T h ob w x v):Yu T' h' ve w' x v:=by
 cases x with
 |any=>exact r
 |one x=>exact f hx r
 |agg xs=>obtain⟨cs,e,r⟩:=r;exact⟨cs,e,Ul f hx r⟩
 |tup xs=>
  obtain⟨vs,e,r⟩:=r;refine⟨vs,e,?_⟩;clear e;generalize vs.toList=vl at r;simp only[V.Je]at hx;induction r with
  |nil=>exact .nil
  |cons r _ ih=>simp only[S8,Bool.or_eq_false_iff]at hx;exact .cons (X0.map f hx.1 r) (ih hx.2)
 |cnd g x=>exact⟨fun hg=>X0.map f hx (r.1 hg),r.2⟩
 |fix u x=>exact⟨r.1,X0.map f hx r.2⟩
theorem Xo.map{ob:Nat->Nat->Ob}(f:∀{x:At}{v:Value},p x=false->Zf T h ob w x v->Zf T' h' ve w' x v)
  (hT:∀b k v,T b k->w.cell? ⟨b,k,none⟩=some v->w'.cell? ⟨b,k,none⟩=some v/\T' b k) {o:Ob}
  (vR:o≠ .none->∀b,blk hd.v=some b->hd.u b) (hb:o≠ .none->∀b,hd.u b->w'.heap[b]?=w.heap[b]?) (hx:JU p [o]=false) (r:Xo T h ob w hd o):Xo T' h' ve w' hd o:=by
 cases o with
 |none=>trivial
 |box cells=>obtain⟨b,cs,e,hv,hh,wE⟩:=r;simp only[JU,Bool.or_false]at hx;exact⟨b,cs,e,hv,by rw[hb fM b (vR fM b (by rw[hv];rfl))];exact hh,Ul f hx wE⟩
 |arr q size rows=>
  have hk:∀{e:TypeId}{n:Nat}{xs:List Value},w.ownsRow 0 e size hd.v n xs->w'.ownsRow 0 e size hd.v n xs:=fun ho=>Ka (fun b h=>hb fM b (vR fM b h)) ho;cases q with
  |false=>obtain⟨e,xs,ho,hz,wE⟩:=r;exact⟨e,xs,hk ho,hz,wE.imp fun _ _=>Rd.mono hT⟩
  |true=>obtain⟨e,xs,ho,hz,wE,hn⟩:=r;exact⟨e,xs,hk ho,hz,wE.Uu (fun b h=>hb fM b h.1),hn⟩
 |lit size rows=>obtain⟨e,xs,ho,hz,wE⟩:=r;simp only[JU,Bool.or_false]at hx;exact⟨e,xs,Ka (fun b h=>hb fM b (vR fM b h)) ho,hz,Ul f hx wE⟩
def Ob.Ih:Ob->Ob->Prop
 |.arr q s r,.arr q' s' r'=>q=q'/\s=s'/\r.length=r'.length
 |.lit s r,.lit s' r'=>s=s'/\r.length=r'.length
 |.box _,.box _=>True
 |_,_=>False
theorem Rel.change(r:Rel T0 B σ a w X h)(wW:σ.ob t j≠ .none)(vK:w'.heap.size=w.heap.size)(hw:∀k,¬(h t j).u k->w'.heap[k]?=w.heap[k]?)(M:Nat->Prop)
  (hM:∀b,M b->¬B b/\¬X b/\b<w.heap.size/\∀u i,σ.ob u i≠ .none->¬(h u i).u b) (o':Ob) (vm:(σ.ob t j).Ih o') (wL:Hd) (hv:wL.v=(h t j).v) (hu:∀b,wL.u b->(h t j).u b\/M b) (vR:∀b,blk wL.v=some b->wL.u b)
  (p:At->Bool) (hp:σ.Je p=false) (hn:(∀u i c o,p (.tref t u i c o)=true)\/wL.n=(h t j).n)
  (tQ:Xo (Tof T0 X) (fun u i=>if u=t/\i=j then wL else h u i) (σ.ZT t j o').ob w' wL o'):Rel T0 B (σ.ZT t j o') a w' X (fun u i=>if u=t/\i=j then wL else h u i):=by
 have vG:∀u i,¬(u=t/\i=j)->(σ.ZT t j o').ob u i=σ.ob u i:=by intro u i wC;rw[St.YU σ t j o' u i wW,if_neg wC]
 have w6:(σ.ZT t j o').ob t j=o':=by rw[St.YU σ t j o' t j wW];simp
 have hT:∀b k v,Tof T0 X b k->w.cell? ⟨b,k,none⟩=some v->w'.cell? ⟨b,k,none⟩=some v/\Tof T0 X b k:=by
  intro b' k v wP wF;refine⟨?_,wP⟩;have wC:¬(h t j).u b':=by
   intro v5;have wI:=r.own t j b' wW v5
   rcases wP with wP|wP
   ·exact wI.1 (r.hT _ _ wP)
   ·exact wI.2.1 wP
  rw[World.cell?_of_block (hw b' wC)];exact wF
 have nR:∀u i,((fun u i=>if u=t/\i=j then wL else h u i) u i).v=(h u i).v:=by
  intro u i;by_cases hc:u=t/\i=j
  ·simp only[hc,and_self,if_true];exact hv
  ·simp only[hc,if_false]
 have oA:∀u i q size rows,(σ.ZT t j o').ob u i= .arr q size rows->∃wM,σ.ob u i= .arr q size wM/\wM.length=rows.length:=by
  intro u i q size rows ho;by_cases hc:u=t/\i=j
  ·obtain⟨rfl,rfl⟩:=hc;rw[w6]at ho;subst ho;cases vB:σ.ob u i with
   |arr q0 s0 r0=>rw[vB]at vm;obtain⟨rfl,rfl,hl⟩:=vm;exact⟨r0,rfl,hl⟩
   |none=>rw[vB]at vm;exact vm.elim
   |box c=>rw[vB]at vm;exact vm.elim
   |lit s r=>rw[vB]at vm;exact vm.elim
  ·rw[vG u i hc]at ho;exact⟨rows,ho,rfl⟩
 have gE:∀u i size rows,(σ.ZT t j o').ob u i= .lit size rows->∃wM,σ.ob u i= .lit size wM/\wM.length=rows.length:=by
  intro u i size rows ho;by_cases hc:u=t/\i=j
  ·obtain⟨rfl,rfl⟩:=hc;rw[w6]at ho;subst ho;cases vB:σ.ob u i with
   |arr q0 s0 r0=>rw[vB]at vm;exact vm.elim
   |none=>rw[vB]at vm;exact vm.elim
   |box c=>rw[vB]at vm;exact vm.elim
   |lit s r=>rw[vB]at vm;obtain⟨rfl,hl⟩:=vm;exact⟨r,rfl,hl⟩
  ·rw[vG u i hc]at ho;exact⟨rows,ho,rfl⟩
 have r7:∀u i cells,(σ.ZT t j o').ob u i= .box cells->∃vO,σ.ob u i= .box vO:=by
  intro u i cells ho;by_cases hc:u=t/\i=j
  ·obtain⟨rfl,rfl⟩:=hc;rw[w6]at ho;subst ho;cases vB:σ.ob u i with
   |arr q0 s0 r0=>rw[vB]at vm;exact vm.elim
   |none=>rw[vB]at vm;exact vm.elim
   |box c=>exact⟨c,rfl⟩
   |lit s r=>rw[vB]at vm;exact vm.elim
  ·rw[vG u i hc]at ho;exact⟨cells,ho⟩
 have at_:∀{x:At}{v:Value},p x=false->Zf (Tof T0 X) h σ.ob w x v->Zf (Tof T0 X) (fun u i=>if u=t/\i=j then wL else h u i) (σ.ZT t j o').ob w' x v:=by
  intro x v nN rx;cases x with
  |any=>exact rx
  |d x=>exact Rd.mono hT rx
  |nil s=>exact rx
  |sref u i lo len=>
   refine⟨rx.1,fun q size rows ho=>?_,fun size rows ho=>?_⟩
   ·obtain⟨wM,vB,hl⟩:=oA u i q size rows ho;rw[nR,<-hl];exact rx.2.1 q size wM vB
   ·obtain⟨wM,vB,hl⟩:=gE u i size rows ho;rw[nR,<-hl];exact rx.2.2 size wM vB
  |ptr u i k c=>refine⟨rx.1,fun q size rows ho=>?_⟩;obtain⟨wM,vB,hl⟩:=oA u i q size rows ho;rw[nR];exact rx.2 q size wM vB
  |bptr u c=>refine⟨rx.1,fun cells ho=>?_⟩;obtain⟨vO,vB⟩:=r7 u 0 cells ho;rw[nR];exact rx.2 vO vB
  |fn f u=>refine⟨rx.1,fun cells ho=>?_⟩;obtain⟨vO,vB⟩:=r7 u 0 cells ho;rw[nR];exact rx.2 vO vB
  |tref u i k c o=>
   refine⟨rx.1,fun size rows ho=>?_⟩;obtain⟨wM,vB,hl⟩:=oA u i true size rows ho;have h1:=rx.2 size wM vB
   by_cases hc:u=t/\i=j
   ·obtain⟨rfl,rfl⟩:=hc;rcases hn with hn|hn
    ·rw[hn]at nN;cases nN
    ·simp only[and_self,if_true,hn];exact h1
   ·simp only[hc,if_false];exact h1
  |rptr rr c=>obtain⟨b,off,g,e,hk⟩:=rx;exact⟨b,off,g,e,fun k d hd=>⟨(hT _ _ _ (hk k d hd).2.1 (hk k d hd).1).1,(hk k d hd).2.1,Rd.mono hT (hk k d hd).2.2⟩⟩
 have vI:∀u i,(σ.ZT t j o').ob u i≠ .none->σ.ob u i≠ .none:=by
  intro u i wv;by_cases v5:u=t/\i=j
  ·obtain⟨rfl,rfl⟩:=v5;exact wW
  ·rw[vG u i v5]at wv;exact wv
 refine⟨by rw[r.size,St.YD],r.defers,by rw[vK];exact r.hB,fun b hb=>by rw[vK];exact r.hX b hb,r.hT,fun u v5=>?_,fun u i=>?_,fun u i b' wC wP=>?_,fun u i b' wC wP=>?_,fun u i u' i' b' wC wq vP wo=>?_⟩
 ·rw[St.YD]at v5;rw[St.Yf];exact Yu.map at_ (St.TC hp u) (r.slot u v5)
 ·by_cases hc:u=t/\i=j
  ·obtain⟨rfl,rfl⟩:=hc;rw[w6];simp only[and_self,if_true];exact tQ
  ·rw[vG u i hc];simp only[hc,if_false];exact Xo.map at_ hT (fun ho b=>r.ub u i b ho) (fun ho b hb=>hw b (fun mT=>hc (r.inj u i t j b ho wW hb mT))) (St.Ry hp u i) (r.obj u i)
 ·by_cases hc:u=t/\i=j
  ·simp only[hc,and_self,if_true]at wP⊢;exact vR b' wP
  ·simp only[hc,if_false]at wP⊢;exact r.ub u i b' (vI u i wC) wP
 ·rw[vK];by_cases hc:u=t/\i=j
  ·simp only[hc,and_self,if_true]at wP;rcases hu b' wP with h1|h1
   ·exact r.own t j b' wW h1
   ·have:=hM b' h1;exact⟨this.1,this.2.1,this.2.2.1⟩
  ·simp only[hc,if_false]at wP;exact r.own u i b' (vI u i wC) wP
 ·by_cases hc:u=t/\i=j
  ·by_cases wk:u'=t/\i'=j
   ·exact⟨by rw[hc.1,wk.1],by rw[hc.2,wk.2]⟩
   ·simp only[hc,and_self,if_true]at vP;simp only[wk,if_false]at wo;rcases hu b' vP with h1|h1
    ·have:=r.inj t j u' i' b' wW (vI u' i' wq) h1 wo;rw[hc.1,hc.2];exact this
    ·exact absurd wo ((hM b' h1).2.2.2 u' i' (vI u' i' wq))
  ·by_cases wk:u'=t/\i'=j
   ·simp only[wk,and_self,if_true]at wo;simp only[hc,if_false]at vP;rcases hu b' wo with h1|h1
    ·have:=r.inj u i t j b' (vI u i wC) wW vP h1;rw[wk.1,wk.2];exact this
    ·exact absurd vP ((hM b' h1).2.2.2 u i (vI u i wC))
   ·simp only[hc,if_false]at vP;simp only[wk,if_false]at wo;exact r.inj u i u' i' b' (vI u i wC) (vI u' i' wq) vP wo
theorem Rel.Nr(r:Rel T0 B σ a w X h)(wW:σ.ob t j≠ .none)(vK:w'.heap.size=w.heap.size)(hw:∀k,¬(h t j).u k->w'.heap[k]?=w.heap[k]?)
  (o':Ob) (vm:(σ.ob t j).Ih o') (tQ:Xo (Tof T0 X) h (σ.ZT t j o').ob w' (h t j) o'):Rel T0 B (σ.ZT t j o') a w' X h:=by
 have hh:(fun u i=>if u=t/\i=j then h t j else h u i)=h:=by
  funext u i;by_cases hc:u=t/\i=j
  ·simp[hc]
  ·simp[hc]
 have:=r.change wW vK hw (fun _=>False) (fun _ hh=>hh.elim) o' vm (h t j) rfl (fun b hb=>.inl hb) (fun b hb=>r.ub t j b wW hb) (fun _=>false) (St.KQ σ) (.inr rfl) (by rw[hh];exact tQ);rw[hh]at this;exact this
theorem run_store{T:TypeId}{ti:TypeInfo}(hi:P.info? T=some ti){o:Nat}{e:TypeId}(hg:w.heap[g]?=some (.cells cur e (0,0)))(vK:val.cells.size=P.cellsOf T)(hle:o+P.cellsOf T<=cur.size)(h1:∀u∈val.cells.toList,u.oneCell'=true):
  (Instr.storeAt T (.pointer (some ⟨g,o,none⟩)) val).run P w= .ok () (w.setRow g (place cur.toList o val.cells.toList).toArray):=by
 have wY:=run_storeCells_at P g o e val.cells.toList 0 cur w hg fc h1;have wC:¬val.cells.size≠P.cellsOf T:=fJ;simp only[Instr.storeAt,Instr.sureAddr,storeVar,Sem.run_bind,Sem.run_pure,Result.andThen_ok,XW hi,if_neg wC];rw[wY];simp[place]
theorem YL.setRow(hg:¬B g)(cs:Array Value):YL B w (w.setRow g cs):=
 ⟨rfl,rfl,rfl,by simp[World.setRow],fun k hk=>setRow_other w g k cs (fun e=>hg (e▸hk))⟩
theorem Ux(r:Rel T0 B σ a w X h){T:TypeId}(wA:o.op= .store T x y)(hd:o.dst=none)(ht:Kk P T=true)(tc:gOf (look P σ 0 x)=true)(te:gOf (look P σ T y)=true)
  (hx:unc (look P σ 0 x)= .one (.bptr t c)) {cells:List At} (ho:σ.ob t 0= .box cells) (vV:(unc (look P σ T y)).flat=true) (hl:(unc (look P σ T y)).cells.length=P.cellsOf T) (hle:c+P.cellsOf T<=cells.length)
  (hK:∀a' w',Xx T0 B (σ.ZT t 0 (.box (place cells c (unc (look P σ T y)).cells))) a' w'->YL B w w'->K a' w'):o.wp P a w K Q:=by
 obtain⟨_,ti,_,hi,_,_⟩:=yd ht;have nS:=r.arg (P:=P) 0 x hx tc
 obtain⟨b,cs,e,hb,he,hh,wE⟩:=r.box ho nS;have hy:=yx vV (r.arg (P:=P) T y rfl te)
 have vt:=hy.length;have wb:=wE.length;have e1:cs.toList.length=cs.size:=Array.length_toList;have e2:(a.eval y).cells.toList.length=(a.eval y).cells.size:=Array.length_toList;have wU:=run_store (P:=P) (w:=w) hi (o:=c) (val:=a.eval y) hh fJ fJ (fun u hu=>by obtain⟨x',_,tF⟩:=hy.mem hu;exact Zf.YN tF);have wW:σ.ob t 0≠ .none:=fi;have vM:blk (h t 0).v=some b:=by rw[hb];rfl
 have hB:=r.Hn wW vM;have vR:=r.ub t 0 b wW vM;unfold Oper.wp;simp only[execOp,wA,he,Sem.run_bind,wU,Result.andThen_ok,Sem.run_pure,Oper.upon_skip,hd];refine hK _ _ ⟨X,h,?_⟩ (YL.setRow hB.1 _);have vd:=setRow_heap w b cs (place cs.toList c (a.eval y).cells.toList).toArray e (0,0) hh;refine r.Nr wW (by simp[World.setRow]) (fun k hk=>setRow_other w b k _ (fun e=>hk (e▸vR))) _ (by rw[ho];trivial) ?_;have r2:Rel T0 B (σ.ZT t 0 (.box (place cells c (unc (look P σ T y)).cells))) a (w.setRow b (place cs.toList c (a.eval y).cells.toList).toArray) X h->True:=fun _=>trivial;have hT:∀b' k v,Tof T0 X b' k->w.cell? ⟨b',k,none⟩=some v->(w.setRow b (place cs.toList c (a.eval y).cells.toList).toArray).cell? ⟨b',k,none⟩=some v/\Tof T0 X b' k:=by
  intro b' k v wP wF;refine⟨?_,wP⟩;have wC:b'≠b:=by
   rintro rfl;rcases wP with wP|wP
   ·exact hB.1 (r.hT _ _ wP)
   ·exact hB.2.1 wP
  rw[World.cell?_of_block (setRow_other w b b' _ wC)];exact wF
 have vG:∀u i,¬(u=t/\i=0)->(σ.ZT t 0 (.box (place cells c (unc (look P σ T y)).cells))).ob u i=σ.ob u i:=by intro u i wC;rw[St.YU σ t 0 _ u i wW,if_neg wC]
 have w6:(σ.ZT t 0 (.box (place cells c (unc (look P σ T y)).cells))).ob t 0= .box (place cells c (unc (look P σ T y)).cells):=by rw[St.YU σ t 0 _ t 0 wW];simp
 have m9:∀u i,Cpt h h σ.ob (σ.ZT t 0 (.box (place cells c (unc (look P σ T y)).cells))).ob u i:=by
  intro u i;by_cases hu:u=t/\i=0
  ·obtain⟨rfl,rfl⟩:=hu;refine⟨fun q size rows wV=>?_,fun size rows wV=>?_,fun wG wV=>⟨rfl,cells,ho⟩⟩
   ·rw[w6]at wV;cases wV
   ·rw[w6]at wV;cases wV
  ·exact Cpt.same rfl (vG u i hu)
 have at_:∀{x:At}{v:Value},Zf (Tof T0 X) h σ.ob w x v->Zf (Tof T0 X) h (σ.ZT t 0 (.box (place cells c (unc (look P σ T y)).cells))).ob (w.setRow b (place cs.toList c (a.eval y).cells.toList).toArray) x v:=fun rx=>Zf.LU hT m9 rx;refine⟨b,_,e,hb,vd,?_⟩;have:=(wE.place c hy).imp (fun _ _=>at_);simpa using this
open Go.RowKit
variable{ds zr es:List D}{l:List UInt8}
theorem JN{α:Type}(size c:Nat)(ds:List α)(hc:c+ds.length<=size):∀(rows:List (List α))(i:Nat)(row:List α),rows[i]?=some row->(∀r∈rows,r.length=size)->
  (rows.set i (place row c ds)).flatten=place rows.flatten (i*size+c) ds
 |[],i,row,hr,_=>by simp at hr
 |r0::rows,0,row,hr,hz=>by
  simp at hr;subst hr;have h0:r0.length=size:=hz r0 fM
  simp only[List.set_cons_zero,List.flatten_cons,place,Nat.zero_mul,Nat.zero_add];rw[List.take_append_of_le_length fJ,List.drop_append_of_le_length fJ];simp
 |r0::rows,i+1,row,hr,hz=>by
  have h0:r0.length=size:=hz r0 fM;have ih:=JN size c ds hc rows i row (by simpa using hr) (fun r hr=>hz r ef);rw[List.set_cons_succ,List.flatten_cons,ih,List.flatten_cons];unfold place;have e1:(i+1)*size+c=r0.length+(i*size+c):=by rw[h0,Nat.add_mul];omega
  have e2:(i+1)*size+c+ds.length=r0.length+(i*size+c+ds.length):=by rw[h0,Nat.add_mul];omega
  rw[e2,e1,List.take_length_add_append,List.drop_length_add_append];simp
theorem TQ{α:Type}(l:List α)(n off:Nat)(xs:List α)(hl:off+xs.length<=n)(hn:n<=l.length):(place l off xs).take n=place (l.take n) off xs:=by unfold place;rw[List.take_take,Nat.min_eq_left fJ,List.drop_take];rw[List.take_append,List.take_append];simp only[List.length_append,List.length_take];rw[Nat.min_eq_left fJ,List.take_of_length_le (l:=List.take off l) fc,List.take_of_length_le (l:=xs) fJ]
theorem yO{α:Type}(l:List α)(o:Nat)(xs:List α)(hl:o+xs.length<=l.length)(k:Nat)(v:α)(hv:(place l o xs)[k]?=some v):
  (o<=k/\k<o+xs.length/\xs[k-o]?=some v)\/(¬(o<=k/\k<o+xs.length)/\l[k]?=some v):=by
 unfold place at hv;have h1:(l.take o).length=o:=fc
 rcases Nat.lt_or_ge k o with hk|hk
 ·rw[List.append_assoc,List.getElem?_append_left fJ,List.getElem?_take,if_pos hk]at hv;exact .inr ⟨fJ,hv⟩
 ·rw[List.append_assoc,List.getElem?_append_right fJ,h1]at hv;rcases Nat.lt_or_ge (k-o) xs.length with tn|tn
  ·rw[List.getElem?_append_left tn]at hv;exact .inl ⟨hk,fJ,hv⟩
  ·rw[List.getElem?_append_right tn,List.getElem?_drop]at hv;refine .inr ⟨fJ,?_⟩;rw[show o+xs.length+(k-o-xs.length)=k by omega]at hv;exact hv
theorem TW(r:Rel T0 B σ a w X h){T:TypeId}(wA:o.op= .store T x y)(hd:o.dst=none)(ht:Kk P T=true)(tc:gOf (look P σ 0 x)=true)(te:gOf (look P σ T y)=true)
  {i:Nat} (hx:unc (look P σ 0 x)= .one (.ptr t j i c)) (ho:σ.ob t j= .arr q size rows) (hi:i<rows.length) (vV:(unc (look P σ T y)).flat=true) (sb:rowOf σ (unc (look P σ T y)).cells=some ds) (wY:X9 (unc (look P σ T y)).cells=true)
  (hl:ds.length=P.cellsOf T) (hle:c+P.cellsOf T<=size) (hq:q=true->(∀d∈ds,d.scalar=true)/\∀k d,k<P.cellsOf T->(rows.getD i [])[c+k]?=some d->d.scalar=true)
  (hK:∀a' w',Xx T0 B (σ.ZT t j (.arr q size (rows.set i (place (rows.getD i []) c ds)))) a' w'->YL B w w'->K a' w'):o.wp P a w K Q:=by
 obtain⟨_,ti,_,mv,_,_⟩:=yd ht;have nS:=r.arg (P:=P) 0 x hx tc
 obtain⟨b,cap,cur,e,xs,hb,he,hh,vh,uE,uM,uw,hz,r5,wE,wI⟩:=r.arr ho nS;have hy:=yx vV (r.arg (P:=P) T y rfl te)
 have pQ:=r.rowOf true sb hy (fun _=>wY);simp only[if_true]at pQ;have vt:=pQ.length;have e2:(a.eval y).cells.toList.length=(a.eval y).cells.size:=Array.length_toList;have e3:cur.toList.length=cur.size:=Array.length_toList;have wg:rows[i]?=some (rows.getD i []):=fe;have hmul:i*size+size<=rows.length*size:=ft;have nT:rows.length*size<=cap*size:=Nat.mul_le_mul_right _ vh;have wU:=run_store (P:=P) (w:=w) mv (o:=i*size+c) (val:=a.eval y) hh fJ fJ (fun u hu=>by obtain⟨x',_,tF⟩:=hy.mem hu;exact Zf.YN tF);have wW:σ.ob t j≠ .none:=fi;have vM:blk (h t j).v=some b:=by rw[hb];rfl
 have hB:=r.Hn wW vM;have vR:=r.ub t j b wW vM;unfold Oper.wp;simp only[execOp,wA,he,Sem.run_bind,wU,Result.andThen_ok,Sem.run_pure,Oper.upon_skip,hd];refine hK _ _ ⟨X,h,?_⟩ (YL.setRow hB.1 _);refine r.Nr wW (by simp[World.setRow]) (fun k hk=>setRow_other w b k _ (fun e=>hk (e▸vR))) _ (by rw[ho];simp[Ob.Ih]) ?_;have vd:=setRow_heap w b cur (place cur.toList (i*size+c) (a.eval y).cells.toList).toArray e (0,0) hh;have hT:∀b' k v,Tof T0 X b' k->w.cell? ⟨b',k,none⟩=some v->(w.setRow b (place cur.toList (i*size+c) (a.eval y).cells.toList).toArray).cell? ⟨b',k,none⟩=some v/\Tof T0 X b' k:=by
  intro b' k v wP wF;refine⟨?_,wP⟩;have wC:b'≠b:=by
   rintro rfl;rcases wP with wP|wP
   ·exact hB.1 (r.hT _ _ wP)
   ·exact hB.2.1 wP
  rw[World.cell?_of_block (setRow_other w b b' _ wC)];exact wF
 have rC:xs.length=rows.length*size:=by rw[r5,Zg rows size hz]
 have tG:(rows.getD i []).length=size:=hz _ (List.mem_of_getElem? wg);have u6:(w.setRow b (place cur.toList (i*size+c) (a.eval y).cells.toList).toArray).ownsRow 0 e size (h t j).v (rows.set i (place (rows.getD i []) c ds)).length (place xs (i*size+c) (a.eval y).cells.toList):=by
  refine⟨?_,.inr ⟨b,cap,_,by simpa using hb,Nat.zero_le _,vd,by simpa using vh,uE,?_,?_⟩⟩
  ·rw[Yo _ _ _ fJ,rC];simp
  ·simp only[List.size_toArray];rw[Yo _ _ _ fJ,e3,uM]
  ·simp only[List.length_set];rw[TQ _ _ _ _ fJ fJ,uw]
 have ue:∀r∈rows.set i (place (rows.getD i []) c ds),r.length=size:=by
  intro r' vU;rcases List.mem_or_eq_of_mem_set vU with vU|vU
  ·exact hz r' vU
  ·rw[vU,Yo _ _ _ fJ,tG]
 cases q with
 |false=>refine⟨e,_,u6,ue,?_⟩;rw[JN size c ds fJ rows i _ wg hz];exact((wE rfl).imp fun _ _=>Rd.mono hT).place _ (pQ.imp fun _ _=>Rd.mono hT)
 |true=>
  obtain⟨⟨_,Sk,h1,h2,h3⟩,hn⟩:=wI rfl;obtain⟨lv,g9⟩:=hq rfl;have wF:∀k u,(place xs (i*size+c) (a.eval y).cells.toList)[k]?=some u->(i*size+c<=k/\k<i*size+c+ds.length/\(a.eval y).cells.toList[k-(i*size+c)]?=some u)\/(¬(i*size+c<=k/\k<i*size+c+ds.length)/\xs[k]?=some u):=by intro k u hu;exact yO xs _ _ fJ k u hu|>.imp (fun hh=>⟨hh.1,fJ,hh.2.2⟩) (fun hh=>⟨by rw[<-vt];exact hh.1,hh.2⟩)
  have sA:∀k d,(rows.set i (place (rows.getD i []) c ds)).flatten[k]?=some d->(i*size+c<=k/\k<i*size+c+ds.length/\ds[k-(i*size+c)]?=some d)\/(¬(i*size+c<=k/\k<i*size+c+ds.length)/\rows.flatten[k]?=some d):=by intro k d uf;rw[JN size c ds fJ rows i _ wg hz]at uf;exact yO _ _ _ (by rw[Zg rows size hz];omega) k d uf
  refine⟨e,_,u6,ue,⟨?_,Sk,fun k u d hu uf=>?_,h2,h3⟩,fun k u d hu uf vH=>?_⟩
  ·rw[Yo _ _ _ fJ,r5,Zg rows size hz,Zg _ size ue];simp
  ·rcases wF k u hu with⟨p1,p2,p3⟩|⟨p1,p3⟩
   ·rcases sA k d uf with⟨_,_,p4⟩|⟨p4,_⟩
    ·obtain⟨d',wL,vU⟩:=pQ.get _ _ p3;rw[p4]at wL;cases wL;have hs:=lv d (List.mem_of_getElem? p4)
     cases vU with
     |int k n=>exact .int _ _ _
     |bool b=>exact .bool _ _
     |str s=>exact .str _ _
     |unk v h=>exact .unk _ h _
     |nil=>simp[D.scalar]at hs
     |sl=>simp[D.scalar]at hs
    ·exact absurd ⟨p1,p2⟩ p4
   ·rcases sA k d uf with⟨p4,p5,_⟩|⟨_,p4⟩
    ·exact absurd ⟨p4,p5⟩ p1
    ·refine(h1 k u d p3 p4).Uu (fun b' wP=>setRow_other w b b' _ ?_);rintro rfl;exact(h2 k b' wP).2 vM
  ·rcases sA k d uf with⟨p4,p5,p6⟩|⟨p4,p6⟩
   ·have:=lv d (List.mem_of_getElem? p6);rw[vH]at this;cases this
   ·rcases wF k u hu with⟨p1,p2,_⟩|⟨_,p3⟩
    ·exact absurd ⟨p1,p2⟩ p4
    ·exact hn k u d p3 p6 vH
open Go.RowKit
variable{z:List At}{base:Option Addr}
theorem W4(t ty e e0:TypeId)(i:TypeInfo)(ht:P.underlying t=some (.slice e))(hi:P.info? e=some i)
  (g tw pw:Nat) (cur:Array Value) (hg:w.heap[g]?=some (.cells cur e0 (0,0)))
  (a:Addr) (m c:Nat) (news:List Value) (hl:news.length=m*i.size) (tR:∀j u,news[j]?=some u->w.cell? (a.add j)=some u) (h1:∀u∈news,u.oneCell'=true)
  (tS:tw+m<=pw) (px:tw*i.size+news.length<=cur.size):
  (Builtin.append_ #[t,t] ty #[.slice (some ⟨g,0,none⟩) tw pw,.slice (some a) m c]).run P w=
   .ok (.slice (some ⟨g,0,none⟩) (tw+m) pw) (w.setRow g (cur.toList.take (tw*i.size)++news++cur.toList.drop (tw*i.size+news.length)).toArray):=by
 have hf:=run_firstCells_some (P:=P) w i.size m a m c news hl tR;have wY:=run_storeCells_at P g (tw*i.size) e0 news 0 cur w hg (by simpa using px) h1;simp only[Nat.add_zero]at wY;simp[Builtin.append_,run_underlying ht,sizeOf,typeInfo,hi,Builtin.lenOf,tS,hf,Addr.add_lit,wY]
theorem jL(t ty e e0:TypeId)(i:TypeInfo)(z:Value)(ht:P.underlying t=some (.slice e))(hi:P.info? e=some i)(hz:i.zero=some z)
  (tE:z.cells.size=i.size) (vK:0<i.size) (v:Value) (n:Nat) (xs:List Value) (wI:w.ownsRow 0 e0 i.size v n xs)
  (a:Addr) (m c:Nat) (news:List Value) (hl:news.length=m*i.size) (tR:∀j u,news[j]?=some u->w.cell? (a.add j)=some u) (h1:∀u∈news,u.oneCell'=true)
  (mu:n+m<=maxLen) (w9:(n+m)*i.bytes<=140737488355328):
  ∃v' w' e1,(Builtin.append_ #[t,t] ty #[v,.slice (some a) m c]).run P w= .ok v' w'/\w'.ownsRow 0 e1 i.size v' (n+m) (xs++news)/\w.grownBy w' (blk v)/\
   (∀b,blk v'=some b->(w.heap.size<=b/\b<w'.heap.size)\/blk v=some b):=by
 have hlen:(xs++news).length=(n+m)*i.size:=by rw[List.length_append,wI.1,hl,Nat.add_mul]
 rcases wI.2 with⟨rfl,rfl⟩|⟨g,cap,cur,rfl,_,hg,vr,pL,uM,nQ⟩
 ·have hx:xs=[]:=List.eq_nil_of_length_eq_zero (by simpa using wI.1);subst hx;obtain⟨v',w',hr,ho,uJ,_⟩:=run_append_own (P:=P) w w.heap.size t ty e i z i.size i.bytes ht hi hz rfl rfl tE vK (.slice none 0 0) 0 [] (World.ownsRow_nil w _ e i.size) a m c news hl tR h1 mu w9 (Nat.le_refl _);refine⟨v',w',e,hr,?_,uJ,fun b hb=>.inl ?_⟩
  ·refine⟨ho.1,ho.2.imp id ?_⟩;rintro⟨g,cap,cur,hv,_,rest⟩;exact⟨g,cap,cur,hv,Nat.zero_le _,rest⟩
  ·have wP:v'.ownBlock=some b:=by
    cases v' with
    |slice o l c=>cases o with
     |none=>simp[blk]at hb
     |some ad=>simpa[blk,Value.ownBlock]using hb
    |pointer o=>rcases ho.2 with⟨hv,_⟩|⟨g,cap,cur,hv,_⟩<;>cases hv
    |_=>simp[blk]at hb
   exact ho.lt b wP
 ·by_cases tS:n+m<=cap
  ·have px:n*i.size+news.length<=cur.size:=by rw[hl,uM,<-Nat.add_mul];exact Nat.mul_le_mul_right _ tS
   have hr:=W4 (P:=P) (w:=w) t ty e e0 i ht hi g n cap cur hg a m c news hl tR h1 tS px;refine⟨_,_,e0,hr,⟨hlen,.inr ⟨g,cap,_,rfl,Nat.zero_le _,setRow_heap w g cur _ e0 _ hg,tS,pL,?_,?_⟩⟩,⟨rfl,rfl,rfl,by simp[World.setRow],fun k _ hk=>setRow_other w g k _ (fun e=>hk (by simp[blk,e]))⟩,fun b hb=>.inr (by simpa[blk]using hb)⟩
   ·simp only[List.size_toArray,List.length_append,List.length_take,List.length_drop,Array.length_toList];omega
   ·rw[nQ,<-hlen];exact List.take_left
  ·have holds:∀j u,xs[j]?=some u->w.cell? ((⟨g,0,none⟩:Addr).add j)=some u:=wI.cells (g:=g) rfl;have lA:n+m<=9223372036854775807:=by simp only[maxLen]at mu;omega
   have hr:=run_append_grow (P:=P) w t ty e i z ht hi hz ⟨g,0,none⟩ n cap xs wI.1 holds a m c news hl tR fJ fJ (growslice_fits fJ w9);have ur:=grownCap_ge w (n+m) cap e;have lB:grownCap w (n+m) cap e<=maxLen:=grownCap_le_maxLen w (n+m) cap e mu;refine⟨_,_,e,hr,⟨hlen,.inr ⟨w.heap.size,_,_,rfl,Nat.zero_le _,heap_alloc_new w.drew _,ur,lB,?_,?_⟩⟩,⟨rfl,rfl,rfl,fM,fun k hk _=>(World.grownBy_alloc w.drew _ none).block k hk fM⟩,fun b hb=>.inl ?_⟩
   ·simp only[Array.size_append,List.size_toArray,size_zeroCells,tE,wI.1,hl,<-Nat.add_mul];congr 1;omega
   ·simp only[Array.toList_append,List.append_assoc];rw[<-List.append_assoc,<-hlen];exact List.take_left
   ·simp[blk]at hb;subst hb;simp
theorem yf(t ty e:TypeId)(i:TypeInfo)(ht:P.underlying t=some (.slice e))(hi:P.info? e=some i)(base:Option Addr)(n cap:Nat)(vr:n<=cap)(hb:base=none->cap=0):
  (Builtin.append_ #[t,t] ty #[.slice base n cap,.slice none 0 0]).run P w= .ok (.slice base n cap) w:=by
 cases base with
 |none=>have:=hb rfl;subst this;have:n=0:=fJ;subst this;simp[Builtin.append_,run_underlying ht,sizeOf,typeInfo,hi,Builtin.lenOf,Builtin.firstCells]
 |some ad=>simp[Builtin.append_,run_underlying ht,sizeOf,typeInfo,hi,Builtin.lenOf,Builtin.firstCells,vr,storeCells]
theorem Rel.less(r:Rel T0 B σ a w X h)(hl:σ'.length=σ.length)(vD:∀t,σ'.get t=σ.get t)(hk:∀t j,σ'.ob t j≠ .none->σ'.ob t j=σ.ob t j):Rel T0 B σ' a w X h:=by
 have back:∀t j o,σ'.ob t j=o->o≠ .none->σ.ob t j=o:=by intro t j o ho wC;rw[<-hk t j (by rw[ho];exact wC)];exact ho
 have at_:∀{x:At}{v:Value},(fun _:At=>false) x=false->Zf (Tof T0 X) h σ.ob w x v->Zf (Tof T0 X) h σ'.ob w x v:=by
  intro x v _ rx;cases x with
  |any=>exact rx
  |d x=>exact rx
  |nil s=>exact rx
  |sref u i lo len=>exact⟨rx.1,fun q size rows ho=>rx.2.1 q size rows (back u i _ ho fM),fun size rows ho=>rx.2.2 size rows (back u i _ ho fM)⟩
  |ptr u i k c=>exact⟨rx.1,fun q size rows ho=>rx.2 q size rows (back u i _ ho fM)⟩
  |bptr u c=>exact⟨rx.1,fun cells ho=>rx.2 cells (back u 0 _ ho fM)⟩
  |fn f u=>exact⟨rx.1,fun cells ho=>rx.2 cells (back u 0 _ ho fM)⟩
  |tref u i k c o=>exact⟨rx.1,fun size rows ho=>rx.2 size rows (back u i _ ho fM)⟩
  |rptr rr c=>exact rx
 have vI:∀u i,σ'.ob u i≠ .none->σ.ob u i≠ .none:=fun u i hn=>by rw[<-hk u i hn];exact hn
 refine⟨by rw[r.size,hl],r.defers,r.hB,r.hX,r.hT,fun u hu=>?_,fun u i=>?_,fun u i b hn=>r.ub u i b (vI u i hn),fun u i b hn=>r.own u i b (vI u i hn),fun u i u' i' b hn wv=>r.inj u i u' i' b (vI u i hn) (vI u' i' wv)⟩
 ·rw[vD u];exact Yu.map at_ (KQ _) (r.slot u fJ)
 ·by_cases hn:σ'.ob u i= .none
  ·rw[hn];trivial
  ·rw[hk u i hn];exact Xo.map at_ (fun b k v hb hc=>⟨hc,hb⟩) (fun ho b=>r.ub u i b ho) (fun _ _ _=>rfl) (z8 _) (r.obj u i)
theorem St.kD(σ:St)(t j u i:Nat):(σ.ZT t j .none).ob u i=if u=t/\i=j then .none else σ.ob u i:=by
 by_cases wW:σ.ob t j= .none
 ·have key:∀(σ:St)(t u:Nat),σ.ob t j= .none->(σ.ZT t j .none).ob u i=σ.ob u i:=by
   intro σ;induction σ with
   |nil=>intro t u _;simp[St.ZT]
   |cons e σ ih=>
    intro t u ho;cases t with
    |zero=>cases u with
     |zero=>
      simp only[St.ZT,St.ob,List.getElem?_cons_zero,OU]at ho⊢;split
      ·rename_i hh;rw[hh.1,ho]
      ·rfl
     |succ u=>simp[St.ZT,St.ob]
    |succ t=>cases u with
     |zero=>simp[St.ZT,St.ob]
     |succ u=>have:=ih t u (by simpa[St.ob]using ho);simp only[St.ob,St.ZT]at this⊢;simpa using this
  rw[key σ t u wW];split
  ·rename_i hh;rw[hh.1,hh.2];exact wW
  ·rfl
 ·exact St.YU σ t j _ u i wW
theorem Rel.drop(r:Rel T0 B σ a w X h)(t j:Nat):Rel T0 B (σ.ZT t j .none) a w X h:=by
 refine r.less (St.YD _ _ _ _) (fun u=>St.Yf _ _ _ _ u) (fun u i hn=>?_);rw[St.kD]at hn⊢;split
 ·rename_i hh;rw[if_pos hh]at hn;exact absurd rfl hn
 ·rfl
def St.ZV:St->List (Nat×Nat)->St
 |σ,[]=>σ
 |σ,p::l=>St.ZV (σ.ZT p.1 p.2 .none) l
theorem St.Ja:∀(l:List (Nat×Nat))(σ:St),(σ.ZV l).length=σ.length
 |[],σ=>rfl
 |p::l,σ=>by rw[St.ZV,St.Ja l,St.YD]
theorem St.Kh:∀(l:List (Nat×Nat))(σ:St)(t:Nat),(σ.ZV l).get t=σ.get t
 |[],σ,t=>rfl
 |p::l,σ,t=>by rw[St.ZV,St.Kh l,St.Yf]
theorem St.Xg:∀(l:List (Nat×Nat))(σ:St)(t j:Nat),(σ.ZV l).ob t j=if(t,j)∈l then .none else σ.ob t j
 |[],σ,t,j=>by simp[St.ZV]
 |p::l,σ,t,j=>by
  rw[St.ZV,St.Xg l,St.kD];by_cases h1:(t,j)∈l
  ·simp[h1]
  ·by_cases h2:t=p.1/\j=p.2
   ·have:(t,j)=p:=by rw[h2.1,h2.2]
    rw[if_neg h1,if_pos h2,if_pos (by rw[this];simp)]
   ·have:¬(t,j)=p:=fun e=>h2 (by rw[<-e];exact⟨rfl,rfl⟩);simp[h1,h2,this]
theorem Rel.ZV(r:Rel T0 B σ a w X h)(l:List (Nat×Nat)):Rel T0 B (σ.ZV l) a w X h:=by
 refine r.less (St.Ja l σ) (St.Kh l σ) (fun u i hn=>?_);rw[St.Xg]at hn⊢;split
 ·rename_i hh;rw[if_pos hh]at hn;exact absurd rfl hn
 ·rfl
open Go.RowKit
theorem Jl{T:TypeId}(hz:YR P T=true):∃i z row,P.info? T=some i/\i.zero=some z/\zk P 12 T=some row/\i.size=row.length/\z.cells.size=i.size/\i.size=P.cellsOf T/\(∀T' h ob w,ZU (Zf T' h ob w) row z.cells.toList):=by
 have uG:∃row,zk P 12 T=some row:=by
  unfold YR at hz;split at hz
  ·rename_i row i hr hi;exact⟨row,hr⟩
  ·cases hz
 obtain⟨row,hr⟩:=uG;obtain⟨i,z,hi,uv,vK,wE⟩:=Us hz hr;refine⟨i,z,row,hi,uv,hr,vK,?_,by simp[Program.cellsOf,hi],wE⟩;have:=(wE (fun _ _=>True) (fun _ _=>Hd.of undef) (fun _ _=>.none) default).length
 have e1:z.cells.toList.length=z.cells.size:=Array.length_toList;omega
def zY(σ:St)(x:V)(size:Nat)(news:List (List D)):Prop:=
 match x with
 |.one (.d (.sl s rows))=>s=size/\news=rows
 |.one (.nil _)=>news=[]
 |.one (.sref t j lo len)=>∃rows,σ.ob t j= .arr false size rows/\lo+len<=rows.length/\news=cut rows lo len
 |_=>False
def qB(σ:St)(x:V)(size:Nat)(wD:List (List D))(σ1:St):Prop:=
 match x with
 |.one (.nil _)=>wD=[]/\σ1=σ
 |.one (.sref t j lo len)=>∃rows,σ.ob t j= .arr false size rows/\lo=0/\len<=rows.length/\wD=rows.take len/\σ1=σ.ZT t j .none
 |_=>False
theorem Mu(v:Value)(n:Nat):blk (Pb v n)=blk v:=by
 cases v with
 |slice o _ _=>cases o<;>rfl
 |_=>rfl
theorem Rf(rows:List (List D))(size:Nat)(hz:∀r∈rows,r.length=size)(len:Nat)(hle:len<=rows.length):(rows.take len).flatten=rows.flatten.take (len*size):=by
 induction rows generalizing len with
 |nil=>simp
 |cons r rows ih=>
  cases len with
  |zero=>simp
  |succ len=>
   have h1:=hz r fM;have h2:=ih (fun q hq=>hz q (by simp[hq])) len (by simpa using hle);have h3:(len+1)*size=r.length+len*size:=by rw[Nat.add_mul,h1];omega
   rw[List.take_succ_cons,List.flatten_cons,List.flatten_cons,h2,h3,List.take_length_add_append]
theorem PA{e:TypeId}{len:Nat}{xs:List Value}(ho:w.ownsRow 0 e size v n xs)(hle:len<=n):w.ownsRow 0 e size (Pb v len) len (xs.take (len*size)):=by
 have hm:len*size<=n*size:=Nat.mul_le_mul_right _ hle;refine⟨by rw[List.length_take,ho.1];omega,?_⟩;rcases ho.2 with⟨rfl,rfl⟩|⟨g,cap,cur,rfl,hx,hg,vr,pL,uM,uw⟩
 ·have:len=0:=fJ;subst this;exact .inl ⟨rfl,rfl⟩
 ·refine .inr ⟨g,cap,cur,rfl,hx,hg,fJ,pL,uM,?_⟩;rw[<-uw,List.take_take];congr 1;omega
theorem S5(r:Rel T0 B σ a w X h){x:V}(hs:zY σ x size news)(hv:Yu (Tof T0 X) h σ.ob w x v):
  (∀n∈news,n.length=size)/\((v= .slice none 0 0/\news=[])\/∃ad c xs,v= .slice (some ad) news.length c/\(∀j u,xs[j]?=some u->w.cell? (ad.add j)=some u)/\ZU (Rd (Tof T0 X) w) xs news.flatten):=by
 unfold zY at hs;split at hs
 ·rename_i s rows;obtain⟨rfl,rfl⟩:=hs;refine⟨SF (show Rd _ _ _ _ from hv),?_⟩;cases(show Rd _ _ _ _ from hv)with
  |nil=>exact .inl ⟨rfl,rfl⟩
  |sl ad len cap s rows g hl hc hm hz sN hg hr=>
   refine .inr ⟨ad,cap,(List.range news.flatten.length).map g,by rw[hl],fun j u hu=>?_,?_⟩
   ·rw[List.getElem?_map]at hu;rcases Nat.lt_or_ge j news.flatten.length with hj|hj
    ·rw[List.getElem?_range hj]at hu;cases hu;have wC:news.flatten≠[]:=by intro he;rw[he]at hj;simp at hj
     have:=(hg j _ (List.getElem?_eq_getElem hj)).1;obtain⟨b,off,sp⟩:=ad;have:=sN wC;simp at this;subst this;rw[KL];assumption
    ·rw[List.getElem?_eq_none (by simpa using hj)]at hu;cases hu
   ·refine ZU.Jq fM (fun k u d hu hd=>?_);rw[List.getElem?_map]at hu;have hk:=(List.getElem?_eq_some_iff.1 hd).1
    rw[List.getElem?_range hk]at hu;cases hu;exact hr k d hd
 ·subst hs;exact⟨(by intro n hn;cases hn),.inl ⟨hv,rfl⟩⟩
 ·rename_i t j lo len;obtain⟨rows,ho,hle,rfl⟩:=hs;have h0:=r.obj t j
  rw[ho]at h0;obtain⟨e,xs,⟨hl,wI⟩,hz,wE⟩:=h0;refine⟨fun x hx=>hz x (List.mem_of_mem_drop (List.mem_of_mem_take hx)),?_⟩;have tf:Zf (Tof T0 X) h σ.ob w (.sref t j lo len) v:=hv
  obtain⟨_,_,_,base,cap,rfl,vh,_,sQ,hb⟩:=tf.2.1 _ size rows ho;have wb:(cut rows lo len).length=len:=Yi _ _ _ hle
  by_cases w7:0<len
  ·obtain⟨b,tT,hh,rfl⟩:=hb w7;rcases wI with⟨hn,_⟩|⟨g,p7,cur,tf,_,m0,vr,uE,uM,uw⟩
   ·rw[hh]at hn;cases hn
   ·rw[hh]at tf;cases tf;refine .inr ⟨_,cap,cut xs (lo*size) (len*size),by rw[wb],fun j u hu=>?_,?_⟩
    ·have h1:=KO _ _ _ _ _ hu;rw[KL];refine Qp m0 _ _ ?_;rw[<-uw,List.getElem?_take]at h1;split at h1
     ·exact h1
     ·cases h1
    ·have rC:xs.length=rows.length*size:=by rw[wE.length,Zg rows size hz]
     have hmul:lo*size+len*size<=rows.length*size:=by rw[<-Nat.add_mul];exact Nat.mul_le_mul_right _ hle
     refine ZU.Jq ?_ (fun k u d hu hd=>?_)
     ·rw[Yi _ _ _ fJ,Zg (cut rows lo len) size (fun x hx=>hz x (List.mem_of_mem_drop (List.mem_of_mem_take hx))),wb]
     ·have h1:=KO _ _ _ _ _ hu;have h2:=Kc rows size lo len hz k d hd;obtain⟨d',wL,hr⟩:=wE.get _ _ h1;rw[h2]at wL;cases wL;exact hr
  ·have:len=0:=fJ;subst this;have uj:cut rows lo 0=[]:=by simp[cut]
   rw[uj];cases base with
   |none=>have:=sQ rfl;subst this;exact .inl ⟨rfl,rfl⟩
   |some ad=>exact .inr ⟨ad,cap,[],rfl,fM,.nil⟩
 ·exact hs.elim
theorem PE(r:Rel T0 B σ a w X h){t:TypeId}(wA:o.op= .call ⟨.builtin .append,#[x,y],#[t,t]⟩)(hd:o.dst=some d)
  (tc:gOf (look P σ t x)=true) (te:gOf (look P σ t y)=true) (ht:Zy P t=true) (hz:YR P (ZD P t)=true) (w7:0<P.cellsOf (ZD P t))
  (uD:qB σ (unc (look P σ t x)) (P.cellsOf (ZD P t)) wD σ1) (vg:zY σ (unc (look P σ t y)) (P.cellsOf (ZD P t)) news) (w8:σ1.fresh d=true)
  (w9:(wD.length+news.length)*P.bytesOf (ZD P t)<=140737488355328) (tx:wD.length+news.length<=9223372036854775807)
  (hK:∀a' w',Xx T0 B (σ1.new d (.one (.sref d 0 0 (wD.length+news.length))) [.arr false (P.cellsOf (ZD P t)) (wD++news)]) a' w'->YL B w w'->K a' w'):o.wp P a w K Q:=by
 obtain⟨ti,hu,hi,uU⟩:=YM ht;obtain⟨i,z,row,vW,uv,uG,uW,tE,vi,uF⟩:=Jl hz;rw[hi]at vW;cases vW;have r4:P.bytesOf (ZD P t)=ti.bytes:=eW
 rw[r4]at w9;rw[<-vi]at uD vg w7 hK;have sf:=r.arg (P:=P) t x rfl tc
 have oB:=r.arg (P:=P) t y rfl te;obtain⟨pP,vH⟩:=S5 r vg oB;have vZ:∃e0 xs,w.ownsRow 0 e0 ti.size (a.eval x) wD.length xs/\(∀q∈wD,q.length=ti.size)/\ZU (Rd (Tof T0 X) w) xs wD.flatten/\Rel T0 B σ1 a w X h/\
   (∀b,blk (a.eval x)=some b->¬B b/\¬X b/\b<w.heap.size/\∀u j,σ1.ob u j≠ .none->¬(h u j).u b):=by
  unfold qB at uD;split at uD
  ·rename_i s heq;obtain⟨rfl,rfl⟩:=uD;rw[heq]at sf;have he:a.eval x= .slice none 0 0:=sf
   rw[he];exact⟨0,[],World.ownsRow_nil w 0 0 _,fu,.nil,r,(fun b hb=>by cases hb)⟩
  ·rename_i u j lo len heq;obtain⟨rows,ho,rfl,hle,rfl,rfl⟩:=uD;rw[heq]at sf;have rK:Zf (Tof T0 X) h σ.ob w (.sref u j 0 len) (a.eval x):=sf
   obtain⟨_,_,tA,_⟩:=rK.2.1 _ _ _ ho;have he:a.eval x=Pb (h u j).v len:=tA rfl
   have h0:=r.obj u j;rw[ho]at h0;obtain⟨e,xs,wI,r6,wE⟩:=h0;have wW:σ.ob u j≠ .none:=fi;have mn:(rows.take len).length=len:=eO;have vV:(rows.take len).flatten=rows.flatten.take (len*ti.size):=Rf rows ti.size r6 len hle;refine⟨e,xs.take (len*ti.size),by rw[he,mn];exact PA wI hle,fun q hq=>r6 q (List.mem_of_mem_take hq),by rw[vV];exact wE.take _,r.drop u j,fun b hb=>?_⟩;rw[he,Mu]at hb;have lz:=r.ub u j b wW hb;have u6:=r.own u j b wW lz;refine⟨u6.1,u6.2.1,u6.2.2,fun u' j' wC wP=>?_⟩;have lC:σ.ob u' j'≠ .none:=by
    intro hh;rw[St.YU σ u j _ u' j' wW]at wC;split at wC
    ·exact wC rfl
    ·exact wC hh
   have:=r.inj u j u' j' b wW lC lz wP;obtain⟨rfl,rfl⟩:=this;rw[St.YU σ u j _ u j wW]at wC;simp at wC
  ·exact uD.elim
 obtain⟨e0,xs,wI,nO,rF,r1,vM⟩:=vZ;have lD:∀q∈wD++news,q.length=ti.size:=by
  intro q hq;rcases List.mem_append.1 hq with hq|hq
  ·exact nO q hq
  ·exact pP q hq
 have key:∀(v':Value)(w':World)(e1:TypeId)(ys:List Value),(Builtin.append_ #[t,t] o.type #[a.eval x,a.eval y]).run P w= .ok v' w'->w'.ownsRow 0 e1 ti.size v' (wD.length+news.length) (xs++ys)->
   ZU (Rd (Tof T0 X) w) ys news.flatten->w.grownBy w' (blk (a.eval x))->(∀b,blk v'=some b->(w.heap.size<=b/\b<w'.heap.size)\/blk (a.eval x)=some b)->o.wp P a w K Q:=by
  intro v' w' e1 ys wU wV rE uJ pN;have wO:=St.JG w8
  have hT:∀b k v,Tof T0 X b k->w.cell? ⟨b,k,none⟩=some v->w'.cell? ⟨b,k,none⟩=some v/\Tof T0 X b k:=by
   intro b k v hb wF;refine⟨?_,hb⟩;have wC:some b≠blk (a.eval x):=by
    intro e;have h1:=vM b e.symm
    rcases hb with hb|hb
    ·exact h1.1 (r.hT b k hb)
    ·exact h1.2.1 hb
   rw[World.cell?_of_block (uJ.block b (r.Tlt hb) wC)];exact wF
  unfold Oper.wp;have rM:(execOp a.eval o).run P w= .ok (.value v') w':=by simp only[execOp,wA,resolve,invoke,builtin,Sem.run_bind,Sem.run_pure,Result.andThen_ok,List.map_toArray,List.map_cons,List.map_nil,wU]
  rw[rM,Oper.upon_value,hd];refine hK _ _ ⟨X,fun u j=>if u=d then Hd.of v' else h u j,?_⟩ ⟨uJ.os,uJ.tape,uJ.output,uJ.size,fun k hk=>uJ.block k (r.hB k hk) (fun e=>(vM k e.symm).1 hk)⟩;have vS:(σ1.new d (.one (.sref d 0 0 (wD.length+news.length))) [.arr false ti.size (wD++news)]).ob d 0= .arr false ti.size (wD++news):=eC
  have v7:w'.ownsRow 0 e1 ti.size v' (wD++news).length (xs++ys):=by rw[List.length_append];exact wV
  have uY:ZU (Rd (Tof T0 X) w') (xs++ys) (wD++news).flatten:=by rw[List.flatten_append];exact(rF.imp fun _ _=>Rd.mono hT).append (rE.imp fun _ _=>Rd.mono hT)
  refine r1.IY w8 (fun b=>blk (a.eval x)=some b) uJ.size (fun k hk wC=>uJ.block k hk (fun e=>wC e.symm)) (fun b hb=>⟨(vM b hb).1,(vM b hb).2.1,fun u j _ wC=>(vM b hb).2.2.2 u j wC⟩) (fun _ hb=>hb) (fun _ hb=>.inl hb) _ _ [.arr false ti.size (wD++news)] (fun _=>Hd.of v') ?_ (fun j=>?_) (fun j b _ hb=>hb) (fun j b wC wP=>?_) (fun j j' b wC wq _ _=>?_)
  ·refine⟨JC wV,fun q' wi wQ hh=>?_,fun wi wQ hh=>by rw[vS]at hh;cases hh⟩;rw[vS]at hh;cases hh;simp only[if_true,List.length_append];have:=jq v7
   rwa[List.length_append]at this
  ·cases j with
   |zero=>exact⟨e1,xs++ys,v7,lD,uY⟩
   |succ j=>simp[Zq,Xo]
  ·rcases pN b wP with h1|h1
   ·exact⟨.inl h1.1,fun hx=>by have:=(r.hX b hx).2;omega,h1.2⟩
   ·have h2:=vM b h1;exact⟨.inr h1,h2.2.1,by have:=uJ.size;omega⟩
  ·have:∀j,Zq [Ob.arr false ti.size (wD++news)] j≠ .none->j=0:=by
    intro j hj;cases j with
    |zero=>rfl
    |succ j=>simp[Zq]at hj
   rw[this j wC,this j' wq]
 rcases vH with⟨rj,rfl⟩|⟨ad,c,ys,rj,wF,rE⟩
 ·have wj:∃base cap,a.eval x= .slice base wD.length cap/\wD.length<=cap/\(base=none->cap=0):=by
   rcases wI.2 with⟨h1,h2⟩|⟨g,cap,cur,h1,_,_,vr,_⟩
   ·exact⟨none,0,by rw[h1,h2],fJ,fun _=>rfl⟩
   ·exact⟨_,cap,h1,vr,(fun hh=>by cases hh)⟩
  obtain⟨base,cap,hex,vr,nP⟩:=wj;refine key (a.eval x) w e0 [] ?_ (by simpa using wI) .nil ⟨rfl,rfl,rfl,Nat.le_refl _,fun _ _ _=>rfl⟩ (fun b hb=>.inr hb);rw[hex,rj];exact yf t o.type _ ti hu hi base wD.length cap vr nP
 ·have vt:ys.length=news.length*ti.size:=by rw[rE.length,Zg news ti.size pP]
  obtain⟨v',w',e1,wU,wV,uJ,pN⟩:=jL (P:=P) (w:=w) t o.type _ e0 ti z hu hi uv tE fJ (a.eval x) wD.length xs wI ad news.length c ys vt wF
   (fun u v5=>by
    obtain⟨k,hk⟩:=List.mem_iff_getElem?.1 v5;obtain⟨d',_,vU⟩:=rE.get k u hk;exact Rd.YN vU) (by simp only[maxLen];omega) w9
  refine key v' w' e1 ys ?_ wV rE uJ pN;rw[rj];exact wU
open Go.RowKit
variable{parts:Array (Nat×Operand)}
def WL(P:Program)(σ:St)(T:TypeId)(size:Nat):List (Nat×Operand)->Nat->List (List D)->Prop
 |[],_,rs=>rs=[]
 |(i,x)::ps,k,rs=>i=k/\gOf (look P σ T x)=true/\(unc (look P σ T x)).flat=true/\X9 (unc (look P σ T x)).cells=true/\
   ∃r rest,rowOf σ (unc (look P σ T x)).cells=some r/\r.length=size/\WL P σ T size ps (k+1) rest/\rs=r::rest
theorem Vz{α:Type}(l:List α)(o:Nat)(xs ys:List α)(hl:o+(xs++ys).length<=l.length):place (place l o xs) (o+xs.length) ys=place l o (xs++ys):=by
 simp only[List.length_append]at hl;unfold place;have h1:(l.take o++xs).length=o+xs.length:=fc
 have h2:(l.take o++xs++l.drop (o+xs.length)).take (o+xs.length)=l.take o++xs:=by rw[List.take_append_of_le_length fJ,List.take_of_length_le fJ]
 have h3:(l.take o++xs++l.drop (o+xs.length)).drop (o+xs.length+ys.length)=l.drop (o+(xs++ys).length):=by rw[show o+xs.length+ys.length=(l.take o++xs).length+ys.length by omega,List.drop_length_add_append,List.drop_drop];congr 1;simp;omega
 rw[h2,h3];simp
theorem VW(r:Rel T0 B σ a w X h)(T:TypeId)(size:Nat):∀(ps:List (Nat×Operand))(k:Nat)(rs:List (List D))(cells:Array Value),WL P σ T size ps k rs->(k+ps.length)*size<=cells.size->
   ∃wG ys,Instr.fill (fun i=>some (i*size,size)) cells (ps.map fun x=>(x.1,a.eval x.2))=some wG/\wG.toList=place cells.toList (k*size) ys/\ZU (Rd (Tof T0 X) w) ys rs.flatten/\(∀q∈rs,q.length=size)/\rs.length=ps.length
 |[],k,rs,cells,hb,_=>eD
 |(i,x)::ps,k,rs,cells,hb,hl=>by
  obtain⟨rfl,hg,hf,wY,r0,rest,um,hlen,hb,rfl⟩:=hb;have hx:=yx hf (r.arg (P:=P) T x rfl hg)
  have pQ:=r.rowOf true um hx (fun _=>wY);simp only[if_true]at pQ;have rH:=pQ.length;have e1:cells.toList.length=cells.size:=Array.length_toList;have e2:(a.eval x).cells.toList.length=(a.eval x).cells.size:=Array.length_toList;have hmul:(i+(ps.length+1))*size=i*size+size+ps.length*size:=eN;simp only[List.length_cons]at hl;have heq:=qR (i*size) (a.eval x).cells cells fJ;have uW:((a.eval x).cells.zipIdx.foldl (fun cs x=>cs.setIfInBounds (i*size+x.2) x.1) cells).size=cells.size:=by rw[<-Array.length_toList,heq,Yo _ _ _ fJ,e1]
  have nU:(i+1+ps.length)*size=i*size+size+ps.length*size:=eN;obtain⟨wG,ys,h1,h2,h3,h4,h5⟩:=VW r T size ps (i+1) rest _ hb (by rw[uW];omega);have vt:ys.length=ps.length*size:=by rw[h3.length,Zg rest size h4,h5]
  refine⟨wG,(a.eval x).cells.toList++ys,?_,?_,?_,?_,by simp[h5]⟩
  ·simp only[List.map_cons,Instr.fill];rw[if_neg fc];exact h1
  ·rw[h2,heq];rw[show(i+1)*size=i*size+(a.eval x).cells.toList.length by rw[Nat.add_mul];omega];exact Vz _ _ _ _ fc
  ·rw[List.flatten_cons];exact pQ.append h3
  ·intro q hq;rcases List.mem_cons.1 hq with rfl|hq
   ·exact hlen
   ·exact h4 q hq
theorem VV(r:Rel T0 B σ a w X h){T:TypeId}(wA:o.op= .buildSlice T n parts)(hd:o.dst=some d)(w8:σ.fresh d=true)
  (ht:Zy P T=true) (hz:YR P (ZD P T)=true) (w7:0<P.cellsOf (ZD P T)) (hn:parts.toList.length=n) (lu:n*P.cellsOf (ZD P T)<=16777216) (hb:WL P σ (ZD P T) (P.cellsOf (ZD P T)) parts.toList 0 rows)
  (hK:∀a' w',Xx T0 B (σ.new d (.one (.sref d 0 0 rows.length)) [.arr false (P.cellsOf (ZD P T)) rows]) a' w'->YL B w w'->K a' w'):o.wp P a w K Q:=by
 obtain⟨ti,hu,hi,uU⟩:=YM ht;obtain⟨i,z,row,vW,uv,uG,uW,tE,vi,uF⟩:=Jl hz;rw[hi]at vW;cases vW;have uK:(zeroValue (ZD P T)).run P w= .ok z w:=by simp[zeroValue,typeInfo,hi,uv]
 obtain⟨zero,hzero⟩:∃zero:Array Value,(n*P.cellsOf (ZD P T)=0->zero=#[])/\(¬n*P.cellsOf (ZD P T)=0->zero=z.cells):=by
  by_cases h0:n*P.cellsOf (ZD P T)=0
  ·exact⟨#[],fun _=>rfl,fun hh=>absurd h0 hh⟩
  ·exact⟨z.cells,fun hh=>absurd hh h0,fun _=>rfl⟩
 obtain⟨wG,ys,h1,h2,h3,h4,h5⟩:=VW r (ZD P T) (P.cellsOf (ZD P T)) parts.toList 0 rows ((Array.range (n*P.cellsOf (ZD P T))).map (zero[·%zero.size]!)) hb (by simp[hn]);have vt:ys.length=n*P.cellsOf (ZD P T):=by rw[h3.length,Zg rows _ h4,h5,hn]
 have wb:wG.toList=ys:=by rw[h2];unfold place;simp[vt]
 have uZ:(parts.map fun(x:Nat×Operand)=>(x.1,a.eval x.2)).toList=parts.toList.map fun x=>(x.1,a.eval x.2):=fM;have wU:(execOp a.eval o).run P w= .ok (.value (.slice (some ⟨w.heap.size,0,none⟩) n n)) (w.alloc (.cells wG (ZD P T))):=by
  have uN:¬(n*P.cellsOf (ZD P T)>2^24):=fJ;by_cases h0:n*P.cellsOf (ZD P T)=0
  ·have ta:=hzero.1 h0;subst ta;simp only[execOp,wA,Instr.buildSlice,Sem.run_bind,run_underlying hu,Result.andThen_ok,XW hi,if_neg uN,if_pos h0,uZ,h1,newRow,Sem.run_pure,run_newObj_alloc]
  ·have ta:=hzero.2 h0;subst ta;simp only[execOp,wA,Instr.buildSlice,Sem.run_bind,run_underlying hu,Result.andThen_ok,XW hi,if_neg uN,if_neg h0,uK,uZ,h1,newRow,Sem.run_pure,run_newObj_alloc]
 unfold Oper.wp;rw[wU,Oper.upon_value,hd];have hlen:rows.length=n:=by rw[h5,hn]
 have hT:∀b k v,Tof T0 X b k->w.cell? ⟨b,k,none⟩=some v->(w.alloc (.cells wG (ZD P T))).cell? ⟨b,k,none⟩=some v/\Tof T0 X b k:=by intro b k v hb wF;refine⟨?_,hb⟩;rw[World.cell?_of_block ((World.grownBy_alloc w (.cells wG (ZD P T)) none).block b (r.Tlt hb) fM)];exact wF
 have rN:wG.size=n*P.cellsOf (ZD P T):=by rw[<-Array.length_toList,wb,vt]
 have uE:n<=maxLen:=by have:n<=n*P.cellsOf (ZD P T):=Nat.le_mul_of_pos_right _ w7;simp only[maxLen];omega
 have:=r.L0 w8 (World.grownBy_alloc w (.cells wG (ZD P T)) none) (.slice (some ⟨w.heap.size,0,none⟩) n n) (size:=P.cellsOf (ZD P T)) (rows:=rows)
  ⟨ZD P T,ys,⟨by rw[vt,hlen],.inr ⟨w.heap.size,n,wG,by rw[hlen],Nat.zero_le _,heap_alloc_new w _,fJ,uE,rN,by rw[wb,hlen,List.take_of_length_le fJ]⟩⟩,h4,h3.imp fun _ _=>Rd.mono hT⟩
  (fun b hb=>by simp[blk]at hb;subst hb;exact⟨Nat.le_refl _,fM⟩)
 exact hK _ _ this.1 this.2
theorem RO(r:Rel T0 B σ a w X h){T:TypeId}(wA:o.op= .buildSlice T n parts)(hd:o.dst=some d)
  (ht:Zy P T=true) (hz:YR P (ZD P T)=true) (w7:0<P.cellsOf (ZD P T)) (hn:parts.toList.length=n) (lu:n*P.cellsOf (ZD P T)<=16777216) (hb:WL P σ (ZD P T) (P.cellsOf (ZD P T)) parts.toList 0 rows)
  (hK:∀a' w',Xx T0 B (σ.put d (.one (.d (.sl (P.cellsOf (ZD P T)) rows)))) a' w'->YL B w w'->K a' w'):o.wp P a w K Q:=by
 obtain⟨ti,hu,hi,uU⟩:=YM ht;obtain⟨i,z,row,vW,uv,uG,uW,tE,vi,uF⟩:=Jl hz;rw[hi]at vW;cases vW;have uK:(zeroValue (ZD P T)).run P w= .ok z w:=by simp[zeroValue,typeInfo,hi,uv]
 obtain⟨zero,hzero⟩:∃zero:Array Value,(n*P.cellsOf (ZD P T)=0->zero=#[])/\(¬n*P.cellsOf (ZD P T)=0->zero=z.cells):=by
  by_cases h0:n*P.cellsOf (ZD P T)=0
  ·exact⟨#[],fun _=>rfl,fun hh=>absurd h0 hh⟩
  ·exact⟨z.cells,fun hh=>absurd hh h0,fun _=>rfl⟩
 obtain⟨wG,ys,h1,h2,h3,h4,h5⟩:=VW r (ZD P T) (P.cellsOf (ZD P T)) parts.toList 0 rows ((Array.range (n*P.cellsOf (ZD P T))).map (zero[·%zero.size]!)) hb (by simp[hn]);have vt:ys.length=n*P.cellsOf (ZD P T):=by rw[h3.length,Zg rows _ h4,h5,hn]
 have wb:wG.toList=ys:=by rw[h2];unfold place;simp[vt]
 have uZ:(parts.map fun(x:Nat×Operand)=>(x.1,a.eval x.2)).toList=parts.toList.map fun x=>(x.1,a.eval x.2):=fM;have wU:(execOp a.eval o).run P w= .ok (.value (.slice (some ⟨w.heap.size,0,none⟩) n n)) (w.alloc (.cells wG (ZD P T))):=by
  have uN:¬(n*P.cellsOf (ZD P T)>2^24):=fJ;by_cases h0:n*P.cellsOf (ZD P T)=0
  ·have ta:=hzero.1 h0;subst ta;simp only[execOp,wA,Instr.buildSlice,Sem.run_bind,run_underlying hu,Result.andThen_ok,XW hi,if_neg uN,if_pos h0,uZ,h1,newRow,Sem.run_pure,run_newObj_alloc]
  ·have ta:=hzero.2 h0;subst ta;simp only[execOp,wA,Instr.buildSlice,Sem.run_bind,run_underlying hu,Result.andThen_ok,XW hi,if_neg uN,if_neg h0,uK,uZ,h1,newRow,Sem.run_pure,run_newObj_alloc]
 unfold Oper.wp;rw[wU,Oper.upon_value,hd];have hlen:rows.length=n:=by rw[h5,hn]
 have sZ:=World.grownBy_alloc w (.cells wG (ZD P T)) none;have r2:=r.grow (X':=fun b=>X b\/b=w.heap.size) sZ (fun b hb=>.inl hb) (fun b hb=>hb.imp id (fun hh=>by subst hh;exact⟨Nat.le_refl _,fM⟩));have hT:∀b k v,Tof T0 X b k->w.cell? ⟨b,k,none⟩=some v->(w.alloc (.cells wG (ZD P T))).cell? ⟨b,k,none⟩=some v/\Tof T0 (fun b=>X b\/b=w.heap.size) b k:=by intro b k v hb wF;refine⟨?_,hb.imp id .inl⟩;rw[World.cell?_of_block (sZ.block b (r.Tlt hb) fM)];exact wF
 have rN:wG.size=n*P.cellsOf (ZD P T):=by rw[<-Array.length_toList,wb,vt]
 have uE:n<=maxLen:=by have:n<=n*P.cellsOf (ZD P T):=Nat.le_mul_of_pos_right _ w7;simp only[maxLen];omega
 refine hK _ _ ⟨_,_,r2.put d _ _ ?_⟩ (YL.xb sZ r.hB);exact MA (e:=ZD P T) (xs:=ys) ⟨by rw[vt,hlen],.inr ⟨w.heap.size,n,wG,by rw[hlen],Nat.zero_le _,heap_alloc_new w _,fJ,uE,rN,by rw[wb,hlen,List.take_of_length_le fJ]⟩⟩ h4 (fun b k hb=>by simp[blk]at hb;subst hb;exact .inr (.inr rfl)) (h3.imp fun _ _=>Rd.mono hT)
def zD:List At->Option (List D)
 |[]=>some []
 |.d x::xs=>(zD xs).map (x::·)
 |.nil s::xs=>(zD xs).map (.sl s []::·)
 |_=>none
theorem Rq{T:CS}{ob:Nat->Nat->Ob}:∀{xs:List At}{ds:List D}{vs:List Value},zD xs=some ds->ZU (Zf T h ob w) xs vs->ZU (Rd T w) vs ds
 |[],ds,vs,hz,wE=>by cases wE;simp[zD]at hz;subst hz;exact .nil
 |x::xs,ds,vs,hz,wE=>by
  cases wE with
  |cons hx wE=>
   cases x with
   |d x=>simp only[zD,Option.map_eq_some_iff]at hz;obtain⟨sV,ue,rfl⟩:=hz;exact .cons hx (Rq ue wE)
   |nil s=>simp only[zD,Option.map_eq_some_iff]at hz;obtain⟨sV,ue,rfl⟩:=hz;cases hx;exact .cons (.nil _) (Rq ue wE)
   |any=>simp[zD]at hz
   |sref=>simp[zD]at hz
   |ptr=>simp[zD]at hz
   |bptr=>simp[zD]at hz
   |fn=>simp[zD]at hz
   |rptr=>simp[zD]at hz
   |tref=>simp[zD]at hz
theorem zA{α:Type}(z:List α)(n k:Nat)(hk:k<n*z.length):(List.replicate n z).flatten[k]?=z[k%z.length]?:=by
 induction n generalizing k with
 |zero=>simp at hk
 |succ n ih=>
  rw[List.replicate_succ,List.flatten_cons];rcases Nat.lt_or_ge k z.length with wO|ur
  ·rw[List.getElem?_append_left wO,Nat.mod_eq_of_lt wO]
  ·rw[List.getElem?_append_right ur,ih (k-z.length) (by rw[Nat.add_mul]at hk;omega)];congr 1;rw[Nat.mod_eq_sub_mod ur]
theorem Uj(r:Rel T0 B σ a w X h){T:TypeId}(wA:o.op= .makeSlice T x x)(hd:o.dst=some d)(w8:σ.fresh d=true)
  (ht:Zy P T=true) (hz:YR P (ZD P T)=true) (uG:zk P 12 (ZD P T)=some z) (nr:zD z=some zr) (w7:0<P.cellsOf (ZD P T)) (hx:yo P σ x k (n:Int)) (r4:P.bytesOf (ZD P T)*n<=281474976710656) (tx:n<=9223372036854775807)
  (hK:∀a' w',Xx T0 B (σ.new d (.one (.sref d 0 0 n)) [.arr false (P.cellsOf (ZD P T)) (List.replicate n zr)]) a' w'->YL B w w'->K a' w'):o.wp P a w K Q:=by
 obtain⟨ti,hu,hi,uU⟩:=YM ht;obtain⟨i,zv,row,vW,uv,rG,uW,tE,vi,uF⟩:=Jl hz;rw[hi]at vW;cases vW;rw[uG]at rG;cases rG;have hex:=JY r hx
 have oC:(ti.bytes:Int)*(n:Int)<=281474976710656:=by have:P.bytesOf (ZD P T)=ti.bytes:=eW;rw[this]at r4;have h:((ti.bytes*n:Nat):Int)<=281474976710656:=fJ;rwa[Int.natCast_mul]at h
 have wU:=run_make (P:=P) w T (ZD P T) ti zv hu hi uv k k n n fJ (Int.le_refl _) oC fJ;simp only[Int.toNat_natCast]at wU;unfold Oper.wp;simp only[execOp,wA,hex,Sem.run_bind,wU,Result.andThen_ok,Sem.run_pure,Oper.upon_value,hd];have r8:=Rq nr (uF (Tof T0 X) h σ.ob w);have gF:=r8.length;have e1:zv.cells.toList.length=zv.cells.size:=Array.length_toList;have sB:zr.length=ti.size:=fJ;have hT:∀b k v,Tof T0 X b k->w.cell? ⟨b,k,none⟩=some v->(w.alloc (.cells (madeCells zv.cells (n*ti.size)) (ZD P T))).cell? ⟨b,k,none⟩=some v/\Tof T0 X b k:=by intro b k v hb wF;refine⟨?_,hb⟩;rw[World.cell?_of_block ((World.grownBy_alloc w (.cells (madeCells zv.cells (n*ti.size)) (ZD P T)) none).block b (r.Tlt hb) fM)];exact wF
 have ua:(madeCells zv.cells (n*ti.size)).toList.length=n*ti.size:=by rw[Array.length_toList,size_madeCells]
 have rO:∀q u,(madeCells zv.cells (n*ti.size)).toList[q]?=some u->zv.cells.toList[q%ti.size]?=some u:=by
  intro q u hq;have wO:q<n*ti.size:=fv
  have oD:q%ti.size<zv.cells.size:=by rw[tE];exact Nat.mod_lt _ fJ
  have:(madeCells zv.cells (n*ti.size)).toList[q]?=some (zv.cells[q%zv.cells.size]!):=by simp[madeCells,wO]
  rw[this]at hq;cases hq;rw[tE];simp[oD]
 have uY:ZU (Rd (Tof T0 X) w) (madeCells zv.cells (n*ti.size)).toList (List.replicate n zr).flatten:=by
  refine ZU.Jq (by rw[ua,Zg _ ti.size (by intro q hq;rw[List.eq_of_mem_replicate hq];exact sB)];simp) (fun q u dd hq uf=>?_);have wO:q<n*ti.size:=fv
  rw[zA zr n q (by rw[sB];exact wO),sB]at uf;obtain⟨d',wL,vU⟩:=r8.get _ _ (rO q u hq);rw[uf]at wL;cases wL;exact vU
 have:=r.L0 w8 (World.grownBy_alloc w (.cells (madeCells zv.cells (n*ti.size)) (ZD P T)) none) (.slice (some ⟨w.heap.size,0,none⟩) n n) (size:=P.cellsOf (ZD P T)) (rows:=List.replicate n zr)
  ⟨ZD P T,(madeCells zv.cells (n*ti.size)).toList,⟨by rw[ua,vi];simp,.inr ⟨w.heap.size,n,_,fM,Nat.zero_le _,heap_alloc_new w _,fM,by simp only[maxLen];omega,by rw[size_madeCells,vi],by rw[List.take_of_length_le (by rw[ua,vi];simp)]⟩⟩,
   (by intro q hq;rw[List.eq_of_mem_replicate hq];omega),uY.imp fun _ _=>Rd.mono hT⟩
  (fun b hb=>by simp[blk]at hb;subst hb;exact⟨Nat.le_refl _,fM⟩)
 rw[List.length_replicate]at this;exact hK _ _ this.1 this.2
open Go.RowKit
def QG(l:List UInt8):List (List D):=l.map fun b=>[D.int .u8 (b.toNat:Int)]
def WX(P:Program)(t:TypeId):Bool:=match P.underlying t with
 |some (.slice e)=>(match P.underlying e with|some (.int .u8)=>true|_=>false)
 |_=>false
theorem UF{t:TypeId}(ht:WX P t=true):∃e,P.underlying t=some (.slice e)/\P.underlying e=some (.int .u8):=by
 unfold WX at ht;split at ht
 ·rename_i e he;split at ht
  ·rename_i h2;exact⟨e,he,h2⟩
  ·cases ht
 ·cases ht
theorem xv(l:List UInt8):(QG l).flatten=l.map fun b=>D.int .u8 (b.toNat:Int):=by
 induction l with
 |nil=>rfl
 |cons b l ih=>simp only[QG,List.map_cons,List.flatten_cons]at ih⊢;rw[ih];rfl
theorem j0(r:Rel T0 B σ a w X h){S T:TypeId}(wA:o.op= .convert S T x)(hg:gOf (look P σ S x)=true)(hS:WX P S=true)(hT:qF P T=true)
  (vg:zY σ (unc (look P σ S x)) 1 (QG l)):∃val,(execOp a.eval o).run P w= .ok (.value val) w/\Yu (Tof T0 X) h σ.ob w (.one (.d (.str ⟨l.toArray⟩))) val:=by
 obtain⟨e,hs,he⟩:=UF hS;have hv:=r.arg (P:=P) S x rfl hg
 obtain⟨_,vH⟩:=S5 r vg hv;refine⟨.string ⟨l.toArray⟩,?_,.str _⟩;rcases vH with⟨hex,uj⟩|⟨ad,c,xs,hex,wF,wE⟩
 ·have hl:l=[]:=by cases l with
   |nil=>rfl
   |cons b l=>simp[QG]at uj
  subst hl;have hr:(convert S T (.slice none 0 0)).run P w= .ok (.string ⟨#[]⟩) w:=by rw[run_convert_bytes_string w S T e none 0 0 hs he (KS hT)];rfl
  simp only[execOp,wA,hex,Sem.run_bind,hr,Result.andThen_ok,Sem.run_pure,List.toArray]
 ·have hlen:(QG l).length=l.length:=by simp[QG]
  rw[hlen]at hex;have hr:=run_convert_bytes_back (P:=P) w S T e ad c l hs he (KS hT) (fun j hj=>by
   rw[xv]at wE;obtain⟨u,hu,hr⟩:=wE.get' j (D.int .u8 (l[j].toNat:Int)) (by simp[hj]);have:=qD hr
   subst this;exact wF j _ hu)
  simp only[execOp,wA,hex,Sem.run_bind,hr,Result.andThen_ok,Sem.run_pure]
theorem j3(r:Rel T0 B σ a w X h){S T:TypeId}(wA:o.op= .convert S T x)(hd:o.dst=some d)(hg:gOf (look P σ S x)=true)(hS:qF P S=true)(hT:WX P T=true)
  (hx:unc (look P σ S x)= .one (.d (.str s))) (vK:s.size<=9223372036854775807)
  (hK:∀a' w',Xx T0 B (σ.put d (.one (.d (.sl 1 (QG s.data.toList))))) a' w'->YL B w w'->K a' w'):o.wp P a w K Q:=by
 obtain⟨e,uf,he⟩:=UF hT;have hex:=jT (r.arg (P:=P) S x hx hg)
 have wU:=run_bytes_of_string (P:=P) w S T e s (KS hS) uf he;unfold Oper.wp;simp only[execOp,wA,hex,Sem.run_bind,wU,Result.andThen_ok,Sem.run_pure,Oper.upon_value,hd];generalize vh:grownCap w s.size 0 e=cap at*;have ur:s.size<=cap:=by rw[<-vh];exact grownCap_ge w s.size 0 e
 have uE:cap<=maxLen:=by rw[<-vh];exact grownCap_le_maxLen w s.size 0 e (by simp only[maxLen];omega)
 generalize hw':w.drew.alloc (.cells (bytesRow s cap) e ((bytesRow s cap).size,(bytesRow s cap).size+1))=w';have sZ:w.grownBy w' none:=by rw[<-hw'];exact⟨rfl,rfl,rfl,fM,fun k hk _=>(World.grownBy_alloc w.drew _ none).block k hk fM⟩
 have tQ:w'.heap[w.heap.size]?=some (.cells (bytesRow s cap) e ((bytesRow s cap).size,(bytesRow s cap).size+1)):=by rw[<-hw'];exact heap_alloc_new w.drew _
 have nV:w.heap.size<w'.heap.size:=(Array.getElem?_eq_some_iff.1 tQ).1;have r2:=r.grow (X':=fun b=>X b\/b=w.heap.size) sZ (fun b hb=>.inl hb) (fun b hb=>hb.imp id (fun hh=>by subst hh;exact⟨Nat.le_refl _,nV⟩));refine hK _ _ ⟨_,_,r2.put d _ _ ?_⟩ (YL.xb sZ r.hB);have vV:=xv s.data.toList;refine Rd.sl ⟨w.heap.size,0,none⟩ s.size cap 1 _ (fun k=>.int .u8 ((s.data.toList.getD k 0).toNat:Int)) (by simp[QG]) ur uE (by intro q hq;simp[QG]at hq;obtain⟨b,_,rfl⟩:=hq;rfl) (fun _=>rfl) (fun k dd hk=>?_) (fun k dd hk=>?_)
 ·rw[vV,List.getElem?_map]at hk;cases hb:s.data.toList[k]? with
  |none=>rw[hb]at hk;cases hk
  |some b=>
   refine⟨?_,.inr (.inr rfl)⟩;simp only[Nat.zero_add];refine Qp tQ _ _ ?_;have lE:k<s.data.size:=by have:=(List.getElem?_eq_some_iff.1 hb).1;simpa using this
   simp only[bytesRow];rw[Array.toList_append,List.getElem?_append_left (by simpa using lE)];simp[hb]
 ·rw[vV,List.getElem?_map]at hk;cases hb:s.data.toList[k]? with
  |none=>rw[hb]at hk;cases hk
  |some b=>rw[hb]at hk;cases hk;rw[List.getD_eq_getElem?_getD,hb];exact .int _ _
open Go.RowKit
variable{l1 l2:List (Nat×Nat)}
def YF:List At->List (Nat×Nat)
 |[]=>[]
 |.sref t j _ _::xs=>(t,j)::YF xs
 |_::xs=>YF xs
def mvD(σ:St):At->Option D
 |.d (.sl _ _)=>none
 |.d x=>some x
 |.nil s=>some (.sl s [])
 |.sref t j lo len=>(match σ.ob t j with|.arr _ size rows=>if lo=0/\len=rows.length then some (.sl size rows)else none|_=>none)
 |_=>none
def SL(σ:St):At->Prop
 |.sref t j _ _=>(match σ.ob t j with|.arr false _ rows=>∀r∈rows,∀x∈r,x.scalar=true|_=>True)
 |_=>True
def QD(σ:St):List At->Option (List D)
 |[]=>some []
 |x::xs=>(match mvD σ x,QD σ xs with|some d,some ds=>some (d::ds)|_,_=>none)
def XO(σ:St):List At->Prop
 |[]=>True
 |x::xs=>SL σ x/\XO σ xs
def Xn(σ:St):List (List At)->Option (List (List D))
 |[]=>some []
 |xs::rest=>(match QD σ xs,Xn σ rest with|some r,some rs=>some (r::rs)|_,_=>none)
def XU(σ:St):List (List At)->Prop
 |[]=>True
 |x::xs=>XO σ x/\XU σ xs
theorem V6:∀(xs:List At)(i j:Nat)(t u lo len ri uu:Nat),(YF xs).Nodup->xs[i]?=some (.sref t u lo len)->xs[j]?=some (.sref t u ri uu)->i=j:=by
 intro xs;induction xs with
 |nil=>intro i j t u lo len ri uu _ hi;simp at hi
 |cons x xs ih=>
  intro i j t u lo len ri uu vA hi hj;have mem:∀(k lo len:Nat),xs[k]?=some (At.sref t u lo len)->(t,u)∈YF xs:=by
   intro k lo len hk;clear ih vA hi hj;induction xs generalizing k with
   |nil=>simp at hk
   |cons y ys ry=>
    cases k with
    |zero=>simp at hk;subst hk;simp[YF]
    |succ k=>have:=ry k (by simpa using hk);cases y<;>simp[YF,this]
  have gG:(YF xs).Nodup:=by cases x<;>simp only[YF]at vA<;>first|exact vA|exact(List.nodup_cons.1 vA).2
  cases i with
  |zero=>
   simp at hi;subst hi;cases j with
   |zero=>rfl
   |succ j=>simp only[YF]at vA;exact absurd (mem j ri uu (by simpa using hj)) (List.nodup_cons.1 vA).1
  |succ i=>
   cases j with
   |zero=>simp at hj;subst hj;simp only[YF]at vA;exact absurd (mem i lo len (by simpa using hi)) (List.nodup_cons.1 vA).1
   |succ j=>rw[ih i j t u lo len ri uu gG (by simpa using hi) (by simpa using hj)]
theorem Sq:∀{xs:List At}{k t j lo len:Nat},xs[k]?=some (At.sref t j lo len)->(t,j)∈YF xs
 |[],k,t,j,lo,len,h=>by simp at h
 |x::xs,0,t,j,lo,len,h=>by simp at h;subst h;simp[YF]
 |x::xs,k+1,t,j,lo,len,h=>by have:=Sq (xs:=xs) (k:=k) eS;cases x<;>simp[YF,this]
theorem zP{σ:St}:∀{xs:List At}{ds:List D},QD σ xs=some ds->xs.length=ds.length/\∀(k:Nat)(x:At)(d:D),xs[k]?=some x->ds[k]?=some d->mvD σ x=some d
 |[],ds,h=>by simp[QD]at h;subst h;exact⟨rfl,fun k x d hx=>by simp at hx⟩
 |x::xs,ds,h=>by
  simp only[QD]at h;split at h
  ·rename_i d sV h1 h2;cases h;obtain⟨hl,ih⟩:=zP h2;refine⟨by simp[hl],fun k y e hy he=>?_⟩;cases k with
   |zero=>simp at hy he;subst hy;subst he;exact h1
   |succ k=>exact ih k y e (by simpa using hy) (by simpa using he)
  ·cases h
theorem Wm{σ:St}:∀{xs ys:List At}{ds es:List D},QD σ xs=some ds->QD σ ys=some es->QD σ (xs++ys)=some (ds++es)
 |[],ys,ds,es,h1,h2=>by simp[QD]at h1;subst h1;simpa using h2
 |x::xs,ys,ds,es,h1,h2=>by
  simp only[QD]at h1;split at h1
  ·rename_i d sV h3 h4;cases h1;simp[QD,h3,Wm h4 h2]
  ·cases h1
theorem Qu{σ:St}:∀{vL:List (List At)}{rs:List (List D)},Xn σ vL=some rs->QD σ vL.flatten=some rs.flatten/\vL.length=rs.length/\∀n,(∀x∈vL,x.length=n)->∀r∈rs,r.length=n
 |[],rs,h=>by simp[Xn]at h;subst h;exact⟨rfl,rfl,fun n _ r hr=>by cases hr⟩
 |xs::vL,rs,h=>by
  simp only[Xn]at h;split at h
  ·rename_i r oO h1 h2;cases h;obtain⟨i1,i2,i3⟩:=Qu h2;refine⟨by rw[List.flatten_cons,List.flatten_cons];exact Wm h1 i1,by simp[i2],fun n hn q hq=>?_⟩;rcases List.mem_cons.1 hq with rfl|hq
   ·rw[<-(zP h1).1];exact hn xs fM
   ·exact i3 n (fun x hx=>hn x (by simp[hx])) q hq
  ·cases h
theorem jB{σ:St}:∀{xs:List At},XO σ xs->∀(k:Nat)(x:At),xs[k]?=some x->SL σ x
 |[],_,k,x,hx=>by simp at hx
 |y::xs,h,0,x,hx=>by simp at hx;subst hx;exact h.1
 |y::xs,h,k+1,x,hx=>jB h.2 k x (by simpa using hx)
theorem qm{σ:St}:∀{xs ys:List At},XO σ xs->XO σ ys->XO σ (xs++ys)
 |[],_,_,h=>h
 |_::_,_,h1,h2=>⟨h1.1,qm h1.2 h2⟩
theorem QR{σ:St}:∀{vL:List (List At)},XU σ vL->XO σ vL.flatten
 |[],_=>trivial
 |xs::vL,h=>by rw[List.flatten_cons];exact qm h.1 (QR h.2)
theorem Rd.own{d:D}(hs:d.scalar=true)(hr:Rd T w v d):Own w v d S:=by
 cases hr with
 |int k n=>exact .int _ _ _
 |bool b=>exact .bool _ _
 |str s=>exact .str _ _
 |unk v h=>exact .unk _ h _
 |nil=>cases hs
 |sl=>cases hs
theorem Rel.GB(r:Rel T0 B σ a w X h)(ho:σ.ob t j= .arr q size rows)(hq:q=false->∀r∈rows,∀x∈r,x.scalar=true):Own w (h t j).v (.sl size rows) (h t j).u:=by
 have h0:=r.obj t j;have vR:=r.ub t j;rw[ho]at h0 vR;cases q with
 |false=>obtain⟨e,xs,uX,hz,wE⟩:=h0;refine .sl _ size rows _ e xs (fun _ _=>False) uX hz (fun b hb=>vR b fM hb) wE.length (fun k x d hx hd=>?_) (fun k b hb=>hb.elim) (fun i j b hb=>hb.elim);obtain⟨d',wL,hr⟩:=wE.get k x hx;rw[hd]at wL;cases wL;obtain⟨r0,um,hdr⟩:=List.mem_flatten.1 (List.mem_of_getElem? hd);exact Rd.own (hq rfl r0 um d hdr) hr
 |true=>obtain⟨e,xs,uX,hz,⟨hl,Sk,h1,h2,h3⟩,hn⟩:=h0;exact .sl _ size rows _ e xs Sk uX hz (fun b hb=>vR b fM hb) hl h1 (fun k b hb=>h2 k b hb) h3
def KX(σ:St)(h:Nat->Nat->Hd)(l:List (Nat×Nat))(b:Nat):Prop:=∃p∈l,σ.ob p.1 p.2≠ .none/\(h p.1 p.2).u b
theorem Wz(r:Rel T0 B σ a w X h){xs:List At}(wE:ZU (Zf (Tof T0 X) h σ.ob w) xs vs)(uC:QD σ xs=some ds)(wT:XO σ xs)(vA:(YF xs).Nodup):Qk w vs ds (KX σ h (YF xs)):=by
 obtain⟨hl,uC⟩:=zP uC;refine⟨by rw[<-wE.length,hl],fun k b=>∃t j lo len,xs[k]?=some (.sref t j lo len)/\σ.ob t j≠ .none/\(h t j).u b,fun k v d hv hd=>?_,?_,?_⟩
 ·obtain⟨x,hx,hr⟩:=wE.get' k v hv;have hm:=uC k x d hx hd
  have ho:=jB wT k x hx;cases x with
  |d x=>
   cases x with
   |sl s rows=>simp[mvD]at hm
   |int k n=>simp[mvD]at hm;subst hm;exact Rd.own rfl hr
   |bool b=>simp[mvD]at hm;subst hm;exact Rd.own rfl hr
   |str s=>simp[mvD]at hm;subst hm;exact Rd.own rfl hr
   |unk=>simp[mvD]at hm;subst hm;exact Rd.own rfl hr
  |nil s=>simp[mvD]at hm;subst hm;cases hr;exact .sl _ s [] _ 0 [] (fun _ _=>False) (World.ownsRow_nil w 0 0 s) fu (fun b hb=>by cases hb) rfl (fun k x d hx=>by simp at hx) (fun k b hb=>hb.elim) (fun i j b hb=>hb.elim)
  |sref t j lo len=>
   simp only[mvD]at hm;split at hm
   ·rename_i q size rows wW;split at hm
    ·rename_i hc;obtain⟨rfl,rfl⟩:=hc;cases hm;obtain⟨_,uI,_⟩:=hr.2.1 q size rows wW;rw[uI rfl rfl];refine(r.GB wW (fun hq=>?_)).mono (fun b hb=>⟨t,j,0,rows.length,hx,by rw[wW];simp,hb⟩);subst hq;simp only[SL,wW]at ho;exact ho
    ·cases hm
   ·cases hm
  |any=>simp[mvD]at hm
  |ptr=>simp[mvD]at hm
  |bptr=>simp[mvD]at hm
  |fn=>simp[mvD]at hm
  |rptr=>simp[mvD]at hm
  |tref=>simp[mvD]at hm
 ·rintro k b ⟨t,j,lo,len,hx,wC,hu⟩;exact⟨(t,j),Sq hx,wC,hu⟩
 ·rintro i k b ⟨t,j,lo,len,hx,wC,hu⟩ ⟨t',j',ri,uu,tF,wq,v5⟩;obtain⟨rfl,rfl⟩:=r.inj t j t' j' b wC wq hu v5;exact V6 xs i k t j lo len ri uu vA hx tF
theorem Qk.append{xs:List Value}(h1:Qk w xs ds S)(h2:Qk w ys es S')(hd:∀b,S b->S' b->False):Qk w (xs++ys) (ds++es) (fun b=>S b\/S' b):=by
 obtain⟨l1,Sk,a1,a2,a3⟩:=h1;obtain⟨l2,rf,b1,b2,b3⟩:=h2;refine⟨by simp[l1,l2],fun k=>if k<xs.length then Sk k else rf (k-xs.length),fun k x d hx wL=>?_,fun k b hb=>?_,fun i j b hi hj=>?_⟩
 ·by_cases hk:k<xs.length
  ·simp only[hk,if_true];rw[List.getElem?_append_left hk]at hx;rw[List.getElem?_append_left fJ]at wL;exact a1 k x d hx wL
  ·simp only[hk,if_false];rw[List.getElem?_append_right fJ]at hx;rw[List.getElem?_append_right fJ,<-l1]at wL;exact b1 _ x d hx wL
 ·by_cases hk:k<xs.length
  ·simp only[hk,if_true]at hb;exact .inl (a2 k b hb)
  ·simp only[hk,if_false]at hb;exact .inr (b2 _ b hb)
 ·by_cases vW:i<xs.length
  ·simp only[vW,if_true]at hi;by_cases uh:j<xs.length
   ·simp only[uh,if_true]at hj;exact a3 i j b hi hj
   ·simp only[uh,if_false]at hj;exact(hd b (a2 i b hi) (b2 _ b hj)).elim
  ·simp only[vW,if_false]at hi;by_cases uh:j<xs.length
   ·simp only[uh,if_true]at hj;exact(hd b (a2 j b hj) (b2 _ b hi)).elim
   ·simp only[uh,if_false]at hj;have:=b3 _ _ b hi hj;omega
theorem Qk.mono{xs:List Value}(hS:∀b,S b->S' b)(h1:Qk w xs ds S):Qk w xs ds S':=by obtain⟨l1,Sk,a1,a2,a3⟩:=h1;exact⟨l1,Sk,a1,fun k b hb=>hS b (a2 k b hb),a3⟩
theorem Qk.nil(S:Nat->Prop):Qk w [] [] S:=⟨rfl,fun _ _=>False,fun k x d hx=>by simp at hx,fun _ _ hb=>hb.elim,fun _ _ _ hb=>hb.elim⟩
theorem Rel.zN(r:Rel T0 B σ a w X h)(l:List (Nat×Nat))(b:Nat)(hb:KX σ h l b):¬B b/\¬X b/\b<w.heap.size/\∀u i,(σ.ZV l).ob u i≠ .none->¬(h u i).u b:=by
 obtain⟨p,hp,wC,hu⟩:=hb;have ho:=r.own p.1 p.2 b wC hu
 refine⟨ho.1,ho.2.1,ho.2.2,fun u i hn v5=>?_⟩;rw[St.Xg]at hn;split at hn
 ·exact hn rfl
 ·rename_i pO;obtain⟨h1,h2⟩:=r.inj p.1 p.2 u i b wC hn hu v5;exact pO (by rw[<-h1,<-h2];exact hp)
open Go.RowKit
def Wq(P:Program)(σ:St)(T:TypeId)(size:Nat):List (Nat×Operand)->Nat->List (List At)->Prop
 |[],_,rs=>rs=[]
 |(i,x)::ps,k,rs=>i=k/\gOf (look P σ T x)=true/\(unc (look P σ T x)).flat=true/\(unc (look P σ T x)).cells.length=size/\
   ∃rest,Wq P σ T size ps (k+1) rest/\rs=(unc (look P σ T x)).cells::rest
theorem Pf(r:Rel T0 B σ a w X h)(T:TypeId)(size:Nat):∀(ps:List (Nat×Operand))(k:Nat)(rs:List (List At))(cells:Array Value),Wq P σ T size ps k rs->(k+ps.length)*size<=cells.size->
   ∃wG ys,Instr.fill (fun i=>some (i*size,size)) cells (ps.map fun x=>(x.1,a.eval x.2))=some wG/\wG.toList=place cells.toList (k*size) ys/\ZU (Zf (Tof T0 X) h σ.ob w) rs.flatten ys/\(∀q∈rs,q.length=size)/\rs.length=ps.length
 |[],k,rs,cells,hb,_=>eD
 |(i,x)::ps,k,rs,cells,hb,hl=>by
  obtain⟨rfl,hg,hf,hlen,rest,hb,rfl⟩:=hb;have hx:=yx hf (r.arg (P:=P) T x rfl hg)
  have rH:=hx.length;have e1:cells.toList.length=cells.size:=Array.length_toList;have e2:(a.eval x).cells.toList.length=(a.eval x).cells.size:=Array.length_toList;have hmul:(i+(ps.length+1))*size=i*size+size+ps.length*size:=eN;simp only[List.length_cons]at hl;have heq:=qR (i*size) (a.eval x).cells cells fJ;have uW:((a.eval x).cells.zipIdx.foldl (fun cs x=>cs.setIfInBounds (i*size+x.2) x.1) cells).size=cells.size:=by rw[<-Array.length_toList,heq,Yo _ _ _ fJ,e1]
  have nU:(i+1+ps.length)*size=i*size+size+ps.length*size:=eN;obtain⟨wG,ys,h1,h2,h3,h4,h5⟩:=Pf r T size ps (i+1) rest _ hb (by rw[uW];omega);have vt:ys.length=ps.length*size:=by rw[<-h3.length,Zg rest size h4,h5]
  refine⟨wG,(a.eval x).cells.toList++ys,?_,?_,?_,?_,by simp[h5]⟩
  ·simp only[List.map_cons,Instr.fill];rw[if_neg fc];exact h1
  ·rw[h2,heq];rw[show(i+1)*size=i*size+(a.eval x).cells.toList.length by rw[Nat.add_mul];omega];exact Vz _ _ _ _ fc
  ·rw[List.flatten_cons];exact hx.append h3
  ·intro q hq;rcases List.mem_cons.1 hq with rfl|hq
   ·exact hlen
   ·exact h4 q hq
theorem ql(r:Rel T0 B σ a w X h){T:TypeId}{rows:List (List At)}(wA:o.op= .buildSlice T n parts)(hd:o.dst=some d)(w8:σ.fresh d=true)
  (ht:Zy P T=true) (hz:YR P (ZD P T)=true) (w7:0<P.cellsOf (ZD P T)) (hn:parts.toList.length=n) (lu:n*P.cellsOf (ZD P T)<=16777216) (hb:Wq P σ (ZD P T) (P.cellsOf (ZD P T)) parts.toList 0 rows) (hU:Zd d rows.flatten=false)
  (hK:∀a' w',Xx T0 B (σ.new d (.one (.sref d 0 0 rows.length)) [.lit (P.cellsOf (ZD P T)) rows]) a' w'->YL B w w'->K a' w'):o.wp P a w K Q:=by
 obtain⟨ti,hu,hi,uU⟩:=YM ht;obtain⟨i,z,row,vW,uv,uG,uW,tE,vi,uF⟩:=Jl hz;rw[hi]at vW;cases vW;have uK:(zeroValue (ZD P T)).run P w= .ok z w:=by simp[zeroValue,typeInfo,hi,uv]
 obtain⟨zero,hzero⟩:∃zero:Array Value,(n*P.cellsOf (ZD P T)=0->zero=#[])/\(¬n*P.cellsOf (ZD P T)=0->zero=z.cells):=by
  by_cases h0:n*P.cellsOf (ZD P T)=0
  ·exact⟨#[],fun _=>rfl,fun hh=>absurd h0 hh⟩
  ·exact⟨z.cells,fun hh=>absurd hh h0,fun _=>rfl⟩
 obtain⟨wG,ys,h1,h2,h3,h4,h5⟩:=Pf r (ZD P T) (P.cellsOf (ZD P T)) parts.toList 0 rows ((Array.range (n*P.cellsOf (ZD P T))).map (zero[·%zero.size]!)) hb (by simp[hn]);have vt:ys.length=n*P.cellsOf (ZD P T):=by rw[<-h3.length,Zg rows _ h4,h5,hn]
 have wb:wG.toList=ys:=by rw[h2];unfold place;simp[vt]
 have uZ:(parts.map fun(x:Nat×Operand)=>(x.1,a.eval x.2)).toList=parts.toList.map fun x=>(x.1,a.eval x.2):=fM;have wU:(execOp a.eval o).run P w= .ok (.value (.slice (some ⟨w.heap.size,0,none⟩) n n)) (w.alloc (.cells wG (ZD P T))):=by
  have uN:¬(n*P.cellsOf (ZD P T)>2^24):=fJ;by_cases h0:n*P.cellsOf (ZD P T)=0
  ·have ta:=hzero.1 h0;subst ta;simp only[execOp,wA,Instr.buildSlice,Sem.run_bind,run_underlying hu,Result.andThen_ok,XW hi,if_neg uN,if_pos h0,uZ,h1,newRow,Sem.run_pure,run_newObj_alloc]
  ·have ta:=hzero.2 h0;subst ta;simp only[execOp,wA,Instr.buildSlice,Sem.run_bind,run_underlying hu,Result.andThen_ok,XW hi,if_neg uN,if_neg h0,uK,uZ,h1,newRow,Sem.run_pure,run_newObj_alloc]
 unfold Oper.wp;rw[wU,Oper.upon_value,hd];have hlen:rows.length=n:=by rw[h5,hn]
 have hg:=World.grownBy_alloc w (.cells wG (ZD P T)) none;have wO:=St.JG w8;have hT:∀b k v,Tof T0 X b k->w.cell? ⟨b,k,none⟩=some v->(w.alloc (.cells wG (ZD P T))).cell? ⟨b,k,none⟩=some v/\Tof T0 X b k:=by intro b k v hb wF;refine⟨?_,hb⟩;rw[World.cell?_of_block (hg.block b (r.Tlt hb) fM)];exact wF
 have rN:wG.size=n*P.cellsOf (ZD P T):=by rw[<-Array.length_toList,wb,vt]
 have uE:n<=maxLen:=by have:n<=n*P.cellsOf (ZD P T):=Nat.le_mul_of_pos_right _ w7;simp only[maxLen];omega
 have wI:(w.alloc (.cells wG (ZD P T))).ownsRow 0 (ZD P T) (P.cellsOf (ZD P T)) (.slice (some ⟨w.heap.size,0,none⟩) n n) rows.length ys:=
  ⟨by rw[vt,hlen],.inr ⟨w.heap.size,n,wG,by rw[hlen],Nat.zero_le _,heap_alloc_new w _,fJ,uE,rN,by rw[wb,hlen,List.take_of_length_le fJ]⟩⟩
 refine hK _ _ ⟨X,fun t j=>if t=d then Hd.of (.slice (some ⟨w.heap.size,0,none⟩) n n)else h t j,?_⟩ (YL.xb hg r.hB);have vS:(σ.new d (.one (.sref d 0 0 rows.length)) [.lit (P.cellsOf (ZD P T)) rows]).ob d 0= .lit (P.cellsOf (ZD P T)) rows:=eC
 have hc:∀t j,t≠d->Cpt h (fun t j=>if t=d then Hd.of (.slice (some ⟨w.heap.size,0,none⟩) n n)else h t j) σ.ob (σ.new d (.one (.sref d 0 0 rows.length)) [.lit (P.cellsOf (ZD P T)) rows]).ob t j:=by
  intro t j wC;have he:(σ.new d (.one (.sref d 0 0 rows.length)) [.lit (P.cellsOf (ZD P T)) rows]).ob t j=σ.ob t j:=eV
  exact Cpt.same (by simp[wC]) he
 refine r.new w8 hg (fun _ hb=>hb) (fun _ hb=>.inl hb) _ _ [.lit (P.cellsOf (ZD P T)) rows] (fun _=>Hd.of (.slice (some ⟨w.heap.size,0,none⟩) n n)) ?_ (fun j=>?_) (fun j b _ hb=>hb) (fun j b _ wP=>?_) (fun j j' b wC wq _ _=>?_)
 ·refine⟨JC wI,fun q' wi wQ wV=>(by rw[vS]at wV;cases wV),fun wi wQ wV=>?_⟩;rw[vS]at wV;cases wV;simp only[if_true];exact jq wI
 ·cases j with
  |zero=>exact⟨ZD P T,ys,wI,h4,yN hT hc hU h3⟩
  |succ j=>simp[Zq,Xo]
 ·simp[Hd.of,blk]at wP;subst wP;refine⟨Nat.le_refl _,fun tF=>?_,fM⟩;have:=(r.hX _ tF).2;omega
 ·have:∀j,Zq [Ob.lit (P.cellsOf (ZD P T)) rows] j≠ .none->j=0:=by
   intro j hj;cases j with
   |zero=>rfl
   |succ j=>simp[Zq]at hj
  rw[this j wC,this j' wq]
theorem O1{T:CS}{ob:Nat->Nat->Ob}:∀{xs:List At}{ds:List D}{vs:List Value},zD xs=some ds->ZU (Zf T h ob w) xs vs->(∀x∈xs,∀s r,x≠ .d (.sl s r))->∀(w':World)(S:Nat->Prop)(k:Nat)(v:Value)(d:D),vs[k]?=some v->ds[k]?=some d->Own w' v d S
 |[],ds,vs,hz,wE,_,w',S,k,v,d,hv,_=>by cases wE;simp at hv
 |x::xs,ds,vs,hz,wE,tb,w',S,k,v,d,hv,hd=>by
  cases wE with
  |cons hx wE=>
   cases x with
   |d x=>
    simp only[zD,Option.map_eq_some_iff]at hz;obtain⟨sV,ue,rfl⟩:=hz;cases k with
    |zero=>
     simp at hv hd;subst hv;subst hd;cases x with
     |sl s r=>exact absurd rfl (tb _ fM s r)
     |int k n=>cases(show Rd _ _ _ _ from hx);exact .int _ _ _
     |bool b=>cases(show Rd _ _ _ _ from hx);exact .bool _ _
     |str s=>cases(show Rd _ _ _ _ from hx);exact .str _ _
     |unk=>exact .unk _ (Rd.YN hx) _
    |succ k=>exact O1 ue wE (fun x hx=>tb x (by simp[hx])) w' S k v d (by simpa using hv) (by simpa using hd)
   |nil s=>
    simp only[zD,Option.map_eq_some_iff]at hz;obtain⟨sV,ue,rfl⟩:=hz;cases k with
    |zero=>simp at hv hd;subst hv;subst hd;cases hx;exact .sl _ s [] _ 0 [] (fun _ _=>False) (World.ownsRow_nil w' 0 0 s) fu (fun b hb=>by cases hb) rfl (fun k x d hx=>by simp at hx) (fun k b hb=>hb.elim) (fun i j b hb=>hb.elim)
    |succ k=>exact O1 ue wE (fun x hx=>tb x (by simp[hx])) w' S k v d (by simpa using hv) (by simpa using hd)
   |any=>simp[zD]at hz
   |sref=>simp[zD]at hz
   |ptr=>simp[zD]at hz
   |bptr=>simp[zD]at hz
   |fn=>simp[zD]at hz
   |rptr=>simp[zD]at hz
   |tref=>simp[zD]at hz
def Mg(σ:St)(x:V)(size:Nat)(wD:List (List D))(l:List (Nat×Nat)):Prop:=
 match x with
 |.one (.nil _)=>wD=[]/\l=[]
 |.one (.sref t j lo len)=>σ.ob t j= .arr true size wD/\lo=0/\len=wD.length/\l=[(t,j)]
 |_=>False
def Ph(σ:St)(x:V)(size:Nat)(news:List (List D))(l:List (Nat×Nat)):Prop:=
 match x with
 |.one (.sref t j lo len)=>∃rows,σ.ob t j= .lit size rows/\lo=0/\len=rows.length/\Xn σ rows=some news/\XU σ rows/\l=YF rows.flatten
 |_=>False
theorem P8(r:Rel T0 B σ a w X h){t e0:TypeId}{m cap:Nat}{ti:TypeInfo}{z:Value}{xs:List Value}(wA:o.op= .call ⟨.builtin .append,#[x,y],#[t,t]⟩)(hd:o.dst=some d)
  (hu:P.underlying t=some (.slice (ZD P t))) (hi:P.info? (ZD P t)=some ti) (uv:ti.zero=some z) (tE:z.cells.size=ti.size) (w7:0<ti.size) (w8:σ.fresh d=true) (w9:(m+n)*ti.bytes<=140737488355328) (tx:m+n<=9223372036854775807)
  (wI:w.ownsRow 0 e0 ti.size (a.eval x) m xs) (vn:∀b,blk (a.eval x)=some b->N b) (hN:∀b,N b->¬B b/\¬X b/\b<w.heap.size/\∀u j,σ.ob u j≠ .none->¬(h u j).u b)
  (rj:a.eval y= .slice base n cap) (sQ:base=none->cap=0/\n=0) (vt:ys.length=n*ti.size) (wF:∀ad,base=some ad->∀k v,ys[k]?=some v->w.cell? (ad.add k)=some v) (hZ:∀v∈ys,v.oneCell'=true)
  (tG:rs.length=m+n) (gA:∀q∈rs,q.length=ti.size) (gB:Qk w (xs++ys) rs.flatten (fun b=>N b/\blk (a.eval x)≠some b))
  (hK:∀a' w',Xx T0 B (σ.new d (.one (.sref d 0 0 (m+n))) [.arr true ti.size rs]) a' w'->YL B w w'->K a' w'):o.wp P a w K Q:=by
 have wO:=St.JG w8;have key:∀(v':Value)(w':World)(e1:TypeId),(Builtin.append_ #[t,t] o.type #[a.eval x,a.eval y]).run P w= .ok v' w'->w'.ownsRow 0 e1 ti.size v' (m+n) (xs++ys)->
   w.grownBy w' (blk (a.eval x))->(∀b,blk v'=some b->(w.heap.size<=b/\b<w'.heap.size)\/blk (a.eval x)=some b)->o.wp P a w K Q:=by
  intro v' w' e1 wU wV uJ pN;unfold Oper.wp;have rM:(execOp a.eval o).run P w= .ok (.value v') w':=by simp only[execOp,wA,resolve,invoke,builtin,Sem.run_bind,Sem.run_pure,Result.andThen_ok,List.map_toArray,List.map_cons,List.map_nil,wU]
  rw[rM,Oper.upon_value,hd];refine hK _ _ ⟨X,fun u j=>if u=d then⟨v',fun k=>((xs++ys)[k]?).getD undef,fun b=>blk v'=some b\/(N b/\blk (a.eval x)≠some b)⟩else h u j,?_⟩
   ⟨uJ.os,uJ.tape,uJ.output,uJ.size,fun k hk=>uJ.block k (r.hB k hk) (fun e=>(hN k (vn k e.symm)).1 hk)⟩
  have vS:(σ.new d (.one (.sref d 0 0 (m+n))) [.arr true ti.size rs]).ob d 0= .arr true ti.size rs:=eC;have v7:w'.ownsRow 0 e1 ti.size v' rs.length (xs++ys):=by rw[tG];exact wV
  have lF:Qk w' (xs++ys) rs.flatten (fun b=>(blk v'=some b\/(N b/\blk (a.eval x)≠some b))/\blk v'≠some b):=by
   refine(gB.Uu (fun b hb=>uJ.block b (hN b hb.1).2.2.1 (fun e=>hb.2 e.symm))).mono (fun b hb=>⟨.inr hb,fun e=>?_⟩);rcases pN b e with hl|hl
   ·have:=(hN b hb.1).2.2.1;omega
   ·exact hb.2 hl
  refine r.IY w8 N uJ.size (fun k hk wC=>uJ.block k hk (fun e=>wC (vn k e.symm))) (fun b hb=>⟨(hN b hb).1,(hN b hb).2.1,fun u j _ wC=>(hN b hb).2.2.2 u j wC⟩) (fun _ hb=>hb) (fun _ hb=>.inl hb) _ _ [.arr true ti.size rs]
   (fun _=>⟨v',fun k=>((xs++ys)[k]?).getD undef,fun b=>blk v'=some b\/(N b/\blk (a.eval x)≠some b)⟩) ?_ (fun j=>?_) (fun j b _ hb=>.inl hb) (fun j b wC wP=>?_) (fun j j' b wC wq _ _=>?_)
  ·refine⟨JC wV,fun q' wi wQ hh=>?_,fun wi wQ hh=>by rw[vS]at hh;cases hh⟩;rw[vS]at hh;cases hh;simp only[if_true];rw[<-tG];exact jq v7
  ·cases j with
   |zero=>exact⟨e1,xs++ys,v7,gA,lF,fun k x d hx _ _=>by simp[hx]⟩
   |succ j=>simp[Zq,Xo]
  ·rcases wP with wP|wP
   ·rcases pN b wP with h1|h1
    ·exact⟨.inl h1.1,fun hx=>by have:=(r.hX b hx).2;omega,h1.2⟩
    ·have h2:=hN b (vn b h1);exact⟨.inr (vn b h1),h2.2.1,by have:=uJ.size;omega⟩
   ·have h2:=hN b wP.1;exact⟨.inr wP.1,h2.2.1,by have:=uJ.size;omega⟩
  ·have:∀j,Zq [Ob.arr true ti.size rs] j≠ .none->j=0:=by
    intro j hj;cases j with
    |zero=>rfl
    |succ j=>simp[Zq]at hj
   rw[this j wC,this j' wq]
 cases base with
 |none=>
  obtain⟨rfl,rfl⟩:=sQ rfl;have gH:ys=[]:=List.eq_nil_of_length_eq_zero (by rw[vt];simp)
  have wj:∃base cap,a.eval x= .slice base m cap/\m<=cap/\(base=none->cap=0):=by
   rcases wI.2 with⟨h1,h2⟩|⟨g,cap,cur,h1,_,_,vr,_⟩
   ·exact⟨none,0,by rw[h1,h2],fJ,fun _=>rfl⟩
   ·exact⟨_,cap,h1,vr,(fun hh=>by cases hh)⟩
  obtain⟨base,cap,hex,vr,nP⟩:=wj;refine key (a.eval x) w e0 ?_ (by rw[gH];simpa using wI) ⟨rfl,rfl,rfl,Nat.le_refl _,fun _ _ _=>rfl⟩ (fun b hb=>.inr hb);rw[rj,hex];exact yf t o.type _ ti hu hi base m cap vr nP
 |some ad=>obtain⟨v',w',e1,wU,wV,uJ,pN⟩:=jL (P:=P) (w:=w) t o.type _ e0 ti z hu hi uv tE w7 (a.eval x) m xs wI ad n cap ys vt (wF ad rfl) hZ (by simp only[maxLen];omega) w9;refine key v' w' e1 ?_ wV uJ pN;rw[rj];exact wU
theorem T3(r:Rel T0 B σ a w X h){t:TypeId}(wA:o.op= .call ⟨.builtin .append,#[x,y],#[t,t]⟩)(hd:o.dst=some d)
  (tc:gOf (look P σ t x)=true) (te:gOf (look P σ t y)=true) (ht:Zy P t=true) (hz:YR P (ZD P t)=true) (w7:0<P.cellsOf (ZD P t))
  (uD:Mg σ (unc (look P σ t x)) (P.cellsOf (ZD P t)) wD l1) (vg:Ph σ (unc (look P σ t y)) (P.cellsOf (ZD P t)) news l2) (vA:(l1++l2).Nodup) (w8:(σ.ZV (l1++l2)).fresh d=true)
  (w9:(wD.length+news.length)*P.bytesOf (ZD P t)<=140737488355328) (tx:wD.length+news.length<=9223372036854775807)
  (hK:∀a' w',Xx T0 B ((σ.ZV (l1++l2)).new d (.one (.sref d 0 0 (wD.length+news.length))) [.arr true (P.cellsOf (ZD P t)) (wD++news)]) a' w'->YL B w w'->K a' w'):o.wp P a w K Q:=by
 obtain⟨ti,hu,hi,uU⟩:=YM ht;obtain⟨i,z,row,vW,uv,uG,uW,tE,vi,uF⟩:=Jl hz;rw[hi]at vW;cases vW;have r4:P.bytesOf (ZD P t)=ti.bytes:=eW
 rw[r4]at w9;rw[<-vi]at uD vg w7 hK;have sf:=r.arg (P:=P) t x rfl tc
 have oB:=r.arg (P:=P) t y rfl te;obtain⟨t2,j2,rows,mw,tN,uC,uq,rH⟩:∃t2 j2 rows,unc (look P σ t y)= .one (.sref t2 j2 0 rows.length)/\σ.ob t2 j2= .lit ti.size rows/\Xn σ rows=some news/\XU σ rows/\l2=YF rows.flatten:=by
  unfold Ph at vg;split at vg
  ·rename_i t2 j2 lo len heq;obtain⟨rows,ho,rfl,rfl,hm,hk,rfl⟩:=vg;exact⟨t2,j2,rows,heq,ho,hm,hk,rfl⟩
  ·exact vg.elim
 subst rH;obtain⟨py,rJ,pz⟩:=Qu uC;have rP:=QR uq
 rw[mw]at oB;have h0:=r.obj t2 j2
 rw[tN]at h0;obtain⟨e2,ys,v7,oS,uY⟩:=h0;obtain⟨_,tz,_⟩:=oB.2.2 _ _ tN;have oE:a.eval y=(h t2 j2).v:=tz rfl rfl
 have pP:∀q∈news,q.length=ti.size:=pz _ oS;have uL:=Wz r uY py rP (List.nodup_append.1 vA).2.1;have vZ:∃e0 xs,w.ownsRow 0 e0 ti.size (a.eval x) wD.length xs/\(∀q∈wD,q.length=ti.size)/\Qk w xs wD.flatten (fun b=>KX σ h l1 b/\blk (a.eval x)≠some b)/\(∀b,blk (a.eval x)=some b->KX σ h l1 b):=by
  unfold Mg at uD;split at uD
  ·rename_i s heq;obtain⟨rfl,rfl⟩:=uD;rw[heq]at sf;have he:a.eval x= .slice none 0 0:=sf
   rw[he];exact⟨0,[],World.ownsRow_nil w 0 0 _,fu,Qk.nil _,(fun b hb=>by cases hb)⟩
  ·rename_i u j lo len heq;obtain⟨ho,rfl,rfl,rfl⟩:=uD;rw[heq]at sf;have rK:Zf (Tof T0 X) h σ.ob w (.sref u j 0 wD.length) (a.eval x):=sf
   obtain⟨_,uI,_⟩:=rK.2.1 _ _ _ ho;have he:a.eval x=(h u j).v:=uI rfl rfl
   have h0:=r.obj u j;rw[ho]at h0;obtain⟨e,xs,wI,r6,wE,hn⟩:=h0;have wW:σ.ob u j≠ .none:=fi;rw[he];exact⟨e,xs,wI,r6,wE.mono (fun b hb=>⟨⟨(u,j),fM,wW,hb.1⟩,hb.2⟩),fun b hb=>⟨(u,j),fM,wW,r.ub u j b wW hb⟩⟩
  ·exact uD.elim
 obtain⟨e0,xs,wI,nO,rF,vn⟩:=vZ;have vt:ys.length=news.length*ti.size:=by rw[uL.1,Zg news ti.size pP]
 have uc:∀b,KX σ h l1 b->KX σ h (YF rows.flatten) b->False:=by
  rintro b ⟨p,hp,wC,hu⟩ ⟨p',pq,wq,v5⟩;obtain⟨e1,e2⟩:=r.inj p.1 p.2 p'.1 p'.2 b wC wq hu v5;have vx:p=p':=Prod.ext e1 e2
  subst vx;exact(List.nodup_append.1 vA).2.2 p hp p pq rfl
 have oF:∀b,KX σ h (l1++YF rows.flatten) b↔KX σ h l1 b\/KX σ h (YF rows.flatten) b:=by
  intro b;constructor
  ·rintro⟨p,hp,hr⟩;rcases List.mem_append.1 hp with hp|hp
   ·exact .inl ⟨p,hp,hr⟩
   ·exact .inr ⟨p,hp,hr⟩
  ·rintro(⟨p,hp,hr⟩|⟨p,hp,hr⟩)
   ·exact⟨p,by simp[hp],hr⟩
   ·exact⟨p,by simp[hp],hr⟩
 have s9:∀b,KX σ h (YF rows.flatten) b->blk (a.eval x)≠some b:=fun b hb e=>uc b (vn b e) hb;have hv:∃base cap,a.eval y= .slice base news.length cap/\(base=none->cap=0/\news.length=0)/\∀ad,base=some ad->∀k v,ys[k]?=some v->w.cell? (ad.add k)=some v:=by
  rw[oE];rcases v7.2 with⟨m3,nK⟩|⟨g2,p8,m5,vF,_,uH,m6,m7,m8,p9⟩
  ·have nW:news.length=0:=by rw[<-rJ];exact nK
   exact⟨none,0,by rw[m3,nW],fun _=>⟨rfl,nW⟩,fun ad hh=>by cases hh⟩
  ·refine⟨_,p8,by rw[vF,rJ],fun hh=>(by cases hh),fun ad hh k v hk=>?_⟩;cases hh;rw[KL];refine Qp uH _ _ ?_;rw[<-p9,List.getElem?_take]at hk;split at hk
   ·simpa using hk
   ·cases hk
 obtain⟨base,cap,rj,sQ,wF⟩:=hv;refine P8 (r.ZV (l1++YF rows.flatten)) wA hd hu hi uv tE w7 w8 w9 tx wI (fun b hb=>(oF b).2 (.inl (vn b hb))) (r.zN (l1++YF rows.flatten)) rj sQ vt wF
  (fun u v5=>by
   obtain⟨x',_,tF⟩:=uY.mem v5;exact Zf.YN tF) (List.length_append ..) (fun q hq=>(List.mem_append.1 hq).elim (nO q) (pP q)) ?_ hK
 rw[List.flatten_append];exact(rF.append uL (fun b vP wo=>uc b vP.1 wo)).mono (fun b hb=>hb.elim (fun hb=>⟨(oF b).2 (.inl hb.1),hb.2⟩) (fun hb=>⟨(oF b).2 (.inr hb),s9 b hb⟩))
theorem Qk.pick{xs:List Value}(h1:Qk w xs ds S){p q:Nat}(hp:p<=q)(hq:q+n<=xs.length):Qk w (xs.take p++cut xs q n) (ds.take p++cut ds q n) S:=by
 obtain⟨hl,Sk,hk,hs,hd⟩:=h1;have tq:(xs.take p).length=p:=eO
 have sU:(ds.take p).length=p:=eO;refine⟨by rw[List.length_append,List.length_append,tq,sU,Yi _ _ _ hq,Yi _ _ _ fJ],fun k=>if k<p then Sk k else Sk (q+(k-p)),fun k x d hx wL=>?_,fun k b hb=>?_,fun i j b hi hj=>?_⟩
 ·by_cases nd:k<p
  ·rw[List.getElem?_append_left fJ]at hx wL;rw[List.getElem?_take,if_pos nd]at hx wL;simp only[if_pos nd];exact hk k x d hx wL
  ·rw[List.getElem?_append_right fJ,tq]at hx;rw[List.getElem?_append_right fJ,sU]at wL;simp only[if_neg nd];exact hk _ x d (KO _ _ _ _ _ hx) (KO _ _ _ _ _ wL)
 ·dsimp only at hb;split at hb<;>exact hs _ b hb
 ·dsimp only at hi hj;split at hi<;>split at hj
  ·exact hd _ _ b hi hj
  ·have:=hd _ _ b hi hj;omega
  ·have:=hd _ _ b hi hj;omega
  ·have:=hd _ _ b hi hj;omega
open Go.RowKit
def Sb:List At->Bool
 |[]=>true
 |.d (.sl _ _)::_=>false
 |_::xs=>Sb xs
theorem Py:∀{xs:List At},Sb xs=true->∀x∈xs,∀s r,x≠ .d (.sl s r)
 |[],_,x,hx,_,_=>by cases hx
 |y::xs,h,x,hx,s,r=>by
  have h2:Sb xs=true/\∀s r,y≠ .d (.sl s r):=by
   cases y with
   |d z=>cases z with
    |sl s r=>cases h
    |_=>exact⟨h,fun s r e=>by cases e⟩
   |_=>exact⟨h,fun s r e=>by cases e⟩
  rcases List.mem_cons.1 hx with rfl|hx
  ·exact h2.2 s r
  ·exact Py h2.1 x hx s r
theorem U9(r:Rel T0 B σ a w X h){T:TypeId}(wA:o.op= .makeSlice T x x)(hd:o.dst=some d)(w8:σ.fresh d=true)
  (ht:Zy P T=true) (hz:YR P (ZD P T)=true) (uG:zk P 12 (ZD P T)=some z) (nr:zD z=some zr) (gC:Sb z=true) (w7:0<P.cellsOf (ZD P T)) (hx:yo P σ x k (n:Int)) (r4:P.bytesOf (ZD P T)*n<=281474976710656) (tx:n<=9223372036854775807)
  (hK:∀a' w',Xx T0 B (σ.new d (.one (.sref d 0 0 n)) [.arr true (P.cellsOf (ZD P T)) (List.replicate n zr)]) a' w'->YL B w w'->K a' w'):o.wp P a w K Q:=by
 obtain⟨ti,hu,hi,uU⟩:=YM ht;obtain⟨i,zv,row,vW,uv,rG,uW,tE,vi,uF⟩:=Jl hz;rw[hi]at vW;cases vW;rw[uG]at rG;cases rG;have hex:=JY r hx
 have oC:(ti.bytes:Int)*(n:Int)<=281474976710656:=by have:P.bytesOf (ZD P T)=ti.bytes:=eW;rw[this]at r4;have h:((ti.bytes*n:Nat):Int)<=281474976710656:=fJ;rwa[Int.natCast_mul]at h
 have wU:=run_make (P:=P) w T (ZD P T) ti zv hu hi uv k k n n fJ (Int.le_refl _) oC fJ;simp only[Int.toNat_natCast]at wU;unfold Oper.wp;simp only[execOp,wA,hex,Sem.run_bind,wU,Result.andThen_ok,Sem.run_pure,Oper.upon_value,hd];have r8:=Rq nr (uF (Tof T0 X) h σ.ob w);have gF:=r8.length;have e1:zv.cells.toList.length=zv.cells.size:=Array.length_toList;have sB:zr.length=ti.size:=fJ;have ua:(madeCells zv.cells (n*ti.size)).toList.length=n*ti.size:=by rw[Array.length_toList,size_madeCells]
 have rO:∀q u,(madeCells zv.cells (n*ti.size)).toList[q]?=some u->zv.cells.toList[q%ti.size]?=some u:=by
  intro q u hq;have wO:q<n*ti.size:=fv
  have oD:q%ti.size<zv.cells.size:=by rw[tE];exact Nat.mod_lt _ fJ
  have:(madeCells zv.cells (n*ti.size)).toList[q]?=some (zv.cells[q%zv.cells.size]!):=by simp[madeCells,wO]
  rw[this]at hq;cases hq;rw[tE];simp[oD]
 have uY:Qk (w.alloc (.cells (madeCells zv.cells (n*ti.size)) (ZD P T))) (madeCells zv.cells (n*ti.size)).toList (List.replicate n zr).flatten (fun _=>False):=by
  refine⟨by rw[ua,Zg _ ti.size (by intro q hq;rw[List.eq_of_mem_replicate hq];exact sB)];simp,fun _ _=>False,fun q u dd hq uf=>?_,fun _ _ hb=>hb,fun _ _ _ hb=>hb.elim⟩;have wO:q<n*ti.size:=fv
  rw[zA zr n q (by rw[sB];exact wO),sB]at uf;exact O1 nr (uF (Tof T0 X) h σ.ob w) (Py gC) _ _ _ u dd (rO q u hq) uf
 have:=r.Iv w8 (World.grownBy_alloc w (.cells (madeCells zv.cells (n*ti.size)) (ZD P T)) none) (.slice (some ⟨w.heap.size,0,none⟩) n n) (e:=ZD P T) (size:=P.cellsOf (ZD P T)) (rows:=List.replicate n zr) (xs:=(madeCells zv.cells (n*ti.size)).toList)
  ⟨by rw[ua,vi];simp,.inr ⟨w.heap.size,n,_,fM,Nat.zero_le _,heap_alloc_new w _,fM,by simp only[maxLen];omega,by rw[size_madeCells,vi],by rw[List.take_of_length_le (by rw[ua,vi];simp)]⟩⟩
  (by intro q hq;rw[List.eq_of_mem_replicate hq];omega) uY
  (fun b hb=>by simp[blk]at hb;subst hb;exact⟨Nat.le_refl _,fM⟩)
 rw[List.length_replicate]at this;exact hK _ _ this.1 this.2
theorem Qk.place{xs:List Value}(h1:Qk w xs ds S)(h2:Qk w ys es S')(hd:∀b,S b->S' b->False)(o:Nat)(ho:o+ys.length<=xs.length):Qk w (Vm.place xs o ys) (Vm.place ds o es) (fun b=>S b\/S' b):=by
 obtain⟨l1,Sk,a1,a2,a3⟩:=h1;obtain⟨l2,rf,b1,b2,b3⟩:=h2;refine⟨by rw[Yo _ _ _ ho,Yo _ _ _ fJ,l1],fun k=>if o<=k/\k<o+ys.length then rf (k-o)else Sk k,fun k x d hx wL=>?_,fun k b hb=>?_,fun i j b hi hj=>?_⟩
 ·rcases yO xs o ys ho k x hx with⟨p1,p2,p3⟩|⟨p1,p3⟩
  ·rcases yO ds o es fJ k d wL with⟨_,_,p4⟩|⟨p4,_⟩
   ·simp only[p1,p2,and_self,if_true];exact b1 _ x d p3 p4
   ·exact absurd ⟨p1,fJ⟩ p4
  ·rcases yO ds o es fJ k d wL with⟨p4,p5,_⟩|⟨_,p4⟩
   ·exact absurd ⟨p4,fJ⟩ p1
   ·simp only[p1,if_false];exact a1 k x d p3 p4
 ·by_cases hk:o<=k/\k<o+ys.length
  ·simp only[hk,and_self,if_true]at hb;exact .inr (b2 _ b hb)
  ·simp only[hk,if_false]at hb;exact .inl (a2 k b hb)
 ·by_cases vW:o<=i/\i<o+ys.length
  ·simp only[vW,and_self,if_true]at hi;by_cases uh:o<=j/\j<o+ys.length
   ·simp only[uh,and_self,if_true]at hj;have:=b3 _ _ b hi hj;omega
   ·simp only[uh,if_false]at hj;exact(hd b (a2 j b hj) (b2 _ b hi)).elim
  ·simp only[vW,if_false]at hi;by_cases uh:o<=j/\j<o+ys.length
   ·simp only[uh,and_self,if_true]at hj;exact(hd b (a2 i b hi) (b2 _ b hj)).elim
   ·simp only[uh,if_false]at hj;exact a3 i j b hi hj
theorem Ua(r:Rel T0 B σ a w X h){T:TypeId}(wA:o.op= .store T x y)(hd:o.dst=none)(ht:Kk P T=true)(tc:gOf (look P σ 0 x)=true)(te:gOf (look P σ T y)=true)
  {i:Nat} (hx:unc (look P σ 0 x)= .one (.ptr t j i c)) (ho:σ.ob t j= .arr true size rows) (hi:i<rows.length) (vV:(unc (look P σ T y)).flat=true) (sb:QD σ (unc (look P σ T y)).cells=some ds) (wT:XO σ (unc (look P σ T y)).cells)
  (vA:(YF (unc (look P σ T y)).cells).Nodup) (nM:(t,j)∉YF (unc (look P σ T y)).cells) (gD:(σ.ZV (YF (unc (look P σ T y)).cells)).Je (At.isT t)=false) (hl:ds.length=P.cellsOf T) (hle:c+P.cellsOf T<=size)
  (hK:∀a' w',Xx T0 B ((σ.ZV (YF (unc (look P σ T y)).cells)).ZT t j (.arr true size (rows.set i (place (rows.getD i []) c ds)))) a' w'->YL B w w'->K a' w'):o.wp P a w K Q:=by
 obtain⟨_,ti,_,mv,_,_⟩:=yd ht;have nS:=r.arg (P:=P) 0 x hx tc
 obtain⟨b,cap,cur,e,xs,hb,he,hh,vh,uE,uM,uw,hz,r5,_,wI⟩:=r.arr ho nS;obtain⟨wI,hn⟩:=wI rfl;have hy:=yx vV (r.arg (P:=P) T y rfl te)
 have uL:=Wz r hy sb wT vA;have vt:=uL.1;have e2:(a.eval y).cells.toList.length=(a.eval y).cells.size:=Array.length_toList;have e3:cur.toList.length=cur.size:=Array.length_toList;have wg:rows[i]?=some (rows.getD i []):=fe;have hmul:i*size+size<=rows.length*size:=ft;have nT:rows.length*size<=cap*size:=Nat.mul_le_mul_right _ vh;have wU:=run_store (P:=P) (w:=w) mv (o:=i*size+c) (val:=a.eval y) hh fJ fJ (fun u hu=>by obtain⟨x',_,tF⟩:=hy.mem hu;exact Zf.YN tF);have wW:σ.ob t j≠ .none:=fi;have vM:blk (h t j).v=some b:=by rw[hb];rfl
 have hB:=r.Hn wW vM;have vR:=r.ub t j b wW vM;have rC:xs.length=rows.length*size:=by rw[r5,Zg rows size hz]
 have tG:(rows.getD i []).length=size:=hz _ (List.mem_of_getElem? wg);generalize hL:YF (unc (look P σ T y)).cells=L at*;have r1:=r.ZV L;have rQ:(σ.ZV L).ob t j= .arr true size rows:=by rw[St.Xg,if_neg nM,ho]
 have vJ:=r.zN L;have uc:∀b',(h t j).u b'->KX σ h L b'->False:=by rintro b' v5 ⟨p,hp,wC,my⟩;obtain⟨q1,q2⟩:=r.inj t j p.1 p.2 b' wW wC v5 my;exact nM (by rw[q1,q2];exact hp)
 unfold Oper.wp;simp only[execOp,wA,he,Sem.run_bind,wU,Result.andThen_ok,Sem.run_pure,Oper.upon_skip,hd];refine hK _ _ ⟨X,_,r1.change (by rw[rQ];simp) (by simp[World.setRow]) (fun k hk=>setRow_other w b k _ (fun e=>hk (e▸vR))) (KX σ h L) (fun b' wP=>vJ b' wP) _ (by rw[rQ];simp[Ob.Ih])
  ⟨(h t j).v,fun k=>((place xs (i*size+c) (a.eval y).cells.toList)[k]?).getD undef,fun b'=>(h t j).u b'\/KX σ h L b'⟩ rfl (fun b' wP=>wP) (fun b' wP=>.inl (r.ub t j b' wW wP)) (At.isT t) gD (.inl (fun u i c=>by simp[At.isT])) ?_⟩ (YL.setRow hB.1 _)
 have vd:=setRow_heap w b cur (place cur.toList (i*size+c) (a.eval y).cells.toList).toArray e (0,0) hh;have wZ:∀b',b'≠b->(w.setRow b (place cur.toList (i*size+c) (a.eval y).cells.toList).toArray).heap[b']?=w.heap[b']?:=fun b' wC=>setRow_other w b b' _ wC;have ue:∀r∈rows.set i (place (rows.getD i []) c ds),r.length=size:=by
  intro r' vU;rcases List.mem_or_eq_of_mem_set vU with vU|vU
  ·exact hz r' vU
  ·rw[vU,Yo _ _ _ fJ,tG]
 refine⟨e,place xs (i*size+c) (a.eval y).cells.toList,⟨?_,.inr ⟨b,cap,_,by simpa using hb,Nat.zero_le _,vd,by simpa using vh,uE,?_,?_⟩⟩,ue,?_,fun k u d hu _ _=>by simp[hu]⟩
 ·rw[Yo _ _ _ fJ,rC];simp
 ·simp only[List.size_toArray];rw[Yo _ _ _ fJ,e3,uM]
 ·simp only[List.length_set];rw[TQ _ _ _ _ fJ fJ,uw]
 ·rw[JN size c ds fJ rows i _ wg hz];have k1:Qk (w.setRow b (place cur.toList (i*size+c) (a.eval y).cells.toList).toArray) xs rows.flatten (fun b=>(h t j).u b/\blk (h t j).v≠some b):=wI.Uu (fun b' wP=>wZ b' (fun e=>wP.2 (by rw[e];exact vM)))
  have k2:Qk (w.setRow b (place cur.toList (i*size+c) (a.eval y).cells.toList).toArray) (a.eval y).cells.toList ds (KX σ h L):=uL.Uu (fun b' wP=>wZ b' (fun e=>uc b' (by rw[e];exact vR) wP));refine(k1.place k2 (fun b' h1 h2=>uc b' h1.1 h2) _ fJ).mono (fun b' wP=>?_);rcases wP with wP|wP
  ·exact⟨.inl wP.1,wP.2⟩
  ·exact⟨.inr wP,fun e=>uc b' (r.ub t j b' wW e) wP⟩
def Gy(σ:St)(x:V)(size:Nat)(wD:List (List D))(l:List (Nat×Nat)):Prop:=
 match x with
 |.one (.nil _)=>wD=[]/\l=[]
 |.one (.sref t j lo len)=>lo=0/\len=wD.length/\l=[(t,j)]/\(σ.ob t j= .arr true size wD\/(σ.ob t j= .lit size []/\wD=[]))
 |_=>False
def HJ(w:World)(res:List (List D))(e:Ending)(w':World):Prop:=
 ∃(vs:List Value)(wc:List (List Value)),e= .returned (qz vs)/\Below w.heap.size w w'/\ZU Qq vs wc/\ZU (fun(cs:List Value)(row:List D)=>cs.length=row.length) wc res/\
  Qk w' wc.flatten res.flatten (fun b=>w.heap.size<=b/\b<w'.heap.size)
def Zp(P:Program)(f:FuncId)(args res:List (List D)):Prop:=
 j4 P f=true/\∀(T:CS)(w:World)(wm:List Value),(∀b k,T b k->b<w.heap.size)->ZU (fun v row=>∃cs,Qq v cs/\ZU (Rd T w) cs row) wm args->Calls P f wm.toArray w (HJ w res)
theorem KE{α β:Type}{R:α->β->Prop}:∀{wc:List (List α)}{res:List (List β)},ZU (fun(cs:List α)(row:List β)=>cs.length=row.length) wc res->(∀(k:Nat)(x:α)(d:β),wc.flatten[k]?=some x->res.flatten[k]?=some d->R x d)->ZU (fun cs row=>ZU R cs row) wc res:=by
 intro wc res wE;induction wE with
 |nil=>intro _;exact .nil
 |@cons cs row wc res hl _ ih=>
  intro hk;refine .cons (ZU.Jq hl (fun k x d hx hd=>hk k x d ?_ ?_)) (ih (fun k x d hx hd=>hk (cs.length+k) x d ?_ ?_))
  ·rw[List.flatten_cons,List.getElem?_append_left (List.getElem?_eq_some_iff.1 hx).1];exact hx
  ·rw[List.flatten_cons,List.getElem?_append_left (List.getElem?_eq_some_iff.1 hd).1];exact hd
  ·rw[List.flatten_cons,List.getElem?_append_right fJ];simpa using hx
  ·rw[List.flatten_cons,List.getElem?_append_right fJ,hl];simpa using hd
theorem Zp.rd{args:List (List D)}(hs:Zp P f args res):Y0 P f false args res:=by refine⟨hs.1,fun T w wm hT ha=>(hs.2 T w wm hT ha).mono ?_⟩;rintro e w' ⟨vs,wc,he,hb,hf,hl,⟨_,Sk,h1,h2,h3⟩⟩;refine⟨vs,wc,fun b=>w.heap.size<=b/\b<w'.heap.size,he,hb,fun b hb=>hb,hf,KE hl (fun k x d hx hd=>?_),fun hh=>by cases hh⟩;simp only[J5,Bool.false_eq_true,if_false];exact(h1 k x d hx hd).rd (fun b k' hb=>.inr (h2 k b hb))
def Zr:List Bool->List D->List Ob
 |_,[]=>[]
 |q::qs,.sl size rows::ds=>.arr q size rows::Zr qs ds
 |[],.sl size rows::ds=>.arr true size rows::Zr [] ds
 |qs,_::ds=>.none::Zr qs.tail ds
def zC:List Bool->List D->Prop
 |_,[]=>True
 |q::qs,.sl _ rows::ds=>(q=false->∀r∈rows,∀x∈r,x.scalar=true)/\zC qs ds
 |[],.sl _ _::ds=>zC [] ds
 |qs,_::ds=>zC qs.tail ds
theorem Z8:∀(qs:List Bool)(ds:List D)(k:Nat),zC qs ds->(∀size rows,ds[k]?=some (.sl size rows)->∃q,Zq (Zr qs ds) k= .arr q size rows/\(q=false->∀r∈rows,∀x∈r,x.scalar=true))/\(Zq (Zr qs ds) k≠ .none->∃size rows,ds[k]?=some (.sl size rows))
 |qs,[],k,_=>⟨fun size rows h=>by simp at h,fun h=>by cases qs<;>simp[Zr,Zq]at h⟩
 |q::qs,.sl size rows::ds,0,hf=>⟨fun s r h=>by simp at h;obtain⟨rfl,rfl⟩:=h;exact⟨q,by simp[Zr,Zq],hf.1⟩,fun _=>⟨size,rows,fM⟩⟩
 |[],.sl size rows::ds,0,hf=>⟨fun s r h=>by simp at h;obtain⟨rfl,rfl⟩:=h;exact⟨true,by simp[Zr,Zq],fun h=>by cases h⟩,fun _=>⟨size,rows,fM⟩⟩
 |qs,.int k n::ds,0,hf=>⟨fun s r h=>by simp at h,fun h=>by cases qs<;>simp[Zr,Zq]at h⟩
 |qs,.bool b::ds,0,hf=>⟨fun s r h=>by simp at h,fun h=>by cases qs<;>simp[Zr,Zq]at h⟩
 |qs,.str s::ds,0,hf=>⟨fun s r h=>by simp at h,fun h=>by cases qs<;>simp[Zr,Zq]at h⟩
 |qs,.unk::ds,0,hf=>⟨fun s r h=>by simp at h,fun h=>by cases qs<;>simp[Zr,Zq]at h⟩
 |q::qs,.sl size rows::ds,k+1,hf=>by have:=Z8 qs ds k hf.2;simpa[Zr,Zq]using this
 |[],.sl size rows::ds,k+1,hf=>by have:=Z8 [] ds k hf;simpa[Zr,Zq]using this
 |qs,.int _ _::ds,k+1,hf=>by have:=Z8 qs.tail ds k eb;cases qs<;>simpa[Zr,Zq]using this
 |qs,.bool _::ds,k+1,hf=>by have:=Z8 qs.tail ds k eb;cases qs<;>simpa[Zr,Zq]using this
 |qs,.str _::ds,k+1,hf=>by have:=Z8 qs.tail ds k eb;cases qs<;>simpa[Zr,Zq]using this
 |qs,.unk::ds,k+1,hf=>by have:=Z8 qs.tail ds k eb;cases qs<;>simpa[Zr,Zq]using this
theorem PW(r:Rel T0 B σ a w X h){c:Call}(qs:List Bool)(wA:o.op= .call c)(hc:c.callee= .value (.func f))(hd:o.dst=some d)(w8:σ.fresh d=true)
  (wH:Yq P σ c.args.toList c.argTypes.toList rows) (hs:Zp P f rows res) (hq:zC qs res.flatten)
  (hK:∀a' w',Xx T0 B (σ.new d (Kp d res) (Zr qs res.flatten)) a' w'->YL B w w'->K a' w'):o.wp P a w K Q:=by
 have wO:=St.JG w8;unfold Oper.wp;rw[yg wA hc hs.1,Oper.upon_enter];have rR:=r.Yq false wH (fun hh=>by cases hh);simp only[Bool.false_eq_true,if_false]at rR;refine(hs.2 (ky T0 X h σ) w _ (fun b k hb=>r.R1 hb) rR).mono ?_;rintro e w' ⟨vs,wc,rfl,vY,wj,hlen,⟨_,Sk,h1,h2,h3⟩⟩;rw[hd];have hex:∀j,∃hd:Hd,(∀c,wc.flatten[j]?=some c->hd.v=c)/\(∀size rows,res.flatten[j]?=some (.sl size rows)->(∀b,hd.u b->Sk j b)/\(∀b,blk hd.v=some b->hd.u b)/\∀T h ob,Xo T h ob w' hd (.arr true size rows)/\((∀r∈rows,∀x∈r,x.scalar=true)->Xo T h ob w' hd (.arr false size rows))):=by
  intro j;have vV:wc.flatten.length=res.flatten.length:=by have:=KE (R:=fun _ _=>True) hlen (fun _ _ _ _ _=>trivial);exact(J2 this).length
  cases hj:res.flatten[j]? with
  |none=>exact⟨Hd.of ((wc.flatten[j]?).getD undef),fun c wk=>by simp[Hd.of,wk],fun size rows hh=>by cases hh⟩
  |some dd=>
   have s8:j<wc.flatten.length:=by rw[vV];exact(List.getElem?_eq_some_iff.1 hj).1
   have sW:wc.flatten[j]?=some wc.flatten[j]:=List.getElem?_eq_getElem s8;cases dd with
   |int k n=>exact⟨Hd.of wc.flatten[j],fun c wk=>by rw[sW]at wk;cases wk;rfl,fun size rows hh=>by cases hh⟩
   |bool k=>exact⟨Hd.of wc.flatten[j],fun c wk=>by rw[sW]at wk;cases wk;rfl,fun size rows hh=>by cases hh⟩
   |str k=>exact⟨Hd.of wc.flatten[j],fun c wk=>by rw[sW]at wk;cases wk;rfl,fun size rows hh=>by cases hh⟩
   |unk=>exact⟨Hd.of wc.flatten[j],fun c wk=>by rw[sW]at wk;cases wk;rfl,fun size rows hh=>by cases hh⟩
   |sl size rows=>
    have ho:=h1 j _ _ sW hj;generalize hv:wc.flatten[j]=v at ho;cases ho with
    |sl v size rows S e xs rf ho hz hb hl hk rz wL=>
     refine⟨⟨v,fun k=>(xs[k]?).getD undef,Sk j⟩,fun c wk=>by rw[sW,hv]at wk;cases wk;rfl,fun wi wQ hh=>?_⟩;cases hh;refine⟨fun b hb=>hb,hb,fun T h ob=>⟨⟨e,xs,ho,hz,⟨hl,rf,hk,fun k b hb=>rz k b hb,wL⟩,fun k x d hx _ _=>by simp[hx]⟩,fun vo=>⟨e,xs,ho,hz,ZU.Jq hl (fun k x d hx hd=>?_)⟩⟩⟩;obtain⟨r0,um,hdr⟩:=List.mem_flatten.1 (List.mem_of_getElem? hd);have vH:=vo r0 um d hdr
     have:=hk k x d hx hd;cases this with
     |int k n=>exact .int _ _
     |bool b=>exact .bool _
     |str s=>exact .str _
     |unk v h=>exact .unk _ h
     |sl=>cases vH
 obtain⟨hf,sc⟩:=Classical.axiomOfChoice hex;refine hK _ _ ⟨X,fun t j=>if t=d then hf j else h t j,?_⟩ (YL.WH vY r.hB);have wW:∀j,(σ.new d (Kp d res) (Zr qs res.flatten)).ob d j=Zq (Zr qs res.flatten) j:=fun j=>by rw[St.Xj];simp[wO]
 have vq:ZU (fun cs row=>ZU (zW (Tof T0 X) w') cs row) wc res:=by
  refine KE hlen (fun k x d hx hd=>?_);have ho:=h1 k x d hx hd
  cases ho with
  |int k n=>exact Rd.int _ _
  |bool b=>exact Rd.bool _
  |str s=>exact Rd.str _
  |unk v h=>exact Rd.unk _ h
  |sl v size rows S e xs rf ho hz hb hl hk rz wL=>exact⟨e,xs,ho⟩
 refine r.new w8 (Below.grownBy vY) (fun b hb=>hb) (fun b hb=>.inl hb) (Kp d res) (qz vs) (Zr qs res.flatten) hf ?_ (fun j=>?_) (fun j b wC hb=>?_) (fun j b wC hb=>?_) (fun j j' b wC wq hb wP=>?_)
 ·exact Ts (h:=fun t j=>if t=d then hf j else h t j) (ob:=(σ.new d (Kp d res) (Zr qs res.flatten)).ob) (t:=d) wj vq (fun i size rows hi=>by
   obtain⟨q,tU,_⟩:=(Z8 qs res.flatten i hq).1 size rows hi;exact⟨q,by rw[wW];exact tU⟩) (fun i c hi=>by simp only[if_true];exact(sc i).1 c hi)
 ·by_cases wC:Zq (Zr qs res.flatten) j= .none
  ·rw[wC];trivial
  ·obtain⟨size,rows,hj⟩:=(Z8 qs res.flatten j hq).2 wC;obtain⟨q,tU,mz⟩:=(Z8 qs res.flatten j hq).1 size rows hj;rw[tU];have:=((sc j).2 size rows hj).2.2 (Tof T0 X) (fun t j=>if t=d then hf j else h t j) (σ.new d (Kp d res) (Zr qs res.flatten)).ob
   cases q with
   |true=>exact this.1
   |false=>exact this.2 (mz rfl)
 ·obtain⟨size,rows,hj⟩:=(Z8 qs res.flatten j hq).2 wC;exact((sc j).2 size rows hj).2.1 b hb
 ·obtain⟨size,rows,hj⟩:=(Z8 qs res.flatten j hq).2 wC;have:=h2 j b (((sc j).2 size rows hj).1 b hb)
  exact⟨this.1,fun hx=>by have:=(r.hX b hx).2;omega,this.2⟩
 ·obtain⟨size,rows,hj⟩:=(Z8 qs res.flatten j hq).2 wC;obtain⟨wi,wQ,uh⟩:=(Z8 qs res.flatten j' hq).2 wq;exact h3 j j' b (((sc j).2 size rows hj).1 b hb) (((sc j').2 wi wQ uh).1 b wP)
end Go.Vm
