/- An abstract machine M1 the model of Go, by value, and that it is sound: part Vb. No condition. -/
import Derived.Test.YthecodaabaaaoaaGreatVa
set_option linter.unusedVariables false
set_option linter.unusedSimpArgs false
namespace Go.Vm
open Go.RowKit
variable{Q:Exit->Act->World->Prop}{K:Act->World->Prop}{h h':Nat->Nat->Hd}{rows news s ng res rs:List (List D)}{B X' X S S' N:Nat->Prop}{o:Oper}{P:Program}{σ σ' σ1:St}{x y:Operand}{p:At->Bool}{T0 T T':CS}{a:Act}{v val:Value}{n d size j t lo c g len i u:Nat}{w' w:World}{l8:Nat->Nat->Ob}{ys vs:List Value}{k:IntKind}{f:FuncId}{q:Bool}{cur:Array Value}{hd:Hd}
theorem YL.uI{ob:Nat->Nat->Ob}(hT:∀b k v,T b k->w.cell? ⟨b,k,none⟩=some v->w'.cell? ⟨b,k,none⟩=some v/\T' b k)(hc:∀t j,Cpt h h' ob l8 t j)
  {x:At} (r:YL T h ob w x v):YL T' h' l8 w' x v:=by
 obtain⟨d,hd⟩:∃d,x.ref d=false:=by
  cases x with
  |sref t j lo len=>exact⟨t+1,by simp[At.ref]⟩
  |ptr t j i c=>exact⟨t+1,by simp[At.ref]⟩
  |bptr t c=>exact⟨t+1,by simp[At.ref]⟩
  |fn f t=>exact⟨t+1,by simp[At.ref]⟩
  |tref t j i c o=>exact⟨t+1,by simp[At.ref]⟩
  |any=>exact⟨0,rfl⟩
  |d x=>exact⟨0,rfl⟩
  |nil s=>exact⟨0,rfl⟩
  |rptr r c=>exact⟨0,rfl⟩
 exact YL.carry hT (d:=d) (fun t j _=>hc t j) hd r
def U8(p:At->Bool):List At->Bool
 |[]=>false
 |x::xs=>p x||U8 p xs
def V.Ba(p:At->Bool):V->Bool
 |.one x=>p x
 |.agg xs=>U8 p xs
 |_=>false
def Eb(p:At->Bool):List V->Bool
 |[]=>false
 |x::xs=>x.Ba p||Eb p xs
def V.yV(p:At->Bool):V->Bool
 |.tup xs=>Eb p xs
 |.cnd _ x=>x.Ba p
 |.fix _ x=>x.Ba p
 |.one x=>p x
 |.agg xs=>U8 p xs
 |.any=>false
def yp(p:At->Bool):List Ob->Bool
 |[]=>false
 |.box cells::os=>U8 p cells||yp p os
 |.lit _ rows::os=>U8 p rows.flatten||yp p os
 |_::os=>yp p os
def St.yV(p:At->Bool):St->Bool
 |[]=>false
 |e::σ=>e.1.yV p||yp p e.2||St.yV p σ
def At.isT(t:Nat):At->Bool
 |.tref u _ _ _ _=>u==t
 |_=>false
theorem kL:∀(xs:List At),U8 (fun _=>false) xs=false
 |[]=>rfl
 |_::xs=>by simp[U8,kL xs]
theorem LO:∀(xs:List V),Eb (fun _=>false) xs=false
 |[]=>rfl
 |x::xs=>by cases x<;>simp[Eb,V.Ba,kL,LO xs]
theorem Ar(x:V):x.Ba (fun _=>false)=false:=by cases x<;>simp[V.Ba,kL]
theorem xi(x:V):x.yV (fun _=>false)=false:=by cases x<;>simp[V.yV,kL,LO,Ar]
theorem W3:∀(os:List Ob),yp (fun _=>false) os=false
 |[]=>rfl
 |o::os=>by cases o<;>simp[yp,kL,W3 os]
theorem St.xi:∀(σ:St),St.yV (fun _=>false) σ=false
 |[]=>rfl
 |e::σ=>by simp[St.yV,Go.Vm.xi,Go.Vm.W3,St.xi σ]
theorem St.Nf{p:At->Bool}:∀{σ:St},σ.yV p=false->∀t,(σ.get t).yV p=false
 |[],_,t=>by simp[St.get,V.yV]
 |e::σ,h,0=>by simp only[St.yV,Bool.or_eq_false_iff]at h;exact h.1.1
 |e::σ,h,t+1=>by
  simp only[St.yV,Bool.or_eq_false_iff]at h;have:=St.Nf h.2 t
  simpa[St.get]using this
theorem El{p:At->Bool}:∀{os:List Ob},yp p os=false->∀j,yp p [Yp os j]=false
 |[],_,j=>by simp[Yp,yp]
 |o::os,h,0=>by cases o<;>simp_all[Yp,yp]
 |o::os,h,j+1=>by
  have h2:yp p os=false:=by cases o<;>simp_all[yp]
  have:=El h2 j;simpa[Yp]using this
theorem St.It{p:At->Bool}:∀{σ:St},σ.yV p=false->∀t j,yp p [σ.ob t j]=false
 |[],_,t,j=>by simp[St.ob,yp]
 |e::σ,h,0,j=>by simp only[St.yV,Bool.or_eq_false_iff]at h;exact El h.1.2 j
 |e::σ,h,t+1,j=>by
  simp only[St.yV,Bool.or_eq_false_iff]at h;have:=St.It h.2 t j
  simpa[St.ob]using this
theorem Iv{ob:Nat->Nat->Ob}(f:∀{x:At}{v:Value},p x=false->YL T h ob w x v->YL T' h' l8 w' x v){xs:List At}(hx:U8 p xs=false)
  (r:YF (YL T h ob w) xs vs):YF (YL T' h' l8 w') xs vs:=by
 induction r with
 |nil=>exact .nil
 |cons r _ ih=>simp only[U8,Bool.or_eq_false_iff]at hx;exact .cons (f hx.1 r) (ih hx.2)
theorem K7.map{ob:Nat->Nat->Ob}(f:∀{x:At}{v:Value},p x=false->YL T h ob w x v->YL T' h' l8 w' x v){x:V}(hx:x.Ba p=false)
  (r:K7 T h ob w x v):K7 T' h' l8 w' x v:=by
 cases x with
 |any=>exact r
 |one x=>exact f hx r
 |agg xs=>obtain⟨cs,e,r⟩:=r;exact⟨cs,e,Iv f hx r⟩
 |tup xs=>exact r.elim
 |cnd g x=>exact r.elim
 |fix u x=>exact r.elim
theorem JB.map{ob:Nat->Nat->Ob}(f:∀{x:At}{v:Value},p x=false->YL T h ob w x v->YL T' h' l8 w' x v){x:V}(hx:x.yV p=false)
  (r:JB T h ob w x v):JB T' h' l8 w' x v:=by
 cases x with
 |any=>exact r
 |one x=>exact f hx r
 |agg xs=>obtain⟨cs,e,r⟩:=r;exact⟨cs,e,Iv f hx r⟩
 |tup xs=>
  obtain⟨vs,e,r⟩:=r;refine⟨vs,e,?_⟩;clear e;generalize vs.toList=vl at r;simp only[V.yV]at hx;induction r with
  |nil=>exact .nil
  |cons r _ ih=>simp only[Eb,Bool.or_eq_false_iff]at hx;exact .cons (K7.map f hx.1 r) (ih hx.2)
 |cnd g x=>exact⟨fun hg=>K7.map f hx (r.1 hg),r.2⟩
 |fix u x=>exact⟨r.1,K7.map f hx r.2⟩
theorem Jx.map{ob:Nat->Nat->Ob}(f:∀{x:At}{v:Value},p x=false->YL T h ob w x v->YL T' h' l8 w' x v)
  (hT:∀b k v,T b k->w.cell? ⟨b,k,none⟩=some v->w'.cell? ⟨b,k,none⟩=some v/\T' b k) {o:Ob}
  (lF:o≠ .none->∀b,blk hd.v=some b->hd.u b) (hb:o≠ .none->∀b,hd.u b->w'.heap[b]?=w.heap[b]?) (hx:yp p [o]=false) (r:Jx T h ob w hd o):Jx T' h' l8 w' hd o:=by
 cases o with
 |none=>trivial
 |box cells=>obtain⟨b,cs,e,hv,hh,ni⟩:=r;simp only[yp,Bool.or_false]at hx;exact⟨b,cs,e,hv,by rw[hb zAG b (lF zAG b (by rw[hv];rfl))];exact hh,Iv f hx ni⟩
 |arr q size rows=>
  have hk:∀{e:TypeId}{n:Nat}{xs:List Value},w.ownsRow 0 e size hd.v n xs->w'.ownsRow 0 e size hd.v n xs:=fun ho=>qZ (fun b h=>hb zAG b (lF zAG b h)) ho;cases q with
  |false=>obtain⟨e,xs,ho,hz,ni⟩:=r;exact⟨e,xs,hk ho,hz,ni.imp fun _ _=>Rd.mono hT⟩
  |true=>obtain⟨e,xs,ho,hz,ni,hn⟩:=r;exact⟨e,xs,hk ho,hz,ni.O2 (fun b h=>hb zAG b h.1),hn⟩
 |lit size rows=>obtain⟨e,xs,ho,hz,ni⟩:=r;simp only[yp,Bool.or_false]at hx;exact⟨e,xs,qZ (fun b h=>hb zAG b (lF zAG b h)) ho,hz,Iv f hx ni⟩
def Ob.uA:Ob->Ob->Prop
 |.arr q s r,.arr q' s' r'=>q=q'/\s=s'/\r.length=r'.length
 |.lit s r,.lit s' r'=>s=s'/\r.length=r'.length
 |.box _,.box _=>True
 |_,_=>False
theorem Rel.change(r:Rel T0 B σ a w X h)(n9:σ.ob t j≠ .none)(m0:w'.heap.size=w.heap.size)(hw:∀k,¬(h t j).u k->w'.heap[k]?=w.heap[k]?)(M:Nat->Prop)
  (hM:∀b,M b->¬B b/\¬X b/\b<w.heap.size/\∀u i,σ.ob u i≠ .none->¬(h u i).u b) (o':Ob) (hJ:(σ.ob t j).uA o') (nu:Hd) (hv:nu.v=(h t j).v) (hu:∀b,nu.u b->(h t j).u b\/M b) (lF:∀b,blk nu.v=some b->nu.u b)
  (p:At->Bool) (hp:σ.yV p=false) (hn:(∀u i c o,p (.tref t u i c o)=true)\/nu.n=(h t j).n)
  (gP:Jx (Tof T0 X) (fun u i=>if u=t/\i=j then nu else h u i) (σ.Z1 t j o').ob w' nu o'):Rel T0 B (σ.Z1 t j o') a w' X (fun u i=>if u=t/\i=j then nu else h u i):=by
 have lH:∀u i,¬(u=t/\i=j)->(σ.Z1 t j o').ob u i=σ.ob u i:=by intro u i nf;rw[St.Xz σ t j o' u i n9,if_neg nf]
 have lE:(σ.Z1 t j o').ob t j=o':=by rw[St.Xz σ t j o' t j n9];simp
 have hT:∀b k v,Tof T0 X b k->w.cell? ⟨b,k,none⟩=some v->w'.cell? ⟨b,k,none⟩=some v/\Tof T0 X b k:=by
  intro b' k v n7 nr;refine⟨?_,n7⟩;have nf:¬(h t j).u b':=by
   intro iO;have nk:=r.own t j b' n9 iO
   rcases n7 with n7|n7
   ·exact nk.1 (r.hT _ _ n7)
   ·exact nk.2.1 n7
  rw[World.cell?_of_block (hw b' nf)];exact nr
 have hhv:∀u i,((fun u i=>if u=t/\i=j then nu else h u i) u i).v=(h u i).v:=by
  intro u i;by_cases hc:u=t/\i=j
  ·simp only[hc,and_self,if_true];exact hv
  ·simp only[hc,if_false]
 have bO:∀u i q size rows,(σ.Z1 t j o').ob u i= .arr q size rows->∃nz,σ.ob u i= .arr q size nz/\nz.length=rows.length:=by
  intro u i q size rows ho;by_cases hc:u=t/\i=j
  ·obtain⟨rfl,rfl⟩:=hc;rw[lE]at ho;subst ho;cases m9:σ.ob u i with
   |arr q0 s0 r0=>rw[m9]at hJ;obtain⟨rfl,rfl,hl⟩:=hJ;exact⟨r0,rfl,hl⟩
   |none=>rw[m9]at hJ;exact hJ.elim
   |box c=>rw[m9]at hJ;exact hJ.elim
   |lit s r=>rw[m9]at hJ;exact hJ.elim
  ·rw[lH u i hc]at ho;exact⟨rows,ho,rfl⟩
 have hll:∀u i size rows,(σ.Z1 t j o').ob u i= .lit size rows->∃nz,σ.ob u i= .lit size nz/\nz.length=rows.length:=by
  intro u i size rows ho;by_cases hc:u=t/\i=j
  ·obtain⟨rfl,rfl⟩:=hc;rw[lE]at ho;subst ho;cases m9:σ.ob u i with
   |arr q0 s0 r0=>rw[m9]at hJ;exact hJ.elim
   |none=>rw[m9]at hJ;exact hJ.elim
   |box c=>rw[m9]at hJ;exact hJ.elim
   |lit s r=>rw[m9]at hJ;obtain⟨rfl,hl⟩:=hJ;exact⟨r,rfl,hl⟩
  ·rw[lH u i hc]at ho;exact⟨rows,ho,rfl⟩
 have dz:∀u i cells,(σ.Z1 t j o').ob u i= .box cells->∃lO,σ.ob u i= .box lO:=by
  intro u i cells ho;by_cases hc:u=t/\i=j
  ·obtain⟨rfl,rfl⟩:=hc;rw[lE]at ho;subst ho;cases m9:σ.ob u i with
   |arr q0 s0 r0=>rw[m9]at hJ;exact hJ.elim
   |none=>rw[m9]at hJ;exact hJ.elim
   |box c=>exact⟨c,rfl⟩
   |lit s r=>rw[m9]at hJ;exact hJ.elim
  ·rw[lH u i hc]at ho;exact⟨cells,ho⟩
 have at_:∀{x:At}{v:Value},p x=false->YL (Tof T0 X) h σ.ob w x v->YL (Tof T0 X) (fun u i=>if u=t/\i=j then nu else h u i) (σ.Z1 t j o').ob w' x v:=by
  intro x v dw rx;cases x with
  |any=>exact rx
  |d x=>exact Rd.mono hT rx
  |nil s=>exact rx
  |sref u i lo len=>
   refine⟨rx.1,fun q size rows ho=>?_,fun size rows ho=>?_⟩
   ·obtain⟨nz,m9,hl⟩:=bO u i q size rows ho;rw[hhv,<-hl];exact rx.2.1 q size nz m9
   ·obtain⟨nz,m9,hl⟩:=hll u i size rows ho;rw[hhv,<-hl];exact rx.2.2 size nz m9
  |ptr u i k c=>refine⟨rx.1,fun q size rows ho=>?_⟩;obtain⟨nz,m9,hl⟩:=bO u i q size rows ho;rw[hhv];exact rx.2 q size nz m9
  |bptr u c=>refine⟨rx.1,fun cells ho=>?_⟩;obtain⟨lO,m9⟩:=dz u 0 cells ho;rw[hhv];exact rx.2 lO m9
  |fn f u=>refine⟨rx.1,fun cells ho=>?_⟩;obtain⟨lO,m9⟩:=dz u 0 cells ho;rw[hhv];exact rx.2 lO m9
  |tref u i k c o=>
   refine⟨rx.1,fun size rows ho=>?_⟩;obtain⟨nz,m9,hl⟩:=bO u i true size rows ho;have h1:=rx.2 size nz m9
   by_cases hc:u=t/\i=j
   ·obtain⟨rfl,rfl⟩:=hc;rcases hn with hn|hn
    ·rw[hn]at dw;cases dw
    ·simp only[and_self,if_true,hn];exact h1
   ·simp only[hc,if_false];exact h1
  |rptr rr c=>obtain⟨b,off,g,e,hk⟩:=rx;exact⟨b,off,g,e,fun k d hd=>⟨(hT _ _ _ (hk k d hd).2.1 (hk k d hd).1).1,(hk k d hd).2.1,Rd.mono hT (hk k d hd).2.2⟩⟩
 have lI:∀u i,(σ.Z1 t j o').ob u i≠ .none->σ.ob u i≠ .none:=by
  intro u i mc;by_cases iO:u=t/\i=j
  ·obtain⟨rfl,rfl⟩:=iO;exact n9
  ·rw[lH u i iO]at mc;exact mc
 refine⟨by rw[r.size,St.Xf],r.defers,by rw[m0];exact r.hB,fun b hb=>by rw[m0];exact r.hX b hb,r.hT,fun u iO=>?_,fun u i=>?_,fun u i b' nf n7=>?_,fun u i b' nf n7=>?_,fun u i u' i' b' nf ma lC mQ=>?_⟩
 ·rw[St.Xf]at iO;rw[St.QL];exact JB.map at_ (St.Nf hp u) (r.slot u iO)
 ·by_cases hc:u=t/\i=j
  ·obtain⟨rfl,rfl⟩:=hc;rw[lE];simp only[and_self,if_true];exact gP
  ·rw[lH u i hc];simp only[hc,if_false];exact Jx.map at_ hT (fun ho b=>r.ub u i b ho) (fun ho b hb=>hw b (fun hbt=>hc (r.inj u i t j b ho n9 hb hbt))) (St.It hp u i) (r.obj u i)
 ·by_cases hc:u=t/\i=j
  ·simp only[hc,and_self,if_true]at n7⊢;exact lF b' n7
  ·simp only[hc,if_false]at n7⊢;exact r.ub u i b' (lI u i nf) n7
 ·rw[m0];by_cases hc:u=t/\i=j
  ·simp only[hc,and_self,if_true]at n7;rcases hu b' n7 with h1|h1
   ·exact r.own t j b' n9 h1
   ·have:=hM b' h1;exact⟨this.1,this.2.1,this.2.2.1⟩
  ·simp only[hc,if_false]at n7;exact r.own u i b' (lI u i nf) n7
 ·by_cases hc:u=t/\i=j
  ·by_cases mZ:u'=t/\i'=j
   ·exact⟨by rw[hc.1,mZ.1],by rw[hc.2,mZ.2]⟩
   ·simp only[hc,and_self,if_true]at lC;simp only[mZ,if_false]at mQ;rcases hu b' lC with h1|h1
    ·have:=r.inj t j u' i' b' n9 (lI u' i' ma) h1 mQ;rw[hc.1,hc.2];exact this
    ·exact absurd mQ ((hM b' h1).2.2.2 u' i' (lI u' i' ma))
  ·by_cases mZ:u'=t/\i'=j
   ·simp only[mZ,and_self,if_true]at mQ;simp only[hc,if_false]at lC;rcases hu b' mQ with h1|h1
    ·have:=r.inj u i t j b' (lI u i nf) n9 lC h1;rw[mZ.1,mZ.2];exact this
    ·exact absurd lC ((hM b' h1).2.2.2 u i (lI u i nf))
   ·simp only[hc,if_false]at lC;simp only[mZ,if_false]at mQ;exact r.inj u i u' i' b' (lI u i nf) (lI u' i' ma) lC mQ
theorem Rel.wb(r:Rel T0 B σ a w X h)(n9:σ.ob t j≠ .none)(m0:w'.heap.size=w.heap.size)(hw:∀k,¬(h t j).u k->w'.heap[k]?=w.heap[k]?)
  (o':Ob) (hJ:(σ.ob t j).uA o') (gP:Jx (Tof T0 X) h (σ.Z1 t j o').ob w' (h t j) o'):Rel T0 B (σ.Z1 t j o') a w' X h:=by
 have hh:(fun u i=>if u=t/\i=j then h t j else h u i)=h:=by
  funext u i;by_cases hc:u=t/\i=j
  ·simp[hc]
  ·simp[hc]
 have:=r.change n9 m0 hw (fun _=>False) (fun _ hh=>hh.elim) o' hJ (h t j) rfl (fun b hb=>.inl hb) (fun b hb=>r.ub t j b n9 hb) (fun _=>false) (St.xi σ) (.inr rfl) (by rw[hh];exact gP);rw[hh]at this;exact this
theorem run_store{T:TypeId}{ti:TypeInfo}(hi:P.info? T=some ti){o:Nat}{e:TypeId}(hg:w.heap[g]?=some (.cells cur e (0,0)))(m0:val.cells.size=P.cellsOf T)(hle:o+P.cellsOf T<=cur.size)(h1:∀u∈val.cells.toList,u.oneCell'=true):
  (Instr.storeAt T (.pointer (some ⟨g,o,none⟩)) val).run P w= .ok () (w.setRow g (place cur.toList o val.cells.toList).toArray):=by
 have mF:=run_storeCells_at P g o e val.cells.toList 0 cur w hg zAx h1;have nf:¬val.cells.size≠P.cellsOf T:=zAD;simp only[Instr.storeAt,Instr.sureAddr,storeVar,Sem.run_bind,Sem.run_pure,Result.andThen_ok,KQ hi,if_neg nf];rw[mF];simp[place]
theorem XI.setRow(hg:¬B g)(cs:Array Value):XI B w (w.setRow g cs):=
 ⟨rfl,rfl,rfl,by simp[World.setRow],fun k hk=>setRow_other w g k cs (fun e=>hg (e▸hk))⟩
theorem Hz(r:Rel T0 B σ a w X h){T:TypeId}(na:o.op= .store T x y)(hd:o.dst=none)(ht:qP P T=true)(gd:gOf (look P σ 0 x)=true)(gf:gOf (look P σ T y)=true)
  (hx:unc (look P σ 0 x)= .one (.bptr t c)) {cells:List At} (ho:σ.ob t 0= .box cells) (lM:(unc (look P σ T y)).flat=true) (hl:(unc (look P σ T y)).cells.length=P.cellsOf T) (hle:c+P.cellsOf T<=cells.length)
  (hK:∀a' w',Jq T0 B (σ.Z1 t 0 (.box (place cells c (unc (look P σ T y)).cells))) a' w'->XI B w w'->K a' w'):o.wp P a w K Q:=by
 obtain⟨_,ti,_,hi,_,_⟩:=kb ht;have bP:=r.arg (P:=P) 0 x hx gd
 obtain⟨b,cs,e,hb,he,hh,ni⟩:=r.box ho bP;have hy:=WM lM (r.arg (P:=P) T y rfl gf)
 have l0:=hy.length;have mK:=ni.length;have e1:cs.toList.length=cs.size:=Array.length_toList;have e2:(a.eval y).cells.toList.length=(a.eval y).cells.size:=Array.length_toList;have mB:=run_store (P:=P) (w:=w) hi (o:=c) (val:=a.eval y) hh zAD zAD (fun u hu=>by obtain⟨x',_,gw⟩:=hy.mem hu;exact YL.QM gw);have n9:σ.ob t 0≠ .none:=zAw;have mJ:blk (h t 0).v=some b:=by rw[hb];rfl
 have hB:=r.rR n9 mJ;have lF:=r.ub t 0 b n9 mJ;unfold Oper.wp;simp only[execOp,na,he,Sem.run_bind,mB,Result.andThen_ok,Sem.run_pure,Oper.upon_skip,hd];refine hK _ _ ⟨X,h,?_⟩ (XI.setRow hB.1 _);have lP:=setRow_heap w b cs (place cs.toList c (a.eval y).cells.toList).toArray e (0,0) hh;refine r.wb n9 zCA (fun k hk=>setRow_other w b k _ (fun e=>hk (e▸lF))) _ (by rw[ho];trivial) ?_;have r2:Rel T0 B (σ.Z1 t 0 (.box (place cells c (unc (look P σ T y)).cells))) a (w.setRow b (place cs.toList c (a.eval y).cells.toList).toArray) X h->True:=fun _=>trivial;have hT:∀b' k v,Tof T0 X b' k->w.cell? ⟨b',k,none⟩=some v->(w.setRow b (place cs.toList c (a.eval y).cells.toList).toArray).cell? ⟨b',k,none⟩=some v/\Tof T0 X b' k:=by
  intro b' k v n7 nr;refine⟨?_,n7⟩;have nf:b'≠b:=by
   rintro rfl;rcases n7 with n7|n7
   ·exact hB.1 (r.hT _ _ n7)
   ·exact hB.2.1 n7
  rw[World.cell?_of_block (setRow_other w b b' _ nf)];exact nr
 have lH:∀u i,¬(u=t/\i=0)->(σ.Z1 t 0 (.box (place cells c (unc (look P σ T y)).cells))).ob u i=σ.ob u i:=by intro u i nf;rw[St.Xz σ t 0 _ u i n9,if_neg nf]
 have lE:(σ.Z1 t 0 (.box (place cells c (unc (look P σ T y)).cells))).ob t 0= .box (place cells c (unc (look P σ T y)).cells):=by rw[St.Xz σ t 0 _ t 0 n9];simp
 have hcp:∀u i,Cpt h h σ.ob (σ.Z1 t 0 (.box (place cells c (unc (look P σ T y)).cells))).ob u i:=by
  intro u i;by_cases hu:u=t/\i=0
  ·obtain⟨rfl,rfl⟩:=hu;refine⟨fun q size rows mG=>?_,fun size rows mG=>?_,fun nq mG=>⟨rfl,cells,ho⟩⟩
   ·rw[lE]at mG;cases mG
   ·rw[lE]at mG;cases mG
  ·exact Cpt.same rfl (lH u i hu)
 have at_:∀{x:At}{v:Value},YL (Tof T0 X) h σ.ob w x v->YL (Tof T0 X) h (σ.Z1 t 0 (.box (place cells c (unc (look P σ T y)).cells))).ob (w.setRow b (place cs.toList c (a.eval y).cells.toList).toArray) x v:=fun rx=>YL.uI hT hcp rx;refine⟨b,_,e,hb,lP,?_⟩;have:=(ni.place c hy).imp (fun _ _=>at_);simpa using this
open Go.RowKit
variable{ds zr es:List D}{l:List UInt8}
theorem xG{α:Type}(size c:Nat)(ds:List α)(hc:c+ds.length<=size):∀(rows:List (List α))(i:Nat)(row:List α),rows[i]?=some row->(∀r∈rows,r.length=size)->
  (rows.set i (place row c ds)).flatten=place rows.flatten (i*size+c) ds
 |[],i,row,hr,_=>by simp at hr
 |r0::rows,0,row,hr,hz=>by
  simp at hr;subst hr;have h0:r0.length=size:=hz r0 zAG
  simp only[List.set_cons_zero,List.flatten_cons,place,Nat.zero_mul,Nat.zero_add];rw[List.take_append_of_le_length zAD,List.drop_append_of_le_length zAD];simp
 |r0::rows,i+1,row,hr,hz=>by
  have h0:r0.length=size:=hz r0 zAG;have ih:=xG size c ds hc rows i row (by simpa using hr) (fun r hr=>hz r zB8);rw[List.set_cons_succ,List.flatten_cons,ih,List.flatten_cons];unfold place;have e1:(i+1)*size+c=r0.length+(i*size+c):=by rw[h0,Nat.add_mul];omega
  have e2:(i+1)*size+c+ds.length=r0.length+(i*size+c+ds.length):=by rw[h0,Nat.add_mul];omega
  rw[e2,e1,List.take_length_add_append,List.drop_length_add_append];simp
theorem OI{α:Type}(l:List α)(n off:Nat)(xs:List α)(hl:off+xs.length<=n)(hn:n<=l.length):(place l off xs).take n=place (l.take n) off xs:=by unfold place;rw[List.take_take,Nat.min_eq_left zAD,List.drop_take];rw[List.take_append,List.take_append];simp only[List.length_append,List.length_take];rw[Nat.min_eq_left zAD,List.take_of_length_le (l:=List.take off l) zAx,List.take_of_length_le (l:=xs) zAD]
theorem kg{α:Type}(l:List α)(o:Nat)(xs:List α)(hl:o+xs.length<=l.length)(k:Nat)(v:α)(hv:(place l o xs)[k]?=some v):
  (o<=k/\k<o+xs.length/\xs[k-o]?=some v)\/(¬(o<=k/\k<o+xs.length)/\l[k]?=some v):=by
 unfold place at hv;have h1:(l.take o).length=o:=zAx
 rcases Nat.lt_or_ge k o with hk|hk
 ·rw[List.append_assoc,List.getElem?_append_left zAD,List.getElem?_take,if_pos hk]at hv;exact .inr ⟨zAD,hv⟩
 ·rw[List.append_assoc,List.getElem?_append_right zAD,h1]at hv;rcases Nat.lt_or_ge (k-o) xs.length with ej|ej
  ·rw[List.getElem?_append_left ej]at hv;exact .inl ⟨hk,zAD,hv⟩
  ·rw[List.getElem?_append_right ej,List.getElem?_drop]at hv;refine .inr ⟨zAD,?_⟩;rw[show o+xs.length+(k-o-xs.length)=k by omega]at hv;exact hv
theorem Hu(r:Rel T0 B σ a w X h){T:TypeId}(na:o.op= .store T x y)(hd:o.dst=none)(ht:qP P T=true)(gd:gOf (look P σ 0 x)=true)(gf:gOf (look P σ T y)=true)
  (hx:unc (look P σ 0 x)= .one (.ptr t j i c)) (ho:σ.ob t j= .arr q size rows) (hi:i<rows.length) (lM:(unc (look P σ T y)).flat=true) (fk:rowOf σ (unc (look P σ T y)).cells=some ds) (mF:zP (unc (look P σ T y)).cells=true)
  (hl:ds.length=P.cellsOf T) (hle:c+P.cellsOf T<=size) (hq:q=true->(∀d∈ds,d.scalar=true)/\∀k d,k<P.cellsOf T->(rows.getD i [])[c+k]?=some d->d.scalar=true)
  (hK:∀a' w',Jq T0 B (σ.Z1 t j (.arr q size (rows.set i (place (rows.getD i []) c ds)))) a' w'->XI B w w'->K a' w'):o.wp P a w K Q:=by
 obtain⟨_,ti,_,aj,_,_⟩:=kb ht;have bP:=r.arg (P:=P) 0 x hx gd
 obtain⟨b,cap,cur,e,xs,hb,he,hh,lX,iG,iH,iZ,hz,g7,ni,nk⟩:=r.arr ho bP;have hy:=WM lM (r.arg (P:=P) T y rfl gf)
 have cZ:=r.rowOf true fk hy (fun _=>mF);simp only[if_true]at cZ;have l0:=cZ.length;have e2:(a.eval y).cells.toList.length=(a.eval y).cells.size:=Array.length_toList;have e3:cur.toList.length=cur.size:=Array.length_toList;have mN:rows[i]?=some (rows.getD i []):=zAu;have hmul:i*size+size<=rows.length*size:=zBY;have cb:rows.length*size<=cap*size:=Nat.mul_le_mul_right _ lX;have mB:=run_store (P:=P) (w:=w) aj (o:=i*size+c) (val:=a.eval y) hh zAD zAD (fun u hu=>by obtain⟨x',_,gw⟩:=hy.mem hu;exact YL.QM gw);have n9:σ.ob t j≠ .none:=zAw;have mJ:blk (h t j).v=some b:=by rw[hb];rfl
 have hB:=r.rR n9 mJ;have lF:=r.ub t j b n9 mJ;unfold Oper.wp;simp only[execOp,na,he,Sem.run_bind,mB,Result.andThen_ok,Sem.run_pure,Oper.upon_skip,hd];refine hK _ _ ⟨X,h,?_⟩ (XI.setRow hB.1 _);refine r.wb n9 zCA (fun k hk=>setRow_other w b k _ (fun e=>hk (e▸lF))) _ (by rw[ho];simp[Ob.uA]) ?_;have lP:=setRow_heap w b cur (place cur.toList (i*size+c) (a.eval y).cells.toList).toArray e (0,0) hh;have hT:∀b' k v,Tof T0 X b' k->w.cell? ⟨b',k,none⟩=some v->(w.setRow b (place cur.toList (i*size+c) (a.eval y).cells.toList).toArray).cell? ⟨b',k,none⟩=some v/\Tof T0 X b' k:=by
  intro b' k v n7 nr;refine⟨?_,n7⟩;have nf:b'≠b:=by
   rintro rfl;rcases n7 with n7|n7
   ·exact hB.1 (r.hT _ _ n7)
   ·exact hB.2.1 n7
  rw[World.cell?_of_block (setRow_other w b b' _ nf)];exact nr
 have eN:xs.length=rows.length*size:=by rw[g7,YU rows size hz]
 have gi:(rows.getD i []).length=size:=hz _ (List.mem_of_getElem? mN);have mh:(w.setRow b (place cur.toList (i*size+c) (a.eval y).cells.toList).toArray).ownsRow 0 e size (h t j).v (rows.set i (place (rows.getD i []) c ds)).length (place xs (i*size+c) (a.eval y).cells.toList):=by
  refine⟨?_,.inr ⟨b,cap,_,by simpa using hb,Nat.zero_le _,lP,by simpa using lX,iG,?_,?_⟩⟩
  ·rw[QA _ _ _ zAD,eN];simp
  ·simp only[List.size_toArray];rw[QA _ _ _ zAD,e3,iH]
  ·simp only[List.length_set];rw[OI _ _ _ _ zAD zAD,iZ]
 have ic:∀r∈rows.set i (place (rows.getD i []) c ds),r.length=size:=by
  intro r' lG;rcases List.mem_or_eq_of_mem_set lG with lG|lG
  ·exact hz r' lG
  ·rw[lG,QA _ _ _ zAD,gi]
 cases q with
 |false=>refine⟨e,_,mh,ic,?_⟩;rw[xG size c ds zAD rows i _ mN hz];exact((ni rfl).imp fun _ _=>Rd.mono hT).place _ (cZ.imp fun _ _=>Rd.mono hT)
 |true=>
  obtain⟨⟨_,Sk,h1,h2,h3⟩,hn⟩:=nk rfl;obtain⟨bA,hq2⟩:=hq rfl;have nr:∀k u,(place xs (i*size+c) (a.eval y).cells.toList)[k]?=some u->(i*size+c<=k/\k<i*size+c+ds.length/\(a.eval y).cells.toList[k-(i*size+c)]?=some u)\/(¬(i*size+c<=k/\k<i*size+c+ds.length)/\xs[k]?=some u):=by intro k u hu;exact kg xs _ _ zAD k u hu|>.imp (fun hh=>⟨hh.1,zAD,hh.2.2⟩) (fun hh=>⟨by rw[<-l0];exact hh.1,hh.2⟩)
  have fW:∀k d,(rows.set i (place (rows.getD i []) c ds)).flatten[k]?=some d->(i*size+c<=k/\k<i*size+c+ds.length/\ds[k-(i*size+c)]?=some d)\/(¬(i*size+c<=k/\k<i*size+c+ds.length)/\rows.flatten[k]?=some d):=by intro k d iE;rw[xG size c ds zAD rows i _ mN hz]at iE;exact kg _ _ _ (by rw[YU rows size hz];omega) k d iE
  refine⟨e,_,mh,ic,⟨?_,Sk,fun k u d hu iE=>?_,h2,h3⟩,fun k u d hu iE lA=>?_⟩
  ·rw[QA _ _ _ zAD,g7,YU rows size hz,YU _ size ic];simp
  ·rcases nr k u hu with⟨p1,p2,p3⟩|⟨p1,p3⟩
   ·rcases fW k d iE with⟨_,_,p4⟩|⟨p4,_⟩
    ·obtain⟨d',nu,lG⟩:=cZ.get _ _ p3;rw[p4]at nu;cases nu;have hs:=bA d (List.mem_of_getElem? p4)
     cases lG with
     |int k n=>exact .int _ _ _
     |bool b=>exact .bool _ _
     |str s=>exact .str _ _
     |unk v h=>exact .unk _ h _
     |nil=>simp[D.scalar]at hs
     |sl=>simp[D.scalar]at hs
    ·exact absurd ⟨p1,p2⟩ p4
   ·rcases fW k d iE with⟨p4,p5,_⟩|⟨_,p4⟩
    ·exact absurd ⟨p4,p5⟩ p1
    ·refine(h1 k u d p3 p4).O2 (fun b' n7=>setRow_other w b b' _ ?_);rintro rfl;exact(h2 k b' n7).2 mJ
  ·rcases fW k d iE with⟨p4,p5,p6⟩|⟨p4,p6⟩
   ·have:=bA d (List.mem_of_getElem? p6);rw[lA]at this;cases this
   ·rcases nr k u hu with⟨p1,p2,_⟩|⟨_,p3⟩
    ·exact absurd ⟨p1,p2⟩ p4
    ·exact hn k u d p3 p6 lA
open Go.RowKit
variable{z:List At}{base:Option Addr}
theorem M8(t ty e e0:TypeId)(i:TypeInfo)(ht:P.underlying t=some (.slice e))(hi:P.info? e=some i)
  (g fV bG:Nat) (cur:Array Value) (hg:w.heap[g]?=some (.cells cur e0 (0,0)))
  (a:Addr) (m c:Nat) (news:List Value) (hl:news.length=m*i.size) (lZ:∀j u,news[j]?=some u->w.cell? (a.add j)=some u) (h1:∀u∈news,u.oneCell'=true)
  (g6:fV+m<=bG) (bH:fV*i.size+news.length<=cur.size):
  (Builtin.append_ #[t,t] ty #[.slice (some ⟨g,0,none⟩) fV bG,.slice (some a) m c]).run P w=
   .ok (.slice (some ⟨g,0,none⟩) (fV+m) bG) (w.setRow g (cur.toList.take (fV*i.size)++news++cur.toList.drop (fV*i.size+news.length)).toArray):=by
 have hf:=run_firstCells_some (P:=P) w i.size m a m c news hl lZ;have mF:=run_storeCells_at P g (fV*i.size) e0 news 0 cur w hg (by simpa using bH) h1;simp only[Nat.add_zero]at mF;simp[Builtin.append_,run_underlying ht,sizeOf,typeInfo,hi,Builtin.lenOf,g6,hf,Addr.add_lit,mF]
theorem R3(t ty e e0:TypeId)(i:TypeInfo)(z:Value)(ht:P.underlying t=some (.slice e))(hi:P.info? e=some i)(hz:i.zero=some z)
  (gS:z.cells.size=i.size) (m0:0<i.size) (v:Value) (n:Nat) (xs:List Value) (nk:w.ownsRow 0 e0 i.size v n xs)
  (a:Addr) (m c:Nat) (news:List Value) (hl:news.length=m*i.size) (lZ:∀j u,news[j]?=some u->w.cell? (a.add j)=some u) (h1:∀u∈news,u.oneCell'=true)
  (h63:n+m<=maxLen) (mi:(n+m)*i.bytes<=140737488355328):
  ∃v' w' e1,(Builtin.append_ #[t,t] ty #[v,.slice (some a) m c]).run P w= .ok v' w'/\w'.ownsRow 0 e1 i.size v' (n+m) (xs++news)/\w.grownBy w' (blk v)/\
   (∀b,blk v'=some b->(w.heap.size<=b/\b<w'.heap.size)\/blk v=some b):=by
 have hlen:(xs++news).length=(n+m)*i.size:=by rw[List.length_append,nk.1,hl,Nat.add_mul]
 rcases nk.2 with⟨rfl,rfl⟩|⟨g,cap,cur,rfl,_,hg,iK,dc,iH,htake⟩
 ·have hx:xs=[]:=List.eq_nil_of_length_eq_zero (by simpa using nk.1);subst hx;obtain⟨v',w',hr,ho,ib,_⟩:=run_append_own (P:=P) w w.heap.size t ty e i z i.size i.bytes ht hi hz rfl rfl gS m0 (.slice none 0 0) 0 [] (World.ownsRow_nil w _ e i.size) a m c news hl lZ h1 h63 mi (Nat.le_refl _);refine⟨v',w',e,hr,?_,ib,fun b hb=>.inl ?_⟩
  ·refine⟨ho.1,ho.2.imp id ?_⟩;rintro⟨g,cap,cur,hv,_,rest⟩;exact⟨g,cap,cur,hv,Nat.zero_le _,rest⟩
  ·have n7:v'.ownBlock=some b:=by
    cases v' with
    |slice o l c=>cases o with
     |none=>simp[blk]at hb
     |some ad=>simpa[blk,Value.ownBlock]using hb
    |pointer o=>rcases ho.2 with⟨hv,_⟩|⟨g,cap,cur,hv,_⟩<;>cases hv
    |_=>simp[blk]at hb
   exact ho.lt b n7
 ·by_cases g6:n+m<=cap
  ·have bH:n*i.size+news.length<=cur.size:=by rw[hl,iH,<-Nat.add_mul];exact Nat.mul_le_mul_right _ g6
   have hr:=M8 (P:=P) (w:=w) t ty e e0 i ht hi g n cap cur hg a m c news hl lZ h1 g6 bH;refine⟨_,_,e0,hr,⟨hlen,.inr ⟨g,cap,_,rfl,Nat.zero_le _,setRow_heap w g cur _ e0 _ hg,g6,dc,?_,?_⟩⟩,⟨rfl,rfl,rfl,by simp[World.setRow],fun k _ hk=>setRow_other w g k _ (fun e=>hk (by simp[blk,e]))⟩,fun b hb=>.inr (by simpa[blk]using hb)⟩
   ·simp only[List.size_toArray,List.length_append,List.length_take,List.length_drop,Array.length_toList];omega
   ·rw[htake,<-hlen];exact List.take_left
  ·have holds:∀j u,xs[j]?=some u->w.cell? ((⟨g,0,none⟩:Addr).add j)=some u:=nk.cells (g:=g) rfl;have hsmall:n+m<=9223372036854775807:=by simp only[maxLen]at h63;omega
   have hr:=run_append_grow (P:=P) w t ty e i z ht hi hz ⟨g,0,none⟩ n cap xs nk.1 holds a m c news hl lZ zAD zAD (growslice_fits zAD mi);have gM:=grownCap_ge w (n+m) cap e;have hcm2:grownCap w (n+m) cap e<=maxLen:=grownCap_le_maxLen w (n+m) cap e h63;refine⟨_,_,e,hr,⟨hlen,.inr ⟨w.heap.size,_,_,rfl,Nat.zero_le _,heap_alloc_new w.drew _,gM,hcm2,?_,?_⟩⟩,⟨rfl,rfl,rfl,zAG,fun k hk _=>(World.grownBy_alloc w.drew _ none).block k hk zAG⟩,fun b hb=>.inl ?_⟩
   ·simp only[Array.size_append,List.size_toArray,size_zeroCells,gS,nk.1,hl,<-Nat.add_mul];congr 1;omega
   ·simp only[Array.toList_append,List.append_assoc];rw[<-List.append_assoc,<-hlen];exact List.take_left
   ·simp[blk]at hb;subst hb;simp
theorem VY(t ty e:TypeId)(i:TypeInfo)(ht:P.underlying t=some (.slice e))(hi:P.info? e=some i)(base:Option Addr)(n cap:Nat)(iK:n<=cap)(hb:base=none->cap=0):
  (Builtin.append_ #[t,t] ty #[.slice base n cap,.slice none 0 0]).run P w= .ok (.slice base n cap) w:=by
 cases base with
 |none=>have:=hb rfl;subst this;have:n=0:=zAD;subst this;simp[Builtin.append_,run_underlying ht,sizeOf,typeInfo,hi,Builtin.lenOf,Builtin.firstCells]
 |some ad=>simp[Builtin.append_,run_underlying ht,sizeOf,typeInfo,hi,Builtin.lenOf,Builtin.firstCells,iK,storeCells]
theorem Rel.less(r:Rel T0 B σ a w X h)(hl:σ'.length=σ.length)(lB:∀t,σ'.get t=σ.get t)(hk:∀t j,σ'.ob t j≠ .none->σ'.ob t j=σ.ob t j):Rel T0 B σ' a w X h:=by
 have back:∀t j o,σ'.ob t j=o->o≠ .none->σ.ob t j=o:=by intro t j o ho nf;rw[<-hk t j (by rw[ho];exact nf)];exact ho
 have at_:∀{x:At}{v:Value},(fun _:At=>false) x=false->YL (Tof T0 X) h σ.ob w x v->YL (Tof T0 X) h σ'.ob w x v:=by
  intro x v _ rx;cases x with
  |any=>exact rx
  |d x=>exact rx
  |nil s=>exact rx
  |sref u i lo len=>exact⟨rx.1,fun q size rows ho=>rx.2.1 q size rows (back u i _ ho zAG),fun size rows ho=>rx.2.2 size rows (back u i _ ho zAG)⟩
  |ptr u i k c=>exact⟨rx.1,fun q size rows ho=>rx.2 q size rows (back u i _ ho zAG)⟩
  |bptr u c=>exact⟨rx.1,fun cells ho=>rx.2 cells (back u 0 _ ho zAG)⟩
  |fn f u=>exact⟨rx.1,fun cells ho=>rx.2 cells (back u 0 _ ho zAG)⟩
  |tref u i k c o=>exact⟨rx.1,fun size rows ho=>rx.2 size rows (back u i _ ho zAG)⟩
  |rptr rr c=>exact rx
 have lI:∀u i,σ'.ob u i≠ .none->σ.ob u i≠ .none:=fun u i hn=>by rw[<-hk u i hn];exact hn
 refine⟨by rw[r.size,hl],r.defers,r.hB,r.hX,r.hT,fun u hu=>?_,fun u i=>?_,fun u i b hn=>r.ub u i b (lI u i hn),fun u i b hn=>r.own u i b (lI u i hn),fun u i u' i' b hn mc=>r.inj u i u' i' b (lI u i hn) (lI u' i' mc)⟩
 ·rw[lB u];exact JB.map at_ (xi _) (r.slot u zAD)
 ·by_cases hn:σ'.ob u i= .none
  ·rw[hn];trivial
  ·rw[hk u i hn];exact Jx.map at_ (fun b k v hb hc=>⟨hc,hb⟩) (fun ho b=>r.ub u i b ho) (fun _ _ _=>rfl) (W3 _) (r.obj u i)
theorem St.TE(σ:St)(t j u i:Nat):(σ.Z1 t j .none).ob u i=if u=t/\i=j then .none else σ.ob u i:=by
 by_cases n9:σ.ob t j= .none
 ·have key:∀(σ:St)(t u:Nat),σ.ob t j= .none->(σ.Z1 t j .none).ob u i=σ.ob u i:=by
   intro σ;induction σ with
   |nil=>intro t u _;simp[St.Z1]
   |cons e σ ih=>
    intro t u ho;cases t with
    |zero=>cases u with
     |zero=>
      simp only[St.Z1,St.ob,List.getElem?_cons_zero,C7]at ho⊢;split
      ·rename_i hh;rw[hh.1,ho]
      ·rfl
     |succ u=>simp[St.Z1,St.ob]
    |succ t=>cases u with
     |zero=>simp[St.Z1,St.ob]
     |succ u=>have:=ih t u (by simpa[St.ob]using ho);simp only[St.ob,St.Z1]at this⊢;simpa using this
  rw[key σ t u n9];split
  ·rename_i hh;rw[hh.1,hh.2];exact n9
  ·rfl
 ·exact St.Xz σ t j _ u i n9
theorem Rel.drop(r:Rel T0 B σ a w X h)(t j:Nat):Rel T0 B (σ.Z1 t j .none) a w X h:=by
 refine r.less (St.Xf _ _ _ _) (fun u=>St.QL _ _ _ _ u) (fun u i hn=>?_);rw[St.TE]at hn⊢;split
 ·rename_i hh;rw[if_pos hh]at hn;exact absurd rfl hn
 ·rfl
def St.Z8:St->List (Nat×Nat)->St
 |σ,[]=>σ
 |σ,p::l=>St.Z8 (σ.Z1 p.1 p.2 .none) l
theorem St.KR:∀(l:List (Nat×Nat))(σ:St),(σ.Z8 l).length=σ.length
 |[],σ=>rfl
 |p::l,σ=>by rw[St.Z8,St.KR l,St.Xf]
theorem St.yg:∀(l:List (Nat×Nat))(σ:St)(t:Nat),(σ.Z8 l).get t=σ.get t
 |[],σ,t=>rfl
 |p::l,σ,t=>by rw[St.Z8,St.yg l,St.QL]
theorem St.KY:∀(l:List (Nat×Nat))(σ:St)(t j:Nat),(σ.Z8 l).ob t j=if(t,j)∈l then .none else σ.ob t j
 |[],σ,t,j=>by simp[St.Z8]
 |p::l,σ,t,j=>by
  rw[St.Z8,St.KY l,St.TE];by_cases h1:(t,j)∈l
  ·simp[h1]
  ·by_cases h2:t=p.1/\j=p.2
   ·have:(t,j)=p:=by rw[h2.1,h2.2]
    rw[if_neg h1,if_pos h2,if_pos (by rw[this];simp)]
   ·have:¬(t,j)=p:=fun e=>h2 (by rw[<-e];exact⟨rfl,rfl⟩);simp[h1,h2,this]
theorem Rel.Z8(r:Rel T0 B σ a w X h)(l:List (Nat×Nat)):Rel T0 B (σ.Z8 l) a w X h:=by
 refine r.less (St.KR l σ) (St.yg l σ) (fun u i hn=>?_);rw[St.KY]at hn⊢;split
 ·rename_i hh;rw[if_pos hh]at hn;exact absurd rfl hn
 ·rfl
open Go.RowKit
theorem yk{T:TypeId}(hz:Qb P T=true):∃i z row,P.info? T=some i/\i.zero=some z/\WL P 12 T=some row/\i.size=row.length/\z.cells.size=i.size/\i.size=P.cellsOf T/\(∀T' h ob w,YF (YL T' h ob w) row z.cells.toList):=by
 have iX:∃row,WL P 12 T=some row:=by
  unfold Qb at hz;split at hz
  ·rename_i row i hr hi;exact⟨row,hr⟩
  ·cases hz
 obtain⟨row,hr⟩:=iX;obtain⟨i,z,hi,hZ,m0,ni⟩:=GI hz hr;refine⟨i,z,row,hi,hZ,hr,m0,?_,by simp[Program.cellsOf,hi],ni⟩;have:=(ni (fun _ _=>True) (fun _ _=>Hd.of undef) (fun _ _=>.none) default).length
 have e1:z.cells.toList.length=z.cells.size:=Array.length_toList;omega
def WE(σ:St)(x:V)(size:Nat)(news:List (List D)):Prop:=
 match x with
 |.one (.d (.sl s rows))=>s=size/\news=rows
 |.one (.nil _)=>news=[]
 |.one (.sref t j lo len)=>∃rows,σ.ob t j= .arr false size rows/\lo+len<=rows.length/\news=cut rows lo len
 |_=>False
def SN(σ:St)(x:V)(size:Nat)(ng:List (List D))(σ1:St):Prop:=
 match x with
 |.one (.nil _)=>ng=[]/\σ1=σ
 |.one (.sref t j lo len)=>∃rows,σ.ob t j= .arr false size rows/\lo=0/\len<=rows.length/\ng=rows.take len/\σ1=σ.Z1 t j .none
 |_=>False
theorem VF(v:Value)(n:Nat):blk (NO v n)=blk v:=by
 cases v with
 |slice o _ _=>cases o<;>rfl
 |_=>rfl
theorem Kk(rows:List (List D))(size:Nat)(hz:∀r∈rows,r.length=size)(len:Nat)(hle:len<=rows.length):(rows.take len).flatten=rows.flatten.take (len*size):=by
 induction rows generalizing len with
 |nil=>simp
 |cons r rows ih=>
  cases len with
  |zero=>simp
  |succ len=>
   have h1:=hz r zAG;have h2:=ih (fun q hq=>hz q (by simp[hq])) len (by simpa using hle);have h3:(len+1)*size=r.length+len*size:=by rw[Nat.add_mul,h1];omega
   rw[List.take_succ_cons,List.flatten_cons,List.flatten_cons,h2,h3,List.take_length_add_append]
theorem j6{e:TypeId}{xs:List Value}(ho:w.ownsRow 0 e size v n xs)(hle:len<=n):w.ownsRow 0 e size (NO v len) len (xs.take (len*size)):=by
 have hm:len*size<=n*size:=Nat.mul_le_mul_right _ hle;refine⟨by rw[List.length_take,ho.1];omega,?_⟩;rcases ho.2 with⟨rfl,rfl⟩|⟨g,cap,cur,rfl,hx,hg,iK,dc,iH,iZ⟩
 ·have:len=0:=zAD;subst this;exact .inl ⟨rfl,rfl⟩
 ·refine .inr ⟨g,cap,cur,rfl,hx,hg,zAD,dc,iH,?_⟩;rw[<-iZ,List.take_take];congr 1;omega
theorem Ec(r:Rel T0 B σ a w X h){x:V}(hs:WE σ x size news)(hv:JB (Tof T0 X) h σ.ob w x v):
  (∀n∈news,n.length=size)/\((v= .slice none 0 0/\news=[])\/∃ad c xs,v= .slice (some ad) news.length c/\(∀j u,xs[j]?=some u->w.cell? (ad.add j)=some u)/\YF (Rd (Tof T0 X) w) xs news.flatten):=by
 unfold WE at hs;split at hs
 ·rename_i s rows;obtain⟨rfl,rfl⟩:=hs;refine⟨FM (show Rd _ _ _ _ from hv),?_⟩;cases(show Rd _ _ _ _ from hv)with
  |nil=>exact .inl ⟨rfl,rfl⟩
  |sl ad len cap s rows g hl hc hm hz fK hg hr=>
   refine .inr ⟨ad,cap,(List.range news.flatten.length).map g,by rw[hl],fun j u hu=>?_,?_⟩
   ·rw[List.getElem?_map]at hu;rcases Nat.lt_or_ge j news.flatten.length with hj|hj
    ·rw[List.getElem?_range hj]at hu;cases hu;have nf:news.flatten≠[]:=by intro he;rw[he]at hj;simp at hj
     have:=(hg j _ (List.getElem?_eq_getElem hj)).1;obtain⟨b,off,sp⟩:=ad;have:=fK nf;simp at this;subst this;rw[xY];assumption
    ·rw[List.getElem?_eq_none (by simpa using hj)]at hu;cases hu
   ·refine YF.xS zAG (fun k u d hu hd=>?_);rw[List.getElem?_map]at hu;have hk:=(List.getElem?_eq_some_iff.1 hd).1
    rw[List.getElem?_range hk]at hu;cases hu;exact hr k d hd
 ·subst hs;exact⟨(by intro n hn;cases hn),.inl ⟨hv,rfl⟩⟩
 ·rename_i t j lo len;obtain⟨rows,ho,hle,rfl⟩:=hs;have h0:=r.obj t j
  rw[ho]at h0;obtain⟨e,xs,⟨hl,nk⟩,hz,ni⟩:=h0;refine⟨fun x hx=>hz x (List.mem_of_mem_drop (List.mem_of_mem_take hx)),?_⟩;have iz:YL (Tof T0 X) h σ.ob w (.sref t j lo len) v:=hv
  obtain⟨_,_,_,base,cap,rfl,lX,_,gh,hb⟩:=iz.2.1 _ size rows ho;have mK:(cut rows lo len).length=len:=XV _ _ _ hle
  by_cases mn:0<len
  ·obtain⟨b,gV,hh,rfl⟩:=hb mn;rcases nk with⟨hn,_⟩|⟨g,eQ,cur,iz,_,bM,iK,iG,iH,iZ⟩
   ·rw[hh]at hn;cases hn
   ·rw[hh]at iz;cases iz;refine .inr ⟨_,cap,cut xs (lo*size) (len*size),by rw[mK],fun j u hu=>?_,?_⟩
    ·have h1:=zl _ _ _ _ _ hu;rw[xY];refine zL bM _ _ ?_;rw[<-iZ,List.getElem?_take]at h1;split at h1
     ·exact h1
     ·cases h1
    ·have eN:xs.length=rows.length*size:=by rw[ni.length,YU rows size hz]
     have hmul:lo*size+len*size<=rows.length*size:=zBZ;refine YF.xS ?_ (fun k u d hu hd=>?_)
     ·rw[XV _ _ _ zAD,YU (cut rows lo len) size (fun x hx=>hz x (List.mem_of_mem_drop (List.mem_of_mem_take hx))),mK]
     ·have h1:=zl _ _ _ _ _ hu;have h2:=jT rows size lo len hz k d hd;obtain⟨d',nu,hr⟩:=ni.get _ _ h1;rw[h2]at nu;cases nu;exact hr
  ·have:len=0:=zAD;subst this;have gW:cut rows lo 0=[]:=by simp[cut]
   rw[gW];cases base with
   |none=>have:=gh rfl;subst this;exact .inl ⟨rfl,rfl⟩
   |some ad=>exact .inr ⟨ad,cap,[],rfl,zAG,.nil⟩
 ·exact hs.elim
theorem CU(r:Rel T0 B σ a w X h){t:TypeId}(na:o.op= .call ⟨.builtin .append,#[x,y],#[t,t]⟩)(hd:o.dst=some d)
  (gd:gOf (look P σ t x)=true) (gf:gOf (look P σ t y)=true) (ht:Xl P t=true) (hz:Qb P (ZT P t)=true) (mn:0<P.cellsOf (ZT P t))
  (lb:SN σ (unc (look P σ t x)) (P.cellsOf (ZT P t)) ng σ1) (gT:WE σ (unc (look P σ t y)) (P.cellsOf (ZT P t)) news) (mf:σ1.fresh d=true)
  (mi:(ng.length+news.length)*P.bytesOf (ZT P t)<=140737488355328) (gv:ng.length+news.length<=9223372036854775807)
  (hK:∀a' w',Jq T0 B (σ1.new d (.one (.sref d 0 0 (ng.length+news.length))) [.arr false (P.cellsOf (ZT P t)) (ng++news)]) a' w'->XI B w w'->K a' w'):o.wp P a w K Q:=by
 obtain⟨ti,hu,hi,hC⟩:=QB ht;obtain⟨i,z,row,lN,hZ,iX,hD,gS,lv,iP⟩:=yk hz;rw[hi]at lN;cases lN;have e8:P.bytesOf (ZT P t)=ti.bytes:=zBb
 rw[e8]at mi;rw[<-lv]at lb gT mn hK;have g9:=r.arg (P:=P) t x rfl gd
 have dg:=r.arg (P:=P) t y rfl gf;obtain⟨bI,lA⟩:=Ec r gT dg;have lp:∃e0 xs,w.ownsRow 0 e0 ti.size (a.eval x) ng.length xs/\(∀q∈ng,q.length=ti.size)/\YF (Rd (Tof T0 X) w) xs ng.flatten/\Rel T0 B σ1 a w X h/\
   (∀b,blk (a.eval x)=some b->¬B b/\¬X b/\b<w.heap.size/\∀u j,σ1.ob u j≠ .none->¬(h u j).u b):=by
  unfold SN at lb;split at lb
  ·rename_i s heq;obtain⟨rfl,rfl⟩:=lb;rw[heq]at g9;have he:a.eval x= .slice none 0 0:=g9
   rw[he];exact⟨0,[],World.ownsRow_nil w 0 0 _,zBD,.nil,r,(fun b hb=>by cases hb)⟩
  ·rename_i u j lo len heq;obtain⟨rows,ho,rfl,hle,rfl,rfl⟩:=lb;rw[heq]at g9;have fA:YL (Tof T0 X) h σ.ob w (.sref u j 0 len) (a.eval x):=g9
   obtain⟨_,_,l5,_⟩:=fA.2.1 _ _ _ ho;have he:a.eval x=NO (h u j).v len:=l5 rfl
   have h0:=r.obj u j;rw[ho]at h0;obtain⟨e,xs,nk,lW,ni⟩:=h0;have n9:σ.ob u j≠ .none:=zAw;have eh:(rows.take len).length=len:=zBL;have lM:(rows.take len).flatten=rows.flatten.take (len*ti.size):=Kk rows ti.size lW len hle;refine⟨e,xs.take (len*ti.size),by rw[he,eh];exact j6 nk hle,fun q hq=>lW q (List.mem_of_mem_take hq),by rw[lM];exact ni.take _,r.drop u j,fun b hb=>?_⟩;rw[he,VF]at hb;have ew:=r.ub u j b n9 hb;have mh:=r.own u j b n9 ew;refine⟨mh.1,mh.2.1,mh.2.2,fun u' j' nf n7=>?_⟩;have fT:σ.ob u' j'≠ .none:=by
    intro hh;rw[St.Xz σ u j _ u' j' n9]at nf;split at nf
    ·exact nf rfl
    ·exact nf hh
   have:=r.inj u j u' j' b n9 fT ew n7;obtain⟨rfl,rfl⟩:=this;rw[St.Xz σ u j _ u j n9]at nf;simp at nf
  ·exact lb.elim
 obtain⟨e0,xs,nk,ao,dA,r1,mJ⟩:=lp;have bQ:∀q∈ng++news,q.length=ti.size:=by
  intro q hq;rcases List.mem_append.1 hq with hq|hq
  ·exact ao q hq
  ·exact bI q hq
 have key:∀(v':Value)(w':World)(e1:TypeId)(ys:List Value),(Builtin.append_ #[t,t] o.type #[a.eval x,a.eval y]).run P w= .ok v' w'->w'.ownsRow 0 e1 ti.size v' (ng.length+news.length) (xs++ys)->
   YF (Rd (Tof T0 X) w) ys news.flatten->w.grownBy w' (blk (a.eval x))->(∀b,blk v'=some b->(w.heap.size<=b/\b<w'.heap.size)\/blk (a.eval x)=some b)->o.wp P a w K Q:=by
  intro v' w' e1 ys mB mG e9 ib cW;have nn:=St.K2 mf
  have hT:∀b k v,Tof T0 X b k->w.cell? ⟨b,k,none⟩=some v->w'.cell? ⟨b,k,none⟩=some v/\Tof T0 X b k:=by
   intro b k v hb nr;refine⟨?_,hb⟩;have nf:some b≠blk (a.eval x):=by
    intro e;have h1:=mJ b e.symm
    rcases hb with hb|hb
    ·exact h1.1 (r.hT b k hb)
    ·exact h1.2.1 hb
   rw[World.cell?_of_block (ib.block b (r.Tlt hb) nf)];exact nr
  unfold Oper.wp;have dD:(execOp a.eval o).run P w= .ok (.value v') w':=by simp only[execOp,na,resolve,invoke,builtin,Sem.run_bind,Sem.run_pure,Result.andThen_ok,List.map_toArray,List.map_cons,List.map_nil,mB]
  rw[dD,Oper.upon_value,hd];refine hK _ _ ⟨X,fun u j=>if u=d then Hd.of v' else h u j,?_⟩ ⟨ib.os,ib.tape,ib.output,ib.size,fun k hk=>ib.block k (r.hB k hk) (fun e=>(mJ k e.symm).1 hk)⟩;have mq:(σ1.new d (.one (.sref d 0 0 (ng.length+news.length))) [.arr false ti.size (ng++news)]).ob d 0= .arr false ti.size (ng++news):=zBB
  have mz:w'.ownsRow 0 e1 ti.size v' (ng++news).length (xs++ys):=by rw[List.length_append];exact mG
  have g8:YF (Rd (Tof T0 X) w') (xs++ys) (ng++news).flatten:=by rw[List.flatten_append];exact(dA.imp fun _ _=>Rd.mono hT).append (e9.imp fun _ _=>Rd.mono hT)
  refine r1.B5 mf (fun b=>blk (a.eval x)=some b) ib.size (fun k hk nf=>ib.block k hk (fun e=>nf e.symm)) (fun b hb=>⟨(mJ b hb).1,(mJ b hb).2.1,fun u j _ nf=>(mJ b hb).2.2.2 u j nf⟩) (fun _ hb=>hb) (fun _ hb=>.inl hb) _ _ [.arr false ti.size (ng++news)] (fun _=>Hd.of v') ?_ (fun j=>?_) (fun j b _ hb=>hb) (fun j b nf n7=>?_) (fun j j' b nf ma _ _=>?_)
  ·refine⟨KF mG,fun q' mC nv hh=>?_,fun mC nv hh=>by rw[mq]at hh;cases hh⟩;rw[mq]at hh;cases hh;simp only[if_true,List.length_append];have:=VC mz
   rwa[List.length_append]at this
  ·cases j with
   |zero=>exact⟨e1,xs++ys,mz,bQ,g8⟩
   |succ j=>simp[Yp,Jx]
  ·rcases cW b n7 with h1|h1
   ·exact⟨.inl h1.1,fun hx=>by have:=(r.hX b hx).2;omega,h1.2⟩
   ·have h2:=mJ b h1;exact⟨.inr h1,h2.2.1,by have:=ib.size;omega⟩
  ·have:∀j,Yp [Ob.arr false ti.size (ng++news)] j≠ .none->j=0:=by
    intro j hj;cases j with
    |zero=>rfl
    |succ j=>simp[Yp]at hj
   rw[this j nf,this j' ma]
 rcases lA with⟨ei,rfl⟩|⟨ad,c,ys,ei,nr,e9⟩
 ·have mV:∃base cap,a.eval x= .slice base ng.length cap/\ng.length<=cap/\(base=none->cap=0):=by
   rcases nk.2 with⟨h1,h2⟩|⟨g,cap,cur,h1,_,_,iK,_⟩
   ·exact⟨none,0,by rw[h1,h2],zAD,fun _=>rfl⟩
   ·exact⟨_,cap,h1,iK,(fun hh=>by cases hh)⟩
  obtain⟨base,cap,hex,iK,aq⟩:=mV;refine key (a.eval x) w e0 [] ?_ (by simpa using nk) .nil ⟨rfl,rfl,rfl,Nat.le_refl _,fun _ _ _=>rfl⟩ (fun b hb=>.inr hb);rw[hex,ei];exact VY t o.type _ ti hu hi base ng.length cap iK aq
 ·have l0:ys.length=news.length*ti.size:=by rw[e9.length,YU news ti.size bI]
  obtain⟨v',w',e1,mB,mG,ib,cW⟩:=R3 (P:=P) (w:=w) t o.type _ e0 ti z hu hi hZ gS zAD (a.eval x) ng.length xs nk ad news.length c ys l0 nr
   (fun u iO=>by
    obtain⟨k,hk⟩:=List.mem_iff_getElem?.1 iO;obtain⟨d',_,lG⟩:=e9.get k u hk;exact Rd.QM lG) (by simp only[maxLen];omega) mi
  refine key v' w' e1 ys ?_ mG e9 ib cW;rw[ei];exact mB
open Go.RowKit
variable{parts:Array (Nat×Operand)}
def Nb(P:Program)(σ:St)(T:TypeId)(size:Nat):List (Nat×Operand)->Nat->List (List D)->Prop
 |[],_,rs=>rs=[]
 |(i,x)::ps,k,rs=>i=k/\gOf (look P σ T x)=true/\(unc (look P σ T x)).flat=true/\zP (unc (look P σ T x)).cells=true/\
   ∃r rest,rowOf σ (unc (look P σ T x)).cells=some r/\r.length=size/\Nb P σ T size ps (k+1) rest/\rs=r::rest
theorem Ll{α:Type}(l:List α)(o:Nat)(xs ys:List α)(hl:o+(xs++ys).length<=l.length):place (place l o xs) (o+xs.length) ys=place l o (xs++ys):=by
 simp only[List.length_append]at hl;unfold place;have h1:(l.take o++xs).length=o+xs.length:=zAx
 have h2:(l.take o++xs++l.drop (o+xs.length)).take (o+xs.length)=l.take o++xs:=by rw[List.take_append_of_le_length zAD,List.take_of_length_le zAD]
 have h3:(l.take o++xs++l.drop (o+xs.length)).drop (o+xs.length+ys.length)=l.drop (o+(xs++ys).length):=by rw[show o+xs.length+ys.length=(l.take o++xs).length+ys.length by omega,List.drop_length_add_append,List.drop_drop];congr 1;simp;omega
 rw[h2,h3];simp
theorem M0(r:Rel T0 B σ a w X h)(T:TypeId)(size:Nat):∀(ps:List (Nat×Operand))(k:Nat)(rs:List (List D))(cells:Array Value),Nb P σ T size ps k rs->(k+ps.length)*size<=cells.size->
   ∃nq ys,Instr.fill (fun i=>some (i*size,size)) cells (ps.map fun x=>(x.1,a.eval x.2))=some nq/\nq.toList=place cells.toList (k*size) ys/\YF (Rd (Tof T0 X) w) ys rs.flatten/\(∀q∈rs,q.length=size)/\rs.length=ps.length
 |[],k,rs,cells,hb,_=>zBU
 |(i,x)::ps,k,rs,cells,hb,hl=>by
  obtain⟨rfl,hg,hf,mF,r0,rest,gR,hlen,hb,rfl⟩:=hb;have hx:=WM hf (r.arg (P:=P) T x rfl hg)
  have cZ:=r.rowOf true gR hx (fun _=>mF);simp only[if_true]at cZ;have eu:=cZ.length;have e1:cells.toList.length=cells.size:=Array.length_toList;have e2:(a.eval x).cells.toList.length=(a.eval x).cells.size:=Array.length_toList;have hmul:(i+(ps.length+1))*size=i*size+size+ps.length*size:=zBh;simp only[List.length_cons]at hl;have heq:=Sb (i*size) (a.eval x).cells cells zAD;have hD:((a.eval x).cells.zipIdx.foldl (fun cs x=>cs.setIfInBounds (i*size+x.2) x.1) cells).size=cells.size:=by rw[<-Array.length_toList,heq,QA _ _ _ zAD,e1]
  have hmul2:(i+1+ps.length)*size=i*size+size+ps.length*size:=zBh;obtain⟨nq,ys,h1,h2,h3,h4,h5⟩:=M0 r T size ps (i+1) rest _ hb (by rw[hD];omega);have l0:ys.length=ps.length*size:=by rw[h3.length,YU rest size h4,h5]
  refine⟨nq,(a.eval x).cells.toList++ys,?_,?_,?_,?_,by simp[h5]⟩
  ·simp only[List.map_cons,Instr.fill];rw[if_neg zAx];exact h1
  ·rw[h2,heq];rw[show(i+1)*size=i*size+(a.eval x).cells.toList.length by rw[Nat.add_mul];omega];exact Ll _ _ _ _ zAx
  ·rw[List.flatten_cons];exact cZ.append h3
  ·intro q hq;rcases List.mem_cons.1 hq with rfl|hq
   ·exact hlen
   ·exact h4 q hq
theorem Mz(r:Rel T0 B σ a w X h){T:TypeId}(na:o.op= .buildSlice T n parts)(hd:o.dst=some d)(mf:σ.fresh d=true)
  (ht:Xl P T=true) (hz:Qb P (ZT P T)=true) (mn:0<P.cellsOf (ZT P T)) (hn:parts.toList.length=n) (hsm:n*P.cellsOf (ZT P T)<=16777216) (hb:Nb P σ (ZT P T) (P.cellsOf (ZT P T)) parts.toList 0 rows)
  (hK:∀a' w',Jq T0 B (σ.new d (.one (.sref d 0 0 rows.length)) [.arr false (P.cellsOf (ZT P T)) rows]) a' w'->XI B w w'->K a' w'):o.wp P a w K Q:=by
 obtain⟨ti,hu,hi,hC⟩:=QB ht;obtain⟨i,z,row,lN,hZ,iX,hD,gS,lv,iP⟩:=yk hz;rw[hi]at lN;cases lN;have ig:(zeroValue (ZT P T)).run P w= .ok z w:=by simp[zeroValue,typeInfo,hi,hZ]
 obtain⟨zero,hzero⟩:∃zero:Array Value,(n*P.cellsOf (ZT P T)=0->zero=#[])/\(¬n*P.cellsOf (ZT P T)=0->zero=z.cells):=by
  by_cases h0:n*P.cellsOf (ZT P T)=0
  ·exact⟨#[],fun _=>rfl,fun hh=>absurd h0 hh⟩
  ·exact⟨z.cells,fun hh=>absurd hh h0,fun _=>rfl⟩
 obtain⟨nq,ys,h1,h2,h3,h4,h5⟩:=M0 r (ZT P T) (P.cellsOf (ZT P T)) parts.toList 0 rows ((Array.range (n*P.cellsOf (ZT P T))).map (zero[·%zero.size]!)) hb (by simp[hn]);have l0:ys.length=n*P.cellsOf (ZT P T):=by rw[h3.length,YU rows _ h4,h5,hn]
 have mK:nq.toList=ys:=by rw[h2];unfold place;simp[l0]
 have gB:(parts.map fun(x:Nat×Operand)=>(x.1,a.eval x.2)).toList=parts.toList.map fun x=>(x.1,a.eval x.2):=zAG;have mB:(execOp a.eval o).run P w= .ok (.value (.slice (some ⟨w.heap.size,0,none⟩) n n)) (w.alloc (.cells nq (ZT P T))):=by
  have gX:¬(n*P.cellsOf (ZT P T)>2^24):=zAD;by_cases h0:n*P.cellsOf (ZT P T)=0
  ·have fM:=hzero.1 h0;subst fM;simp only[execOp,na,Instr.buildSlice,Sem.run_bind,run_underlying hu,Result.andThen_ok,KQ hi,if_neg gX,if_pos h0,gB,h1,newRow,Sem.run_pure,run_newObj_alloc]
  ·have fM:=hzero.2 h0;subst fM;simp only[execOp,na,Instr.buildSlice,Sem.run_bind,run_underlying hu,Result.andThen_ok,KQ hi,if_neg gX,if_neg h0,ig,gB,h1,newRow,Sem.run_pure,run_newObj_alloc]
 unfold Oper.wp;rw[mB,Oper.upon_value,hd];have hlen:rows.length=n:=by rw[h5,hn]
 have hT:∀b k v,Tof T0 X b k->w.cell? ⟨b,k,none⟩=some v->(w.alloc (.cells nq (ZT P T))).cell? ⟨b,k,none⟩=some v/\Tof T0 X b k:=by intro b k v hb nr;refine⟨?_,hb⟩;rw[World.cell?_of_block ((World.grownBy_alloc w (.cells nq (ZT P T)) none).block b (r.Tlt hb) zAG)];exact nr
 have dE:nq.size=n*P.cellsOf (ZT P T):=by rw[<-Array.length_toList,mK,l0]
 have iG:n<=maxLen:=by have:n<=n*P.cellsOf (ZT P T):=Nat.le_mul_of_pos_right _ mn;simp only[maxLen];omega
 have:=r.tP mf (World.grownBy_alloc w (.cells nq (ZT P T)) none) (.slice (some ⟨w.heap.size,0,none⟩) n n) (size:=P.cellsOf (ZT P T)) (rows:=rows)
  ⟨ZT P T,ys,⟨by rw[l0,hlen],.inr ⟨w.heap.size,n,nq,by rw[hlen],Nat.zero_le _,heap_alloc_new w _,zAD,iG,dE,by rw[mK,hlen,List.take_of_length_le zAD]⟩⟩,h4,h3.imp fun _ _=>Rd.mono hT⟩
  (fun b hb=>by simp[blk]at hb;subst hb;exact⟨Nat.le_refl _,zAG⟩)
 exact hK _ _ this.1 this.2
theorem D3(r:Rel T0 B σ a w X h){T:TypeId}(na:o.op= .buildSlice T n parts)(hd:o.dst=some d)
  (ht:Xl P T=true) (hz:Qb P (ZT P T)=true) (mn:0<P.cellsOf (ZT P T)) (hn:parts.toList.length=n) (hsm:n*P.cellsOf (ZT P T)<=16777216) (hb:Nb P σ (ZT P T) (P.cellsOf (ZT P T)) parts.toList 0 rows)
  (hK:∀a' w',Jq T0 B (σ.put d (.one (.d (.sl (P.cellsOf (ZT P T)) rows)))) a' w'->XI B w w'->K a' w'):o.wp P a w K Q:=by
 obtain⟨ti,hu,hi,hC⟩:=QB ht;obtain⟨i,z,row,lN,hZ,iX,hD,gS,lv,iP⟩:=yk hz;rw[hi]at lN;cases lN;have ig:(zeroValue (ZT P T)).run P w= .ok z w:=by simp[zeroValue,typeInfo,hi,hZ]
 obtain⟨zero,hzero⟩:∃zero:Array Value,(n*P.cellsOf (ZT P T)=0->zero=#[])/\(¬n*P.cellsOf (ZT P T)=0->zero=z.cells):=by
  by_cases h0:n*P.cellsOf (ZT P T)=0
  ·exact⟨#[],fun _=>rfl,fun hh=>absurd h0 hh⟩
  ·exact⟨z.cells,fun hh=>absurd hh h0,fun _=>rfl⟩
 obtain⟨nq,ys,h1,h2,h3,h4,h5⟩:=M0 r (ZT P T) (P.cellsOf (ZT P T)) parts.toList 0 rows ((Array.range (n*P.cellsOf (ZT P T))).map (zero[·%zero.size]!)) hb (by simp[hn]);have l0:ys.length=n*P.cellsOf (ZT P T):=by rw[h3.length,YU rows _ h4,h5,hn]
 have mK:nq.toList=ys:=by rw[h2];unfold place;simp[l0]
 have gB:(parts.map fun(x:Nat×Operand)=>(x.1,a.eval x.2)).toList=parts.toList.map fun x=>(x.1,a.eval x.2):=zAG;have mB:(execOp a.eval o).run P w= .ok (.value (.slice (some ⟨w.heap.size,0,none⟩) n n)) (w.alloc (.cells nq (ZT P T))):=by
  have gX:¬(n*P.cellsOf (ZT P T)>2^24):=zAD;by_cases h0:n*P.cellsOf (ZT P T)=0
  ·have fM:=hzero.1 h0;subst fM;simp only[execOp,na,Instr.buildSlice,Sem.run_bind,run_underlying hu,Result.andThen_ok,KQ hi,if_neg gX,if_pos h0,gB,h1,newRow,Sem.run_pure,run_newObj_alloc]
  ·have fM:=hzero.2 h0;subst fM;simp only[execOp,na,Instr.buildSlice,Sem.run_bind,run_underlying hu,Result.andThen_ok,KQ hi,if_neg gX,if_neg h0,ig,gB,h1,newRow,Sem.run_pure,run_newObj_alloc]
 unfold Oper.wp;rw[mB,Oper.upon_value,hd];have hlen:rows.length=n:=by rw[h5,hn]
 have ek:=World.grownBy_alloc w (.cells nq (ZT P T)) none;have r2:=r.grow (X':=fun b=>X b\/b=w.heap.size) ek (fun b hb=>.inl hb) (fun b hb=>hb.imp id (fun hh=>by subst hh;exact⟨Nat.le_refl _,zAG⟩));have hT:∀b k v,Tof T0 X b k->w.cell? ⟨b,k,none⟩=some v->(w.alloc (.cells nq (ZT P T))).cell? ⟨b,k,none⟩=some v/\Tof T0 (fun b=>X b\/b=w.heap.size) b k:=by intro b k v hb nr;refine⟨?_,hb.imp id .inl⟩;rw[World.cell?_of_block (ek.block b (r.Tlt hb) zAG)];exact nr
 have dE:nq.size=n*P.cellsOf (ZT P T):=by rw[<-Array.length_toList,mK,l0]
 have iG:n<=maxLen:=by have:n<=n*P.cellsOf (ZT P T):=Nat.le_mul_of_pos_right _ mn;simp only[maxLen];omega
 refine hK _ _ ⟨_,_,r2.put d _ _ ?_⟩ (XI.Te ek r.hB);exact Ay (e:=ZT P T) (xs:=ys) ⟨by rw[l0,hlen],.inr ⟨w.heap.size,n,nq,by rw[hlen],Nat.zero_le _,heap_alloc_new w _,zAD,iG,dE,by rw[mK,hlen,List.take_of_length_le zAD]⟩⟩ h4 (fun b k hb=>by simp[blk]at hb;subst hb;exact .inr (.inr rfl)) (h3.imp fun _ _=>Rd.mono hT)
def zD:List At->Option (List D)
 |[]=>some []
 |.d x::xs=>(zD xs).map (x::·)
 |.nil s::xs=>(zD xs).map (.sl s []::·)
 |_=>none
theorem DD{T:CS}{ob:Nat->Nat->Ob}:∀{xs:List At}{ds:List D}{vs:List Value},zD xs=some ds->YF (YL T h ob w) xs vs->YF (Rd T w) vs ds
 |[],ds,vs,hz,ni=>by cases ni;simp[zD]at hz;subst hz;exact .nil
 |x::xs,ds,vs,hz,ni=>by
  cases ni with
  |cons hx ni=>
   cases x with
   |d x=>simp only[zD,Option.map_eq_some_iff]at hz;obtain⟨eK,ic,rfl⟩:=hz;exact .cons hx (DD ic ni)
   |nil s=>simp only[zD,Option.map_eq_some_iff]at hz;obtain⟨eK,ic,rfl⟩:=hz;cases hx;exact .cons (.nil _) (DD ic ni)
   |any=>simp[zD]at hz
   |sref=>simp[zD]at hz
   |ptr=>simp[zD]at hz
   |bptr=>simp[zD]at hz
   |fn=>simp[zD]at hz
   |rptr=>simp[zD]at hz
   |tref=>simp[zD]at hz
theorem kQ{α:Type}(z:List α)(n k:Nat)(hk:k<n*z.length):(List.replicate n z).flatten[k]?=z[k%z.length]?:=by
 induction n generalizing k with
 |zero=>simp at hk
 |succ n ih=>
  rw[List.replicate_succ,List.flatten_cons];rcases Nat.lt_or_ge k z.length with nn|gM
  ·rw[List.getElem?_append_left nn,Nat.mod_eq_of_lt nn]
  ·rw[List.getElem?_append_right gM,ih (k-z.length) (by rw[Nat.add_mul]at hk;omega)];congr 1;rw[Nat.mod_eq_sub_mod gM]
theorem L0(r:Rel T0 B σ a w X h){T:TypeId}(na:o.op= .makeSlice T x x)(hd:o.dst=some d)(mf:σ.fresh d=true)
  (ht:Xl P T=true) (hz:Qb P (ZT P T)=true) (iX:WL P 12 (ZT P T)=some z) (hzd:zD z=some zr) (mn:0<P.cellsOf (ZT P T)) (hx:Vy P σ x k (n:Int)) (e8:P.bytesOf (ZT P T)*n<=281474976710656) (gv:n<=9223372036854775807)
  (hK:∀a' w',Jq T0 B (σ.new d (.one (.sref d 0 0 n)) [.arr false (P.cellsOf (ZT P T)) (List.replicate n zr)]) a' w'->XI B w w'->K a' w'):o.wp P a w K Q:=by
 obtain⟨ti,hu,hi,hC⟩:=QB ht;obtain⟨i,zv,row,lN,hZ,dB,hD,gS,lv,iP⟩:=yk hz;rw[hi]at lN;cases lN;rw[iX]at dB;cases dB;have hex:=xo r hx
 have bS:(ti.bytes:Int)*(n:Int)<=281474976710656:=by have:P.bytesOf (ZT P T)=ti.bytes:=zBb;rw[this]at e8;have h:((ti.bytes*n:Nat):Int)<=281474976710656:=zAD;rwa[Int.natCast_mul]at h
 have mB:=run_make (P:=P) w T (ZT P T) ti zv hu hi hZ k k n n zAD (Int.le_refl _) bS zAD;simp only[Int.toNat_natCast]at mB;unfold Oper.wp;simp only[execOp,na,hex,Sem.run_bind,mB,Result.andThen_ok,Sem.run_pure,Oper.upon_value,hd];have cA:=DD hzd (iP (Tof T0 X) h σ.ob w);have hzl:=cA.length;have e1:zv.cells.toList.length=zv.cells.size:=Array.length_toList;have fX:zr.length=ti.size:=zAD;have hT:∀b k v,Tof T0 X b k->w.cell? ⟨b,k,none⟩=some v->(w.alloc (.cells (madeCells zv.cells (n*ti.size)) (ZT P T))).cell? ⟨b,k,none⟩=some v/\Tof T0 X b k:=by intro b k v hb nr;refine⟨?_,hb⟩;rw[World.cell?_of_block ((World.grownBy_alloc w (.cells (madeCells zv.cells (n*ti.size)) (ZT P T)) none).block b (r.Tlt hb) zAG)];exact nr
 have gC:(madeCells zv.cells (n*ti.size)).toList.length=n*ti.size:=by rw[Array.length_toList,size_madeCells]
 have dF:∀q u,(madeCells zv.cells (n*ti.size)).toList[q]?=some u->zv.cells.toList[q%ti.size]?=some u:=by
  intro q u hq;have nn:q<n*ti.size:=zBM
  have bT:q%ti.size<zv.cells.size:=by rw[gS];exact Nat.mod_lt _ zAD
  have:(madeCells zv.cells (n*ti.size)).toList[q]?=some (zv.cells[q%zv.cells.size]!):=by simp[madeCells,nn]
  rw[this]at hq;cases hq;rw[gS];simp[bT]
 have g8:YF (Rd (Tof T0 X) w) (madeCells zv.cells (n*ti.size)).toList (List.replicate n zr).flatten:=by
  refine YF.xS (by rw[gC,YU _ ti.size (by intro q hq;rw[List.eq_of_mem_replicate hq];exact fX)];simp) (fun q u dd hq iE=>?_);have nn:q<n*ti.size:=zBM
  rw[kQ zr n q (by rw[fX];exact nn),fX]at iE;obtain⟨d',nu,lG⟩:=cA.get _ _ (dF q u hq);rw[iE]at nu;cases nu;exact lG
 have:=r.tP mf (World.grownBy_alloc w (.cells (madeCells zv.cells (n*ti.size)) (ZT P T)) none) (.slice (some ⟨w.heap.size,0,none⟩) n n) (size:=P.cellsOf (ZT P T)) (rows:=List.replicate n zr)
  ⟨ZT P T,(madeCells zv.cells (n*ti.size)).toList,⟨by rw[gC,lv];simp,.inr ⟨w.heap.size,n,_,zAG,Nat.zero_le _,heap_alloc_new w _,zAG,by simp only[maxLen];omega,by rw[size_madeCells,lv],by rw[List.take_of_length_le (by rw[gC,lv];simp)]⟩⟩,
   (by intro q hq;rw[List.eq_of_mem_replicate hq];omega),g8.imp fun _ _=>Rd.mono hT⟩
  (fun b hb=>by simp[blk]at hb;subst hb;exact⟨Nat.le_refl _,zAG⟩)
 rw[List.length_replicate]at this;exact hK _ _ this.1 this.2
open Go.RowKit
def zj(l:List UInt8):List (List D):=l.map fun b=>[D.int .u8 (b.toNat:Int)]
def Ns(P:Program)(t:TypeId):Bool:=match P.underlying t with
 |some (.slice e)=>(match P.underlying e with|some (.int .u8)=>true|_=>false)
 |_=>false
theorem LS{t:TypeId}(ht:Ns P t=true):∃e,P.underlying t=some (.slice e)/\P.underlying e=some (.int .u8):=by
 unfold Ns at ht;split at ht
 ·rename_i e he;split at ht
  ·rename_i h2;exact⟨e,he,h2⟩
  ·cases ht
 ·cases ht
theorem Ts(l:List UInt8):(zj l).flatten=l.map fun b=>D.int .u8 (b.toNat:Int):=by
 induction l with
 |nil=>rfl
 |cons b l ih=>simp only[zj,List.map_cons,List.flatten_cons]at ih⊢;rw[ih];rfl
theorem Pc(r:Rel T0 B σ a w X h){S T:TypeId}(na:o.op= .convert S T x)(hg:gOf (look P σ S x)=true)(hS:Ns P S=true)(hT:T9 P T=true)
  (gT:WE σ (unc (look P σ S x)) 1 (zj l)):∃val,(execOp a.eval o).run P w= .ok (.value val) w/\JB (Tof T0 X) h σ.ob w (.one (.d (.str ⟨l.toArray⟩))) val:=by
 obtain⟨e,hs,he⟩:=LS hS;have hv:=r.arg (P:=P) S x rfl hg
 obtain⟨_,lA⟩:=Ec r gT hv;refine⟨.string ⟨l.toArray⟩,?_,.str _⟩;rcases lA with⟨hex,gW⟩|⟨ad,c,xs,hex,nr,ni⟩
 ·have hl:l=[]:=by cases l with
   |nil=>rfl
   |cons b l=>simp[zj]at gW
  subst hl;have hr:(convert S T (.slice none 0 0)).run P w= .ok (.string ⟨#[]⟩) w:=by rw[run_convert_bytes_string w S T e none 0 0 hs he (jH hT)];rfl
  simp only[execOp,na,hex,Sem.run_bind,hr,Result.andThen_ok,Sem.run_pure,List.toArray]
 ·have hlen:(zj l).length=l.length:=by simp[zj]
  rw[hlen]at hex;have hr:=run_convert_bytes_back (P:=P) w S T e ad c l hs he (jH hT) (fun j hj=>by
   rw[Ts]at ni;obtain⟨u,hu,hr⟩:=ni.get' j (D.int .u8 (l[j].toNat:Int)) (by simp[hj]);have:=SX hr
   subst this;exact nr j _ hu)
  simp only[execOp,na,hex,Sem.run_bind,hr,Result.andThen_ok,Sem.run_pure]
theorem Pb(r:Rel T0 B σ a w X h){S T:TypeId}{s:ByteArray}(na:o.op= .convert S T x)(hd:o.dst=some d)(hg:gOf (look P σ S x)=true)(hS:T9 P S=true)(hT:Ns P T=true)
  (hx:unc (look P σ S x)= .one (.d (.str s))) (m0:s.size<=9223372036854775807)
  (hK:∀a' w',Jq T0 B (σ.put d (.one (.d (.sl 1 (zj s.data.toList))))) a' w'->XI B w w'->K a' w'):o.wp P a w K Q:=by
 obtain⟨e,iE,he⟩:=LS hT;have hex:=Rx (r.arg (P:=P) S x hx hg)
 have mB:=run_bytes_of_string (P:=P) w S T e s (jH hS) iE he;unfold Oper.wp;simp only[execOp,na,hex,Sem.run_bind,mB,Result.andThen_ok,Sem.run_pure,Oper.upon_value,hd];generalize lX:grownCap w s.size 0 e=cap at*;have gM:s.size<=cap:=by rw[<-lX];exact grownCap_ge w s.size 0 e
 have iG:cap<=maxLen:=by rw[<-lX];exact grownCap_le_maxLen w s.size 0 e (by simp only[maxLen];omega)
 generalize hw':w.drew.alloc (.cells (bytesRow s cap) e ((bytesRow s cap).size,(bytesRow s cap).size+1))=w';have ek:w.grownBy w' none:=by rw[<-hw'];exact⟨rfl,rfl,rfl,zAG,fun k hk _=>(World.grownBy_alloc w.drew _ none).block k hk zAG⟩
 have gP:w'.heap[w.heap.size]?=some (.cells (bytesRow s cap) e ((bytesRow s cap).size,(bytesRow s cap).size+1)):=by rw[<-hw'];exact heap_alloc_new w.drew _
 have hsize:w.heap.size<w'.heap.size:=(Array.getElem?_eq_some_iff.1 gP).1;have r2:=r.grow (X':=fun b=>X b\/b=w.heap.size) ek (fun b hb=>.inl hb) (fun b hb=>hb.imp id (fun hh=>by subst hh;exact⟨Nat.le_refl _,hsize⟩));refine hK _ _ ⟨_,_,r2.put d _ _ ?_⟩ (XI.Te ek r.hB);have lM:=Ts s.data.toList;refine Rd.sl ⟨w.heap.size,0,none⟩ s.size cap 1 _ (fun k=>.int .u8 ((s.data.toList.getD k 0).toNat:Int)) (by simp[zj]) gM iG (by intro q hq;simp[zj]at hq;obtain⟨b,_,rfl⟩:=hq;rfl) (fun _=>rfl) (fun k dd hk=>?_) (fun k dd hk=>?_)
 ·rw[lM,List.getElem?_map]at hk;cases hb:s.data.toList[k]? with
  |none=>rw[hb]at hk;cases hk
  |some b=>
   refine⟨?_,.inr (.inr rfl)⟩;simp only[Nat.zero_add];refine zL gP _ _ ?_;have hklt:k<s.data.size:=by have:=(List.getElem?_eq_some_iff.1 hb).1;simpa using this
   simp only[bytesRow];rw[Array.toList_append,List.getElem?_append_left (by simpa using hklt)];simp[hb]
 ·rw[lM,List.getElem?_map]at hk;cases hb:s.data.toList[k]? with
  |none=>rw[hb]at hk;cases hk
  |some b=>rw[hb]at hk;cases hk;rw[List.getD_eq_getElem?_getD,hb];exact .int _ _
open Go.RowKit
variable{l1 l2:List (Nat×Nat)}
def XL:List At->List (Nat×Nat)
 |[]=>[]
 |.sref t j _ _::xs=>(t,j)::XL xs
 |_::xs=>XL xs
def mvD(σ:St):At->Option D
 |.d (.sl _ _)=>none
 |.d x=>some x
 |.nil s=>some (.sl s [])
 |.sref t j lo len=>(match σ.ob t j with|.arr _ size rows=>if lo=0/\len=rows.length then some (.sl size rows)else none|_=>none)
 |_=>none
def Ft(σ:St):At->Prop
 |.sref t j _ _=>(match σ.ob t j with|.arr false _ rows=>∀r∈rows,∀x∈r,x.scalar=true|_=>True)
 |_=>True
def Jz(σ:St):List At->Option (List D)
 |[]=>some []
 |x::xs=>(match mvD σ x,Jz σ xs with|some d,some ds=>some (d::ds)|_,_=>none)
def Qc(σ:St):List At->Prop
 |[]=>True
 |x::xs=>Ft σ x/\Qc σ xs
def Km(σ:St):List (List At)->Option (List (List D))
 |[]=>some []
 |xs::rest=>(match Jz σ xs,Km σ rest with|some r,some rs=>some (r::rs)|_,_=>none)
def KP(σ:St):List (List At)->Prop
 |[]=>True
 |x::xs=>Qc σ x/\KP σ xs
theorem Lc:∀(xs:List At)(i j:Nat)(t u lo len fp gU:Nat),(XL xs).Nodup->xs[i]?=some (.sref t u lo len)->xs[j]?=some (.sref t u fp gU)->i=j:=by
 intro xs;induction xs with
 |nil=>intro i j t u lo len fp gU _ hi;simp at hi
 |cons x xs ih=>
  intro i j t u lo len fp gU mu hi hj;have mem:∀(k lo len:Nat),xs[k]?=some (At.sref t u lo len)->(t,u)∈XL xs:=by
   intro k lo len hk;clear ih mu hi hj;induction xs generalizing k with
   |nil=>simp at hk
   |cons y ys du=>
    cases k with
    |zero=>simp at hk;subst hk;simp[XL]
    |succ k=>have:=du k (by simpa using hk);cases y<;>simp[XL,this]
  have nd':(XL xs).Nodup:=by cases x<;>simp only[XL]at mu<;>first|exact mu|exact(List.nodup_cons.1 mu).2
  cases i with
  |zero=>
   simp at hi;subst hi;cases j with
   |zero=>rfl
   |succ j=>simp only[XL]at mu;exact absurd (mem j fp gU (by simpa using hj)) (List.nodup_cons.1 mu).1
  |succ i=>
   cases j with
   |zero=>simp at hj;subst hj;simp only[XL]at mu;exact absurd (mem i lo len (by simpa using hi)) (List.nodup_cons.1 mu).1
   |succ j=>rw[ih i j t u lo len fp gU nd' (by simpa using hi) (by simpa using hj)]
theorem E5:∀{xs:List At}{k t j lo len:Nat},xs[k]?=some (At.sref t j lo len)->(t,j)∈XL xs
 |[],k,t,j,lo,len,h=>by simp at h
 |x::xs,0,t,j,lo,len,h=>by simp at h;subst h;simp[XL]
 |x::xs,k+1,t,j,lo,len,h=>by have:=E5 (xs:=xs) (k:=k) zBr;cases x<;>simp[XL,this]
theorem qS{σ:St}:∀{xs:List At}{ds:List D},Jz σ xs=some ds->xs.length=ds.length/\∀(k:Nat)(x:At)(d:D),xs[k]?=some x->ds[k]?=some d->mvD σ x=some d
 |[],ds,h=>by simp[Jz]at h;subst h;exact⟨rfl,fun k x d hx=>by simp at hx⟩
 |x::xs,ds,h=>by
  simp only[Jz]at h;split at h
  ·rename_i d eK h1 h2;cases h;obtain⟨hl,ih⟩:=qS h2;refine⟨by simp[hl],fun k y e hy he=>?_⟩;cases k with
   |zero=>simp at hy he;subst hy;subst he;exact h1
   |succ k=>exact ih k y e (by simpa using hy) (by simpa using he)
  ·cases h
theorem Ox{σ:St}:∀{xs ys:List At}{ds es:List D},Jz σ xs=some ds->Jz σ ys=some es->Jz σ (xs++ys)=some (ds++es)
 |[],ys,ds,es,h1,h2=>by simp[Jz]at h1;subst h1;simpa using h2
 |x::xs,ys,ds,es,h1,h2=>by
  simp only[Jz]at h1;split at h1
  ·rename_i d eK h3 h4;cases h1;simp[Jz,h3,Ox h4 h2]
  ·cases h1
theorem xb{σ:St}:∀{lK:List (List At)}{rs:List (List D)},Km σ lK=some rs->Jz σ lK.flatten=some rs.flatten/\lK.length=rs.length/\∀n,(∀x∈lK,x.length=n)->∀r∈rs,r.length=n
 |[],rs,h=>by simp[Km]at h;subst h;exact⟨rfl,rfl,fun n _ r hr=>by cases hr⟩
 |xs::lK,rs,h=>by
  simp only[Km]at h;split at h
  ·rename_i r aF h1 h2;cases h;obtain⟨i1,i2,i3⟩:=xb h2;refine⟨by rw[List.flatten_cons,List.flatten_cons];exact Ox h1 i1,by simp[i2],fun n hn q hq=>?_⟩;rcases List.mem_cons.1 hq with rfl|hq
   ·rw[<-(qS h1).1];exact hn xs zAG
   ·exact i3 n (fun x hx=>hn x (by simp[hx])) q hq
  ·cases h
theorem R0{σ:St}:∀{xs:List At},Qc σ xs->∀(k:Nat)(x:At),xs[k]?=some x->Ft σ x
 |[],_,k,x,hx=>by simp at hx
 |y::xs,h,0,x,hx=>by simp at hx;subst hx;exact h.1
 |y::xs,h,k+1,x,hx=>R0 h.2 k x (by simpa using hx)
theorem R8{σ:St}:∀{xs ys:List At},Qc σ xs->Qc σ ys->Qc σ (xs++ys)
 |[],_,_,h=>h
 |_::_,_,h1,h2=>⟨h1.1,R8 h1.2 h2⟩
theorem xC{σ:St}:∀{lK:List (List At)},KP σ lK->Qc σ lK.flatten
 |[],_=>trivial
 |xs::lK,h=>by rw[List.flatten_cons];exact R8 h.1 (xC h.2)
theorem Rd.own{d:D}(hs:d.scalar=true)(hr:Rd T w v d):Own w v d S:=by
 cases hr with
 |int k n=>exact .int _ _ _
 |bool b=>exact .bool _ _
 |str s=>exact .str _ _
 |unk v h=>exact .unk _ h _
 |nil=>cases hs
 |sl=>cases hs
theorem Rel.pN(r:Rel T0 B σ a w X h)(ho:σ.ob t j= .arr q size rows)(hq:q=false->∀r∈rows,∀x∈r,x.scalar=true):Own w (h t j).v (.sl size rows) (h t j).u:=by
 have h0:=r.obj t j;have lF:=r.ub t j;rw[ho]at h0 lF;cases q with
 |false=>obtain⟨e,xs,iJ,hz,ni⟩:=h0;refine .sl _ size rows _ e xs (fun _ _=>False) iJ hz (fun b hb=>lF b zAG hb) ni.length (fun k x d hx hd=>?_) (fun k b hb=>hb.elim) (fun i j b hb=>hb.elim);obtain⟨d',nu,hr⟩:=ni.get k x hx;rw[hd]at nu;cases nu;obtain⟨r0,gR,hdr⟩:=List.mem_flatten.1 (List.mem_of_getElem? hd);exact Rd.own (hq rfl r0 gR d hdr) hr
 |true=>obtain⟨e,xs,iJ,hz,⟨hl,Sk,h1,h2,h3⟩,hn⟩:=h0;exact .sl _ size rows _ e xs Sk iJ hz (fun b hb=>lF b zAG hb) hl h1 (fun k b hb=>h2 k b hb) h3
def zF(σ:St)(h:Nat->Nat->Hd)(l:List (Nat×Nat))(b:Nat):Prop:=∃p∈l,σ.ob p.1 p.2≠ .none/\(h p.1 p.2).u b
theorem RU(r:Rel T0 B σ a w X h){xs:List At}(ni:YF (YL (Tof T0 X) h σ.ob w) xs vs)(l9:Jz σ xs=some ds)(mH:Qc σ xs)(mu:(XL xs).Nodup):KJ w vs ds (zF σ h (XL xs)):=by
 obtain⟨hl,l9⟩:=qS l9;refine⟨by rw[<-ni.length,hl],fun k b=>∃t j lo len,xs[k]?=some (.sref t j lo len)/\σ.ob t j≠ .none/\(h t j).u b,fun k v d hv hd=>?_,?_,?_⟩
 ·obtain⟨x,hx,hr⟩:=ni.get' k v hv;have hm:=l9 k x d hx hd
  have ho:=R0 mH k x hx;cases x with
  |d x=>
   cases x with
   |sl s rows=>simp[mvD]at hm
   |int k n=>simp[mvD]at hm;subst hm;exact Rd.own rfl hr
   |bool b=>simp[mvD]at hm;subst hm;exact Rd.own rfl hr
   |str s=>simp[mvD]at hm;subst hm;exact Rd.own rfl hr
   |unk=>simp[mvD]at hm;subst hm;exact Rd.own rfl hr
  |nil s=>simp[mvD]at hm;subst hm;cases hr;exact .sl _ s [] _ 0 [] (fun _ _=>False) (World.ownsRow_nil w 0 0 s) zBD (fun b hb=>by cases hb) rfl (fun k x d hx=>by simp at hx) (fun k b hb=>hb.elim) (fun i j b hb=>hb.elim)
  |sref t j lo len=>
   simp only[mvD]at hm;split at hm
   ·rename_i q size rows n9;split at hm
    ·rename_i hc;obtain⟨rfl,rfl⟩:=hc;cases hm;obtain⟨_,la,_⟩:=hr.2.1 q size rows n9;rw[la rfl rfl];refine(r.pN n9 (fun hq=>?_)).mono (fun b hb=>⟨t,j,0,rows.length,hx,by rw[n9];simp,hb⟩);subst hq;simp only[Ft,n9]at ho;exact ho
    ·cases hm
   ·cases hm
  |any=>simp[mvD]at hm
  |ptr=>simp[mvD]at hm
  |bptr=>simp[mvD]at hm
  |fn=>simp[mvD]at hm
  |rptr=>simp[mvD]at hm
  |tref=>simp[mvD]at hm
 ·rintro k b ⟨t,j,lo,len,hx,nf,hu⟩;exact⟨(t,j),E5 hx,nf,hu⟩
 ·rintro i k b ⟨t,j,lo,len,hx,nf,hu⟩ ⟨t',j',fp,gU,gw,ma,iO⟩;obtain⟨rfl,rfl⟩:=r.inj t j t' j' b nf ma hu iO;exact Lc xs i k t j lo len fp gU mu hx gw
theorem KJ.append{xs:List Value}(h1:KJ w xs ds S)(h2:KJ w ys es S')(hd:∀b,S b->S' b->False):KJ w (xs++ys) (ds++es) (fun b=>S b\/S' b):=by
 obtain⟨l1,Sk,a1,a2,a3⟩:=h1;obtain⟨l2,db,b1,b2,b3⟩:=h2;refine⟨by simp[l1,l2],fun k=>if k<xs.length then Sk k else db (k-xs.length),fun k x d hx nu=>?_,fun k b hb=>?_,fun i j b hi hj=>?_⟩
 ·by_cases hk:k<xs.length
  ·simp only[hk,if_true];rw[List.getElem?_append_left hk]at hx;rw[List.getElem?_append_left zAD]at nu;exact a1 k x d hx nu
  ·simp only[hk,if_false];rw[List.getElem?_append_right zAD]at hx;rw[List.getElem?_append_right zAD,<-l1]at nu;exact b1 _ x d hx nu
 ·by_cases hk:k<xs.length
  ·simp only[hk,if_true]at hb;exact .inl (a2 k b hb)
  ·simp only[hk,if_false]at hb;exact .inr (b2 _ b hb)
 ·by_cases lN:i<xs.length
  ·simp only[lN,if_true]at hi;by_cases gA:j<xs.length
   ·simp only[gA,if_true]at hj;exact a3 i j b hi hj
   ·simp only[gA,if_false]at hj;exact(hd b (a2 i b hi) (b2 _ b hj)).elim
  ·simp only[lN,if_false]at hi;by_cases gA:j<xs.length
   ·simp only[gA,if_true]at hj;exact(hd b (a2 j b hj) (b2 _ b hi)).elim
   ·simp only[gA,if_false]at hj;have:=b3 _ _ b hi hj;omega
theorem KJ.mono{xs:List Value}(hS:∀b,S b->S' b)(h1:KJ w xs ds S):KJ w xs ds S':=by obtain⟨l1,Sk,a1,a2,a3⟩:=h1;exact⟨l1,Sk,a1,fun k b hb=>hS b (a2 k b hb),a3⟩
theorem KJ.nil(S:Nat->Prop):KJ w [] [] S:=⟨rfl,fun _ _=>False,fun k x d hx=>by simp at hx,fun _ _ hb=>hb.elim,fun _ _ _ hb=>hb.elim⟩
theorem Rel.zu(r:Rel T0 B σ a w X h)(l:List (Nat×Nat))(b:Nat)(hb:zF σ h l b):¬B b/\¬X b/\b<w.heap.size/\∀u i,(σ.Z8 l).ob u i≠ .none->¬(h u i).u b:=by
 obtain⟨p,hp,nf,hu⟩:=hb;have ho:=r.own p.1 p.2 b nf hu
 refine⟨ho.1,ho.2.1,ho.2.2,fun u i hn iO=>?_⟩;rw[St.KY]at hn;split at hn
 ·exact hn rfl
 ·rename_i dr;obtain⟨h1,h2⟩:=r.inj p.1 p.2 u i b nf hn hu iO;exact dr (by rw[<-h1,<-h2];exact hp)
open Go.RowKit
def N5(P:Program)(σ:St)(T:TypeId)(size:Nat):List (Nat×Operand)->Nat->List (List At)->Prop
 |[],_,rs=>rs=[]
 |(i,x)::ps,k,rs=>i=k/\gOf (look P σ T x)=true/\(unc (look P σ T x)).flat=true/\(unc (look P σ T x)).cells.length=size/\
   ∃rest,N5 P σ T size ps (k+1) rest/\rs=(unc (look P σ T x)).cells::rest
theorem C2(r:Rel T0 B σ a w X h)(T:TypeId)(size:Nat):∀(ps:List (Nat×Operand))(k:Nat)(rs:List (List At))(cells:Array Value),N5 P σ T size ps k rs->(k+ps.length)*size<=cells.size->
   ∃nq ys,Instr.fill (fun i=>some (i*size,size)) cells (ps.map fun x=>(x.1,a.eval x.2))=some nq/\nq.toList=place cells.toList (k*size) ys/\YF (YL (Tof T0 X) h σ.ob w) rs.flatten ys/\(∀q∈rs,q.length=size)/\rs.length=ps.length
 |[],k,rs,cells,hb,_=>zBU
 |(i,x)::ps,k,rs,cells,hb,hl=>by
  obtain⟨rfl,hg,hf,hlen,rest,hb,rfl⟩:=hb;have hx:=WM hf (r.arg (P:=P) T x rfl hg)
  have eu:=hx.length;have e1:cells.toList.length=cells.size:=Array.length_toList;have e2:(a.eval x).cells.toList.length=(a.eval x).cells.size:=Array.length_toList;have hmul:(i+(ps.length+1))*size=i*size+size+ps.length*size:=zBh;simp only[List.length_cons]at hl;have heq:=Sb (i*size) (a.eval x).cells cells zAD;have hD:((a.eval x).cells.zipIdx.foldl (fun cs x=>cs.setIfInBounds (i*size+x.2) x.1) cells).size=cells.size:=by rw[<-Array.length_toList,heq,QA _ _ _ zAD,e1]
  have hmul2:(i+1+ps.length)*size=i*size+size+ps.length*size:=zBh;obtain⟨nq,ys,h1,h2,h3,h4,h5⟩:=C2 r T size ps (i+1) rest _ hb (by rw[hD];omega);have l0:ys.length=ps.length*size:=by rw[<-h3.length,YU rest size h4,h5]
  refine⟨nq,(a.eval x).cells.toList++ys,?_,?_,?_,?_,by simp[h5]⟩
  ·simp only[List.map_cons,Instr.fill];rw[if_neg zAx];exact h1
  ·rw[h2,heq];rw[show(i+1)*size=i*size+(a.eval x).cells.toList.length by rw[Nat.add_mul];omega];exact Ll _ _ _ _ zAx
  ·rw[List.flatten_cons];exact hx.append h3
  ·intro q hq;rcases List.mem_cons.1 hq with rfl|hq
   ·exact hlen
   ·exact h4 q hq
theorem RI(r:Rel T0 B σ a w X h){T:TypeId}{rows:List (List At)}(na:o.op= .buildSlice T n parts)(hd:o.dst=some d)(mf:σ.fresh d=true)
  (ht:Xl P T=true) (hz:Qb P (ZT P T)=true) (mn:0<P.cellsOf (ZT P T)) (hn:parts.toList.length=n) (hsm:n*P.cellsOf (ZT P T)<=16777216) (hb:N5 P σ (ZT P T) (P.cellsOf (ZT P T)) parts.toList 0 rows) (hrf:Yf d rows.flatten=false)
  (hK:∀a' w',Jq T0 B (σ.new d (.one (.sref d 0 0 rows.length)) [.lit (P.cellsOf (ZT P T)) rows]) a' w'->XI B w w'->K a' w'):o.wp P a w K Q:=by
 obtain⟨ti,hu,hi,hC⟩:=QB ht;obtain⟨i,z,row,lN,hZ,iX,hD,gS,lv,iP⟩:=yk hz;rw[hi]at lN;cases lN;have ig:(zeroValue (ZT P T)).run P w= .ok z w:=by simp[zeroValue,typeInfo,hi,hZ]
 obtain⟨zero,hzero⟩:∃zero:Array Value,(n*P.cellsOf (ZT P T)=0->zero=#[])/\(¬n*P.cellsOf (ZT P T)=0->zero=z.cells):=by
  by_cases h0:n*P.cellsOf (ZT P T)=0
  ·exact⟨#[],fun _=>rfl,fun hh=>absurd h0 hh⟩
  ·exact⟨z.cells,fun hh=>absurd hh h0,fun _=>rfl⟩
 obtain⟨nq,ys,h1,h2,h3,h4,h5⟩:=C2 r (ZT P T) (P.cellsOf (ZT P T)) parts.toList 0 rows ((Array.range (n*P.cellsOf (ZT P T))).map (zero[·%zero.size]!)) hb (by simp[hn]);have l0:ys.length=n*P.cellsOf (ZT P T):=by rw[<-h3.length,YU rows _ h4,h5,hn]
 have mK:nq.toList=ys:=by rw[h2];unfold place;simp[l0]
 have gB:(parts.map fun(x:Nat×Operand)=>(x.1,a.eval x.2)).toList=parts.toList.map fun x=>(x.1,a.eval x.2):=zAG;have mB:(execOp a.eval o).run P w= .ok (.value (.slice (some ⟨w.heap.size,0,none⟩) n n)) (w.alloc (.cells nq (ZT P T))):=by
  have gX:¬(n*P.cellsOf (ZT P T)>2^24):=zAD;by_cases h0:n*P.cellsOf (ZT P T)=0
  ·have fM:=hzero.1 h0;subst fM;simp only[execOp,na,Instr.buildSlice,Sem.run_bind,run_underlying hu,Result.andThen_ok,KQ hi,if_neg gX,if_pos h0,gB,h1,newRow,Sem.run_pure,run_newObj_alloc]
  ·have fM:=hzero.2 h0;subst fM;simp only[execOp,na,Instr.buildSlice,Sem.run_bind,run_underlying hu,Result.andThen_ok,KQ hi,if_neg gX,if_neg h0,ig,gB,h1,newRow,Sem.run_pure,run_newObj_alloc]
 unfold Oper.wp;rw[mB,Oper.upon_value,hd];have hlen:rows.length=n:=by rw[h5,hn]
 have hg:=World.grownBy_alloc w (.cells nq (ZT P T)) none;have nn:=St.K2 mf;have hT:∀b k v,Tof T0 X b k->w.cell? ⟨b,k,none⟩=some v->(w.alloc (.cells nq (ZT P T))).cell? ⟨b,k,none⟩=some v/\Tof T0 X b k:=by intro b k v hb nr;refine⟨?_,hb⟩;rw[World.cell?_of_block (hg.block b (r.Tlt hb) zAG)];exact nr
 have dE:nq.size=n*P.cellsOf (ZT P T):=by rw[<-Array.length_toList,mK,l0]
 have iG:n<=maxLen:=by have:n<=n*P.cellsOf (ZT P T):=Nat.le_mul_of_pos_right _ mn;simp only[maxLen];omega
 have nk:(w.alloc (.cells nq (ZT P T))).ownsRow 0 (ZT P T) (P.cellsOf (ZT P T)) (.slice (some ⟨w.heap.size,0,none⟩) n n) rows.length ys:=
  ⟨by rw[l0,hlen],.inr ⟨w.heap.size,n,nq,by rw[hlen],Nat.zero_le _,heap_alloc_new w _,zAD,iG,dE,by rw[mK,hlen,List.take_of_length_le zAD]⟩⟩
 refine hK _ _ ⟨X,fun t j=>if t=d then Hd.of (.slice (some ⟨w.heap.size,0,none⟩) n n)else h t j,?_⟩ (XI.Te hg r.hB);have mq:(σ.new d (.one (.sref d 0 0 rows.length)) [.lit (P.cellsOf (ZT P T)) rows]).ob d 0= .lit (P.cellsOf (ZT P T)) rows:=zBB
 have hc:∀t j,t≠d->Cpt h (fun t j=>if t=d then Hd.of (.slice (some ⟨w.heap.size,0,none⟩) n n)else h t j) σ.ob (σ.new d (.one (.sref d 0 0 rows.length)) [.lit (P.cellsOf (ZT P T)) rows]).ob t j:=by
  intro t j nf;have he:(σ.new d (.one (.sref d 0 0 rows.length)) [.lit (P.cellsOf (ZT P T)) rows]).ob t j=σ.ob t j:=zBv
  exact Cpt.same (by simp[nf]) he
 refine r.new mf hg (fun _ hb=>hb) (fun _ hb=>.inl hb) _ _ [.lit (P.cellsOf (ZT P T)) rows] (fun _=>Hd.of (.slice (some ⟨w.heap.size,0,none⟩) n n)) ?_ (fun j=>?_) (fun j b _ hb=>hb) (fun j b _ n7=>?_) (fun j j' b nf ma _ _=>?_)
 ·refine⟨KF nk,fun q' mC nv mG=>(by rw[mq]at mG;cases mG),fun mC nv mG=>?_⟩;rw[mq]at mG;cases mG;simp only[if_true];exact VC nk
 ·cases j with
  |zero=>exact⟨ZT P T,ys,nk,h4,VL hT hc hrf h3⟩
  |succ j=>simp[Yp,Jx]
 ·simp[Hd.of,blk]at n7;subst n7;refine⟨Nat.le_refl _,fun gw=>?_,zAG⟩;have:=(r.hX _ gw).2;omega
 ·have:∀j,Yp [Ob.lit (P.cellsOf (ZT P T)) rows] j≠ .none->j=0:=by
   intro j hj;cases j with
   |zero=>rfl
   |succ j=>simp[Yp]at hj
  rw[this j nf,this j' ma]
theorem AY{T:CS}{ob:Nat->Nat->Ob}:∀{xs:List At}{ds:List D}{vs:List Value},zD xs=some ds->YF (YL T h ob w) xs vs->(∀x∈xs,∀s r,x≠ .d (.sl s r))->∀(w':World)(S:Nat->Prop)(k:Nat)(v:Value)(d:D),vs[k]?=some v->ds[k]?=some d->Own w' v d S
 |[],ds,vs,hz,ni,_,w',S,k,v,d,hv,_=>by cases ni;simp at hv
 |x::xs,ds,vs,hz,ni,fL,w',S,k,v,d,hv,hd=>by
  cases ni with
  |cons hx ni=>
   cases x with
   |d x=>
    simp only[zD,Option.map_eq_some_iff]at hz;obtain⟨eK,ic,rfl⟩:=hz;cases k with
    |zero=>
     simp at hv hd;subst hv;subst hd;cases x with
     |sl s r=>exact absurd rfl (fL _ zAG s r)
     |int k n=>cases(show Rd _ _ _ _ from hx);exact .int _ _ _
     |bool b=>cases(show Rd _ _ _ _ from hx);exact .bool _ _
     |str s=>cases(show Rd _ _ _ _ from hx);exact .str _ _
     |unk=>exact .unk _ (Rd.QM hx) _
    |succ k=>exact AY ic ni (fun x hx=>fL x (by simp[hx])) w' S k v d (by simpa using hv) (by simpa using hd)
   |nil s=>
    simp only[zD,Option.map_eq_some_iff]at hz;obtain⟨eK,ic,rfl⟩:=hz;cases k with
    |zero=>simp at hv hd;subst hv;subst hd;cases hx;exact .sl _ s [] _ 0 [] (fun _ _=>False) (World.ownsRow_nil w' 0 0 s) zBD (fun b hb=>by cases hb) rfl (fun k x d hx=>by simp at hx) (fun k b hb=>hb.elim) (fun i j b hb=>hb.elim)
    |succ k=>exact AY ic ni (fun x hx=>fL x (by simp[hx])) w' S k v d (by simpa using hv) (by simpa using hd)
   |any=>simp[zD]at hz
   |sref=>simp[zD]at hz
   |ptr=>simp[zD]at hz
   |bptr=>simp[zD]at hz
   |fn=>simp[zD]at hz
   |rptr=>simp[zD]at hz
   |tref=>simp[zD]at hz
def w7(σ:St)(x:V)(size:Nat)(ng:List (List D))(l:List (Nat×Nat)):Prop:=
 match x with
 |.one (.nil _)=>ng=[]/\l=[]
 |.one (.sref t j lo len)=>σ.ob t j= .arr true size ng/\lo=0/\len=ng.length/\l=[(t,j)]
 |_=>False
def wu(σ:St)(x:V)(size:Nat)(news:List (List D))(l:List (Nat×Nat)):Prop:=
 match x with
 |.one (.sref t j lo len)=>∃rows,σ.ob t j= .lit size rows/\lo=0/\len=rows.length/\Km σ rows=some news/\KP σ rows/\l=XL rows.flatten
 |_=>False
theorem Hw(r:Rel T0 B σ a w X h){t e0:TypeId}{m cap:Nat}{ti:TypeInfo}{z:Value}{xs:List Value}(na:o.op= .call ⟨.builtin .append,#[x,y],#[t,t]⟩)(hd:o.dst=some d)
  (hu:P.underlying t=some (.slice (ZT P t))) (hi:P.info? (ZT P t)=some ti) (hZ:ti.zero=some z) (gS:z.cells.size=ti.size) (mn:0<ti.size) (mf:σ.fresh d=true) (mi:(m+n)*ti.bytes<=140737488355328) (gv:m+n<=9223372036854775807)
  (nk:w.ownsRow 0 e0 ti.size (a.eval x) m xs) (lk:∀b,blk (a.eval x)=some b->N b) (hN:∀b,N b->¬B b/\¬X b/\b<w.heap.size/\∀u j,σ.ob u j≠ .none->¬(h u j).u b)
  (ei:a.eval y= .slice base n cap) (gh:base=none->cap=0/\n=0) (l0:ys.length=n*ti.size) (nr:∀ad,base=some ad->∀k v,ys[k]?=some v->w.cell? (ad.add k)=some v) (h1c:∀v∈ys,v.oneCell'=true)
  (gi:rs.length=m+n) (hrz:∀q∈rs,q.length=ti.size) (hOw:KJ w (xs++ys) rs.flatten (fun b=>N b/\blk (a.eval x)≠some b))
  (hK:∀a' w',Jq T0 B (σ.new d (.one (.sref d 0 0 (m+n))) [.arr true ti.size rs]) a' w'->XI B w w'->K a' w'):o.wp P a w K Q:=by
 have nn:=St.K2 mf;have key:∀(v':Value)(w':World)(e1:TypeId),(Builtin.append_ #[t,t] o.type #[a.eval x,a.eval y]).run P w= .ok v' w'->w'.ownsRow 0 e1 ti.size v' (m+n) (xs++ys)->
   w.grownBy w' (blk (a.eval x))->(∀b,blk v'=some b->(w.heap.size<=b/\b<w'.heap.size)\/blk (a.eval x)=some b)->o.wp P a w K Q:=by
  intro v' w' e1 mB mG ib cW;unfold Oper.wp;have dD:(execOp a.eval o).run P w= .ok (.value v') w':=by simp only[execOp,na,resolve,invoke,builtin,Sem.run_bind,Sem.run_pure,Result.andThen_ok,List.map_toArray,List.map_cons,List.map_nil,mB]
  rw[dD,Oper.upon_value,hd];refine hK _ _ ⟨X,fun u j=>if u=d then⟨v',fun k=>((xs++ys)[k]?).getD undef,fun b=>blk v'=some b\/(N b/\blk (a.eval x)≠some b)⟩else h u j,?_⟩
   ⟨ib.os,ib.tape,ib.output,ib.size,fun k hk=>ib.block k (r.hB k hk) (fun e=>(hN k (lk k e.symm)).1 hk)⟩
  have mq:(σ.new d (.one (.sref d 0 0 (m+n))) [.arr true ti.size rs]).ob d 0= .arr true ti.size rs:=zBB;have mz:w'.ownsRow 0 e1 ti.size v' rs.length (xs++ys):=by rw[gi];exact mG
  have hOw2:KJ w' (xs++ys) rs.flatten (fun b=>(blk v'=some b\/(N b/\blk (a.eval x)≠some b))/\blk v'≠some b):=by
   refine(hOw.O2 (fun b hb=>ib.block b (hN b hb.1).2.2.1 (fun e=>hb.2 e.symm))).mono (fun b hb=>⟨.inr hb,fun e=>?_⟩);rcases cW b e with hl|hl
   ·have:=(hN b hb.1).2.2.1;omega
   ·exact hb.2 hl
  refine r.B5 mf N ib.size (fun k hk nf=>ib.block k hk (fun e=>nf (lk k e.symm))) (fun b hb=>⟨(hN b hb).1,(hN b hb).2.1,fun u j _ nf=>(hN b hb).2.2.2 u j nf⟩) (fun _ hb=>hb) (fun _ hb=>.inl hb) _ _ [.arr true ti.size rs]
   (fun _=>⟨v',fun k=>((xs++ys)[k]?).getD undef,fun b=>blk v'=some b\/(N b/\blk (a.eval x)≠some b)⟩) ?_ (fun j=>?_) (fun j b _ hb=>.inl hb) (fun j b nf n7=>?_) (fun j j' b nf ma _ _=>?_)
  ·refine⟨KF mG,fun q' mC nv hh=>?_,fun mC nv hh=>by rw[mq]at hh;cases hh⟩;rw[mq]at hh;cases hh;simp only[if_true];rw[<-gi];exact VC mz
  ·cases j with
   |zero=>exact⟨e1,xs++ys,mz,hrz,hOw2,fun k x d hx _ _=>by simp[hx]⟩
   |succ j=>simp[Yp,Jx]
  ·rcases n7 with n7|n7
   ·rcases cW b n7 with h1|h1
    ·exact⟨.inl h1.1,fun hx=>by have:=(r.hX b hx).2;omega,h1.2⟩
    ·have h2:=hN b (lk b h1);exact⟨.inr (lk b h1),h2.2.1,by have:=ib.size;omega⟩
   ·have h2:=hN b n7.1;exact⟨.inr n7.1,h2.2.1,by have:=ib.size;omega⟩
  ·have:∀j,Yp [Ob.arr true ti.size rs] j≠ .none->j=0:=by
    intro j hj;cases j with
    |zero=>rfl
    |succ j=>simp[Yp]at hj
   rw[this j nf,this j' ma]
 cases base with
 |none=>
  obtain⟨rfl,rfl⟩:=gh rfl;have hys:ys=[]:=List.eq_nil_of_length_eq_zero (by rw[l0];simp)
  have mV:∃base cap,a.eval x= .slice base m cap/\m<=cap/\(base=none->cap=0):=by
   rcases nk.2 with⟨h1,h2⟩|⟨g,cap,cur,h1,_,_,iK,_⟩
   ·exact⟨none,0,by rw[h1,h2],zAD,fun _=>rfl⟩
   ·exact⟨_,cap,h1,iK,(fun hh=>by cases hh)⟩
  obtain⟨base,cap,hex,iK,aq⟩:=mV;refine key (a.eval x) w e0 ?_ (by rw[hys];simpa using nk) ⟨rfl,rfl,rfl,Nat.le_refl _,fun _ _ _=>rfl⟩ (fun b hb=>.inr hb);rw[ei,hex];exact VY t o.type _ ti hu hi base m cap iK aq
 |some ad=>obtain⟨v',w',e1,mB,mG,ib,cW⟩:=R3 (P:=P) (w:=w) t o.type _ e0 ti z hu hi hZ gS mn (a.eval x) m xs nk ad n cap ys l0 (nr ad rfl) h1c (by simp only[maxLen];omega) mi;refine key v' w' e1 ?_ mG ib cW;rw[ei];exact mB
theorem FL(r:Rel T0 B σ a w X h){t:TypeId}(na:o.op= .call ⟨.builtin .append,#[x,y],#[t,t]⟩)(hd:o.dst=some d)
  (gd:gOf (look P σ t x)=true) (gf:gOf (look P σ t y)=true) (ht:Xl P t=true) (hz:Qb P (ZT P t)=true) (mn:0<P.cellsOf (ZT P t))
  (lb:w7 σ (unc (look P σ t x)) (P.cellsOf (ZT P t)) ng l1) (gT:wu σ (unc (look P σ t y)) (P.cellsOf (ZT P t)) news l2) (mu:(l1++l2).Nodup) (mf:(σ.Z8 (l1++l2)).fresh d=true)
  (mi:(ng.length+news.length)*P.bytesOf (ZT P t)<=140737488355328) (gv:ng.length+news.length<=9223372036854775807)
  (hK:∀a' w',Jq T0 B ((σ.Z8 (l1++l2)).new d (.one (.sref d 0 0 (ng.length+news.length))) [.arr true (P.cellsOf (ZT P t)) (ng++news)]) a' w'->XI B w w'->K a' w'):o.wp P a w K Q:=by
 obtain⟨ti,hu,hi,hC⟩:=QB ht;obtain⟨i,z,row,lN,hZ,iX,hD,gS,lv,iP⟩:=yk hz;rw[hi]at lN;cases lN;have e8:P.bytesOf (ZT P t)=ti.bytes:=zBb
 rw[e8]at mi;rw[<-lv]at lb gT mn hK;have g9:=r.arg (P:=P) t x rfl gd
 have dg:=r.arg (P:=P) t y rfl gf;obtain⟨t2,j2,rows,hsy,dC,l9,iN,eu⟩:∃t2 j2 rows,unc (look P σ t y)= .one (.sref t2 j2 0 rows.length)/\σ.ob t2 j2= .lit ti.size rows/\Km σ rows=some news/\KP σ rows/\l2=XL rows.flatten:=by
  unfold wu at gT;split at gT
  ·rename_i t2 j2 lo len heq;obtain⟨rows,ho,rfl,rfl,hm,hk,rfl⟩:=gT;exact⟨t2,j2,rows,heq,ho,hm,hk,rfl⟩
  ·exact gT.elim
 subst eu;obtain⟨hmv1,av,hmv3⟩:=xb l9;have hmok':=xC iN
 rw[hsy]at dg;have h0:=r.obj t2 j2
 rw[dC]at h0;obtain⟨e2,ys,mz,bJ,g8⟩:=h0;obtain⟨_,bK,_⟩:=dg.2.2 _ _ dC;have hey0:a.eval y=(h t2 j2).v:=bK rfl rfl
 have bI:∀q∈news,q.length=ti.size:=hmv3 _ bJ;have iF:=RU r g8 hmv1 hmok' (List.nodup_append.1 mu).2.1;have lp:∃e0 xs,w.ownsRow 0 e0 ti.size (a.eval x) ng.length xs/\(∀q∈ng,q.length=ti.size)/\KJ w xs ng.flatten (fun b=>zF σ h l1 b/\blk (a.eval x)≠some b)/\(∀b,blk (a.eval x)=some b->zF σ h l1 b):=by
  unfold w7 at lb;split at lb
  ·rename_i s heq;obtain⟨rfl,rfl⟩:=lb;rw[heq]at g9;have he:a.eval x= .slice none 0 0:=g9
   rw[he];exact⟨0,[],World.ownsRow_nil w 0 0 _,zBD,KJ.nil _,(fun b hb=>by cases hb)⟩
  ·rename_i u j lo len heq;obtain⟨ho,rfl,rfl,rfl⟩:=lb;rw[heq]at g9;have fA:YL (Tof T0 X) h σ.ob w (.sref u j 0 ng.length) (a.eval x):=g9
   obtain⟨_,la,_⟩:=fA.2.1 _ _ _ ho;have he:a.eval x=(h u j).v:=la rfl rfl
   have h0:=r.obj u j;rw[ho]at h0;obtain⟨e,xs,nk,lW,ni,hn⟩:=h0;have n9:σ.ob u j≠ .none:=zAw;rw[he];exact⟨e,xs,nk,lW,ni.mono (fun b hb=>⟨⟨(u,j),zAG,n9,hb.1⟩,hb.2⟩),fun b hb=>⟨(u,j),zAG,n9,r.ub u j b n9 hb⟩⟩
  ·exact lb.elim
 obtain⟨e0,xs,nk,ao,dA,lk⟩:=lp;have l0:ys.length=news.length*ti.size:=by rw[iF.1,YU news ti.size bI]
 have iA:∀b,zF σ h l1 b->zF σ h (XL rows.flatten) b->False:=by
  rintro b ⟨p,hp,nf,hu⟩ ⟨p',ee,ma,iO⟩;obtain⟨e1,e2⟩:=r.inj p.1 p.2 p'.1 p'.2 b nf ma hu iO;have ia:p=p':=Prod.ext e1 e2
  subst ia;exact(List.nodup_append.1 mu).2.2 p hp p ee rfl
 have eR:∀b,zF σ h (l1++XL rows.flatten) b↔zF σ h l1 b\/zF σ h (XL rows.flatten) b:=by
  intro b;constructor
  ·rintro⟨p,hp,hr⟩;rcases List.mem_append.1 hp with hp|hp
   ·exact .inl ⟨p,hp,hr⟩
   ·exact .inr ⟨p,hp,hr⟩
  ·rintro(⟨p,hp,hr⟩|⟨p,hp,hr⟩)
   ·exact⟨p,by simp[hp],hr⟩
   ·exact⟨p,by simp[hp],hr⟩
 have ez:∀b,zF σ h (XL rows.flatten) b->blk (a.eval x)≠some b:=fun b hb e=>iA b (lk b e) hb;have hv:∃base cap,a.eval y= .slice base news.length cap/\(base=none->cap=0/\news.length=0)/\∀ad,base=some ad->∀k v,ys[k]?=some v->w.cell? (ad.add k)=some v:=by
  rw[hey0];rcases mz.2 with⟨bN,hn2⟩|⟨g2,cap2,cur2,mv,_,hO,hnc2,hmx2,hcs2,htk2⟩
  ·have hnl:news.length=0:=by rw[<-av];exact hn2
   exact⟨none,0,by rw[bN,hnl],fun _=>⟨rfl,hnl⟩,fun ad hh=>by cases hh⟩
  ·refine⟨_,cap2,by rw[mv,av],fun hh=>(by cases hh),fun ad hh k v hk=>?_⟩;cases hh;rw[xY];refine zL hO _ _ ?_;rw[<-htk2,List.getElem?_take]at hk;split at hk
   ·simpa using hk
   ·cases hk
 obtain⟨base,cap,ei,gh,nr⟩:=hv;refine Hw (r.Z8 (l1++XL rows.flatten)) na hd hu hi hZ gS mn mf mi gv nk (fun b hb=>(eR b).2 (.inl (lk b hb))) (r.zu (l1++XL rows.flatten)) ei gh l0 nr
  (fun u iO=>by
   obtain⟨x',_,gw⟩:=g8.mem iO;exact YL.QM gw) (List.length_append ..) (fun q hq=>(List.mem_append.1 hq).elim (ao q) (bI q)) ?_ hK
 rw[List.flatten_append];exact(dA.append iF (fun b lC mQ=>iA b lC.1 mQ)).mono (fun b hb=>hb.elim (fun hb=>⟨(eR b).2 (.inl hb.1),hb.2⟩) (fun hb=>⟨(eR b).2 (.inr hb),ez b hb⟩))
theorem KJ.pick{xs:List Value}(h1:KJ w xs ds S){p q:Nat}(hp:p<=q)(hq:q+n<=xs.length):KJ w (xs.take p++cut xs q n) (ds.take p++cut ds q n) S:=by
 obtain⟨hl,Sk,hk,hs,hd⟩:=h1;have fJ:(xs.take p).length=p:=zBL
 have eS:(ds.take p).length=p:=zBL;refine⟨by rw[List.length_append,List.length_append,fJ,eS,XV _ _ _ hq,XV _ _ _ zAD],fun k=>if k<p then Sk k else Sk (q+(k-p)),fun k x d hx nu=>?_,fun k b hb=>?_,fun i j b hi hj=>?_⟩
 ·by_cases hkp:k<p
  ·rw[List.getElem?_append_left zAD]at hx nu;rw[List.getElem?_take,if_pos hkp]at hx nu;simp only[if_pos hkp];exact hk k x d hx nu
  ·rw[List.getElem?_append_right zAD,fJ]at hx;rw[List.getElem?_append_right zAD,eS]at nu;simp only[if_neg hkp];exact hk _ x d (zl _ _ _ _ _ hx) (zl _ _ _ _ _ nu)
 ·dsimp only at hb;split at hb<;>exact hs _ b hb
 ·dsimp only at hi hj;split at hi<;>split at hj
  ·exact hd _ _ b hi hj
  ·have:=hd _ _ b hi hj;omega
  ·have:=hd _ _ b hi hj;omega
  ·have:=hd _ _ b hi hj;omega
theorem R1(rows:List (List D))(size:Nat)(hz:∀r∈rows,r.length=size)(lo n:Nat)(hle:lo+n<=rows.length):(cut rows lo n).flatten=cut rows.flatten (lo*size) (n*size):=by
 have hdz:∀r∈rows.drop lo,r.length=size:=fun r hr=>hz r (List.mem_of_mem_drop hr);have e1:(rows.drop lo).flatten=rows.flatten.drop (lo*size):=by
  have h1:=Kk rows size hz lo zAD;have h2:(rows.take lo).flatten++(rows.drop lo).flatten=rows.flatten:=zBd;have h3:(rows.take lo).flatten.length=lo*size:=by rw[YU _ size (fun r hr=>hz r (List.mem_of_mem_take hr)),List.length_take];congr 1;omega
  rw[<-h2,<-h3,List.drop_left]
 unfold cut;rw[Kk (rows.drop lo) size hdz n (by rw[List.length_drop];omega),e1]
theorem FI(r:Rel T0 B σ a w X h){t:TypeId}(na:o.op= .call ⟨.builtin .append,#[x,y],#[t,t]⟩)(hd:o.dst=some d)
  (gd:gOf (look P σ t x)=true) (gf:gOf (look P σ t y)=true) (ht:Xl P t=true) (hz:Qb P (ZT P t)=true) (mn:0<P.cellsOf (ZT P t))
  (hx:unc (look P σ t x)= .one (.sref u j 0 len)) (hy:unc (look P σ t y)= .one (.sref u j lo n)) (ho:σ.ob u j= .arr true (P.cellsOf (ZT P t)) rows) (hle:len<=lo) (gp:lo+n<=rows.length) (mf:(σ.Z8 [(u,j)]).fresh d=true)
  (mi:(len+n)*P.bytesOf (ZT P t)<=140737488355328) (gv:len+n<=9223372036854775807)
  (hK:∀a' w',Jq T0 B ((σ.Z8 [(u,j)]).new d (.one (.sref d 0 0 (len+n))) [.arr true (P.cellsOf (ZT P t)) (rows.take len++cut rows lo n)]) a' w'->XI B w w'->K a' w'):o.wp P a w K Q:=by
 obtain⟨ti,hu,hi,hC⟩:=QB ht;obtain⟨i,z,row,lN,hZ,iX,hD,gS,lv,iP⟩:=yk hz;rw[hi]at lN;cases lN;have e8:P.bytesOf (ZT P t)=ti.bytes:=zBb
 rw[e8]at mi;rw[<-lv]at ho mn hK;have g9:=r.arg (P:=P) t x rfl gd
 have dg:=r.arg (P:=P) t y rfl gf;rw[hx]at g9;rw[hy]at dg;have fA:YL (Tof T0 X) h σ.ob w (.sref u j 0 len) (a.eval x):=g9;have bU:YL (Tof T0 X) h σ.ob w (.sref u j lo n) (a.eval y):=dg;obtain⟨_,_,l5,_⟩:=fA.2.1 _ _ _ ho;have he:a.eval x=NO (h u j).v len:=l5 rfl;obtain⟨_,_,_,base,cap,ei,lX,dc,gh,hb⟩:=bU.2.1 _ _ _ ho;have h0:=r.obj u j;rw[ho]at h0;obtain⟨e0,zs,gj,lW,ni,hn⟩:=h0;have n9:σ.ob u j≠ .none:=zAw;have hzl:zs.length=rows.length*ti.size:=gj.1;have hm1:len*ti.size<=lo*ti.size:=Nat.mul_le_mul_right _ hle;have bV:lo*ti.size+n*ti.size<=zs.length:=by rw[hzl,<-Nat.add_mul];exact Nat.mul_le_mul_right _ gp
 let xs:=zs.take (len*ti.size)
 let ys:=cut zs (lo*ti.size) (n*ti.size)
 have nk:w.ownsRow 0 e0 ti.size (a.eval x) len xs:=by rw[he];exact j6 gj zAD
 have l0:ys.length=n*ti.size:=XV _ _ _ bV;have hblx:blk (a.eval x)=blk (h u j).v:=by rw[he,VF]
 have lL:(rows.take len++cut rows lo n).flatten=rows.flatten.take (len*ti.size)++cut rows.flatten (lo*ti.size) (n*ti.size):=by rw[List.flatten_append,Kk rows ti.size lW len zAD,R1 rows ti.size lW lo n gp]
 have bQ:∀q∈rows.take len++cut rows lo n,q.length=ti.size:=by
  intro q hq;rcases List.mem_append.1 hq with hq|hq
  ·exact lW q (List.mem_of_mem_take hq)
  ·exact lW q (List.mem_of_mem_drop (List.mem_of_mem_take hq))
 have hlen:(rows.take len++cut rows lo n).length=len+n:=by rw[List.length_append,List.length_take,XV _ _ _ gp];omega
 have cT:∀b,(h u j).u b->zF σ h [(u,j)] b:=fun b hb=>⟨(u,j),zAG,n9,hb⟩;have lk:∀b,blk (a.eval x)=some b->zF σ h [(u,j)] b:=fun b hb=>cT b (r.ub u j b n9 (by rw[<-hblx];exact hb));refine Hw (r.Z8 [(u,j)]) (xs:=xs) (ys:=ys) na hd hu hi hZ gS zAD mf mi gv nk lk (r.zu [(u,j)]) ei (fun hh=>⟨gh hh,by have:=gh hh;omega⟩) l0 (fun ad had k v hv=>?_) (fun v hv=>?_) hlen bQ ?_ hK
 ·have iB:0<n:=by
   rcases Nat.eq_zero_or_pos n with h0|h0
   ·have hk:=(List.getElem?_eq_some_iff.1 hv).1;rw[l0,h0]at hk;simp at hk
   ·exact h0
  obtain⟨b,gV,hh,iQ⟩:=hb iB;rw[had]at iQ;cases iQ;rcases gj.2 with⟨bN,_⟩|⟨g,eQ,cur,iz,_,bM,iK,iG,iH,iZ⟩
  ·rw[hh]at bN;cases bN
  ·rw[hh]at iz;cases iz;have h1:=zl _ _ _ _ _ hv
   rw[xY];refine zL bM _ _ ?_;rw[<-iZ,List.getElem?_take]at h1;split at h1
   ·exact h1
   ·cases h1
 ·have mv:v∈zs:=List.mem_of_mem_drop (List.mem_of_mem_take hv);obtain⟨hl,Sk,hk,_⟩:=ni;obtain⟨k,ld⟩:=List.mem_iff_getElem?.1 mv;have fU:k<rows.flatten.length:=by rw[<-hl];exact(List.getElem?_eq_some_iff.1 ld).1
  exact(hk k v _ ld (List.getElem?_eq_getElem fU)).QM
 ·rw[lL];exact(ni.pick hm1 bV).mono (fun b hb=>⟨cT b hb.1,by rw[hblx];exact hb.2⟩)
open Go.RowKit
def Ej:List At->Bool
 |[]=>true
 |.d (.sl _ _)::_=>false
 |_::xs=>Ej xs
theorem BV:∀{xs:List At},Ej xs=true->∀x∈xs,∀s r,x≠ .d (.sl s r)
 |[],_,x,hx,_,_=>zBn
 |y::xs,h,x,hx,s,r=>by
  have h2:Ej xs=true/\∀s r,y≠ .d (.sl s r):=by
   cases y with
   |d z=>cases z with
    |sl s r=>cases h
    |_=>exact⟨h,fun s r e=>by cases e⟩
   |_=>exact⟨h,fun s r e=>by cases e⟩
  rcases List.mem_cons.1 hx with rfl|hx
  ·exact h2.2 s r
  ·exact BV h2.1 x hx s r
theorem HP(r:Rel T0 B σ a w X h){T:TypeId}(na:o.op= .makeSlice T x x)(hd:o.dst=some d)(mf:σ.fresh d=true)
  (ht:Xl P T=true) (hz:Qb P (ZT P T)=true) (iX:WL P 12 (ZT P T)=some z) (hzd:zD z=some zr) (hzf:Ej z=true) (mn:0<P.cellsOf (ZT P T)) (hx:Vy P σ x k (n:Int)) (e8:P.bytesOf (ZT P T)*n<=281474976710656) (gv:n<=9223372036854775807)
  (hK:∀a' w',Jq T0 B (σ.new d (.one (.sref d 0 0 n)) [.arr true (P.cellsOf (ZT P T)) (List.replicate n zr)]) a' w'->XI B w w'->K a' w'):o.wp P a w K Q:=by
 obtain⟨ti,hu,hi,hC⟩:=QB ht;obtain⟨i,zv,row,lN,hZ,dB,hD,gS,lv,iP⟩:=yk hz;rw[hi]at lN;cases lN;rw[iX]at dB;cases dB;have hex:=xo r hx
 have bS:(ti.bytes:Int)*(n:Int)<=281474976710656:=by have:P.bytesOf (ZT P T)=ti.bytes:=zBb;rw[this]at e8;have h:((ti.bytes*n:Nat):Int)<=281474976710656:=zAD;rwa[Int.natCast_mul]at h
 have mB:=run_make (P:=P) w T (ZT P T) ti zv hu hi hZ k k n n zAD (Int.le_refl _) bS zAD;simp only[Int.toNat_natCast]at mB;unfold Oper.wp;simp only[execOp,na,hex,Sem.run_bind,mB,Result.andThen_ok,Sem.run_pure,Oper.upon_value,hd];have cA:=DD hzd (iP (Tof T0 X) h σ.ob w);have hzl:=cA.length;have e1:zv.cells.toList.length=zv.cells.size:=Array.length_toList;have fX:zr.length=ti.size:=zAD;have gC:(madeCells zv.cells (n*ti.size)).toList.length=n*ti.size:=by rw[Array.length_toList,size_madeCells]
 have dF:∀q u,(madeCells zv.cells (n*ti.size)).toList[q]?=some u->zv.cells.toList[q%ti.size]?=some u:=by
  intro q u hq;have nn:q<n*ti.size:=zBM
  have bT:q%ti.size<zv.cells.size:=by rw[gS];exact Nat.mod_lt _ zAD
  have:(madeCells zv.cells (n*ti.size)).toList[q]?=some (zv.cells[q%zv.cells.size]!):=by simp[madeCells,nn]
  rw[this]at hq;cases hq;rw[gS];simp[bT]
 have g8:KJ (w.alloc (.cells (madeCells zv.cells (n*ti.size)) (ZT P T))) (madeCells zv.cells (n*ti.size)).toList (List.replicate n zr).flatten (fun _=>False):=by
  refine⟨by rw[gC,YU _ ti.size (by intro q hq;rw[List.eq_of_mem_replicate hq];exact fX)];simp,fun _ _=>False,fun q u dd hq iE=>?_,fun _ _ hb=>hb,fun _ _ _ hb=>hb.elim⟩;have nn:q<n*ti.size:=zBM
  rw[kQ zr n q (by rw[fX];exact nn),fX]at iE;exact AY hzd (iP (Tof T0 X) h σ.ob w) (BV hzf) _ _ _ u dd (dF q u hq) iE
 have:=r.sZ mf (World.grownBy_alloc w (.cells (madeCells zv.cells (n*ti.size)) (ZT P T)) none) (.slice (some ⟨w.heap.size,0,none⟩) n n) (e:=ZT P T) (size:=P.cellsOf (ZT P T)) (rows:=List.replicate n zr) (xs:=(madeCells zv.cells (n*ti.size)).toList)
  ⟨by rw[gC,lv];simp,.inr ⟨w.heap.size,n,_,zAG,Nat.zero_le _,heap_alloc_new w _,zAG,by simp only[maxLen];omega,by rw[size_madeCells,lv],by rw[List.take_of_length_le (by rw[gC,lv];simp)]⟩⟩
  (by intro q hq;rw[List.eq_of_mem_replicate hq];omega) g8
  (fun b hb=>by simp[blk]at hb;subst hb;exact⟨Nat.le_refl _,zAG⟩)
 rw[List.length_replicate]at this;exact hK _ _ this.1 this.2
theorem KJ.place{xs:List Value}(h1:KJ w xs ds S)(h2:KJ w ys es S')(hd:∀b,S b->S' b->False)(o:Nat)(ho:o+ys.length<=xs.length):KJ w (Vm.place xs o ys) (Vm.place ds o es) (fun b=>S b\/S' b):=by
 obtain⟨l1,Sk,a1,a2,a3⟩:=h1;obtain⟨l2,db,b1,b2,b3⟩:=h2;refine⟨by rw[QA _ _ _ ho,QA _ _ _ zAD,l1],fun k=>if o<=k/\k<o+ys.length then db (k-o)else Sk k,fun k x d hx nu=>?_,fun k b hb=>?_,fun i j b hi hj=>?_⟩
 ·rcases kg xs o ys ho k x hx with⟨p1,p2,p3⟩|⟨p1,p3⟩
  ·rcases kg ds o es zAD k d nu with⟨_,_,p4⟩|⟨p4,_⟩
   ·simp only[p1,p2,and_self,if_true];exact b1 _ x d p3 p4
   ·exact absurd ⟨p1,zAD⟩ p4
  ·rcases kg ds o es zAD k d nu with⟨p4,p5,_⟩|⟨_,p4⟩
   ·exact absurd ⟨p4,zAD⟩ p1
   ·simp only[p1,if_false];exact a1 k x d p3 p4
 ·by_cases hk:o<=k/\k<o+ys.length
  ·simp only[hk,and_self,if_true]at hb;exact .inr (b2 _ b hb)
  ·simp only[hk,if_false]at hb;exact .inl (a2 k b hb)
 ·by_cases lN:o<=i/\i<o+ys.length
  ·simp only[lN,and_self,if_true]at hi;by_cases gA:o<=j/\j<o+ys.length
   ·simp only[gA,and_self,if_true]at hj;have:=b3 _ _ b hi hj;omega
   ·simp only[gA,if_false]at hj;exact(hd b (a2 j b hj) (b2 _ b hi)).elim
  ·simp only[lN,if_false]at hi;by_cases gA:o<=j/\j<o+ys.length
   ·simp only[gA,and_self,if_true]at hj;exact(hd b (a2 i b hi) (b2 _ b hj)).elim
   ·simp only[gA,if_false]at hj;exact a3 i j b hi hj
theorem IU(r:Rel T0 B σ a w X h){T:TypeId}(na:o.op= .store T x y)(hd:o.dst=none)(ht:qP P T=true)(gd:gOf (look P σ 0 x)=true)(gf:gOf (look P σ T y)=true)
  (hx:unc (look P σ 0 x)= .one (.ptr t j i c)) (ho:σ.ob t j= .arr true size rows) (hi:i<rows.length) (lM:(unc (look P σ T y)).flat=true) (fk:Jz σ (unc (look P σ T y)).cells=some ds) (mH:Qc σ (unc (look P σ T y)).cells)
  (mu:(XL (unc (look P σ T y)).cells).Nodup) (cV:(t,j)∉XL (unc (look P σ T y)).cells) (htr:(σ.Z8 (XL (unc (look P σ T y)).cells)).yV (At.isT t)=false) (hl:ds.length=P.cellsOf T) (hle:c+P.cellsOf T<=size)
  (hK:∀a' w',Jq T0 B ((σ.Z8 (XL (unc (look P σ T y)).cells)).Z1 t j (.arr true size (rows.set i (place (rows.getD i []) c ds)))) a' w'->XI B w w'->K a' w'):o.wp P a w K Q:=by
 obtain⟨_,ti,_,aj,_,_⟩:=kb ht;have bP:=r.arg (P:=P) 0 x hx gd
 obtain⟨b,cap,cur,e,xs,hb,he,hh,lX,iG,iH,iZ,hz,g7,_,nk⟩:=r.arr ho bP;obtain⟨nk,hn⟩:=nk rfl;have hy:=WM lM (r.arg (P:=P) T y rfl gf)
 have iF:=RU r hy fk mH mu;have l0:=iF.1;have e2:(a.eval y).cells.toList.length=(a.eval y).cells.size:=Array.length_toList;have e3:cur.toList.length=cur.size:=Array.length_toList;have mN:rows[i]?=some (rows.getD i []):=zAu;have hmul:i*size+size<=rows.length*size:=zBY;have cb:rows.length*size<=cap*size:=Nat.mul_le_mul_right _ lX;have mB:=run_store (P:=P) (w:=w) aj (o:=i*size+c) (val:=a.eval y) hh zAD zAD (fun u hu=>by obtain⟨x',_,gw⟩:=hy.mem hu;exact YL.QM gw);have n9:σ.ob t j≠ .none:=zAw;have mJ:blk (h t j).v=some b:=by rw[hb];rfl
 have hB:=r.rR n9 mJ;have lF:=r.ub t j b n9 mJ;have eN:xs.length=rows.length*size:=by rw[g7,YU rows size hz]
 have gi:(rows.getD i []).length=size:=hz _ (List.mem_of_getElem? mN);generalize hL:XL (unc (look P σ T y)).cells=L at*;have r1:=r.Z8 L;have hG:(σ.Z8 L).ob t j= .arr true size rows:=by rw[St.KY,if_neg cV,ho]
 have mg:=r.zu L;have iA:∀b',(h t j).u b'->zF σ h L b'->False:=by rintro b' iO ⟨p,hp,nf,aw⟩;obtain⟨q1,q2⟩:=r.inj t j p.1 p.2 b' n9 nf iO aw;exact cV (by rw[q1,q2];exact hp)
 unfold Oper.wp;simp only[execOp,na,he,Sem.run_bind,mB,Result.andThen_ok,Sem.run_pure,Oper.upon_skip,hd];refine hK _ _ ⟨X,_,r1.change (by rw[hG];simp) zCA (fun k hk=>setRow_other w b k _ (fun e=>hk (e▸lF))) (zF σ h L) (fun b' n7=>mg b' n7) _ (by rw[hG];simp[Ob.uA])
  ⟨(h t j).v,fun k=>((place xs (i*size+c) (a.eval y).cells.toList)[k]?).getD undef,fun b'=>(h t j).u b'\/zF σ h L b'⟩ rfl (fun b' n7=>n7) (fun b' n7=>.inl (r.ub t j b' n9 n7)) (At.isT t) htr (.inl (fun u i c=>by simp[At.isT])) ?_⟩ (XI.setRow hB.1 _)
 have lP:=setRow_heap w b cur (place cur.toList (i*size+c) (a.eval y).cells.toList).toArray e (0,0) hh;have n8:∀b',b'≠b->(w.setRow b (place cur.toList (i*size+c) (a.eval y).cells.toList).toArray).heap[b']?=w.heap[b']?:=fun b' nf=>setRow_other w b b' _ nf;have ic:∀r∈rows.set i (place (rows.getD i []) c ds),r.length=size:=by
  intro r' lG;rcases List.mem_or_eq_of_mem_set lG with lG|lG
  ·exact hz r' lG
  ·rw[lG,QA _ _ _ zAD,gi]
 refine⟨e,place xs (i*size+c) (a.eval y).cells.toList,⟨?_,.inr ⟨b,cap,_,by simpa using hb,Nat.zero_le _,lP,by simpa using lX,iG,?_,?_⟩⟩,ic,?_,fun k u d hu _ _=>by simp[hu]⟩
 ·rw[QA _ _ _ zAD,eN];simp
 ·simp only[List.size_toArray];rw[QA _ _ _ zAD,e3,iH]
 ·simp only[List.length_set];rw[OI _ _ _ _ zAD zAD,iZ]
 ·rw[xG size c ds zAD rows i _ mN hz];have k1:KJ (w.setRow b (place cur.toList (i*size+c) (a.eval y).cells.toList).toArray) xs rows.flatten (fun b=>(h t j).u b/\blk (h t j).v≠some b):=nk.O2 (fun b' n7=>n8 b' (fun e=>n7.2 (by rw[e];exact mJ)))
  have k2:KJ (w.setRow b (place cur.toList (i*size+c) (a.eval y).cells.toList).toArray) (a.eval y).cells.toList ds (zF σ h L):=iF.O2 (fun b' n7=>n8 b' (fun e=>iA b' (by rw[e];exact lF) n7));refine(k1.place k2 (fun b' h1 h2=>iA b' h1.1 h2) _ zAD).mono (fun b' n7=>?_);rcases n7 with n7|n7
  ·exact⟨.inl n7.1,n7.2⟩
  ·exact⟨.inr n7,fun e=>iA b' (r.ub t j b' n9 e) n7⟩
theorem Own.vr{S2:Nat->Prop}(iJ:Own w v (.sl n s) S){k q:Nat}(hk:k<s.length)(hy:KJ w ys ds S2)(hle:q+ds.length<=n)(hd:∀b,S b->S2 b->False):
  ∃g cap cur e,v= .slice (some ⟨g,0,none⟩) s.length cap/\S g/\w.heap[g]?=some (.cells cur e (0,0))/\k*n+q+ys.length<=cur.size/\Own (w.setRow g (place cur.toList (k*n+q) ys).toArray) v (.sl n (s.set k (place (s.getD k []) q ds))) (fun b=>S b\/S2 b):=by
 cases iJ with
 |sl v size rows S e xs Sk ho hz hb hl ld hs nu=>
  have l0:=hy.1;obtain⟨g7,⟨_,h0⟩|⟨g,cap,cur,hv,gM,hh,lX,iG,iH,iZ⟩⟩:=ho
  ·omega
  have bL:S g:=hb g (by rw[hv];rfl);have mN:s[k]?=some (s.getD k []):=by simp[List.getD_eq_getElem?_getD,List.getElem?_eq_getElem hk]
  have hmul:k*n+n<=s.length*n:=by rw[<-Nat.succ_mul];exact Nat.mul_le_mul_right _ hk
  have cb:s.length*n<=cap*n:=Nat.mul_le_mul_right _ lX;have e3:cur.toList.length=cur.size:=Array.length_toList;have gi:(s.getD k []).length=n:=hz _ (List.mem_of_getElem? mN);refine⟨g,cap,cur,e,hv,bL,hh,zAD,?_⟩;have lP:=setRow_heap w g cur (place cur.toList (k*n+q) ys).toArray e (0,0) hh;have n8:∀b',b'≠g->(w.setRow g (place cur.toList (k*n+q) ys).toArray).heap[b']?=w.heap[b']?:=fun b' nf=>setRow_other w g b' _ nf;have ic:∀r∈s.set k (place (s.getD k []) q ds),r.length=n:=by
   intro r' lG;rcases List.mem_or_eq_of_mem_set lG with lG|lG
   ·exact hz r' lG
   ·rw[lG,QA _ _ _ zAD,gi]
  have mJ:blk v=some g:=by rw[hv];rfl
  have k1:KJ (w.setRow g (place cur.toList (k*n+q) ys).toArray) xs s.flatten (fun b=>S b/\blk v≠some b):=
   KJ.O2 (fun b' n7=>n8 b' (fun e=>n7.2 (by rw[e];exact mJ))) (show KJ w xs s.flatten (fun b=>S b/\blk v≠some b)from⟨hl,Sk,ld,fun k b hb=>hs k b hb,nu⟩)
  have k2:KJ (w.setRow g (place cur.toList (k*n+q) ys).toArray) ys ds S2:=hy.O2 (fun b' n7=>n8 b' (fun e=>hd b' (by rw[e];exact bL) n7));have k3:=k1.place k2 (fun b' h1 h2=>hd b' h1.1 h2) (k*n+q) (by rw[g7];omega);rw[<-xG n q ds zAD s k _ mN hz]at k3;obtain⟨ax,Sk3,a1,a2,a3⟩:=k3;refine .sl v n _ _ e (place xs (k*n+q) ys) Sk3 ⟨?_,.inr ⟨g,cap,_,by simpa using hv,gM,lP,by simpa using lX,iG,?_,?_⟩⟩ ic (fun b' n7=>.inl (hb b' n7)) ax a1 (fun k b n7=>?_) a3
  ·rw[QA _ _ _ (by rw[g7];omega),g7];simp
  ·simp only[List.size_toArray];rw[QA _ _ _ zAD,e3,iH]
  ·simp only[List.length_set];rw[OI _ _ _ _ zAD zAD,iZ]
  ·rcases a2 k b n7 with h1|h1
   ·exact⟨.inl h1.1,h1.2⟩
   ·exact⟨.inr h1,fun e=>hd b (hb b e) h1⟩
theorem Ln(r:Rel T0 B σ a w X h){T:TypeId}(na:o.op= .store T x y)(hd:o.dst=none)(ht:qP P T=true)(gd:gOf (look P σ 0 x)=true)(gf:gOf (look P σ T y)=true)
  {k q:Nat} (hx:unc (look P σ 0 x)= .one (.tref t j i c (some (k*n+q)))) (ho:σ.ob t j= .arr true size rows) (hi:i<rows.length) (nr:(rows.getD i [])[c]?=some (.sl n s)) (hk:k<s.length)
  (lM:(unc (look P σ T y)).flat=true) (fk:Jz σ (unc (look P σ T y)).cells=some ds) (mH:Qc σ (unc (look P σ T y)).cells)
  (mu:(XL (unc (look P σ T y)).cells).Nodup) (cV:(t,j)∉XL (unc (look P σ T y)).cells) (hl:ds.length=P.cellsOf T) (hle:q+P.cellsOf T<=n)
  (hK:∀a' w',Jq T0 B ((σ.Z8 (XL (unc (look P σ T y)).cells)).Z1 t j (.arr true size (rows.set i (place (rows.getD i []) c [.sl n (s.set k (place (s.getD k []) q ds))])))) a' w'->XI B w w'->K a' w'):o.wp P a w K Q:=by
 obtain⟨_,ti,_,aj,_,_⟩:=kb ht;have n9:σ.ob t j≠ .none:=zAw
 have h0:=r.obj t j;rw[ho]at h0;obtain⟨e,vs,iJ,hz,⟨cX,Sk,o1,o2,o3⟩,hn⟩:=h0;have mN:rows[i]?=some (rows.getD i []):=zAu;have lL:rows.flatten[i*size+c]?=some (.sl n s):=jd rows size hz i _ mN c _ nr;have nn:i*size+c<vs.length:=by rw[cX];exact(List.getElem?_eq_some_iff.1 lL).1
 have cB:vs[i*size+c]?=some vs[i*size+c]:=List.getElem?_eq_getElem nn;have hnv:=hn _ _ _ cB lL rfl;have nk:=o1 _ _ _ cB lL;have hy:=WM lM (r.arg (P:=P) T y rfl gf);have iF:=RU r hy fk mH mu;have l0:=iF.1;have e2:(a.eval y).cells.toList.length=(a.eval y).cells.size:=Array.length_toList;generalize hL:XL (unc (look P σ T y)).cells=L at*;have iA:∀b',(h t j).u b'->zF σ h L b'->False:=by rintro b' iO ⟨p,hp,nf,aw⟩;obtain⟨q1,q2⟩:=r.inj t j p.1 p.2 b' n9 nf iO aw;exact cV (by rw[q1,q2];exact hp)
 have hSu:∀b,Sk (i*size+c) b->(h t j).u b:=fun b hb=>(o2 _ b hb).1;obtain⟨g,cap,cur,e1,hv,bL,hh,m0,mh⟩:=nk.vr (q:=q) hk iF zAD (fun b h1 h2=>iA b (hSu b h1) h2);have bP:=r.arg (P:=P) 0 x hx gd;have he:a.eval x= .pointer (some ⟨g,k*n+q,none⟩):=by obtain⟨b,n',eQ,h1,h2⟩:=bP.2 size rows ho;rw[hnv,hv]at h1;cases h1;exact h2
 have mB:=run_store (P:=P) (w:=w) aj (o:=k*n+q) (val:=a.eval y) hh zAD zAD (fun u hu=>by obtain⟨x',_,gw⟩:=hy.mem hu;exact YL.QM gw);have hgB:=r.own t j g n9 (hSu g bL);have r1:=r.Z8 L;have hG:(σ.Z8 L).ob t j= .arr true size rows:=by rw[St.KY,if_neg cV,ho]
 have mg:=r.zu L;have iH:c+1<=size:=by have h1:=(List.getElem?_eq_some_iff.1 nr).1;have h2:=hz _ (List.mem_of_getElem? mN);omega
 have hfp:=xG size c [D.sl n (s.set k (place (s.getD k []) q ds))] (by simpa using iH) rows i _ mN hz;have hml:i*size+c+[D.sl n (s.set k (place (s.getD k []) q ds))].length<=rows.flatten.length:=by rw[<-cX];simp;omega
 have gi:(rows.getD i []).length=size:=hz _ (List.mem_of_getElem? mN);have ic:∀r∈rows.set i (place (rows.getD i []) c [D.sl n (s.set k (place (s.getD k []) q ds))]),r.length=size:=by
  intro r' lG;rcases List.mem_or_eq_of_mem_set lG with lG|lG
  ·exact hz r' lG
  ·rw[lG,QA _ _ _ (by rw[gi];simpa using iH),gi]
 have n8:∀b',b'≠g->(w.setRow g (place cur.toList (k*n+q) (a.eval y).cells.toList).toArray).heap[b']?=w.heap[b']?:=fun b' nf=>setRow_other w g b' _ nf;have mJ:∀b,blk (h t j).v=some b->(w.setRow g (place cur.toList (k*n+q) (a.eval y).cells.toList).toArray).heap[b]?=w.heap[b]?:=fun b hb=>n8 b (fun e=>(o2 _ g bL).2 (by rw[<-e];exact hb));unfold Oper.wp;simp only[execOp,na,he,Sem.run_bind,mB,Result.andThen_ok,Sem.run_pure,Oper.upon_skip,hd];refine hK _ _ ⟨X,_,r1.change (by rw[hG];simp) zCA (fun k' ld=>n8 k' (fun e=>ld (e▸hSu g bL))) (zF σ h L) (fun b' n7=>mg b' n7) _ (by rw[hG];simp[Ob.uA])
  ⟨(h t j).v,(h t j).n,fun b'=>(h t j).u b'\/zF σ h L b'⟩ rfl (fun b' n7=>n7) (fun b' n7=>.inl (r.ub t j b' n9 n7)) (fun _=>false) (St.xi _) (.inr rfl) ?_⟩ (XI.setRow hgB.1 _)
 refine⟨e,vs,by rw[List.length_set];exact qZ mJ iJ,ic,⟨?_,fun k'=>if k'=i*size+c then(fun b=>Sk (i*size+c) b\/zF σ h L b)else Sk k',fun k' x dd hx iE=>?_,fun k' b hb=>?_,fun p' q' b hp hq=>?_⟩,fun k' x dd hx iE lA=>?_⟩
 ·rw[hfp,QA _ _ _ hml,cX]
 ·rw[hfp]at iE;rcases kg _ _ _ hml k' dd iE with⟨k1,k2,k3⟩|⟨k1,k3⟩
  ·have ld:k'=i*size+c:=by simp at k2;omega
   subst ld;rw[cB]at hx;cases hx;simp at k3;subst k3;simp only[if_true];exact mh
  ·have ld:¬k'=i*size+c:=fun ld=>k1 ⟨zAD,by simp;omega⟩;simp only[ld,if_false];exact(o1 k' x dd hx k3).O2 (fun b hb=>n8 b (fun e=>ld (o3 k' _ b hb (by rw[e];exact bL))))
 ·by_cases ld:k'=i*size+c
  ·simp only[ld,if_true]at hb;rcases hb with hb|hb
   ·exact⟨.inl (o2 _ b hb).1,(o2 _ b hb).2⟩
   ·exact⟨.inr hb,fun e=>iA b (r.ub t j b n9 e) hb⟩
  ·simp only[ld,if_false]at hb;exact⟨.inl (o2 k' b hb).1,(o2 k' b hb).2⟩
 ·by_cases ee:p'=i*size+c
  ·by_cases iL:q'=i*size+c
   ·rw[ee,iL]
   ·simp only[ee,if_true]at hp;simp only[iL,if_false]at hq;rcases hp with hp|hp
    ·rw[ee];exact(o3 _ _ b hp hq)
    ·exact(iA b (o2 q' b hq).1 hp).elim
  ·simp only[ee,if_false]at hp;by_cases iL:q'=i*size+c
   ·simp only[iL,if_true]at hq;rcases hq with hq|hq
    ·rw[iL];exact(o3 _ _ b hp hq)
    ·exact(iA b (o2 p' b hp).1 hq).elim
   ·simp only[iL,if_false]at hq;exact o3 p' q' b hp hq
 ·rw[hfp]at iE;rcases kg _ _ _ hml k' dd iE with⟨k1,k2,k3⟩|⟨k1,k3⟩
  ·have ld:k'=i*size+c:=by simp at k2;omega
   subst ld;rw[cB]at hx;cases hx;exact hnv
  ·exact hn k' x dd hx k3 lA
theorem Rm{α β:Type}(f:α->β)(l:List α)(k:Nat):cut (l.map f) k (l.length-k)=(l.drop k).map f:=by unfold cut;rw[<-List.map_drop,<-List.map_take,List.take_of_length_le (by rw[List.length_drop];exact Nat.le_refl _)]
def hol:D->D
 |.sl _ _=>.unk
 |d=>d
def JY(rows:List (List D))(lo n:Nat):List (List D):=rows.take lo++(cut rows lo n).map (fun r=>r.map hol)++rows.drop (lo+n)
theorem xx(h:lo+n<=rows.length):(JY rows lo n).length=rows.length:=by simp only[JY,List.length_append,List.length_map,List.length_take,List.length_drop,XV _ _ _ h];omega
theorem LG{fp n':Nat}(h:lo+n<=rows.length)(h':lo+n<=fp):cut (JY rows lo n) fp n'=cut rows fp n':=by
 unfold cut;congr 1;have hl:(rows.take lo++(cut rows lo n).map (fun r=>r.map hol)).length=lo+n:=by simp only[List.length_append,List.length_map,List.length_take,XV _ _ _ h];omega
 unfold JY;rw[List.drop_append,List.drop_eq_nil_of_le zAD,hl,List.drop_drop,List.nil_append];congr 1;omega
theorem Own.sK{d:D}(hs:d.scalar=true)(ho:Own w v d S):Own w v d S':=by
 cases ho with
 |int k n=>exact .int _ _ _
 |bool b=>exact .bool _ _
 |str s=>exact .str _ _
 |unk v h=>exact .unk _ h _
 |sl=>cases hs
theorem Own.hol{d:D}(ho:Own w v d S):Own w v (Vm.hol d) S':=by
 cases d with
 |sl s r=>exact .unk _ ho.QM _
 |int k n=>exact ho.sK rfl
 |bool b=>exact ho.sK rfl
 |str s=>exact ho.sK rfl
 |unk=>exact ho.sK rfl
theorem Ae(d:D):(hol d).scalar=true:=by cases d<;>rfl
theorem LH(hz:∀r∈rows,r.length=size)(hle:lo+n<=rows.length){k:Nat}{d:D}(hd:(JY rows lo n).flatten[k]?=some d):
  (lo*size<=k/\k<lo*size+n*size/\∃d',rows.flatten[k]?=some d'/\d=hol d')\/(¬(lo*size<=k/\k<lo*size+n*size)/\rows.flatten[k]?=some d):=by
 have lM:rows.flatten.length=rows.length*size:=YU rows size hz;have hm:lo*size+n*size<=rows.length*size:=zBZ;have e1:(rows.take lo).flatten=rows.flatten.take (lo*size):=Kk rows size hz lo zAD;have e2:((cut rows lo n).map (fun r=>r.map hol)).flatten=(cut rows.flatten (lo*size) (n*size)).map hol:=by rw[<-R1 rows size hz lo n hle,List.map_flatten]
 have l1:((rows.take lo).flatten).length=lo*size:=by rw[e1,List.length_take];omega
 have l2:(((cut rows lo n).map (fun r=>r.map hol)).flatten).length=n*size:=by rw[e2,List.length_map,XV _ _ _ zAD]
 unfold JY at hd;rw[List.flatten_append,List.flatten_append]at hd;by_cases h1:k<lo*size+n*size
 ·rw[List.getElem?_append_left (by rw[List.length_append,l1,l2];exact h1)]at hd;by_cases h0:k<lo*size
  ·rw[List.getElem?_append_left (by rw[l1];exact h0),e1,List.getElem?_take,if_pos h0]at hd;exact .inr ⟨zAD,hd⟩
  ·rw[List.getElem?_append_right (by rw[l1];omega),l1,e2,List.getElem?_map]at hd;cases hc:(cut rows.flatten (lo*size) (n*size))[k-lo*size]? with
   |none=>rw[hc]at hd;cases hd
   |some d'=>
    rw[hc]at hd;have:=zl _ _ _ _ _ hc
    rw[show lo*size+(k-lo*size)=k by omega]at this;exact .inl ⟨zAD,h1,d',this,(by cases hd;rfl)⟩
 ·rw[List.getElem?_append_right (by rw[List.length_append,l1,l2];omega),List.length_append,l1,l2]at hd;have e3:(rows.drop (lo+n)).flatten=rows.flatten.drop (lo*size+n*size):=by
   have h2:(rows.take (lo+n)).flatten++(rows.drop (lo+n)).flatten=rows.flatten:=zBd;have h3:(rows.take (lo+n)).flatten.length=lo*size+n*size:=by rw[Kk rows size hz (lo+n) hle,List.length_take,Nat.add_mul];omega
   rw[<-h2,<-h3,List.drop_left]
  rw[e3,List.getElem?_drop,show lo*size+n*size+(k-(lo*size+n*size))=k by omega]at hd;exact .inr ⟨zAD,hd⟩
theorem Rel.sj(r:Rel T0 B σ a w X h)(ho:σ.ob u j= .arr true size rows)(hle:lo+n<=rows.length):
  ∃(h':Nat->Nat->Hd)(M:Nat->Prop)(e:TypeId)(zs:List Value),Rel T0 B (σ.Z1 u j (.arr true size (JY rows lo n))) a w X h'/\
   (∀b,M b->¬B b/\¬X b/\b<w.heap.size/\∀t i,(σ.Z1 u j (.arr true size (JY rows lo n))).ob t i≠ .none->¬(h' t i).u b)/\(∀t i,(h' t i).v=(h t i).v)/\
   w.ownsRow 0 e size (h u j).v rows.length zs/\(∀q∈rows,q.length=size)/\KJ w (cut zs (lo*size) (n*size)) (cut rows lo n).flatten M/\(∀v∈zs,v.oneCell'=true):=by
 have n9:σ.ob u j≠ .none:=zAw;have h0:=r.obj u j;rw[ho]at h0;obtain⟨e,zs,iJ,hz,⟨cX,Sk,o1,o2,o3⟩,hn⟩:=h0;have lM:rows.flatten.length=rows.length*size:=YU rows size hz;have hm:lo*size+n*size<=rows.length*size:=zBZ;let M:Nat->Prop:=fun b=>∃k,lo*size<=k/\k<lo*size+n*size/\Sk k b
 let nu:Hd:=⟨(h u j).v,(h u j).n,fun b=>(h u j).u b/\¬M b⟩
 have hMu:∀b,M b->(h u j).u b/\blk (h u j).v≠some b:=fun b ⟨k,_,_,hk⟩=>o2 k b hk;have ic:∀q∈JY rows lo n,q.length=size:=by
  intro q hq;simp only[JY,List.mem_append,List.mem_map]at hq;rcases hq with(hq|⟨q',hq,rfl⟩)|hq
  ·exact hz q (List.mem_of_mem_take hq)
  ·rw[List.length_map];exact hz q' (List.mem_of_mem_drop (List.mem_of_mem_take hq))
  ·exact hz q (List.mem_of_mem_drop hq)
 have hr:=r.change (w':=w) n9 rfl (fun _ _=>rfl) (fun _=>False) (fun _ hh=>hh.elim) (.arr true size (JY rows lo n)) (by rw[ho];exact⟨rfl,rfl,(xx hle).symm⟩) nu rfl (fun b hb=>.inl hb.1)
  (fun b hb=>⟨r.ub u j b n9 hb,fun n7=>(hMu b n7).2 hb⟩) (fun _=>false) (St.xi σ) (.inr rfl) (by
   refine⟨e,zs,by rw[xx hle];exact iJ,ic,⟨?_,fun k=>if lo*size<=k/\k<lo*size+n*size then(fun _=>False)else Sk k,fun k x d hx hd=>?_,fun k b hb=>?_,fun k k' b hb n7=>?_⟩,fun k x d hx hd lA=>?_⟩
   ·rw[cX,YU _ size ic,xx hle,lM]
   ·rcases LH hz hle hd with⟨h1,h2,d',h3,rfl⟩|⟨h1,h2⟩
    ·exact(o1 k x d' hx h3).hol
    ·simp only[h1,if_false];exact o1 k x d hx h2
   ·dsimp only at hb;split at hb
    ·exact hb.elim
    ·rename_i hk;refine⟨⟨(o2 k b hb).1,fun⟨k',h1,h2,h3⟩=>?_⟩,(o2 k b hb).2⟩;have:=o3 k k' b hb h3
     subst this;exact hk ⟨h1,h2⟩
   ·dsimp only at hb n7;split at hb
    ·exact hb.elim
    ·split at n7
     ·exact n7.elim
     ·exact o3 k k' b hb n7
   ·rcases LH hz hle hd with⟨h1,h2,d',h3,rfl⟩|⟨h1,h2⟩
    ·rw[Ae]at lA;cases lA
    ·exact hn k x d hx h2 lA)
 have hfc:(cut rows lo n).flatten=cut rows.flatten (lo*size) (n*size):=R1 rows size hz lo n hle;refine⟨_,M,e,zs,hr,fun b hb=>?_,fun t i=>?_,iJ,hz,?_,fun v hv=>?_⟩
 ·have h1:=r.own u j b n9 (hMu b hb).1;refine⟨h1.1,h1.2.1,h1.2.2,fun t i nf n7=>?_⟩;split at n7
  ·exact n7.2 hb
  ·rename_i hc;have ma:σ.ob t i≠ .none:=by rw[St.Xz σ u j _ t i n9,if_neg hc]at nf;exact nf
   exact hc (r.inj t i u j b ma n9 n7 (hMu b hb).1)
 ·split
  ·rename_i hc;rw[hc.1,hc.2]
  ·rfl
 ·rw[hfc];have mK:(cut zs (lo*size) (n*size)).length=n*size:=XV _ _ _ (by rw[cX,lM];exact hm)
  refine⟨by rw[mK,XV _ _ _ (by rw[lM];exact hm)],fun k b=>k<n*size/\Sk (lo*size+k) b,fun k x d hx hd=>?_,fun k b hb=>⟨lo*size+k,zAD,zAD,hb.2⟩,fun i k b hi hk=>by have:=o3 _ _ b hi.2 hk.2;omega⟩;have hk:k<n*size:=by rw[<-mK];exact(List.getElem?_eq_some_iff.1 hx).1
  exact(o1 _ x d (zl _ _ _ _ _ hx) (zl _ _ _ _ _ hd)).mono (fun b hb=>⟨hk,hb⟩)
 ·obtain⟨k,hk⟩:=List.mem_iff_getElem?.1 hv;have nn:k<rows.flatten.length:=by rw[<-cX];exact(List.getElem?_eq_some_iff.1 hk).1
  exact(o1 k v _ hk (List.getElem?_eq_getElem nn)).QM
def BQ(σ:St)(x:V)(size:Nat)(ng:List (List D))(l:List (Nat×Nat)):Prop:=
 match x with
 |.one (.nil _)=>ng=[]/\l=[]
 |.one (.sref t j lo len)=>lo=0/\len=ng.length/\l=[(t,j)]/\(σ.ob t j= .arr true size ng\/(σ.ob t j= .lit size []/\ng=[]))
 |_=>False
theorem Fs(r:Rel T0 B σ a w X h){t:TypeId}(na:o.op= .call ⟨.builtin .append,#[x,y],#[t,t]⟩)(hd:o.dst=some d)
  (gd:gOf (look P σ t x)=true) (gf:gOf (look P σ t y)=true) (ht:Xl P t=true) (hz:Qb P (ZT P t)=true) (mn:0<P.cellsOf (ZT P t))
  (lb:BQ σ (unc (look P σ t x)) (P.cellsOf (ZT P t)) ng l1) (hy:unc (look P σ t y)= .one (.sref u j lo n)) (ho:σ.ob u j= .arr true (P.cellsOf (ZT P t)) rows) (hle:lo+n<=rows.length) (dr:(u,j)∉l1)
  (mf:((σ.Z1 u j (.arr true (P.cellsOf (ZT P t)) (JY rows lo n))).Z8 l1).fresh d=true)
  (mi:(ng.length+n)*P.bytesOf (ZT P t)<=140737488355328) (gv:ng.length+n<=9223372036854775807)
  (hK:∀a' w',Jq T0 B (((σ.Z1 u j (.arr true (P.cellsOf (ZT P t)) (JY rows lo n))).Z8 l1).new d (.one (.sref d 0 0 (ng.length+n))) [.arr true (P.cellsOf (ZT P t)) (ng++cut rows lo n)]) a' w'->XI B w w'->K a' w'):o.wp P a w K Q:=by
 obtain⟨ti,hu,hi,hC⟩:=QB ht;obtain⟨i,z,row,lN,hZ,iX,hD,gS,lv,iP⟩:=yk hz;rw[hi]at lN;cases lN;have e8:P.bytesOf (ZT P t)=ti.bytes:=zBb
 rw[e8]at mi;rw[<-lv]at ho mn hK mf lb;have g9:=r.arg (P:=P) t x rfl gd
 have dg:=r.arg (P:=P) t y rfl gf;rw[hy]at dg;have bU:YL (Tof T0 X) h σ.ob w (.sref u j lo n) (a.eval y):=dg;obtain⟨_,_,_,base,cap,ei,lX,dc,gh,hb⟩:=bU.2.1 _ _ _ ho;obtain⟨h',M,e0,zs,r0,hM,iz,ay,lW,iF,h1c⟩:=r.sj ho hle;have n9:σ.ob u j≠ .none:=zAw;generalize hσ1:σ.Z1 u j (.arr true ti.size (JY rows lo n))=σ1 at*;have hG:∀t' i',¬(t'=u/\i'=j)->σ1.ob t' i'=σ.ob t' i':=fun t' i' nf=>by rw[<-hσ1,St.Xz σ u j _ t' i' n9,if_neg nf]
 have hzl:zs.length=rows.length*ti.size:=ay.1;have bV:lo*ti.size+n*ti.size<=zs.length:=by rw[hzl,<-Nat.add_mul];exact Nat.mul_le_mul_right _ hle
 generalize hys:cut zs (lo*ti.size) (n*ti.size)=ys at*;have l0:ys.length=n*ti.size:=by rw[<-hys];exact XV _ _ _ bV
 have mK:(cut rows lo n).length=n:=XV _ _ _ hle;have bI:∀q∈cut rows lo n,q.length=ti.size:=fun q hq=>lW q (List.mem_of_mem_drop (List.mem_of_mem_take hq));have lp:∃e1 xs,w.ownsRow 0 e1 ti.size (a.eval x) ng.length xs/\(∀q∈ng,q.length=ti.size)/\KJ w xs ng.flatten (fun b=>zF σ1 h' l1 b/\blk (a.eval x)≠some b)/\(∀b,blk (a.eval x)=some b->zF σ1 h' l1 b):=by
  unfold BQ at lb;split at lb
  ·rename_i s heq;obtain⟨rfl,rfl⟩:=lb;rw[heq]at g9;have he:a.eval x= .slice none 0 0:=g9
   rw[he];exact⟨0,[],World.ownsRow_nil w 0 0 _,zBD,KJ.nil _,(fun b hb=>by cases hb)⟩
  ·rename_i u2 j2 lo2 ae heq;obtain⟨rfl,rfl,rfl,iS⟩:=lb;rw[heq]at g9;have fA:YL (Tof T0 X) h σ.ob w (.sref u2 j2 0 ng.length) (a.eval x):=g9
   have nf:¬(u2=u/\j2=j):=fun hc=>dr (by rw[hc.1,hc.2];simp);have h0:=r0.obj u2 j2;rw[hG u2 j2 nf]at h0;rcases iS with iS|⟨iS,rfl⟩
   ·obtain⟨_,la,_⟩:=fA.2.1 _ _ _ iS;have he:a.eval x=(h' u2 j2).v:=by rw[iz];exact la rfl rfl
    rw[iS]at h0;obtain⟨e,xs,nk,bJ,ni,hn⟩:=h0;have eT:σ1.ob u2 j2≠ .none:=by rw[hG u2 j2 nf,iS];simp
    rw[he];exact⟨e,xs,nk,bJ,ni.mono (fun b hb=>⟨⟨(u2,j2),zAG,eT,hb.1⟩,hb.2⟩),fun b hb=>⟨(u2,j2),zAG,eT,r0.ub u2 j2 b eT hb⟩⟩
   ·obtain⟨_,la,_⟩:=fA.2.2 _ _ iS;have he:a.eval x=(h' u2 j2).v:=by rw[iz];exact la rfl rfl
    rw[iS]at h0;obtain⟨e,xs,nk,bJ,ni⟩:=h0;have eT:σ1.ob u2 j2≠ .none:=by rw[hG u2 j2 nf,iS];simp
    have hxs:xs=[]:=by cases ni;rfl
    subst hxs;rw[he];exact⟨e,[],nk,zBD,KJ.nil _,fun b hb=>⟨(u2,j2),zAG,eT,r0.ub u2 j2 b eT hb⟩⟩
  ·exact lb.elim
 obtain⟨e1,xs,nk,ao,dA,lk⟩:=lp;have iA:∀b,zF σ1 h' l1 b->M b->False:=by rintro b ⟨p,hp,nf,iO⟩ hb;exact(hM b hb).2.2.2 p.1 p.2 nf iO
 have mg:=r0.zu l1;let N:Nat->Prop:=fun b=>zF σ1 h' l1 b\/M b
 have hN:∀b,N b->¬B b/\¬X b/\b<w.heap.size/\∀u' i',(σ1.Z8 l1).ob u' i'≠ .none->¬(h' u' i').u b:=by
  rintro b (hb|hb)
  ·exact mg b hb
  ·obtain⟨q1,q2,q3,q4⟩:=hM b hb;refine⟨q1,q2,q3,fun u' i' nf=>q4 u' i' ?_⟩;rw[St.KY]at nf;split at nf
   ·exact absurd rfl nf
   ·exact nf
 have ez:∀b,M b->blk (a.eval x)≠some b:=fun b hb e=>iA b (lk b e) hb;refine Hw (r0.Z8 l1) (N:=N) (ys:=ys) na hd hu hi hZ gS zAD mf mi gv nk (fun b hb=>.inl (lk b hb)) hN ei (fun hh=>⟨gh hh,by have:=gh hh;omega⟩) l0 (fun ad had k v hv=>?_) (fun v hv=>h1c v (by rw[<-hys]at hv;exact List.mem_of_mem_drop (List.mem_of_mem_take hv))) (by rw[List.length_append,mK]) (fun q hq=>(List.mem_append.1 hq).elim (ao q) (bI q)) ?_ hK
 ·have iB:0<n:=by
   rcases Nat.eq_zero_or_pos n with h0|h0
   ·have hk:=(List.getElem?_eq_some_iff.1 hv).1;rw[l0,h0]at hk;simp at hk
   ·exact h0
  obtain⟨b,gV,hh,iQ⟩:=hb iB;rw[had]at iQ;cases iQ;rcases ay.2 with⟨bN,_⟩|⟨g,eQ,cur,iz,_,bM,iK,iG,iH,iZ⟩
  ·rw[hh]at bN;cases bN
  ·rw[hh]at iz;cases iz;rw[<-hys]at hv;have h1:=zl _ _ _ _ _ hv
   rw[xY];refine zL bM _ _ ?_;rw[<-iZ,List.getElem?_take]at h1;split at h1
   ·exact h1
   ·cases h1
 ·rw[List.flatten_append];exact(dA.append iF (fun b lC mQ=>iA b lC.1 mQ)).mono (fun b hb=>hb.elim (fun hb=>⟨.inl hb.1,hb.2⟩) (fun hb=>⟨.inr hb,ez b hb⟩))
def rK(w:World)(res:List (List D))(e:Ending)(w':World):Prop:=
 ∃(vs:List Value)(mM:List (List Value)),e= .returned (R6 vs)/\Below w.heap.size w w'/\YF yT vs mM/\YF (fun(cs:List Value)(row:List D)=>cs.length=row.length) mM res/\
  KJ w' mM.flatten res.flatten (fun b=>w.heap.size<=b/\b<w'.heap.size)
def Yb(P:Program)(f:FuncId)(args res:List (List D)):Prop:=
 TX P f=true/\∀(T:CS)(w:World)(mY:List Value),(∀b k,T b k->b<w.heap.size)->YF (fun v row=>∃cs,yT v cs/\YF (Rd T w) cs row) mY args->Calls P f mY.toArray w (rK w res)
theorem ql{α β:Type}{R:α->β->Prop}:∀{mM:List (List α)}{res:List (List β)},YF (fun(cs:List α)(row:List β)=>cs.length=row.length) mM res->(∀(k:Nat)(x:α)(d:β),mM.flatten[k]?=some x->res.flatten[k]?=some d->R x d)->YF (fun cs row=>YF R cs row) mM res:=by
 intro mM res ni;induction ni with
 |nil=>intro _;exact .nil
 |@cons cs row mM res hl _ ih=>
  intro hk;refine .cons (YF.xS hl (fun k x d hx hd=>hk k x d ?_ ?_)) (ih (fun k x d hx hd=>hk (cs.length+k) x d ?_ ?_))
  ·rw[List.flatten_cons,List.getElem?_append_left (List.getElem?_eq_some_iff.1 hx).1];exact hx
  ·rw[List.flatten_cons,List.getElem?_append_left (List.getElem?_eq_some_iff.1 hd).1];exact hd
  ·rw[List.flatten_cons,List.getElem?_append_right zAD];simpa using hx
  ·rw[List.flatten_cons,List.getElem?_append_right zAD,hl];simpa using hd
theorem Yb.rd{args:List (List D)}(hs:Yb P f args res):Q0 P f false args res:=by refine⟨hs.1,fun T w mY hT ha=>(hs.2 T w mY hT ha).mono ?_⟩;rintro e w' ⟨vs,mM,he,hb,hf,hl,⟨_,Sk,h1,h2,h3⟩⟩;refine⟨vs,mM,fun b=>w.heap.size<=b/\b<w'.heap.size,he,hb,fun b hb=>hb,hf,ql hl (fun k x d hx hd=>?_),fun hh=>by cases hh⟩;simp only[qY,Bool.false_eq_true,if_false];exact(h1 k x d hx hd).rd (fun b k' hb=>.inr (h2 k b hb))
def YY:List Bool->List D->List Ob
 |_,[]=>[]
 |q::qs,.sl size rows::ds=>.arr q size rows::YY qs ds
 |[],.sl size rows::ds=>.arr true size rows::YY [] ds
 |qs,_::ds=>.none::YY qs.tail ds
def y6:List Bool->List D->Prop
 |_,[]=>True
 |q::qs,.sl _ rows::ds=>(q=false->∀r∈rows,∀x∈r,x.scalar=true)/\y6 qs ds
 |[],.sl _ _::ds=>y6 [] ds
 |qs,_::ds=>y6 qs.tail ds
theorem Y5:∀(qs:List Bool)(ds:List D)(k:Nat),y6 qs ds->(∀size rows,ds[k]?=some (.sl size rows)->∃q,Yp (YY qs ds) k= .arr q size rows/\(q=false->∀r∈rows,∀x∈r,x.scalar=true))/\(Yp (YY qs ds) k≠ .none->∃size rows,ds[k]?=some (.sl size rows))
 |qs,[],k,_=>⟨fun size rows h=>by simp at h,fun h=>by cases qs<;>simp[YY,Yp]at h⟩
 |q::qs,.sl size rows::ds,0,hf=>⟨fun s r h=>by simp at h;obtain⟨rfl,rfl⟩:=h;exact⟨q,by simp[YY,Yp],hf.1⟩,fun _=>⟨size,rows,zAG⟩⟩
 |[],.sl size rows::ds,0,hf=>⟨fun s r h=>by simp at h;obtain⟨rfl,rfl⟩:=h;exact⟨true,by simp[YY,Yp],fun h=>by cases h⟩,fun _=>⟨size,rows,zAG⟩⟩
 |qs,.int k n::ds,0,hf=>⟨fun s r h=>by simp at h,fun h=>by cases qs<;>simp[YY,Yp]at h⟩
 |qs,.bool b::ds,0,hf=>⟨fun s r h=>by simp at h,fun h=>by cases qs<;>simp[YY,Yp]at h⟩
 |qs,.str s::ds,0,hf=>⟨fun s r h=>by simp at h,fun h=>by cases qs<;>simp[YY,Yp]at h⟩
 |qs,.unk::ds,0,hf=>⟨fun s r h=>by simp at h,fun h=>by cases qs<;>simp[YY,Yp]at h⟩
 |q::qs,.sl size rows::ds,k+1,hf=>by have:=Y5 qs ds k hf.2;simpa[YY,Yp]using this
 |[],.sl size rows::ds,k+1,hf=>by have:=Y5 [] ds k hf;simpa[YY,Yp]using this
 |qs,.int _ _::ds,k+1,hf=>by have:=Y5 qs.tail ds k zB4;cases qs<;>simpa[YY,Yp]using this
 |qs,.bool _::ds,k+1,hf=>by have:=Y5 qs.tail ds k zB4;cases qs<;>simpa[YY,Yp]using this
 |qs,.str _::ds,k+1,hf=>by have:=Y5 qs.tail ds k zB4;cases qs<;>simpa[YY,Yp]using this
 |qs,.unk::ds,k+1,hf=>by have:=Y5 qs.tail ds k zB4;cases qs<;>simpa[YY,Yp]using this
theorem BZ(r:Rel T0 B σ a w X h){c:Call}(qs:List Bool)(na:o.op= .call c)(hc:c.callee= .value (.func f))(hd:o.dst=some d)(mf:σ.fresh d=true)
  (np:Qs P σ c.args.toList c.argTypes.toList rows) (hs:Yb P f rows res) (hq:y6 qs res.flatten)
  (hK:∀a' w',Jq T0 B (σ.new d (jf d res) (YY qs res.flatten)) a' w'->XI B w w'->K a' w'):o.wp P a w K Q:=by
 have nn:=St.K2 mf;unfold Oper.wp;rw[V2 na hc hs.1,Oper.upon_enter];have dG:=r.Qs false np (fun hh=>by cases hh);simp only[Bool.false_eq_true,if_false]at dG;refine(hs.2 (OL T0 X h σ) w _ (fun b k hb=>r.DG hb) dG).mono ?_;rintro e w' ⟨vs,mM,rfl,lu,mV,hlen,⟨_,Sk,h1,h2,h3⟩⟩;rw[hd];have hex:∀j,∃hd:Hd,(∀c,mM.flatten[j]?=some c->hd.v=c)/\(∀size rows,res.flatten[j]?=some (.sl size rows)->(∀b,hd.u b->Sk j b)/\(∀b,blk hd.v=some b->hd.u b)/\∀T h ob,Jx T h ob w' hd (.arr true size rows)/\((∀r∈rows,∀x∈r,x.scalar=true)->Jx T h ob w' hd (.arr false size rows))):=by
  intro j;have lM:mM.flatten.length=res.flatten.length:=by have:=ql (R:=fun _ _=>True) hlen (fun _ _ _ _ _=>trivial);exact(qI this).length
  cases hj:res.flatten[j]? with
  |none=>exact⟨Hd.of ((mM.flatten[j]?).getD undef),fun c mZ=>by simp[Hd.of,mZ],fun size rows hh=>by cases hh⟩
  |some dd=>
   have fU:j<mM.flatten.length:=by rw[lM];exact(List.getElem?_eq_some_iff.1 hj).1
   have eO:mM.flatten[j]?=some mM.flatten[j]:=List.getElem?_eq_getElem fU;cases dd with
   |int k n=>exact⟨Hd.of mM.flatten[j],fun c mZ=>by rw[eO]at mZ;cases mZ;rfl,fun size rows hh=>by cases hh⟩
   |bool k=>exact⟨Hd.of mM.flatten[j],fun c mZ=>by rw[eO]at mZ;cases mZ;rfl,fun size rows hh=>by cases hh⟩
   |str k=>exact⟨Hd.of mM.flatten[j],fun c mZ=>by rw[eO]at mZ;cases mZ;rfl,fun size rows hh=>by cases hh⟩
   |unk=>exact⟨Hd.of mM.flatten[j],fun c mZ=>by rw[eO]at mZ;cases mZ;rfl,fun size rows hh=>by cases hh⟩
   |sl size rows=>
    have ho:=h1 j _ _ eO hj;generalize hv:mM.flatten[j]=v at ho;cases ho with
    |sl v size rows S e xs db ho hz hb hl hk dv nu=>
     refine⟨⟨v,fun k=>(xs[k]?).getD undef,Sk j⟩,fun c mZ=>by rw[eO,hv]at mZ;cases mZ;rfl,fun mC nv hh=>?_⟩;cases hh;refine⟨fun b hb=>hb,hb,fun T h ob=>⟨⟨e,xs,ho,hz,⟨hl,db,hk,fun k b hb=>dv k b hb,nu⟩,fun k x d hx _ _=>by simp[hx]⟩,fun lL=>⟨e,xs,ho,hz,YF.xS hl (fun k x d hx hd=>?_)⟩⟩⟩;obtain⟨r0,gR,hdr⟩:=List.mem_flatten.1 (List.mem_of_getElem? hd);have lA:=lL r0 gR d hdr
     have:=hk k x d hx hd;cases this with
     |int k n=>exact .int _ _
     |bool b=>exact .bool _
     |str s=>exact .str _
     |unk v h=>exact .unk _ h
     |sl=>cases lA
 obtain⟨hf,ef⟩:=Classical.axiomOfChoice hex;refine hK _ _ ⟨X,fun t j=>if t=d then hf j else h t j,?_⟩ (XI.NV lu r.hB);have n9:∀j,(σ.new d (jf d res) (YY qs res.flatten)).ob d j=Yp (YY qs res.flatten) j:=fun j=>by rw[St.Ji];simp[nn]
 have iI:YF (fun cs row=>YF (kq (Tof T0 X) w') cs row) mM res:=by
  refine ql hlen (fun k x d hx hd=>?_);have ho:=h1 k x d hx hd
  cases ho with
  |int k n=>exact Rd.int _ _
  |bool b=>exact Rd.bool _
  |str s=>exact Rd.str _
  |unk v h=>exact Rd.unk _ h
  |sl v size rows S e xs db ho hz hb hl hk dv nu=>exact⟨e,xs,ho⟩
 refine r.new mf (Below.grownBy lu) (fun b hb=>hb) (fun b hb=>.inl hb) (jf d res) (R6 vs) (YY qs res.flatten) hf ?_ (fun j=>?_) (fun j b nf hb=>?_) (fun j b nf hb=>?_) (fun j j' b nf ma hb n7=>?_)
 ·exact H4 (h:=fun t j=>if t=d then hf j else h t j) (ob:=(σ.new d (jf d res) (YY qs res.flatten)).ob) (t:=d) mV iI (fun i size rows hi=>by
   obtain⟨q,iL,_⟩:=(Y5 qs res.flatten i hq).1 size rows hi;exact⟨q,by rw[n9];exact iL⟩) (fun i c hi=>by simp only[if_true];exact(ef i).1 c hi)
 ·by_cases nf:Yp (YY qs res.flatten) j= .none
  ·rw[nf];trivial
  ·obtain⟨size,rows,hj⟩:=(Y5 qs res.flatten j hq).2 nf;obtain⟨q,iL,az⟩:=(Y5 qs res.flatten j hq).1 size rows hj;rw[iL];have:=((ef j).2 size rows hj).2.2 (Tof T0 X) (fun t j=>if t=d then hf j else h t j) (σ.new d (jf d res) (YY qs res.flatten)).ob
   cases q with
   |true=>exact this.1
   |false=>exact this.2 (az rfl)
 ·obtain⟨size,rows,hj⟩:=(Y5 qs res.flatten j hq).2 nf;exact((ef j).2 size rows hj).2.1 b hb
 ·obtain⟨size,rows,hj⟩:=(Y5 qs res.flatten j hq).2 nf;have:=h2 j b (((ef j).2 size rows hj).1 b hb)
  exact⟨this.1,fun hx=>by have:=(r.hX b hx).2;omega,this.2⟩
 ·obtain⟨size,rows,hj⟩:=(Y5 qs res.flatten j hq).2 nf;obtain⟨mC,nv,gA⟩:=(Y5 qs res.flatten j' hq).2 ma;exact h3 j j' b (((ef j).2 size rows hj).1 b hb) (((ef j').2 mC nv gA).1 b n7)
end Go.Vm
