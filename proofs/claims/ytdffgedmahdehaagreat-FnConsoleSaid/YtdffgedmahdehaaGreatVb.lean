/- An abstract machine Gi the model of Go, by value, and that it is sound: part Vb. No condition. -/
import Derived.Test.YtdffgedmahdehaaGreatVa
set_option linter.unusedVariables false
set_option linter.unusedSimpArgs false
namespace Go.Vm
open Go.RowKit
variable{Q:Exit->Act->World->Prop}{K:Act->World->Prop}{h h':Nat->Nat->Hd}{rows news s im res rs:List (List D)}{B X' X S S' N:Nat->Prop}{o:Oper}{P:Program}{σ σ' σ1:St}{x y:Operand}{p:At->Bool}{T0 T T':CS}{a:Act}{v val:Value}{n d size j t lo c g len i u:Nat}{w' w:World}{eK:Nat->Nat->Ob}{ys vs:List Value}{k:IntKind}{f:FuncId}{q:Bool}{cur:Array Value}{hd:Hd}
theorem YR.pT{ob:Nat->Nat->Ob}(hT:∀b k v,T b k->w.cell? ⟨b,k,none⟩=some v->w'.cell? ⟨b,k,none⟩=some v/\T' b k)(hc:∀t j,Cpt h h' ob eK t j)
  {x:At} (r:YR T h ob w x v):YR T' h' eK w' x v:=by
 obtain⟨d,hd⟩:∃d,x.ref d=false:=by
  cases x with
  |sref t j lo len=>exact⟨t+1,by simp[At.ref]⟩
  |ptr t j i c=>exact⟨t+1,by simp[At.ref]⟩
  |bptr t c=>exact⟨t+1,by simp[At.ref]⟩
  |fn f t=>exact⟨t+1,by simp[At.ref]⟩
  |tref t j i c o=>exact⟨t+1,by simp[At.ref]⟩
  |any=>exact⟨0,rfl⟩
  |d x=>exact⟨0,rfl⟩
  |nil s=>exact⟨0,rfl⟩
  |rptr r c=>exact⟨0,rfl⟩
 exact YR.carry hT (d:=d) (fun t j _=>hc t j) hd r
def PC(p:At->Bool):List At->Bool
 |[]=>false
 |x::xs=>p x||PC p xs
def V.uO(p:At->Bool):V->Bool
 |.one x=>p x
 |.agg xs=>PC p xs
 |_=>false
def B6(p:At->Bool):List V->Bool
 |[]=>false
 |x::xs=>x.uO p||B6 p xs
def V.yB(p:At->Bool):V->Bool
 |.tup xs=>B6 p xs
 |.cnd _ x=>x.uO p
 |.fix _ x=>x.uO p
 |.one x=>p x
 |.agg xs=>PC p xs
 |.any=>false
def yu(p:At->Bool):List Ob->Bool
 |[]=>false
 |.box cells::os=>PC p cells||yu p os
 |.lit _ rows::os=>PC p rows.flatten||yu p os
 |_::os=>yu p os
def St.yB(p:At->Bool):St->Bool
 |[]=>false
 |e::σ=>e.1.yB p||yu p e.2||St.yB p σ
def At.isT(t:Nat):At->Bool
 |.tref u _ _ _ _=>u==t
 |_=>false
theorem W6:∀(xs:List At),PC (fun _=>false) xs=false
 |[]=>rfl
 |_::xs=>by simp[PC,W6 xs]
theorem FE:∀(xs:List V),B6 (fun _=>false) xs=false
 |[]=>rfl
 |x::xs=>by cases x<;>simp[B6,V.uO,W6,FE xs]
theorem tO(x:V):x.uO (fun _=>false)=false:=by cases x<;>simp[V.uO,W6]
theorem qW(x:V):x.yB (fun _=>false)=false:=by cases x<;>simp[V.yB,W6,FE,tO]
theorem TP:∀(os:List Ob),yu (fun _=>false) os=false
 |[]=>rfl
 |o::os=>by cases o<;>simp[yu,W6,TP os]
theorem St.qW:∀(σ:St),St.yB (fun _=>false) σ=false
 |[]=>rfl
 |e::σ=>by simp[St.yB,Go.Vm.qW,Go.Vm.TP,St.qW σ]
theorem St.IQ{p:At->Bool}:∀{σ:St},σ.yB p=false->∀t,(σ.get t).yB p=false
 |[],_,t=>by simp[St.get,V.yB]
 |e::σ,h,0=>by simp only[St.yB,Bool.or_eq_false_iff]at h;exact h.1.1
 |e::σ,h,t+1=>by
  simp only[St.yB,Bool.or_eq_false_iff]at h;have:=St.IQ h.2 t
  simpa[St.get]using this
theorem AB{p:At->Bool}:∀{os:List Ob},yu p os=false->∀j,yu p [Yr os j]=false
 |[],_,j=>by simp[Yr,yu]
 |o::os,h,0=>by cases o<;>simp_all[Yr,yu]
 |o::os,h,j+1=>by
  have h2:yu p os=false:=by cases o<;>simp_all[yu]
  have:=AB h2 j;simpa[Yr]using this
theorem St.Em{p:At->Bool}:∀{σ:St},σ.yB p=false->∀t j,yu p [σ.ob t j]=false
 |[],_,t,j=>by simp[St.ob,yu]
 |e::σ,h,0,j=>by simp only[St.yB,Bool.or_eq_false_iff]at h;exact AB h.1.2 j
 |e::σ,h,t+1,j=>by
  simp only[St.yB,Bool.or_eq_false_iff]at h;have:=St.Em h.2 t j
  simpa[St.ob]using this
theorem En{ob:Nat->Nat->Ob}(f:∀{x:At}{v:Value},p x=false->YR T h ob w x v->YR T' h' eK w' x v){xs:List At}(hx:PC p xs=false)
  (r:YJ (YR T h ob w) xs vs):YJ (YR T' h' eK w') xs vs:=by
 induction r with
 |nil=>exact .nil
 |cons r _ ih=>simp only[PC,Bool.or_eq_false_iff]at hx;exact .cons (f hx.1 r) (ih hx.2)
theorem K8.map{ob:Nat->Nat->Ob}(f:∀{x:At}{v:Value},p x=false->YR T h ob w x v->YR T' h' eK w' x v){x:V}(hx:x.uO p=false)
  (r:K8 T h ob w x v):K8 T' h' eK w' x v:=by
 cases x with
 |any=>exact r
 |one x=>exact f hx r
 |agg xs=>obtain⟨cs,e,r⟩:=r;exact⟨cs,e,En f hx r⟩
 |tup xs=>exact r.elim
 |cnd g x=>exact r.elim
 |fix u x=>exact r.elim
theorem Qk.map{ob:Nat->Nat->Ob}(f:∀{x:At}{v:Value},p x=false->YR T h ob w x v->YR T' h' eK w' x v){x:V}(hx:x.yB p=false)
  (r:Qk T h ob w x v):Qk T' h' eK w' x v:=by
 cases x with
 |any=>exact r
 |one x=>exact f hx r
 |agg xs=>obtain⟨cs,e,r⟩:=r;exact⟨cs,e,En f hx r⟩
 |tup xs=>
  obtain⟨vs,e,r⟩:=r;refine⟨vs,e,?_⟩;clear e;generalize vs.toList=vl at r;simp only[V.yB]at hx;induction r with
  |nil=>exact .nil
  |cons r _ ih=>simp only[B6,Bool.or_eq_false_iff]at hx;exact .cons (K8.map f hx.1 r) (ih hx.2)
 |cnd g x=>exact⟨fun hg=>K8.map f hx (r.1 hg),r.2⟩
 |fix u x=>exact⟨r.1,K8.map f hx r.2⟩
theorem JZ.map{ob:Nat->Nat->Ob}(f:∀{x:At}{v:Value},p x=false->YR T h ob w x v->YR T' h' eK w' x v)
  (hT:∀b k v,T b k->w.cell? ⟨b,k,none⟩=some v->w'.cell? ⟨b,k,none⟩=some v/\T' b k) {o:Ob}
  (fE:o≠ .none->∀b,blk hd.v=some b->hd.u b) (hb:o≠ .none->∀b,hd.u b->w'.heap[b]?=w.heap[b]?) (hx:yu p [o]=false) (r:JZ T h ob w hd o):JZ T' h' eK w' hd o:=by
 cases o with
 |none=>trivial
 |box cells=>obtain⟨b,cs,e,hv,hh,ir⟩:=r;simp only[yu,Bool.or_false]at hx;exact⟨b,cs,e,hv,by rw[hb zAE b (fE zAE b (by rw[hv];rfl))];exact hh,En f hx ir⟩
 |arr q size rows=>
  have hk:∀{e:TypeId}{n:Nat}{xs:List Value},w.ownsRow 0 e size hd.v n xs->w'.ownsRow 0 e size hd.v n xs:=fun ho=>jK (fun b h=>hb zAE b (fE zAE b h)) ho;cases q with
  |false=>obtain⟨e,xs,ho,hz,ir⟩:=r;exact⟨e,xs,hk ho,hz,ir.imp fun _ _=>Rd.mono hT⟩
  |true=>obtain⟨e,xs,ho,hz,ir,hn⟩:=r;exact⟨e,xs,hk ho,hz,ir.Hf (fun b h=>hb zAE b h.1),hn⟩
 |lit size rows=>obtain⟨e,xs,ho,hz,ir⟩:=r;simp only[yu,Bool.or_false]at hx;exact⟨e,xs,jK (fun b h=>hb zAE b (fE zAE b h)) ho,hz,En f hx ir⟩
def Ob.pg:Ob->Ob->Prop
 |.arr q s r,.arr q' s' r'=>q=q'/\s=s'/\r.length=r'.length
 |.lit s r,.lit s' r'=>s=s'/\r.length=r'.length
 |.box _,.box _=>True
 |_,_=>False
theorem Rel.change(r:Rel T0 B σ a w X h)(hZ:σ.ob t j≠ .none)(g7:w'.heap.size=w.heap.size)(hw:∀k,¬(h t j).u k->w'.heap[k]?=w.heap[k]?)(M:Nat->Prop)
  (hM:∀b,M b->¬B b/\¬X b/\b<w.heap.size/\∀u i,σ.ob u i≠ .none->¬(h u i).u b) (o':Ob) (ei:(σ.ob t j).pg o') (hJ:Hd) (hv:hJ.v=(h t j).v) (hu:∀b,hJ.u b->(h t j).u b\/M b) (fE:∀b,blk hJ.v=some b->hJ.u b)
  (p:At->Bool) (hp:σ.yB p=false) (hn:(∀u i c o,p (.tref t u i c o)=true)\/hJ.n=(h t j).n)
  (cX:JZ (Tof T0 X) (fun u i=>if u=t/\i=j then hJ else h u i) (σ.Z0 t j o').ob w' hJ o'):Rel T0 B (σ.Z0 t j o') a w' X (fun u i=>if u=t/\i=j then hJ else h u i):=by
 have fH:∀u i,¬(u=t/\i=j)->(σ.Z0 t j o').ob u i=σ.ob u i:=by intro u i ij;rw[St.Xh σ t j o' u i hZ,if_neg ij]
 have fD:(σ.Z0 t j o').ob t j=o':=by rw[St.Xh σ t j o' t j hZ];simp
 have hT:∀b k v,Tof T0 X b k->w.cell? ⟨b,k,none⟩=some v->w'.cell? ⟨b,k,none⟩=some v/\Tof T0 X b k:=by
  intro b' k v hR iz;refine⟨?_,hR⟩;have ij:¬(h t j).u b':=by
   intro ef;have iv:=r.own t j b' hZ ef
   rcases hR with hR|hR
   ·exact iv.1 (r.hT _ _ hR)
   ·exact iv.2.1 hR
  rw[World.cell?_of_block (hw b' ij)];exact iz
 have hhv:∀u i,((fun u i=>if u=t/\i=j then hJ else h u i) u i).v=(h u i).v:=by
  intro u i;by_cases hc:u=t/\i=j
  ·simp only[hc,and_self,if_true];exact hv
  ·simp only[hc,if_false]
 have hsl:∀u i q size rows,(σ.Z0 t j o').ob u i= .arr q size rows->∃hP,σ.ob u i= .arr q size hP/\hP.length=rows.length:=by
  intro u i q size rows ho;by_cases hc:u=t/\i=j
  ·obtain⟨rfl,rfl⟩:=hc;rw[fD]at ho;subst ho;cases g8:σ.ob u i with
   |arr q0 s0 r0=>rw[g8]at ei;obtain⟨rfl,rfl,hl⟩:=ei;exact⟨r0,rfl,hl⟩
   |none=>rw[g8]at ei;exact ei.elim
   |box c=>rw[g8]at ei;exact ei.elim
   |lit s r=>rw[g8]at ei;exact ei.elim
  ·rw[fH u i hc]at ho;exact⟨rows,ho,rfl⟩
 have hll:∀u i size rows,(σ.Z0 t j o').ob u i= .lit size rows->∃hP,σ.ob u i= .lit size hP/\hP.length=rows.length:=by
  intro u i size rows ho;by_cases hc:u=t/\i=j
  ·obtain⟨rfl,rfl⟩:=hc;rw[fD]at ho;subst ho;cases g8:σ.ob u i with
   |arr q0 s0 r0=>rw[g8]at ei;exact ei.elim
   |none=>rw[g8]at ei;exact ei.elim
   |box c=>rw[g8]at ei;exact ei.elim
   |lit s r=>rw[g8]at ei;obtain⟨rfl,hl⟩:=ei;exact⟨r,rfl,hl⟩
  ·rw[fH u i hc]at ho;exact⟨rows,ho,rfl⟩
 have hbl:∀u i cells,(σ.Z0 t j o').ob u i= .box cells->∃fM,σ.ob u i= .box fM:=by
  intro u i cells ho;by_cases hc:u=t/\i=j
  ·obtain⟨rfl,rfl⟩:=hc;rw[fD]at ho;subst ho;cases g8:σ.ob u i with
   |arr q0 s0 r0=>rw[g8]at ei;exact ei.elim
   |none=>rw[g8]at ei;exact ei.elim
   |box c=>exact⟨c,rfl⟩
   |lit s r=>rw[g8]at ei;exact ei.elim
  ·rw[fH u i hc]at ho;exact⟨cells,ho⟩
 have at_:∀{x:At}{v:Value},p x=false->YR (Tof T0 X) h σ.ob w x v->YR (Tof T0 X) (fun u i=>if u=t/\i=j then hJ else h u i) (σ.Z0 t j o').ob w' x v:=by
  intro x v hpx rx;cases x with
  |any=>exact rx
  |d x=>exact Rd.mono hT rx
  |nil s=>exact rx
  |sref u i lo len=>
   refine⟨rx.1,fun q size rows ho=>?_,fun size rows ho=>?_⟩
   ·obtain⟨hP,g8,hl⟩:=hsl u i q size rows ho;rw[hhv,<-hl];exact rx.2.1 q size hP g8
   ·obtain⟨hP,g8,hl⟩:=hll u i size rows ho;rw[hhv,<-hl];exact rx.2.2 size hP g8
  |ptr u i k c=>refine⟨rx.1,fun q size rows ho=>?_⟩;obtain⟨hP,g8,hl⟩:=hsl u i q size rows ho;rw[hhv];exact rx.2 q size hP g8
  |bptr u c=>refine⟨rx.1,fun cells ho=>?_⟩;obtain⟨fM,g8⟩:=hbl u 0 cells ho;rw[hhv];exact rx.2 fM g8
  |fn f u=>refine⟨rx.1,fun cells ho=>?_⟩;obtain⟨fM,g8⟩:=hbl u 0 cells ho;rw[hhv];exact rx.2 fM g8
  |tref u i k c o=>
   refine⟨rx.1,fun size rows ho=>?_⟩;obtain⟨hP,g8,hl⟩:=hsl u i true size rows ho;have h1:=rx.2 size hP g8
   by_cases hc:u=t/\i=j
   ·obtain⟨rfl,rfl⟩:=hc;rcases hn with hn|hn
    ·rw[hn]at hpx;cases hpx
    ·simp only[and_self,if_true,hn];exact h1
   ·simp only[hc,if_false];exact h1
  |rptr rr c=>obtain⟨b,off,g,e,hk⟩:=rx;exact⟨b,off,g,e,fun k d hd=>⟨(hT _ _ _ (hk k d hd).2.1 (hk k d hd).1).1,(hk k d hd).2.1,Rd.mono hT (hk k d hd).2.2⟩⟩
 have fI:∀u i,(σ.Z0 t j o').ob u i≠ .none->σ.ob u i≠ .none:=by
  intro u i gh;by_cases ef:u=t/\i=j
  ·obtain⟨rfl,rfl⟩:=ef;exact hZ
  ·rw[fH u i ef]at gh;exact gh
 refine⟨by rw[r.size,St.XR],r.defers,by rw[g7];exact r.hB,fun b hb=>by rw[g7];exact r.hX b hb,r.hT,fun u ef=>?_,fun u i=>?_,fun u i b' ij hR=>?_,fun u i b' ij hR=>?_,fun u i u' i' b' ij gf fB gQ=>?_⟩
 ·rw[St.XR]at ef;rw[St.Xz];exact Qk.map at_ (St.IQ hp u) (r.slot u ef)
 ·by_cases hc:u=t/\i=j
  ·obtain⟨rfl,rfl⟩:=hc;rw[fD];simp only[and_self,if_true];exact cX
  ·rw[fH u i hc];simp only[hc,if_false];exact JZ.map at_ hT (fun ho b=>r.ub u i b ho) (fun ho b hb=>hw b (fun hbt=>hc (r.inj u i t j b ho hZ hb hbt))) (St.Em hp u i) (r.obj u i)
 ·by_cases hc:u=t/\i=j
  ·simp only[hc,and_self,if_true]at hR⊢;exact fE b' hR
  ·simp only[hc,if_false]at hR⊢;exact r.ub u i b' (fI u i ij) hR
 ·rw[g7];by_cases hc:u=t/\i=j
  ·simp only[hc,and_self,if_true]at hR;rcases hu b' hR with h1|h1
   ·exact r.own t j b' hZ h1
   ·have:=hM b' h1;exact⟨this.1,this.2.1,this.2.2.1⟩
  ·simp only[hc,if_false]at hR;exact r.own u i b' (fI u i ij) hR
 ·by_cases hc:u=t/\i=j
  ·by_cases ga:u'=t/\i'=j
   ·exact⟨by rw[hc.1,ga.1],by rw[hc.2,ga.2]⟩
   ·simp only[hc,and_self,if_true]at fB;simp only[ga,if_false]at gQ;rcases hu b' fB with h1|h1
    ·have:=r.inj t j u' i' b' hZ (fI u' i' gf) h1 gQ;rw[hc.1,hc.2];exact this
    ·exact absurd gQ ((hM b' h1).2.2.2 u' i' (fI u' i' gf))
  ·by_cases ga:u'=t/\i'=j
   ·simp only[ga,and_self,if_true]at gQ;simp only[hc,if_false]at fB;rcases hu b' gQ with h1|h1
    ·have:=r.inj u i t j b' (fI u i ij) hZ fB h1;rw[ga.1,ga.2];exact this
    ·exact absurd fB ((hM b' h1).2.2.2 u i (fI u i ij))
   ·simp only[hc,if_false]at fB;simp only[ga,if_false]at gQ;exact r.inj u i u' i' b' (fI u i ij) (fI u' i' gf) fB gQ
theorem Rel.sK(r:Rel T0 B σ a w X h)(hZ:σ.ob t j≠ .none)(g7:w'.heap.size=w.heap.size)(hw:∀k,¬(h t j).u k->w'.heap[k]?=w.heap[k]?)
  (o':Ob) (ei:(σ.ob t j).pg o') (cX:JZ (Tof T0 X) h (σ.Z0 t j o').ob w' (h t j) o'):Rel T0 B (σ.Z0 t j o') a w' X h:=by
 have hh:(fun u i=>if u=t/\i=j then h t j else h u i)=h:=by
  funext u i;by_cases hc:u=t/\i=j
  ·simp[hc]
  ·simp[hc]
 have:=r.change hZ g7 hw (fun _=>False) (fun _ hh=>hh.elim) o' ei (h t j) rfl (fun b hb=>.inl hb) (fun b hb=>r.ub t j b hZ hb) (fun _=>false) (St.qW σ) (.inr rfl) (by rw[hh];exact cX);rw[hh]at this;exact this
theorem run_store{T:TypeId}{ti:TypeInfo}(hi:P.info? T=some ti){o:Nat}{e:TypeId}(hg:w.heap[g]?=some (.cells cur e (0,0)))(g7:val.cells.size=P.cellsOf T)(hle:o+P.cellsOf T<=cur.size)(h1:∀u∈val.cells.toList,u.oneCell'=true):
  (Instr.storeAt T (.pointer (some ⟨g,o,none⟩)) val).run P w= .ok () (w.setRow g (place cur.toList o val.cells.toList).toArray):=by
 have gH:=run_storeCells_at P g o e val.cells.toList 0 cur w hg zAk h1;have ij:¬val.cells.size≠P.cellsOf T:=zAC;simp only[Instr.storeAt,Instr.sureAddr,storeVar,Sem.run_bind,Sem.run_pure,Result.andThen_ok,J4 hi,if_neg ij];rw[gH];simp[place]
theorem XL.setRow(hg:¬B g)(cs:Array Value):XL B w (w.setRow g cs):=
 ⟨rfl,rfl,rfl,by simp[World.setRow],fun k hk=>setRow_other w g k cs (fun e=>hg (e▸hk))⟩
theorem Dl(r:Rel T0 B σ a w X h){T:TypeId}(ig:o.op= .store T x y)(hd:o.dst=none)(ht:jc P T=true)(dt:gOf (look P σ 0 x)=true)(du:gOf (look P σ T y)=true)
  (hx:unc (look P σ 0 x)= .one (.bptr t c)) {cells:List At} (ho:σ.ob t 0= .box cells) (fL:(unc (look P σ T y)).flat=true) (hl:(unc (look P σ T y)).cells.length=P.cellsOf T) (hle:c+P.cellsOf T<=cells.length)
  (hK:∀a' w',JV T0 B (σ.Z0 t 0 (.box (place cells c (unc (look P σ T y)).cells))) a' w'->XL B w w'->K a' w'):o.wp P a w K Q:=by
 obtain⟨_,ti,_,hi,_,_⟩:=VT ht;have hax:=r.arg (P:=P) 0 x hx dt
 obtain⟨b,cs,e,hb,he,hh,ir⟩:=r.box ho hax;have hy:=UL fL (r.arg (P:=P) T y rfl du)
 have eC:=hy.length;have gM:=ir.length;have e1:cs.toList.length=cs.size:=Array.length_toList;have e2:(a.eval y).cells.toList.length=(a.eval y).cells.size:=Array.length_toList;have gA:=run_store (P:=P) (w:=w) hi (o:=c) (val:=a.eval y) hh zAC zAC (fun u hu=>by obtain⟨x',_,cL⟩:=hy.mem hu;exact YR.X1 cL);have hZ:σ.ob t 0≠ .none:=zA9;have gL:blk (h t 0).v=some b:=by rw[hb];rfl
 have hB:=r.nf hZ gL;have fE:=r.ub t 0 b hZ gL;unfold Oper.wp;simp only[execOp,ig,he,Sem.run_bind,gA,Result.andThen_ok,Sem.run_pure,Oper.upon_skip,hd];refine hK _ _ ⟨X,h,?_⟩ (XL.setRow hB.1 _);have fN:=setRow_heap w b cs (place cs.toList c (a.eval y).cells.toList).toArray e (0,0) hh;refine r.sK hZ zCa (fun k hk=>setRow_other w b k _ (fun e=>hk (e▸fE))) _ (by rw[ho];trivial) ?_;have r2:Rel T0 B (σ.Z0 t 0 (.box (place cells c (unc (look P σ T y)).cells))) a (w.setRow b (place cs.toList c (a.eval y).cells.toList).toArray) X h->True:=fun _=>trivial;have hT:∀b' k v,Tof T0 X b' k->w.cell? ⟨b',k,none⟩=some v->(w.setRow b (place cs.toList c (a.eval y).cells.toList).toArray).cell? ⟨b',k,none⟩=some v/\Tof T0 X b' k:=by
  intro b' k v hR iz;refine⟨?_,hR⟩;have ij:b'≠b:=by
   rintro rfl;rcases hR with hR|hR
   ·exact hB.1 (r.hT _ _ hR)
   ·exact hB.2.1 hR
  rw[World.cell?_of_block (setRow_other w b b' _ ij)];exact iz
 have fH:∀u i,¬(u=t/\i=0)->(σ.Z0 t 0 (.box (place cells c (unc (look P σ T y)).cells))).ob u i=σ.ob u i:=by intro u i ij;rw[St.Xh σ t 0 _ u i hZ,if_neg ij]
 have fD:(σ.Z0 t 0 (.box (place cells c (unc (look P σ T y)).cells))).ob t 0= .box (place cells c (unc (look P σ T y)).cells):=by rw[St.Xh σ t 0 _ t 0 hZ];simp
 have hcp:∀u i,Cpt h h σ.ob (σ.Z0 t 0 (.box (place cells c (unc (look P σ T y)).cells))).ob u i:=by
  intro u i;by_cases hu:u=t/\i=0
  ·obtain⟨rfl,rfl⟩:=hu;refine⟨fun q size rows gG=>?_,fun size rows gG=>?_,fun iy gG=>⟨rfl,cells,ho⟩⟩
   ·rw[fD]at gG;cases gG
   ·rw[fD]at gG;cases gG
  ·exact Cpt.same rfl (fH u i hu)
 have at_:∀{x:At}{v:Value},YR (Tof T0 X) h σ.ob w x v->YR (Tof T0 X) h (σ.Z0 t 0 (.box (place cells c (unc (look P σ T y)).cells))).ob (w.setRow b (place cs.toList c (a.eval y).cells.toList).toArray) x v:=fun rx=>YR.pT hT hcp rx;refine⟨b,_,e,hb,fN,?_⟩;have:=(ir.place c hy).imp (fun _ _=>at_);simpa using this
open Go.RowKit
variable{ds zr es:List D}{l:List UInt8}
theorem xX{α:Type}(size c:Nat)(ds:List α)(hc:c+ds.length<=size):∀(rows:List (List α))(i:Nat)(row:List α),rows[i]?=some row->(∀r∈rows,r.length=size)->
  (rows.set i (place row c ds)).flatten=place rows.flatten (i*size+c) ds
 |[],i,row,hr,_=>by simp at hr
 |r0::rows,0,row,hr,hz=>by
  simp at hr;subst hr;have h0:r0.length=size:=hz r0 zAE
  simp only[List.set_cons_zero,List.flatten_cons,place,Nat.zero_mul,Nat.zero_add];rw[List.take_append_of_le_length zAC,List.drop_append_of_le_length zAC];simp
 |r0::rows,i+1,row,hr,hz=>by
  have h0:r0.length=size:=hz r0 zAE;have ih:=xX size c ds hc rows i row (by simpa using hr) (fun r hr=>hz r zCZ);rw[List.set_cons_succ,List.flatten_cons,ih,List.flatten_cons];unfold place;have e1:(i+1)*size+c=r0.length+(i*size+c):=by rw[h0,Nat.add_mul];omega
  have e2:(i+1)*size+c+ds.length=r0.length+(i*size+c+ds.length):=by rw[h0,Nat.add_mul];omega
  rw[e2,e1,List.take_length_add_append,List.drop_length_add_append];simp
theorem IG{α:Type}(l:List α)(n off:Nat)(xs:List α)(hl:off+xs.length<=n)(hn:n<=l.length):(place l off xs).take n=place (l.take n) off xs:=by unfold place;rw[List.take_take,Nat.min_eq_left zAC,List.drop_take];rw[List.take_append,List.take_append];simp only[List.length_append,List.length_take];rw[Nat.min_eq_left zAC,List.take_of_length_le (l:=List.take off l) zAk,List.take_of_length_le (l:=xs) zAC]
theorem Vu{α:Type}(l:List α)(o:Nat)(xs:List α)(hl:o+xs.length<=l.length)(k:Nat)(v:α)(hv:(place l o xs)[k]?=some v):
  (o<=k/\k<o+xs.length/\xs[k-o]?=some v)\/(¬(o<=k/\k<o+xs.length)/\l[k]?=some v):=by
 unfold place at hv;have h1:(l.take o).length=o:=zAk
 rcases Nat.lt_or_ge k o with hk|hk
 ·rw[List.append_assoc,List.getElem?_append_left zAC,List.getElem?_take,if_pos hk]at hv;exact .inr ⟨zAC,hv⟩
 ·rw[List.append_assoc,List.getElem?_append_right zAC,h1]at hv;rcases Nat.lt_or_ge (k-o) xs.length with aD|aD
  ·rw[List.getElem?_append_left aD]at hv;exact .inl ⟨hk,zAC,hv⟩
  ·rw[List.getElem?_append_right aD,List.getElem?_drop]at hv;refine .inr ⟨zAC,?_⟩;rw[show o+xs.length+(k-o-xs.length)=k by omega]at hv;exact hv
theorem DP(r:Rel T0 B σ a w X h){T:TypeId}(ig:o.op= .store T x y)(hd:o.dst=none)(ht:jc P T=true)(dt:gOf (look P σ 0 x)=true)(du:gOf (look P σ T y)=true)
  (hx:unc (look P σ 0 x)= .one (.ptr t j i c)) (ho:σ.ob t j= .arr q size rows) (hi:i<rows.length) (fL:(unc (look P σ T y)).flat=true) (bU:rowOf σ (unc (look P σ T y)).cells=some ds) (gH:zS (unc (look P σ T y)).cells=true)
  (hl:ds.length=P.cellsOf T) (hle:c+P.cellsOf T<=size) (hq:q=true->(∀d∈ds,d.scalar=true)/\∀k d,k<P.cellsOf T->(rows.getD i [])[c+k]?=some d->d.scalar=true)
  (hK:∀a' w',JV T0 B (σ.Z0 t j (.arr q size (rows.set i (place (rows.getD i []) c ds)))) a' w'->XL B w w'->K a' w'):o.wp P a w K Q:=by
 obtain⟨_,ti,_,hti,_,_⟩:=VT ht;have hax:=r.arg (P:=P) 0 x hx dt
 obtain⟨b,cap,cur,e,xs,hb,he,hh,fS,eU,eT,et,hz,cf,ir,iv⟩:=r.arr ho hax;have hy:=UL fL (r.arg (P:=P) T y rfl du)
 have hrd:=r.rowOf true bU hy (fun _=>gH);simp only[if_true]at hrd;have eC:=hrd.length;have e2:(a.eval y).cells.toList.length=(a.eval y).cells.size:=Array.length_toList;have e3:cur.toList.length=cur.size:=Array.length_toList;have gN:rows[i]?=some (rows.getD i []):=zA7;have hmul:i*size+size<=rows.length*size:=zBv;have hcap2:rows.length*size<=cap*size:=Nat.mul_le_mul_right _ fS;have gA:=run_store (P:=P) (w:=w) hti (o:=i*size+c) (val:=a.eval y) hh zAC zAC (fun u hu=>by obtain⟨x',_,cL⟩:=hy.mem hu;exact YR.X1 cL);have hZ:σ.ob t j≠ .none:=zA9;have gL:blk (h t j).v=some b:=by rw[hb];rfl
 have hB:=r.nf hZ gL;have fE:=r.ub t j b hZ gL;unfold Oper.wp;simp only[execOp,ig,he,Sem.run_bind,gA,Result.andThen_ok,Sem.run_pure,Oper.upon_skip,hd];refine hK _ _ ⟨X,h,?_⟩ (XL.setRow hB.1 _);refine r.sK hZ zCa (fun k hk=>setRow_other w b k _ (fun e=>hk (e▸fE))) _ (by rw[ho];simp[Ob.pg]) ?_;have fN:=setRow_heap w b cur (place cur.toList (i*size+c) (a.eval y).cells.toList).toArray e (0,0) hh;have hT:∀b' k v,Tof T0 X b' k->w.cell? ⟨b',k,none⟩=some v->(w.setRow b (place cur.toList (i*size+c) (a.eval y).cells.toList).toArray).cell? ⟨b',k,none⟩=some v/\Tof T0 X b' k:=by
  intro b' k v hR iz;refine⟨?_,hR⟩;have ij:b'≠b:=by
   rintro rfl;rcases hR with hR|hR
   ·exact hB.1 (r.hT _ _ hR)
   ·exact hB.2.1 hR
  rw[World.cell?_of_block (setRow_other w b b' _ ij)];exact iz
 have bl:xs.length=rows.length*size:=by rw[cf,YV rows size hz]
 have dv:(rows.getD i []).length=size:=hz _ (List.mem_of_getElem? gN);have gk:(w.setRow b (place cur.toList (i*size+c) (a.eval y).cells.toList).toArray).ownsRow 0 e size (h t j).v (rows.set i (place (rows.getD i []) c ds)).length (place xs (i*size+c) (a.eval y).cells.toList):=by
  refine⟨?_,.inr ⟨b,cap,_,by simpa using hb,Nat.zero_le _,fN,by simpa using fS,eU,?_,?_⟩⟩
  ·rw[Xu _ _ _ zAC,bl];simp
  ·simp only[List.size_toArray];rw[Xu _ _ _ zAC,e3,eT]
  ·simp only[List.length_set];rw[IG _ _ _ _ zAC zAC,et]
 have ev:∀r∈rows.set i (place (rows.getD i []) c ds),r.length=size:=by
  intro r' fG;rcases List.mem_or_eq_of_mem_set fG with fG|fG
  ·exact hz r' fG
  ·rw[fG,Xu _ _ _ zAC,dv]
 cases q with
 |false=>refine⟨e,_,gk,ev,?_⟩;rw[xX size c ds zAC rows i _ gN hz];exact((ir rfl).imp fun _ _=>Rd.mono hT).place _ (hrd.imp fun _ _=>Rd.mono hT)
 |true=>
  obtain⟨⟨_,Sk,h1,h2,h3⟩,hn⟩:=iv rfl;obtain⟨hq1,hq2⟩:=hq rfl;have iz:∀k u,(place xs (i*size+c) (a.eval y).cells.toList)[k]?=some u->(i*size+c<=k/\k<i*size+c+ds.length/\(a.eval y).cells.toList[k-(i*size+c)]?=some u)\/(¬(i*size+c<=k/\k<i*size+c+ds.length)/\xs[k]?=some u):=by intro k u hu;exact Vu xs _ _ zAC k u hu|>.imp (fun hh=>⟨hh.1,zAC,hh.2.2⟩) (fun hh=>⟨by rw[<-eC];exact hh.1,hh.2⟩)
  have bI:∀k d,(rows.set i (place (rows.getD i []) c ds)).flatten[k]?=some d->(i*size+c<=k/\k<i*size+c+ds.length/\ds[k-(i*size+c)]?=some d)\/(¬(i*size+c<=k/\k<i*size+c+ds.length)/\rows.flatten[k]?=some d):=by intro k d eR;rw[xX size c ds zAC rows i _ gN hz]at eR;exact Vu _ _ _ (by rw[YV rows size hz];omega) k d eR
  refine⟨e,_,gk,ev,⟨?_,Sk,fun k u d hu eR=>?_,h2,h3⟩,fun k u d hu eR g9=>?_⟩
  ·rw[Xu _ _ _ zAC,cf,YV rows size hz,YV _ size ev];simp
  ·rcases iz k u hu with⟨p1,p2,p3⟩|⟨p1,p3⟩
   ·rcases bI k d eR with⟨_,_,p4⟩|⟨p4,_⟩
    ·obtain⟨d',hJ,fG⟩:=hrd.get _ _ p3;rw[p4]at hJ;cases hJ;have hs:=hq1 d (List.mem_of_getElem? p4)
     cases fG with
     |int k n=>exact .int _ _ _
     |bool b=>exact .bool _ _
     |str s=>exact .str _ _
     |unk v h=>exact .unk _ h _
     |nil=>simp[D.scalar]at hs
     |sl=>simp[D.scalar]at hs
    ·exact absurd ⟨p1,p2⟩ p4
   ·rcases bI k d eR with⟨p4,p5,_⟩|⟨_,p4⟩
    ·exact absurd ⟨p4,p5⟩ p1
    ·refine(h1 k u d p3 p4).Hf (fun b' hR=>setRow_other w b b' _ ?_);rintro rfl;exact(h2 k b' hR).2 gL
  ·rcases bI k d eR with⟨p4,p5,p6⟩|⟨p4,p6⟩
   ·have:=hq1 d (List.mem_of_getElem? p6);rw[g9]at this;cases this
   ·rcases iz k u hu with⟨p1,p2,_⟩|⟨_,p3⟩
    ·exact absurd ⟨p1,p2⟩ p4
    ·exact hn k u d p3 p6 g9
open Go.RowKit
variable{z:List At}{base:Option Addr}
theorem GD(t ty e e0:TypeId)(i:TypeInfo)(ht:P.underlying t=some (.slice e))(hi:P.info? e=some i)
  (g bH sCap:Nat) (cur:Array Value) (hg:w.heap[g]?=some (.cells cur e0 (0,0)))
  (a:Addr) (m c:Nat) (news:List Value) (hl:news.length=m*i.size) (fb:∀j u,news[j]?=some u->w.cell? (a.add j)=some u) (h1:∀u∈news,u.oneCell'=true)
  (cb:bH+m<=sCap) (hfit:bH*i.size+news.length<=cur.size):
  (Builtin.append_ #[t,t] ty #[.slice (some ⟨g,0,none⟩) bH sCap,.slice (some a) m c]).run P w=
   .ok (.slice (some ⟨g,0,none⟩) (bH+m) sCap) (w.setRow g (cur.toList.take (bH*i.size)++news++cur.toList.drop (bH*i.size+news.length)).toArray):=by
 have hf:=run_firstCells_some (P:=P) w i.size m a m c news hl fb;have gH:=run_storeCells_at P g (bH*i.size) e0 news 0 cur w hg (by simpa using hfit) h1;simp only[Nat.add_zero]at gH;simp[Builtin.append_,run_underlying ht,sizeOf,typeInfo,hi,Builtin.lenOf,cb,hf,Addr.add_lit,gH]
theorem MF(t ty e e0:TypeId)(i:TypeInfo)(z:Value)(ht:P.underlying t=some (.slice e))(hi:P.info? e=some i)(hz:i.zero=some z)
  (da:z.cells.size=i.size) (g7:0<i.size) (v:Value) (n:Nat) (xs:List Value) (iv:w.ownsRow 0 e0 i.size v n xs)
  (a:Addr) (m c:Nat) (news:List Value) (hl:news.length=m*i.size) (fb:∀j u,news[j]?=some u->w.cell? (a.add j)=some u) (h1:∀u∈news,u.oneCell'=true)
  (h63:n+m<=maxLen) (gl:(n+m)*i.bytes<=140737488355328):
  ∃v' w' e1,(Builtin.append_ #[t,t] ty #[v,.slice (some a) m c]).run P w= .ok v' w'/\w'.ownsRow 0 e1 i.size v' (n+m) (xs++news)/\w.grownBy w' (blk v)/\
   (∀b,blk v'=some b->(w.heap.size<=b/\b<w'.heap.size)\/blk v=some b):=by
 have hlen:(xs++news).length=(n+m)*i.size:=by rw[List.length_append,iv.1,hl,Nat.add_mul]
 rcases iv.2 with⟨rfl,rfl⟩|⟨g,cap,cur,rfl,_,hg,eW,hcm,eT,htake⟩
 ·have hx:xs=[]:=List.eq_nil_of_length_eq_zero (by simpa using iv.1);subst hx;obtain⟨v',w',hr,ho,ew,_⟩:=run_append_own (P:=P) w w.heap.size t ty e i z i.size i.bytes ht hi hz rfl rfl da g7 (.slice none 0 0) 0 [] (World.ownsRow_nil w _ e i.size) a m c news hl fb h1 h63 gl (Nat.le_refl _);refine⟨v',w',e,hr,?_,ew,fun b hb=>.inl ?_⟩
  ·refine⟨ho.1,ho.2.imp id ?_⟩;rintro⟨g,cap,cur,hv,_,rest⟩;exact⟨g,cap,cur,hv,Nat.zero_le _,rest⟩
  ·have hR:v'.ownBlock=some b:=by
    cases v' with
    |slice o l c=>cases o with
     |none=>simp[blk]at hb
     |some ad=>simpa[blk,Value.ownBlock]using hb
    |pointer o=>rcases ho.2 with⟨hv,_⟩|⟨g,cap,cur,hv,_⟩<;>cases hv
    |_=>simp[blk]at hb
   exact ho.lt b hR
 ·by_cases cb:n+m<=cap
  ·have hfit:n*i.size+news.length<=cur.size:=by rw[hl,eT,<-Nat.add_mul];exact Nat.mul_le_mul_right _ cb
   have hr:=GD (P:=P) (w:=w) t ty e e0 i ht hi g n cap cur hg a m c news hl fb h1 cb hfit;refine⟨_,_,e0,hr,⟨hlen,.inr ⟨g,cap,_,rfl,Nat.zero_le _,setRow_heap w g cur _ e0 _ hg,cb,hcm,?_,?_⟩⟩,⟨rfl,rfl,rfl,by simp[World.setRow],fun k _ hk=>setRow_other w g k _ (fun e=>hk (by simp[blk,e]))⟩,fun b hb=>.inr (by simpa[blk]using hb)⟩
   ·simp only[List.size_toArray,List.length_append,List.length_take,List.length_drop,Array.length_toList];omega
   ·rw[htake,<-hlen];exact List.take_left
  ·have holds:∀j u,xs[j]?=some u->w.cell? ((⟨g,0,none⟩:Addr).add j)=some u:=iv.cells (g:=g) rfl;have hsmall:n+m<=9223372036854775807:=by simp only[maxLen]at h63;omega
   have hr:=run_append_grow (P:=P) w t ty e i z ht hi hz ⟨g,0,none⟩ n cap xs iv.1 holds a m c news hl fb zAC zAC (growslice_fits zAC gl);have dR:=grownCap_ge w (n+m) cap e;have hcm2:grownCap w (n+m) cap e<=maxLen:=grownCap_le_maxLen w (n+m) cap e h63;refine⟨_,_,e,hr,⟨hlen,.inr ⟨w.heap.size,_,_,rfl,Nat.zero_le _,heap_alloc_new w.drew _,dR,hcm2,?_,?_⟩⟩,⟨rfl,rfl,rfl,zAE,fun k hk _=>(World.grownBy_alloc w.drew _ none).block k hk zAE⟩,fun b hb=>.inl ?_⟩
   ·simp only[Array.size_append,List.size_toArray,size_zeroCells,da,iv.1,hl,<-Nat.add_mul];congr 1;omega
   ·simp only[Array.toList_append,List.append_assoc];rw[<-List.append_assoc,<-hlen];exact List.take_left
   ·simp[blk]at hb;subst hb;simp
theorem SK(t ty e:TypeId)(i:TypeInfo)(ht:P.underlying t=some (.slice e))(hi:P.info? e=some i)(base:Option Addr)(n cap:Nat)(eW:n<=cap)(hb:base=none->cap=0):
  (Builtin.append_ #[t,t] ty #[.slice base n cap,.slice none 0 0]).run P w= .ok (.slice base n cap) w:=by
 cases base with
 |none=>have:=hb rfl;subst this;have:n=0:=zAC;subst this;simp[Builtin.append_,run_underlying ht,sizeOf,typeInfo,hi,Builtin.lenOf,Builtin.firstCells]
 |some ad=>simp[Builtin.append_,run_underlying ht,sizeOf,typeInfo,hi,Builtin.lenOf,Builtin.firstCells,eW,storeCells]
theorem Rel.less(r:Rel T0 B σ a w X h)(hl:σ'.length=σ.length)(fA:∀t,σ'.get t=σ.get t)(hk:∀t j,σ'.ob t j≠ .none->σ'.ob t j=σ.ob t j):Rel T0 B σ' a w X h:=by
 have back:∀t j o,σ'.ob t j=o->o≠ .none->σ.ob t j=o:=by intro t j o ho ij;rw[<-hk t j (by rw[ho];exact ij)];exact ho
 have at_:∀{x:At}{v:Value},(fun _:At=>false) x=false->YR (Tof T0 X) h σ.ob w x v->YR (Tof T0 X) h σ'.ob w x v:=by
  intro x v _ rx;cases x with
  |any=>exact rx
  |d x=>exact rx
  |nil s=>exact rx
  |sref u i lo len=>exact⟨rx.1,fun q size rows ho=>rx.2.1 q size rows (back u i _ ho zAE),fun size rows ho=>rx.2.2 size rows (back u i _ ho zAE)⟩
  |ptr u i k c=>exact⟨rx.1,fun q size rows ho=>rx.2 q size rows (back u i _ ho zAE)⟩
  |bptr u c=>exact⟨rx.1,fun cells ho=>rx.2 cells (back u 0 _ ho zAE)⟩
  |fn f u=>exact⟨rx.1,fun cells ho=>rx.2 cells (back u 0 _ ho zAE)⟩
  |tref u i k c o=>exact⟨rx.1,fun size rows ho=>rx.2 size rows (back u i _ ho zAE)⟩
  |rptr rr c=>exact rx
 have fI:∀u i,σ'.ob u i≠ .none->σ.ob u i≠ .none:=fun u i hn=>by rw[<-hk u i hn];exact hn
 refine⟨by rw[r.size,hl],r.defers,r.hB,r.hX,r.hT,fun u hu=>?_,fun u i=>?_,fun u i b hn=>r.ub u i b (fI u i hn),fun u i b hn=>r.own u i b (fI u i hn),fun u i u' i' b hn gh=>r.inj u i u' i' b (fI u i hn) (fI u' i' gh)⟩
 ·rw[fA u];exact Qk.map at_ (qW _) (r.slot u zAC)
 ·by_cases hn:σ'.ob u i= .none
  ·rw[hn];trivial
  ·rw[hk u i hn];exact JZ.map at_ (fun b k v hb hc=>⟨hc,hb⟩) (fun ho b=>r.ub u i b ho) (fun _ _ _=>rfl) (TP _) (r.obj u i)
theorem St.Rx(σ:St)(t j u i:Nat):(σ.Z0 t j .none).ob u i=if u=t/\i=j then .none else σ.ob u i:=by
 by_cases hZ:σ.ob t j= .none
 ·have key:∀(σ:St)(t u:Nat),σ.ob t j= .none->(σ.Z0 t j .none).ob u i=σ.ob u i:=by
   intro σ;induction σ with
   |nil=>intro t u _;simp[St.Z0]
   |cons e σ ih=>
    intro t u ho;cases t with
    |zero=>cases u with
     |zero=>
      simp only[St.Z0,St.ob,List.getElem?_cons_zero,vx]at ho⊢;split
      ·rename_i hh;rw[hh.1,ho]
      ·rfl
     |succ u=>simp[St.Z0,St.ob]
    |succ t=>cases u with
     |zero=>simp[St.Z0,St.ob]
     |succ u=>have:=ih t u (by simpa[St.ob]using ho);simp only[St.ob,St.Z0]at this⊢;simpa using this
  rw[key σ t u hZ];split
  ·rename_i hh;rw[hh.1,hh.2];exact hZ
  ·rfl
 ·exact St.Xh σ t j _ u i hZ
theorem Rel.drop(r:Rel T0 B σ a w X h)(t j:Nat):Rel T0 B (σ.Z0 t j .none) a w X h:=by
 refine r.less (St.XR _ _ _ _) (fun u=>St.Xz _ _ _ _ u) (fun u i hn=>?_);rw[St.Rx]at hn⊢;split
 ·rename_i hh;rw[if_pos hh]at hn;exact absurd rfl hn
 ·rfl
def St.Z7:St->List (Nat×Nat)->St
 |σ,[]=>σ
 |σ,p::l=>St.Z7 (σ.Z0 p.1 p.2 .none) l
theorem St.J2:∀(l:List (Nat×Nat))(σ:St),(σ.Z7 l).length=σ.length
 |[],σ=>rfl
 |p::l,σ=>by rw[St.Z7,St.J2 l,St.XR]
theorem St.yl:∀(l:List (Nat×Nat))(σ:St)(t:Nat),(σ.Z7 l).get t=σ.get t
 |[],σ,t=>rfl
 |p::l,σ,t=>by rw[St.Z7,St.yl l,St.Xz]
theorem St.KO:∀(l:List (Nat×Nat))(σ:St)(t j:Nat),(σ.Z7 l).ob t j=if(t,j)∈l then .none else σ.ob t j
 |[],σ,t,j=>by simp[St.Z7]
 |p::l,σ,t,j=>by
  rw[St.Z7,St.KO l,St.Rx];by_cases h1:(t,j)∈l
  ·simp[h1]
  ·by_cases h2:t=p.1/\j=p.2
   ·have:(t,j)=p:=by rw[h2.1,h2.2]
    rw[if_neg h1,if_pos h2,if_pos (by rw[this];simp)]
   ·have:¬(t,j)=p:=fun e=>h2 (by rw[<-e];exact⟨rfl,rfl⟩);simp[h1,h2,this]
theorem Rel.Z7(r:Rel T0 B σ a w X h)(l:List (Nat×Nat)):Rel T0 B (σ.Z7 l) a w X h:=by
 refine r.less (St.J2 l σ) (St.yl l σ) (fun u i hn=>?_);rw[St.KO]at hn⊢;split
 ·rename_i hh;rw[if_pos hh]at hn;exact absurd rfl hn
 ·rfl
open Go.RowKit
theorem yz{T:TypeId}(hz:QE P T=true):∃i z row,P.info? T=some i/\i.zero=some z/\UD P 12 T=some row/\i.size=row.length/\z.cells.size=i.size/\i.size=P.cellsOf T/\(∀T' h ob w,YJ (YR T' h ob w) row z.cells.toList):=by
 have ep:∃row,UD P 12 T=some row:=by
  unfold QE at hz;split at hz
  ·rename_i row i hr hi;exact⟨row,hr⟩
  ·cases hz
 obtain⟨row,hr⟩:=ep;obtain⟨i,z,hi,dN,g7,ir⟩:=CK hz hr;refine⟨i,z,row,hi,dN,hr,g7,?_,by simp[Program.cellsOf,hi],ir⟩;have:=(ir (fun _ _=>True) (fun _ _=>Hd.of undef) (fun _ _=>.none) default).length
 have e1:z.cells.toList.length=z.cells.size:=Array.length_toList;omega
def yF(σ:St)(x:V)(size:Nat)(news:List (List D)):Prop:=
 match x with
 |.one (.d (.sl s rows))=>s=size/\news=rows
 |.one (.nil _)=>news=[]
 |.one (.sref t j lo len)=>∃rows,σ.ob t j= .arr false size rows/\lo+len<=rows.length/\news=cut rows lo len
 |_=>False
def OC(σ:St)(x:V)(size:Nat)(im:List (List D))(σ1:St):Prop:=
 match x with
 |.one (.nil _)=>im=[]/\σ1=σ
 |.one (.sref t j lo len)=>∃rows,σ.ob t j= .arr false size rows/\lo=0/\len<=rows.length/\im=rows.take len/\σ1=σ.Z0 t j .none
 |_=>False
theorem Tf(v:Value)(n:Nat):blk (II v n)=blk v:=by
 cases v with
 |slice o _ _=>cases o<;>rfl
 |_=>rfl
theorem Ke(rows:List (List D))(size:Nat)(hz:∀r∈rows,r.length=size)(len:Nat)(hle:len<=rows.length):(rows.take len).flatten=rows.flatten.take (len*size):=by
 induction rows generalizing len with
 |nil=>simp
 |cons r rows ih=>
  cases len with
  |zero=>simp
  |succ len=>
   have h1:=hz r zAE;have h2:=ih (fun q hq=>hz q (by simp[hq])) len (by simpa using hle);have h3:(len+1)*size=r.length+len*size:=by rw[Nat.add_mul,h1];omega
   rw[List.take_succ_cons,List.flatten_cons,List.flatten_cons,h2,h3,List.take_length_add_append]
theorem Wg{e:TypeId}{xs:List Value}(ho:w.ownsRow 0 e size v n xs)(hle:len<=n):w.ownsRow 0 e size (II v len) len (xs.take (len*size)):=by
 have hm:len*size<=n*size:=Nat.mul_le_mul_right _ hle;refine⟨by rw[List.length_take,ho.1];omega,?_⟩;rcases ho.2 with⟨rfl,rfl⟩|⟨g,cap,cur,rfl,hx,hg,eW,hcm,eT,et⟩
 ·have:len=0:=zAC;subst this;exact .inl ⟨rfl,rfl⟩
 ·refine .inr ⟨g,cap,cur,rfl,hx,hg,zAC,hcm,eT,?_⟩;rw[<-et,List.take_take];congr 1;omega
theorem B8(r:Rel T0 B σ a w X h){x:V}(hs:yF σ x size news)(hv:Qk (Tof T0 X) h σ.ob w x v):
  (∀n∈news,n.length=size)/\((v= .slice none 0 0/\news=[])\/∃ad c xs,v= .slice (some ad) news.length c/\(∀j u,xs[j]?=some u->w.cell? (ad.add j)=some u)/\YJ (Rd (Tof T0 X) w) xs news.flatten):=by
 unfold yF at hs;split at hs
 ·rename_i s rows;obtain⟨rfl,rfl⟩:=hs;refine⟨C6 (show Rd _ _ _ _ from hv),?_⟩;cases(show Rd _ _ _ _ from hv)with
  |nil=>exact .inl ⟨rfl,rfl⟩
  |sl ad len cap s rows g hl hc hm hz bX hg hr=>
   refine .inr ⟨ad,cap,(List.range news.flatten.length).map g,by rw[hl],fun j u hu=>?_,?_⟩
   ·rw[List.getElem?_map]at hu;rcases Nat.lt_or_ge j news.flatten.length with hj|hj
    ·rw[List.getElem?_range hj]at hu;cases hu;have ij:news.flatten≠[]:=by intro he;rw[he]at hj;simp at hj
     have:=(hg j _ (List.getElem?_eq_getElem hj)).1;obtain⟨b,off,sp⟩:=ad;have:=bX ij;simp at this;subst this;rw[qO];assumption
    ·rw[List.getElem?_eq_none (by simpa using hj)]at hu;cases hu
   ·refine YJ.xm zAE (fun k u d hu hd=>?_);rw[List.getElem?_map]at hu;have hk:=(List.getElem?_eq_some_iff.1 hd).1
    rw[List.getElem?_range hk]at hu;cases hu;exact hr k d hd
 ·subst hs;exact⟨(by intro n hn;cases hn),.inl ⟨hv,rfl⟩⟩
 ·rename_i t j lo len;obtain⟨rows,ho,hle,rfl⟩:=hs;have h0:=r.obj t j
  rw[ho]at h0;obtain⟨e,xs,⟨hl,iv⟩,hz,ir⟩:=h0;refine⟨fun x hx=>hz x (List.mem_of_mem_drop (List.mem_of_mem_take hx)),?_⟩;have e9:YR (Tof T0 X) h σ.ob w (.sref t j lo len) v:=hv
  obtain⟨_,_,_,base,cap,rfl,fS,_,dq,hb⟩:=e9.2.1 _ size rows ho;have gM:(cut rows lo len).length=len:=XJ _ _ _ hle
  by_cases gp:0<len
  ·obtain⟨b,dc,hh,rfl⟩:=hb gp;rcases iv with⟨hn,_⟩|⟨g,bn,cur,e9,_,hgg,eW,eU,eT,et⟩
   ·rw[hh]at hn;cases hn
   ·rw[hh]at e9;cases e9;refine .inr ⟨_,cap,cut xs (lo*size) (len*size),by rw[gM],fun j u hu=>?_,?_⟩
    ·have h1:=ze _ _ _ _ _ hu;rw[qO];refine zU hgg _ _ ?_;rw[<-et,List.getElem?_take]at h1;split at h1
     ·exact h1
     ·cases h1
    ·have bl:xs.length=rows.length*size:=by rw[ir.length,YV rows size hz]
     have hmul:lo*size+len*size<=rows.length*size:=zBw;refine YJ.xm ?_ (fun k u d hu hd=>?_)
     ·rw[XJ _ _ _ zAC,YV (cut rows lo len) size (fun x hx=>hz x (List.mem_of_mem_drop (List.mem_of_mem_take hx))),gM]
     ·have h1:=ze _ _ _ _ _ hu;have h2:=WE rows size lo len hz k d hd;obtain⟨d',hJ,hr⟩:=ir.get _ _ h1;rw[h2]at hJ;cases hJ;exact hr
  ·have:len=0:=zAC;subst this;have dW:cut rows lo 0=[]:=by simp[cut]
   rw[dW];cases base with
   |none=>have:=dq rfl;subst this;exact .inl ⟨rfl,rfl⟩
   |some ad=>exact .inr ⟨ad,cap,[],rfl,zAE,.nil⟩
 ·exact hs.elim
theorem wB(r:Rel T0 B σ a w X h){t:TypeId}(ig:o.op= .call ⟨.builtin .append,#[x,y],#[t,t]⟩)(hd:o.dst=some d)
  (dt:gOf (look P σ t x)=true) (du:gOf (look P σ t y)=true) (ht:XS P t=true) (hz:QE P (ZS P t)=true) (gp:0<P.cellsOf (ZS P t))
  (fe:OC σ (unc (look P σ t x)) (P.cellsOf (ZS P t)) im σ1) (db:yF σ (unc (look P σ t y)) (P.cellsOf (ZS P t)) news) (gj:σ1.fresh d=true)
  (gl:(im.length+news.length)*P.bytesOf (ZS P t)<=140737488355328) (cJ:im.length+news.length<=9223372036854775807)
  (hK:∀a' w',JV T0 B (σ1.new d (.one (.sref d 0 0 (im.length+news.length))) [.arr false (P.cellsOf (ZS P t)) (im++news)]) a' w'->XL B w w'->K a' w'):o.wp P a w K Q:=by
 obtain⟨ti,hu,hi,e7⟩:=Xs ht;obtain⟨i,z,row,fP,dN,ep,dA,da,fv,eg⟩:=yz hz;rw[hi]at fP;cases fP;have ak:P.bytesOf (ZS P t)=ti.bytes:=zBy
 rw[ak]at gl;rw[<-fv]at fe db gp hK;have cj:=r.arg (P:=P) t x rfl dt
 have hvy:=r.arg (P:=P) t y rfl du;obtain⟨hnz,g9⟩:=B8 r db hvy;have fp:∃e0 xs,w.ownsRow 0 e0 ti.size (a.eval x) im.length xs/\(∀q∈im,q.length=ti.size)/\YJ (Rd (Tof T0 X) w) xs im.flatten/\Rel T0 B σ1 a w X h/\
   (∀b,blk (a.eval x)=some b->¬B b/\¬X b/\b<w.heap.size/\∀u j,σ1.ob u j≠ .none->¬(h u j).u b):=by
  unfold OC at fe;split at fe
  ·rename_i s heq;obtain⟨rfl,rfl⟩:=fe;rw[heq]at cj;have he:a.eval x= .slice none 0 0:=cj
   rw[he];exact⟨0,[],World.ownsRow_nil w 0 0 _,zBT,.nil,r,(fun b hb=>by cases hb)⟩
  ·rename_i u j lo len heq;obtain⟨rows,ho,rfl,hle,rfl,rfl⟩:=fe;rw[heq]at cj;have ck:YR (Tof T0 X) h σ.ob w (.sref u j 0 len) (a.eval x):=cj
   obtain⟨_,_,eF,_⟩:=ck.2.1 _ _ _ ho;have he:a.eval x=II (h u j).v len:=eF rfl
   have h0:=r.obj u j;rw[ho]at h0;obtain⟨e,xs,iv,fR,ir⟩:=h0;have hZ:σ.ob u j≠ .none:=zA9;have aJ:(rows.take len).length=len:=zBe;have fL:(rows.take len).flatten=rows.flatten.take (len*ti.size):=Ke rows ti.size fR len hle;refine⟨e,xs.take (len*ti.size),by rw[he,aJ];exact Wg iv hle,fun q hq=>fR q (List.mem_of_mem_take hq),by rw[fL];exact ir.take _,r.drop u j,fun b hb=>?_⟩;rw[he,Tf]at hb;have ae:=r.ub u j b hZ hb;have gk:=r.own u j b hZ ae;refine⟨gk.1,gk.2.1,gk.2.2,fun u' j' ij hR=>?_⟩;have bG:σ.ob u' j'≠ .none:=by
    intro hh;rw[St.Xh σ u j _ u' j' hZ]at ij;split at ij
    ·exact ij rfl
    ·exact ij hh
   have:=r.inj u j u' j' b hZ bG ae hR;obtain⟨rfl,rfl⟩:=this;rw[St.Xh σ u j _ u j hZ]at ij;simp at ij
  ·exact fe.elim
 obtain⟨e0,xs,iv,hoz,ao,r1,gL⟩:=fp;have hflr:∀q∈im++news,q.length=ti.size:=by
  intro q hq;rcases List.mem_append.1 hq with hq|hq
  ·exact hoz q hq
  ·exact hnz q hq
 have key:∀(v':Value)(w':World)(e1:TypeId)(ys:List Value),(Builtin.append_ #[t,t] o.type #[a.eval x,a.eval y]).run P w= .ok v' w'->w'.ownsRow 0 e1 ti.size v' (im.length+news.length) (xs++ys)->
   YJ (Rd (Tof T0 X) w) ys news.flatten->w.grownBy w' (blk (a.eval x))->(∀b,blk v'=some b->(w.heap.size<=b/\b<w'.heap.size)\/blk (a.eval x)=some b)->o.wp P a w K Q:=by
  intro v' w' e1 ys gA gG al ew hbv;have hD:=St.zC gj
  have hT:∀b k v,Tof T0 X b k->w.cell? ⟨b,k,none⟩=some v->w'.cell? ⟨b,k,none⟩=some v/\Tof T0 X b k:=by
   intro b k v hb iz;refine⟨?_,hb⟩;have ij:some b≠blk (a.eval x):=by
    intro e;have h1:=gL b e.symm
    rcases hb with hb|hb
    ·exact h1.1 (r.hT b k hb)
    ·exact h1.2.1 hb
   rw[World.cell?_of_block (ew.block b (r.Tlt hb) ij)];exact iz
  unfold Oper.wp;have av:(execOp a.eval o).run P w= .ok (.value v') w':=by simp only[execOp,ig,resolve,invoke,builtin,Sem.run_bind,Sem.run_pure,Result.andThen_ok,List.map_toArray,List.map_cons,List.map_nil,gA]
  rw[av,Oper.upon_value,hd];refine hK _ _ ⟨X,fun u j=>if u=d then Hd.of v' else h u j,?_⟩ ⟨ew.os,ew.tape,ew.output,ew.size,fun k hk=>ew.block k (r.hB k hk) (fun e=>(gL k e.symm).1 hk)⟩;have gy:(σ1.new d (.one (.sref d 0 0 (im.length+news.length))) [.arr false ti.size (im++news)]).ob d 0= .arr false ti.size (im++news):=zBQ
  have g6:w'.ownsRow 0 e1 ti.size v' (im++news).length (xs++ys):=by rw[List.length_append];exact gG
  have cg:YJ (Rd (Tof T0 X) w') (xs++ys) (im++news).flatten:=by rw[List.flatten_append];exact(ao.imp fun _ _=>Rd.mono hT).append (al.imp fun _ _=>Rd.mono hT)
  refine r1.uv gj (fun b=>blk (a.eval x)=some b) ew.size (fun k hk ij=>ew.block k hk (fun e=>ij e.symm)) (fun b hb=>⟨(gL b hb).1,(gL b hb).2.1,fun u j _ ij=>(gL b hb).2.2.2 u j ij⟩) (fun _ hb=>hb) (fun _ hb=>.inl hb) _ _ [.arr false ti.size (im++news)] (fun _=>Hd.of v') ?_ (fun j=>?_) (fun j b _ hb=>hb) (fun j b ij hR=>?_) (fun j j' b ij gf _ _=>?_)
  ·refine⟨Jn gG,fun q' gB hO hh=>?_,fun gB hO hh=>by rw[gy]at hh;cases hh⟩;rw[gy]at hh;cases hh;simp only[if_true,List.length_append];have:=TO g6
   rwa[List.length_append]at this
  ·cases j with
   |zero=>exact⟨e1,xs++ys,g6,hflr,cg⟩
   |succ j=>simp[Yr,JZ]
  ·rcases hbv b hR with h1|h1
   ·exact⟨.inl h1.1,fun hx=>by have:=(r.hX b hx).2;omega,h1.2⟩
   ·have h2:=gL b h1;exact⟨.inr h1,h2.2.1,by have:=ew.size;omega⟩
  ·have:∀j,Yr [Ob.arr false ti.size (im++news)] j≠ .none->j=0:=by
    intro j hj;cases j with
    |zero=>rfl
    |succ j=>simp[Yr]at hj
   rw[this j ij,this j' gf]
 rcases g9 with⟨aM,rfl⟩|⟨ad,c,ys,aM,iz,al⟩
 ·have gW:∃base cap,a.eval x= .slice base im.length cap/\im.length<=cap/\(base=none->cap=0):=by
   rcases iv.2 with⟨h1,h2⟩|⟨g,cap,cur,h1,_,_,eW,_⟩
   ·exact⟨none,0,by rw[h1,h2],zAC,fun _=>rfl⟩
   ·exact⟨_,cap,h1,eW,(fun hh=>by cases hh)⟩
  obtain⟨base,cap,hex,eW,hb0⟩:=gW;refine key (a.eval x) w e0 [] ?_ (by simpa using iv) .nil ⟨rfl,rfl,rfl,Nat.le_refl _,fun _ _ _=>rfl⟩ (fun b hb=>.inr hb);rw[hex,aM];exact SK t o.type _ ti hu hi base im.length cap eW hb0
 ·have eC:ys.length=news.length*ti.size:=by rw[al.length,YV news ti.size hnz]
  obtain⟨v',w',e1,gA,gG,ew,hbv⟩:=MF (P:=P) (w:=w) t o.type _ e0 ti z hu hi dN da zAC (a.eval x) im.length xs iv ad news.length c ys eC iz
   (fun u ef=>by
    obtain⟨k,hk⟩:=List.mem_iff_getElem?.1 ef;obtain⟨d',_,fG⟩:=al.get k u hk;exact Rd.X1 fG) (by simp only[maxLen];omega) gl
  refine key v' w' e1 ys ?_ gG al ew hbv;rw[aM];exact gA
open Go.RowKit
variable{parts:Array (Nat×Operand)}
def HL(P:Program)(σ:St)(T:TypeId)(size:Nat):List (Nat×Operand)->Nat->List (List D)->Prop
 |[],_,rs=>rs=[]
 |(i,x)::ps,k,rs=>i=k/\gOf (look P σ T x)=true/\(unc (look P σ T x)).flat=true/\zS (unc (look P σ T x)).cells=true/\
   ∃r rest,rowOf σ (unc (look P σ T x)).cells=some r/\r.length=size/\HL P σ T size ps (k+1) rest/\rs=r::rest
theorem FG{α:Type}(l:List α)(o:Nat)(xs ys:List α)(hl:o+(xs++ys).length<=l.length):place (place l o xs) (o+xs.length) ys=place l o (xs++ys):=by
 simp only[List.length_append]at hl;unfold place;have h1:(l.take o++xs).length=o+xs.length:=zAk
 have h2:(l.take o++xs++l.drop (o+xs.length)).take (o+xs.length)=l.take o++xs:=by rw[List.take_append_of_le_length zAC,List.take_of_length_le zAC]
 have h3:(l.take o++xs++l.drop (o+xs.length)).drop (o+xs.length+ys.length)=l.drop (o+(xs++ys).length):=by rw[show o+xs.length+ys.length=(l.take o++xs).length+ys.length by omega,List.drop_length_add_append,List.drop_drop];congr 1;simp;omega
 rw[h2,h3];simp
theorem GF(r:Rel T0 B σ a w X h)(T:TypeId)(size:Nat):∀(ps:List (Nat×Operand))(k:Nat)(rs:List (List D))(cells:Array Value),HL P σ T size ps k rs->(k+ps.length)*size<=cells.size->
   ∃iy ys,Instr.fill (fun i=>some (i*size,size)) cells (ps.map fun x=>(x.1,a.eval x.2))=some iy/\iy.toList=place cells.toList (k*size) ys/\YJ (Rd (Tof T0 X) w) ys rs.flatten/\(∀q∈rs,q.length=size)/\rs.length=ps.length
 |[],k,rs,cells,hb,_=>zBn
 |(i,x)::ps,k,rs,cells,hb,hl=>by
  obtain⟨rfl,hg,hf,gH,r0,rest,dY,hlen,hb,rfl⟩:=hb;have hx:=UL hf (r.arg (P:=P) T x rfl hg)
  have hrd:=r.rowOf true dY hx (fun _=>gH);simp only[if_true]at hrd;have hl2:=hrd.length;have e1:cells.toList.length=cells.size:=Array.length_toList;have e2:(a.eval x).cells.toList.length=(a.eval x).cells.size:=Array.length_toList;have hmul:(i+(ps.length+1))*size=i*size+size+ps.length*size:=zB5;simp only[List.length_cons]at hl;have heq:=OF (i*size) (a.eval x).cells cells zAC;have dA:((a.eval x).cells.zipIdx.foldl (fun cs x=>cs.setIfInBounds (i*size+x.2) x.1) cells).size=cells.size:=by rw[<-Array.length_toList,heq,Xu _ _ _ zAC,e1]
  have hmul2:(i+1+ps.length)*size=i*size+size+ps.length*size:=zB5;obtain⟨iy,ys,h1,h2,h3,h4,h5⟩:=GF r T size ps (i+1) rest _ hb (by rw[dA];omega);have eC:ys.length=ps.length*size:=by rw[h3.length,YV rest size h4,h5]
  refine⟨iy,(a.eval x).cells.toList++ys,?_,?_,?_,?_,by simp[h5]⟩
  ·simp only[List.map_cons,Instr.fill];rw[if_neg zAk];exact h1
  ·rw[h2,heq];rw[show(i+1)*size=i*size+(a.eval x).cells.toList.length by rw[Nat.add_mul];omega];exact FG _ _ _ _ zAk
  ·rw[List.flatten_cons];exact hrd.append h3
  ·intro q hq;rcases List.mem_cons.1 hq with rfl|hq
   ·exact hlen
   ·exact h4 q hq
theorem Gu(r:Rel T0 B σ a w X h){T:TypeId}(ig:o.op= .buildSlice T n parts)(hd:o.dst=some d)(gj:σ.fresh d=true)
  (ht:XS P T=true) (hz:QE P (ZS P T)=true) (gp:0<P.cellsOf (ZS P T)) (hn:parts.toList.length=n) (hsm:n*P.cellsOf (ZS P T)<=16777216) (hb:HL P σ (ZS P T) (P.cellsOf (ZS P T)) parts.toList 0 rows)
  (hK:∀a' w',JV T0 B (σ.new d (.one (.sref d 0 0 rows.length)) [.arr false (P.cellsOf (ZS P T)) rows]) a' w'->XL B w w'->K a' w'):o.wp P a w K Q:=by
 obtain⟨ti,hu,hi,e7⟩:=Xs ht;obtain⟨i,z,row,fP,dN,ep,dA,da,fv,eg⟩:=yz hz;rw[hi]at fP;cases fP;have ez:(zeroValue (ZS P T)).run P w= .ok z w:=by simp[zeroValue,typeInfo,hi,dN]
 obtain⟨zero,hzero⟩:∃zero:Array Value,(n*P.cellsOf (ZS P T)=0->zero=#[])/\(¬n*P.cellsOf (ZS P T)=0->zero=z.cells):=by
  by_cases h0:n*P.cellsOf (ZS P T)=0
  ·exact⟨#[],fun _=>rfl,fun hh=>absurd h0 hh⟩
  ·exact⟨z.cells,fun hh=>absurd hh h0,fun _=>rfl⟩
 obtain⟨iy,ys,h1,h2,h3,h4,h5⟩:=GF r (ZS P T) (P.cellsOf (ZS P T)) parts.toList 0 rows ((Array.range (n*P.cellsOf (ZS P T))).map (zero[·%zero.size]!)) hb (by simp[hn]);have eC:ys.length=n*P.cellsOf (ZS P T):=by rw[h3.length,YV rows _ h4,h5,hn]
 have gM:iy.toList=ys:=by rw[h2];unfold place;simp[eC]
 have dO:(parts.map fun(x:Nat×Operand)=>(x.1,a.eval x.2)).toList=parts.toList.map fun x=>(x.1,a.eval x.2):=zAE;have gA:(execOp a.eval o).run P w= .ok (.value (.slice (some ⟨w.heap.size,0,none⟩) n n)) (w.alloc (.cells iy (ZS P T))):=by
  have dV:¬(n*P.cellsOf (ZS P T)>2^24):=zAC;by_cases h0:n*P.cellsOf (ZS P T)=0
  ·have cr:=hzero.1 h0;subst cr;simp only[execOp,ig,Instr.buildSlice,Sem.run_bind,run_underlying hu,Result.andThen_ok,J4 hi,if_neg dV,if_pos h0,dO,h1,newRow,Sem.run_pure,run_newObj_alloc]
  ·have cr:=hzero.2 h0;subst cr;simp only[execOp,ig,Instr.buildSlice,Sem.run_bind,run_underlying hu,Result.andThen_ok,J4 hi,if_neg dV,if_neg h0,ez,dO,h1,newRow,Sem.run_pure,run_newObj_alloc]
 unfold Oper.wp;rw[gA,Oper.upon_value,hd];have hlen:rows.length=n:=by rw[h5,hn]
 have hT:∀b k v,Tof T0 X b k->w.cell? ⟨b,k,none⟩=some v->(w.alloc (.cells iy (ZS P T))).cell? ⟨b,k,none⟩=some v/\Tof T0 X b k:=by intro b k v hb iz;refine⟨?_,hb⟩;rw[World.cell?_of_block ((World.grownBy_alloc w (.cells iy (ZS P T)) none).block b (r.Tlt hb) zAE)];exact iz
 have aw:iy.size=n*P.cellsOf (ZS P T):=by rw[<-Array.length_toList,gM,eC]
 have eU:n<=maxLen:=by have:n<=n*P.cellsOf (ZS P T):=Nat.le_mul_of_pos_right _ gp;simp only[maxLen];omega
 have:=r.rz gj (World.grownBy_alloc w (.cells iy (ZS P T)) none) (.slice (some ⟨w.heap.size,0,none⟩) n n) (size:=P.cellsOf (ZS P T)) (rows:=rows)
  ⟨ZS P T,ys,⟨by rw[eC,hlen],.inr ⟨w.heap.size,n,iy,by rw[hlen],Nat.zero_le _,heap_alloc_new w _,zAC,eU,aw,by rw[gM,hlen,List.take_of_length_le zAC]⟩⟩,h4,h3.imp fun _ _=>Rd.mono hT⟩
  (fun b hb=>by simp[blk]at hb;subst hb;exact⟨Nat.le_refl _,zAE⟩)
 exact hK _ _ this.1 this.2
theorem vC(r:Rel T0 B σ a w X h){T:TypeId}(ig:o.op= .buildSlice T n parts)(hd:o.dst=some d)
  (ht:XS P T=true) (hz:QE P (ZS P T)=true) (gp:0<P.cellsOf (ZS P T)) (hn:parts.toList.length=n) (hsm:n*P.cellsOf (ZS P T)<=16777216) (hb:HL P σ (ZS P T) (P.cellsOf (ZS P T)) parts.toList 0 rows)
  (hK:∀a' w',JV T0 B (σ.put d (.one (.d (.sl (P.cellsOf (ZS P T)) rows)))) a' w'->XL B w w'->K a' w'):o.wp P a w K Q:=by
 obtain⟨ti,hu,hi,e7⟩:=Xs ht;obtain⟨i,z,row,fP,dN,ep,dA,da,fv,eg⟩:=yz hz;rw[hi]at fP;cases fP;have ez:(zeroValue (ZS P T)).run P w= .ok z w:=by simp[zeroValue,typeInfo,hi,dN]
 obtain⟨zero,hzero⟩:∃zero:Array Value,(n*P.cellsOf (ZS P T)=0->zero=#[])/\(¬n*P.cellsOf (ZS P T)=0->zero=z.cells):=by
  by_cases h0:n*P.cellsOf (ZS P T)=0
  ·exact⟨#[],fun _=>rfl,fun hh=>absurd h0 hh⟩
  ·exact⟨z.cells,fun hh=>absurd hh h0,fun _=>rfl⟩
 obtain⟨iy,ys,h1,h2,h3,h4,h5⟩:=GF r (ZS P T) (P.cellsOf (ZS P T)) parts.toList 0 rows ((Array.range (n*P.cellsOf (ZS P T))).map (zero[·%zero.size]!)) hb (by simp[hn]);have eC:ys.length=n*P.cellsOf (ZS P T):=by rw[h3.length,YV rows _ h4,h5,hn]
 have gM:iy.toList=ys:=by rw[h2];unfold place;simp[eC]
 have dO:(parts.map fun(x:Nat×Operand)=>(x.1,a.eval x.2)).toList=parts.toList.map fun x=>(x.1,a.eval x.2):=zAE;have gA:(execOp a.eval o).run P w= .ok (.value (.slice (some ⟨w.heap.size,0,none⟩) n n)) (w.alloc (.cells iy (ZS P T))):=by
  have dV:¬(n*P.cellsOf (ZS P T)>2^24):=zAC;by_cases h0:n*P.cellsOf (ZS P T)=0
  ·have cr:=hzero.1 h0;subst cr;simp only[execOp,ig,Instr.buildSlice,Sem.run_bind,run_underlying hu,Result.andThen_ok,J4 hi,if_neg dV,if_pos h0,dO,h1,newRow,Sem.run_pure,run_newObj_alloc]
  ·have cr:=hzero.2 h0;subst cr;simp only[execOp,ig,Instr.buildSlice,Sem.run_bind,run_underlying hu,Result.andThen_ok,J4 hi,if_neg dV,if_neg h0,ez,dO,h1,newRow,Sem.run_pure,run_newObj_alloc]
 unfold Oper.wp;rw[gA,Oper.upon_value,hd];have hlen:rows.length=n:=by rw[h5,hn]
 have aE:=World.grownBy_alloc w (.cells iy (ZS P T)) none;have r2:=r.grow (X':=fun b=>X b\/b=w.heap.size) aE (fun b hb=>.inl hb) (fun b hb=>hb.imp id (fun hh=>by subst hh;exact⟨Nat.le_refl _,zAE⟩));have hT:∀b k v,Tof T0 X b k->w.cell? ⟨b,k,none⟩=some v->(w.alloc (.cells iy (ZS P T))).cell? ⟨b,k,none⟩=some v/\Tof T0 (fun b=>X b\/b=w.heap.size) b k:=by intro b k v hb iz;refine⟨?_,hb.imp id .inl⟩;rw[World.cell?_of_block (aE.block b (r.Tlt hb) zAE)];exact iz
 have aw:iy.size=n*P.cellsOf (ZS P T):=by rw[<-Array.length_toList,gM,eC]
 have eU:n<=maxLen:=by have:n<=n*P.cellsOf (ZS P T):=Nat.le_mul_of_pos_right _ gp;simp only[maxLen];omega
 refine hK _ _ ⟨_,_,r2.put d _ _ ?_⟩ (XL.PW aE r.hB);exact tj (e:=ZS P T) (xs:=ys) ⟨by rw[eC,hlen],.inr ⟨w.heap.size,n,iy,by rw[hlen],Nat.zero_le _,heap_alloc_new w _,zAC,eU,aw,by rw[gM,hlen,List.take_of_length_le zAC]⟩⟩ h4 (fun b k hb=>by simp[blk]at hb;subst hb;exact .inr (.inr rfl)) (h3.imp fun _ _=>Rd.mono hT)
def zD:List At->Option (List D)
 |[]=>some []
 |.d x::xs=>(zD xs).map (x::·)
 |.nil s::xs=>(zD xs).map (.sl s []::·)
 |_=>none
theorem wS{T:CS}{ob:Nat->Nat->Ob}:∀{xs:List At}{ds:List D}{vs:List Value},zD xs=some ds->YJ (YR T h ob w) xs vs->YJ (Rd T w) vs ds
 |[],ds,vs,hz,ir=>by cases ir;simp[zD]at hz;subst hz;exact .nil
 |x::xs,ds,vs,hz,ir=>by
  cases ir with
  |cons hx ir=>
   cases x with
   |d x=>simp only[zD,Option.map_eq_some_iff]at hz;obtain⟨bk,ev,rfl⟩:=hz;exact .cons hx (wS ev ir)
   |nil s=>simp only[zD,Option.map_eq_some_iff]at hz;obtain⟨bk,ev,rfl⟩:=hz;cases hx;exact .cons (.nil _) (wS ev ir)
   |any=>simp[zD]at hz
   |sref=>simp[zD]at hz
   |ptr=>simp[zD]at hz
   |bptr=>simp[zD]at hz
   |fn=>simp[zD]at hz
   |rptr=>simp[zD]at hz
   |tref=>simp[zD]at hz
theorem VG{α:Type}(z:List α)(n k:Nat)(hk:k<n*z.length):(List.replicate n z).flatten[k]?=z[k%z.length]?:=by
 induction n generalizing k with
 |zero=>simp at hk
 |succ n ih=>
  rw[List.replicate_succ,List.flatten_cons];rcases Nat.lt_or_ge k z.length with hD|dR
  ·rw[List.getElem?_append_left hD,Nat.mod_eq_of_lt hD]
  ·rw[List.getElem?_append_right dR,ih (k-z.length) (by rw[Nat.add_mul]at hk;omega)];congr 1;rw[Nat.mod_eq_sub_mod dR]
theorem Ea(r:Rel T0 B σ a w X h){T:TypeId}(ig:o.op= .makeSlice T x x)(hd:o.dst=some d)(gj:σ.fresh d=true)
  (ht:XS P T=true) (hz:QE P (ZS P T)=true) (ep:UD P 12 (ZS P T)=some z) (hzd:zD z=some zr) (gp:0<P.cellsOf (ZS P T)) (hx:SU P σ x k (n:Int)) (ak:P.bytesOf (ZS P T)*n<=281474976710656) (cJ:n<=9223372036854775807)
  (hK:∀a' w',JV T0 B (σ.new d (.one (.sref d 0 0 n)) [.arr false (P.cellsOf (ZS P T)) (List.replicate n zr)]) a' w'->XL B w w'->K a' w'):o.wp P a w K Q:=by
 obtain⟨ti,hu,hi,e7⟩:=Xs ht;obtain⟨i,zv,row,fP,dN,aq,dA,da,fv,eg⟩:=yz hz;rw[hi]at fP;cases fP;rw[ep]at aq;cases aq;have hex:=qa r hx
 have hby':(ti.bytes:Int)*(n:Int)<=281474976710656:=by have:P.bytesOf (ZS P T)=ti.bytes:=zBy;rw[this]at ak;have h:((ti.bytes*n:Nat):Int)<=281474976710656:=zAC;rwa[Int.natCast_mul]at h
 have gA:=run_make (P:=P) w T (ZS P T) ti zv hu hi dN k k n n zAC (Int.le_refl _) hby' zAC;simp only[Int.toNat_natCast]at gA;unfold Oper.wp;simp only[execOp,ig,hex,Sem.run_bind,gA,Result.andThen_ok,Sem.run_pure,Oper.upon_value,hd];have hzrd:=wS hzd (eg (Tof T0 X) h σ.ob w);have hzl:=hzrd.length;have e1:zv.cells.toList.length=zv.cells.size:=Array.length_toList;have bJ:zr.length=ti.size:=zAC;have hT:∀b k v,Tof T0 X b k->w.cell? ⟨b,k,none⟩=some v->(w.alloc (.cells (madeCells zv.cells (n*ti.size)) (ZS P T))).cell? ⟨b,k,none⟩=some v/\Tof T0 X b k:=by intro b k v hb iz;refine⟨?_,hb⟩;rw[World.cell?_of_block ((World.grownBy_alloc w (.cells (madeCells zv.cells (n*ti.size)) (ZS P T)) none).block b (r.Tlt hb) zAE)];exact iz
 have dP:(madeCells zv.cells (n*ti.size)).toList.length=n*ti.size:=by rw[Array.length_toList,size_madeCells]
 have ax:∀q u,(madeCells zv.cells (n*ti.size)).toList[q]?=some u->zv.cells.toList[q%ti.size]?=some u:=by
  intro q u hq;have hD:q<n*ti.size:=zBf
  have hmod:q%ti.size<zv.cells.size:=by rw[da];exact Nat.mod_lt _ zAC
  have:(madeCells zv.cells (n*ti.size)).toList[q]?=some (zv.cells[q%zv.cells.size]!):=by simp[madeCells,hD]
  rw[this]at hq;cases hq;rw[da];simp[hmod]
 have cg:YJ (Rd (Tof T0 X) w) (madeCells zv.cells (n*ti.size)).toList (List.replicate n zr).flatten:=by
  refine YJ.xm (by rw[dP,YV _ ti.size (by intro q hq;rw[List.eq_of_mem_replicate hq];exact bJ)];simp) (fun q u dd hq eR=>?_);have hD:q<n*ti.size:=zBf
  rw[VG zr n q (by rw[bJ];exact hD),bJ]at eR;obtain⟨d',hJ,fG⟩:=hzrd.get _ _ (ax q u hq);rw[eR]at hJ;cases hJ;exact fG
 have:=r.rz gj (World.grownBy_alloc w (.cells (madeCells zv.cells (n*ti.size)) (ZS P T)) none) (.slice (some ⟨w.heap.size,0,none⟩) n n) (size:=P.cellsOf (ZS P T)) (rows:=List.replicate n zr)
  ⟨ZS P T,(madeCells zv.cells (n*ti.size)).toList,⟨by rw[dP,fv];simp,.inr ⟨w.heap.size,n,_,zAE,Nat.zero_le _,heap_alloc_new w _,zAE,by simp only[maxLen];omega,by rw[size_madeCells,fv],by rw[List.take_of_length_le (by rw[dP,fv];simp)]⟩⟩,
   (by intro q hq;rw[List.eq_of_mem_replicate hq];omega),cg.imp fun _ _=>Rd.mono hT⟩
  (fun b hb=>by simp[blk]at hb;subst hb;exact⟨Nat.le_refl _,zAE⟩)
 rw[List.length_replicate]at this;exact hK _ _ this.1 this.2
open Go.RowKit
def KY(l:List UInt8):List (List D):=l.map fun b=>[D.int .u8 (b.toNat:Int)]
def NS(P:Program)(t:TypeId):Bool:=match P.underlying t with
 |some (.slice e)=>(match P.underlying e with|some (.int .u8)=>true|_=>false)
 |_=>false
theorem FM{t:TypeId}(ht:NS P t=true):∃e,P.underlying t=some (.slice e)/\P.underlying e=some (.int .u8):=by
 unfold NS at ht;split at ht
 ·rename_i e he;split at ht
  ·rename_i h2;exact⟨e,he,h2⟩
  ·cases ht
 ·cases ht
theorem Pg(l:List UInt8):(KY l).flatten=l.map fun b=>D.int .u8 (b.toNat:Int):=by
 induction l with
 |nil=>rfl
 |cons b l ih=>simp only[KY,List.map_cons,List.flatten_cons]at ih⊢;rw[ih];rfl
theorem Mr(r:Rel T0 B σ a w X h){S T:TypeId}(ig:o.op= .convert S T x)(hg:gOf (look P σ S x)=true)(hS:NS P S=true)(hT:R8 P T=true)
  (db:yF σ (unc (look P σ S x)) 1 (KY l)):∃val,(execOp a.eval o).run P w= .ok (.value val) w/\Qk (Tof T0 X) h σ.ob w (.one (.d (.str ⟨l.toArray⟩))) val:=by
 obtain⟨e,hs,he⟩:=FM hS;have hv:=r.arg (P:=P) S x rfl hg
 obtain⟨_,g9⟩:=B8 r db hv;refine⟨.string ⟨l.toArray⟩,?_,.str _⟩;rcases g9 with⟨hex,dW⟩|⟨ad,c,xs,hex,iz,ir⟩
 ·have hl:l=[]:=by cases l with
   |nil=>rfl
   |cons b l=>simp[KY]at dW
  subst hl;have hr:(convert S T (.slice none 0 0)).run P w= .ok (.string ⟨#[]⟩) w:=by rw[run_convert_bytes_string w S T e none 0 0 hs he (kb hT)];rfl
  simp only[execOp,ig,hex,Sem.run_bind,hr,Result.andThen_ok,Sem.run_pure,List.toArray]
 ·have hlen:(KY l).length=l.length:=by simp[KY]
  rw[hlen]at hex;have hr:=run_convert_bytes_back (P:=P) w S T e ad c l hs he (kb hT) (fun j hj=>by
   rw[Pg]at ir;obtain⟨u,hu,hr⟩:=ir.get' j (D.int .u8 (l[j].toNat:Int)) (by simp[hj]);have:=OR hr
   subst this;exact iz j _ hu)
  simp only[execOp,ig,hex,Sem.run_bind,hr,Result.andThen_ok,Sem.run_pure]
theorem M3(r:Rel T0 B σ a w X h){S T:TypeId}{s:ByteArray}(ig:o.op= .convert S T x)(hd:o.dst=some d)(hg:gOf (look P σ S x)=true)(hS:R8 P S=true)(hT:NS P T=true)
  (hx:unc (look P σ S x)= .one (.d (.str s))) (g7:s.size<=9223372036854775807)
  (hK:∀a' w',JV T0 B (σ.put d (.one (.d (.sl 1 (KY s.data.toList))))) a' w'->XL B w w'->K a' w'):o.wp P a w K Q:=by
 obtain⟨e,eR,he⟩:=FM hT;have hex:=NF (r.arg (P:=P) S x hx hg)
 have gA:=run_bytes_of_string (P:=P) w S T e s (kb hS) eR he;unfold Oper.wp;simp only[execOp,ig,hex,Sem.run_bind,gA,Result.andThen_ok,Sem.run_pure,Oper.upon_value,hd];generalize fS:grownCap w s.size 0 e=cap at*;have dR:s.size<=cap:=by rw[<-fS];exact grownCap_ge w s.size 0 e
 have eU:cap<=maxLen:=by rw[<-fS];exact grownCap_le_maxLen w s.size 0 e (by simp only[maxLen];omega)
 generalize hw':w.drew.alloc (.cells (bytesRow s cap) e ((bytesRow s cap).size,(bytesRow s cap).size+1))=w';have aE:w.grownBy w' none:=by rw[<-hw'];exact⟨rfl,rfl,rfl,zAE,fun k hk _=>(World.grownBy_alloc w.drew _ none).block k hk zAE⟩
 have cX:w'.heap[w.heap.size]?=some (.cells (bytesRow s cap) e ((bytesRow s cap).size,(bytesRow s cap).size+1)):=by rw[<-hw'];exact heap_alloc_new w.drew _
 have hsize:w.heap.size<w'.heap.size:=(Array.getElem?_eq_some_iff.1 cX).1;have r2:=r.grow (X':=fun b=>X b\/b=w.heap.size) aE (fun b hb=>.inl hb) (fun b hb=>hb.imp id (fun hh=>by subst hh;exact⟨Nat.le_refl _,hsize⟩));refine hK _ _ ⟨_,_,r2.put d _ _ ?_⟩ (XL.PW aE r.hB);have fL:=Pg s.data.toList;refine Rd.sl ⟨w.heap.size,0,none⟩ s.size cap 1 _ (fun k=>.int .u8 ((s.data.toList.getD k 0).toNat:Int)) (by simp[KY]) dR eU (by intro q hq;simp[KY]at hq;obtain⟨b,_,rfl⟩:=hq;rfl) (fun _=>rfl) (fun k dd hk=>?_) (fun k dd hk=>?_)
 ·rw[fL,List.getElem?_map]at hk;cases hb:s.data.toList[k]? with
  |none=>rw[hb]at hk;cases hk
  |some b=>
   refine⟨?_,.inr (.inr rfl)⟩;simp only[Nat.zero_add];refine zU cX _ _ ?_;have hklt:k<s.data.size:=by have:=(List.getElem?_eq_some_iff.1 hb).1;simpa using this
   simp only[bytesRow];rw[Array.toList_append,List.getElem?_append_left (by simpa using hklt)];simp[hb]
 ·rw[fL,List.getElem?_map]at hk;cases hb:s.data.toList[k]? with
  |none=>rw[hb]at hk;cases hk
  |some b=>rw[hb]at hk;cases hk;rw[List.getD_eq_getElem?_getD,hb];exact .int _ _
open Go.RowKit
variable{l1 l2:List (Nat×Nat)}
def XC:List At->List (Nat×Nat)
 |[]=>[]
 |.sref t j _ _::xs=>(t,j)::XC xs
 |_::xs=>XC xs
def mvD(σ:St):At->Option D
 |.d (.sl _ _)=>none
 |.d x=>some x
 |.nil s=>some (.sl s [])
 |.sref t j lo len=>(match σ.ob t j with|.arr _ size rows=>if lo=0/\len=rows.length then some (.sl size rows)else none|_=>none)
 |_=>none
def C3(σ:St):At->Prop
 |.sref t j _ _=>(match σ.ob t j with|.arr false _ rows=>∀r∈rows,∀x∈r,x.scalar=true|_=>True)
 |_=>True
def Jd(σ:St):List At->Option (List D)
 |[]=>some []
 |x::xs=>(match mvD σ x,Jd σ xs with|some d,some ds=>some (d::ds)|_,_=>none)
def QI(σ:St):List At->Prop
 |[]=>True
 |x::xs=>C3 σ x/\QI σ xs
def KT(σ:St):List (List At)->Option (List (List D))
 |[]=>some []
 |xs::rest=>(match Jd σ xs,KT σ rest with|some r,some rs=>some (r::rs)|_,_=>none)
def Jc(σ:St):List (List At)->Prop
 |[]=>True
 |x::xs=>QI σ x/\Jc σ xs
theorem FA:∀(xs:List At)(i j:Nat)(t u lo len bY dZ:Nat),(XC xs).Nodup->xs[i]?=some (.sref t u lo len)->xs[j]?=some (.sref t u bY dZ)->i=j:=by
 intro xs;induction xs with
 |nil=>intro i j t u lo len bY dZ _ hi;simp at hi
 |cons x xs ih=>
  intro i j t u lo len bY dZ gm hi hj;have mem:∀(k lo len:Nat),xs[k]?=some (At.sref t u lo len)->(t,u)∈XC xs:=by
   intro k lo len hk;clear ih gm hi hj;induction xs generalizing k with
   |nil=>simp at hk
   |cons y ys ih2=>
    cases k with
    |zero=>simp at hk;subst hk;simp[XC]
    |succ k=>have:=ih2 k (by simpa using hk);cases y<;>simp[XC,this]
  have nd':(XC xs).Nodup:=by cases x<;>simp only[XC]at gm<;>first|exact gm|exact(List.nodup_cons.1 gm).2
  cases i with
  |zero=>
   simp at hi;subst hi;cases j with
   |zero=>rfl
   |succ j=>simp only[XC]at gm;exact absurd (mem j bY dZ (by simpa using hj)) (List.nodup_cons.1 gm).1
  |succ i=>
   cases j with
   |zero=>simp at hj;subst hj;simp only[XC]at gm;exact absurd (mem i lo len (by simpa using hi)) (List.nodup_cons.1 gm).1
   |succ j=>rw[ih i j t u lo len bY dZ nd' (by simpa using hi) (by simpa using hj)]
theorem Aa:∀{xs:List At}{k t j lo len:Nat},xs[k]?=some (At.sref t j lo len)->(t,j)∈XC xs
 |[],k,t,j,lo,len,h=>by simp at h
 |x::xs,0,t,j,lo,len,h=>by simp at h;subst h;simp[XC]
 |x::xs,k+1,t,j,lo,len,h=>by have:=Aa (xs:=xs) (k:=k) zCF;cases x<;>simp[XC,this]
theorem jI{σ:St}:∀{xs:List At}{ds:List D},Jd σ xs=some ds->xs.length=ds.length/\∀(k:Nat)(x:At)(d:D),xs[k]?=some x->ds[k]?=some d->mvD σ x=some d
 |[],ds,h=>by simp[Jd]at h;subst h;exact⟨rfl,fun k x d hx=>by simp at hx⟩
 |x::xs,ds,h=>by
  simp only[Jd]at h;split at h
  ·rename_i d bk h1 h2;cases h;obtain⟨hl,ih⟩:=jI h2;refine⟨by simp[hl],fun k y e hy he=>?_⟩;cases k with
   |zero=>simp at hy he;subst hy;subst he;exact h1
   |succ k=>exact ih k y e (by simpa using hy) (by simpa using he)
  ·cases h
theorem IW{σ:St}:∀{xs ys:List At}{ds es:List D},Jd σ xs=some ds->Jd σ ys=some es->Jd σ (xs++ys)=some (ds++es)
 |[],ys,ds,es,h1,h2=>by simp[Jd]at h1;subst h1;simpa using h2
 |x::xs,ys,ds,es,h1,h2=>by
  simp only[Jd]at h1;split at h1
  ·rename_i d bk h3 h4;cases h1;simp[Jd,h3,IW h4 h2]
  ·cases h1
theorem qE{σ:St}:∀{fJ:List (List At)}{rs:List (List D)},KT σ fJ=some rs->Jd σ fJ.flatten=some rs.flatten/\fJ.length=rs.length/\∀n,(∀x∈fJ,x.length=n)->∀r∈rs,r.length=n
 |[],rs,h=>by simp[KT]at h;subst h;exact⟨rfl,rfl,fun n _ r hr=>by cases hr⟩
 |xs::fJ,rs,h=>by
  simp only[KT]at h;split at h
  ·rename_i r rs' h1 h2;cases h;obtain⟨i1,i2,i3⟩:=qE h2;refine⟨by rw[List.flatten_cons,List.flatten_cons];exact IW h1 i1,by simp[i2],fun n hn q hq=>?_⟩;rcases List.mem_cons.1 hq with rfl|hq
   ·rw[<-(jI h1).1];exact hn xs zAE
   ·exact i3 n (fun x hx=>hn x (by simp[hx])) q hq
  ·cases h
theorem ML{σ:St}:∀{xs:List At},QI σ xs->∀(k:Nat)(x:At),xs[k]?=some x->C3 σ x
 |[],_,k,x,hx=>by simp at hx
 |y::xs,h,0,x,hx=>by simp at hx;subst hx;exact h.1
 |y::xs,h,k+1,x,hx=>ML h.2 k x (by simpa using hx)
theorem NI{σ:St}:∀{xs ys:List At},QI σ xs->QI σ ys->QI σ (xs++ys)
 |[],_,_,h=>h
 |_::_,_,h1,h2=>⟨h1.1,NI h1.2 h2⟩
theorem xU{σ:St}:∀{fJ:List (List At)},Jc σ fJ->QI σ fJ.flatten
 |[],_=>trivial
 |xs::fJ,h=>by rw[List.flatten_cons];exact NI h.1 (xU h.2)
theorem Rd.own{d:D}(hs:d.scalar=true)(hr:Rd T w v d):Own w v d S:=by
 cases hr with
 |int k n=>exact .int _ _ _
 |bool b=>exact .bool _ _
 |str s=>exact .str _ _
 |unk v h=>exact .unk _ h _
 |nil=>cases hs
 |sl=>cases hs
theorem Rel.mK(r:Rel T0 B σ a w X h)(ho:σ.ob t j= .arr q size rows)(hq:q=false->∀r∈rows,∀x∈r,x.scalar=true):Own w (h t j).v (.sl size rows) (h t j).u:=by
 have h0:=r.obj t j;have fE:=r.ub t j;rw[ho]at h0 fE;cases q with
 |false=>obtain⟨e,xs,eZ,hz,ir⟩:=h0;refine .sl _ size rows _ e xs (fun _ _=>False) eZ hz (fun b hb=>fE b zAE hb) ir.length (fun k x d hx hd=>?_) (fun k b hb=>hb.elim) (fun i j b hb=>hb.elim);obtain⟨d',hJ,hr⟩:=ir.get k x hx;rw[hd]at hJ;cases hJ;obtain⟨r0,dY,hdr⟩:=List.mem_flatten.1 (List.mem_of_getElem? hd);exact Rd.own (hq rfl r0 dY d hdr) hr
 |true=>obtain⟨e,xs,eZ,hz,⟨hl,Sk,h1,h2,h3⟩,hn⟩:=h0;exact .sl _ size rows _ e xs Sk eZ hz (fun b hb=>fE b zAE hb) hl h1 (fun k b hb=>h2 k b hb) h3
def zI(σ:St)(h:Nat->Nat->Hd)(l:List (Nat×Nat))(b:Nat):Prop:=∃p∈l,σ.ob p.1 p.2≠ .none/\(h p.1 p.2).u b
theorem Nb(r:Rel T0 B σ a w X h){xs:List At}(ir:YJ (YR (Tof T0 X) h σ.ob w) xs vs)(eH:Jd σ xs=some ds)(gF:QI σ xs)(gm:(XC xs).Nodup):KC w vs ds (zI σ h (XC xs)):=by
 obtain⟨hl,eH⟩:=jI eH;refine⟨by rw[<-ir.length,hl],fun k b=>∃t j lo len,xs[k]?=some (.sref t j lo len)/\σ.ob t j≠ .none/\(h t j).u b,fun k v d hv hd=>?_,?_,?_⟩
 ·obtain⟨x,hx,hr⟩:=ir.get' k v hv;have hm:=eH k x d hx hd
  have ho:=ML gF k x hx;cases x with
  |d x=>
   cases x with
   |sl s rows=>simp[mvD]at hm
   |int k n=>simp[mvD]at hm;subst hm;exact Rd.own rfl hr
   |bool b=>simp[mvD]at hm;subst hm;exact Rd.own rfl hr
   |str s=>simp[mvD]at hm;subst hm;exact Rd.own rfl hr
   |unk=>simp[mvD]at hm;subst hm;exact Rd.own rfl hr
  |nil s=>simp[mvD]at hm;subst hm;cases hr;exact .sl _ s [] _ 0 [] (fun _ _=>False) (World.ownsRow_nil w 0 0 s) zBT (fun b hb=>by cases hb) rfl (fun k x d hx=>by simp at hx) (fun k b hb=>hb.elim) (fun i j b hb=>hb.elim)
  |sref t j lo len=>
   simp only[mvD]at hm;split at hm
   ·rename_i q size rows hZ;split at hm
    ·rename_i hc;obtain⟨rfl,rfl⟩:=hc;cases hm;obtain⟨_,fc,_⟩:=hr.2.1 q size rows hZ;rw[fc rfl rfl];refine(r.mK hZ (fun hq=>?_)).mono (fun b hb=>⟨t,j,0,rows.length,hx,by rw[hZ];simp,hb⟩);subst hq;simp only[C3,hZ]at ho;exact ho
    ·cases hm
   ·cases hm
  |any=>simp[mvD]at hm
  |ptr=>simp[mvD]at hm
  |bptr=>simp[mvD]at hm
  |fn=>simp[mvD]at hm
  |rptr=>simp[mvD]at hm
  |tref=>simp[mvD]at hm
 ·rintro k b ⟨t,j,lo,len,hx,ij,hu⟩;exact⟨(t,j),Aa hx,ij,hu⟩
 ·rintro i k b ⟨t,j,lo,len,hx,ij,hu⟩ ⟨t',j',bY,dZ,cL,gf,ef⟩;obtain⟨rfl,rfl⟩:=r.inj t j t' j' b ij gf hu ef;exact FA xs i k t j lo len bY dZ gm hx cL
theorem KC.append{xs:List Value}(h1:KC w xs ds S)(h2:KC w ys es S')(hd:∀b,S b->S' b->False):KC w (xs++ys) (ds++es) (fun b=>S b\/S' b):=by
 obtain⟨l1,Sk,a1,a2,a3⟩:=h1;obtain⟨l2,Sk',b1,b2,b3⟩:=h2;refine⟨by simp[l1,l2],fun k=>if k<xs.length then Sk k else Sk' (k-xs.length),fun k x d hx hJ=>?_,fun k b hb=>?_,fun i j b hi hj=>?_⟩
 ·by_cases hk:k<xs.length
  ·simp only[hk,if_true];rw[List.getElem?_append_left hk]at hx;rw[List.getElem?_append_left zAC]at hJ;exact a1 k x d hx hJ
  ·simp only[hk,if_false];rw[List.getElem?_append_right zAC]at hx;rw[List.getElem?_append_right zAC,<-l1]at hJ;exact b1 _ x d hx hJ
 ·by_cases hk:k<xs.length
  ·simp only[hk,if_true]at hb;exact .inl (a2 k b hb)
  ·simp only[hk,if_false]at hb;exact .inr (b2 _ b hb)
 ·by_cases fP:i<xs.length
  ·simp only[fP,if_true]at hi;by_cases dL:j<xs.length
   ·simp only[dL,if_true]at hj;exact a3 i j b hi hj
   ·simp only[dL,if_false]at hj;exact(hd b (a2 i b hi) (b2 _ b hj)).elim
  ·simp only[fP,if_false]at hi;by_cases dL:j<xs.length
   ·simp only[dL,if_true]at hj;exact(hd b (a2 j b hj) (b2 _ b hi)).elim
   ·simp only[dL,if_false]at hj;have:=b3 _ _ b hi hj;omega
theorem KC.mono{xs:List Value}(hS:∀b,S b->S' b)(h1:KC w xs ds S):KC w xs ds S':=by obtain⟨l1,Sk,a1,a2,a3⟩:=h1;exact⟨l1,Sk,a1,fun k b hb=>hS b (a2 k b hb),a3⟩
theorem KC.nil(S:Nat->Prop):KC w [] [] S:=⟨rfl,fun _ _=>False,fun k x d hx=>by simp at hx,fun _ _ hb=>hb.elim,fun _ _ _ hb=>hb.elim⟩
theorem Rel.z4(r:Rel T0 B σ a w X h)(l:List (Nat×Nat))(b:Nat)(hb:zI σ h l b):¬B b/\¬X b/\b<w.heap.size/\∀u i,(σ.Z7 l).ob u i≠ .none->¬(h u i).u b:=by
 obtain⟨p,hp,ij,hu⟩:=hb;have ho:=r.own p.1 p.2 b ij hu
 refine⟨ho.1,ho.2.1,ho.2.2,fun u i hn ef=>?_⟩;rw[St.KO]at hn;split at hn
 ·exact hn rfl
 ·rename_i hnm;obtain⟨h1,h2⟩:=r.inj p.1 p.2 u i b ij hn hu ef;exact hnm (by rw[<-h1,<-h2];exact hp)
open Go.RowKit
def HH(P:Program)(σ:St)(T:TypeId)(size:Nat):List (Nat×Operand)->Nat->List (List At)->Prop
 |[],_,rs=>rs=[]
 |(i,x)::ps,k,rs=>i=k/\gOf (look P σ T x)=true/\(unc (look P σ T x)).flat=true/\(unc (look P σ T x)).cells.length=size/\
   ∃rest,HH P σ T size ps (k+1) rest/\rs=(unc (look P σ T x)).cells::rest
theorem uI(r:Rel T0 B σ a w X h)(T:TypeId)(size:Nat):∀(ps:List (Nat×Operand))(k:Nat)(rs:List (List At))(cells:Array Value),HH P σ T size ps k rs->(k+ps.length)*size<=cells.size->
   ∃iy ys,Instr.fill (fun i=>some (i*size,size)) cells (ps.map fun x=>(x.1,a.eval x.2))=some iy/\iy.toList=place cells.toList (k*size) ys/\YJ (YR (Tof T0 X) h σ.ob w) rs.flatten ys/\(∀q∈rs,q.length=size)/\rs.length=ps.length
 |[],k,rs,cells,hb,_=>zBn
 |(i,x)::ps,k,rs,cells,hb,hl=>by
  obtain⟨rfl,hg,hf,hlen,rest,hb,rfl⟩:=hb;have hx:=UL hf (r.arg (P:=P) T x rfl hg)
  have hl2:=hx.length;have e1:cells.toList.length=cells.size:=Array.length_toList;have e2:(a.eval x).cells.toList.length=(a.eval x).cells.size:=Array.length_toList;have hmul:(i+(ps.length+1))*size=i*size+size+ps.length*size:=zB5;simp only[List.length_cons]at hl;have heq:=OF (i*size) (a.eval x).cells cells zAC;have dA:((a.eval x).cells.zipIdx.foldl (fun cs x=>cs.setIfInBounds (i*size+x.2) x.1) cells).size=cells.size:=by rw[<-Array.length_toList,heq,Xu _ _ _ zAC,e1]
  have hmul2:(i+1+ps.length)*size=i*size+size+ps.length*size:=zB5;obtain⟨iy,ys,h1,h2,h3,h4,h5⟩:=uI r T size ps (i+1) rest _ hb (by rw[dA];omega);have eC:ys.length=ps.length*size:=by rw[<-h3.length,YV rest size h4,h5]
  refine⟨iy,(a.eval x).cells.toList++ys,?_,?_,?_,?_,by simp[h5]⟩
  ·simp only[List.map_cons,Instr.fill];rw[if_neg zAk];exact h1
  ·rw[h2,heq];rw[show(i+1)*size=i*size+(a.eval x).cells.toList.length by rw[Nat.add_mul];omega];exact FG _ _ _ _ zAk
  ·rw[List.flatten_cons];exact hx.append h3
  ·intro q hq;rcases List.mem_cons.1 hq with rfl|hq
   ·exact hlen
   ·exact h4 q hq
theorem NL(r:Rel T0 B σ a w X h){T:TypeId}{rows:List (List At)}(ig:o.op= .buildSlice T n parts)(hd:o.dst=some d)(gj:σ.fresh d=true)
  (ht:XS P T=true) (hz:QE P (ZS P T)=true) (gp:0<P.cellsOf (ZS P T)) (hn:parts.toList.length=n) (hsm:n*P.cellsOf (ZS P T)<=16777216) (hb:HH P σ (ZS P T) (P.cellsOf (ZS P T)) parts.toList 0 rows) (hrf:Yb d rows.flatten=false)
  (hK:∀a' w',JV T0 B (σ.new d (.one (.sref d 0 0 rows.length)) [.lit (P.cellsOf (ZS P T)) rows]) a' w'->XL B w w'->K a' w'):o.wp P a w K Q:=by
 obtain⟨ti,hu,hi,e7⟩:=Xs ht;obtain⟨i,z,row,fP,dN,ep,dA,da,fv,eg⟩:=yz hz;rw[hi]at fP;cases fP;have ez:(zeroValue (ZS P T)).run P w= .ok z w:=by simp[zeroValue,typeInfo,hi,dN]
 obtain⟨zero,hzero⟩:∃zero:Array Value,(n*P.cellsOf (ZS P T)=0->zero=#[])/\(¬n*P.cellsOf (ZS P T)=0->zero=z.cells):=by
  by_cases h0:n*P.cellsOf (ZS P T)=0
  ·exact⟨#[],fun _=>rfl,fun hh=>absurd h0 hh⟩
  ·exact⟨z.cells,fun hh=>absurd hh h0,fun _=>rfl⟩
 obtain⟨iy,ys,h1,h2,h3,h4,h5⟩:=uI r (ZS P T) (P.cellsOf (ZS P T)) parts.toList 0 rows ((Array.range (n*P.cellsOf (ZS P T))).map (zero[·%zero.size]!)) hb (by simp[hn]);have eC:ys.length=n*P.cellsOf (ZS P T):=by rw[<-h3.length,YV rows _ h4,h5,hn]
 have gM:iy.toList=ys:=by rw[h2];unfold place;simp[eC]
 have dO:(parts.map fun(x:Nat×Operand)=>(x.1,a.eval x.2)).toList=parts.toList.map fun x=>(x.1,a.eval x.2):=zAE;have gA:(execOp a.eval o).run P w= .ok (.value (.slice (some ⟨w.heap.size,0,none⟩) n n)) (w.alloc (.cells iy (ZS P T))):=by
  have dV:¬(n*P.cellsOf (ZS P T)>2^24):=zAC;by_cases h0:n*P.cellsOf (ZS P T)=0
  ·have cr:=hzero.1 h0;subst cr;simp only[execOp,ig,Instr.buildSlice,Sem.run_bind,run_underlying hu,Result.andThen_ok,J4 hi,if_neg dV,if_pos h0,dO,h1,newRow,Sem.run_pure,run_newObj_alloc]
  ·have cr:=hzero.2 h0;subst cr;simp only[execOp,ig,Instr.buildSlice,Sem.run_bind,run_underlying hu,Result.andThen_ok,J4 hi,if_neg dV,if_neg h0,ez,dO,h1,newRow,Sem.run_pure,run_newObj_alloc]
 unfold Oper.wp;rw[gA,Oper.upon_value,hd];have hlen:rows.length=n:=by rw[h5,hn]
 have hg:=World.grownBy_alloc w (.cells iy (ZS P T)) none;have hD:=St.zC gj;have hT:∀b k v,Tof T0 X b k->w.cell? ⟨b,k,none⟩=some v->(w.alloc (.cells iy (ZS P T))).cell? ⟨b,k,none⟩=some v/\Tof T0 X b k:=by intro b k v hb iz;refine⟨?_,hb⟩;rw[World.cell?_of_block (hg.block b (r.Tlt hb) zAE)];exact iz
 have aw:iy.size=n*P.cellsOf (ZS P T):=by rw[<-Array.length_toList,gM,eC]
 have eU:n<=maxLen:=by have:n<=n*P.cellsOf (ZS P T):=Nat.le_mul_of_pos_right _ gp;simp only[maxLen];omega
 have iv:(w.alloc (.cells iy (ZS P T))).ownsRow 0 (ZS P T) (P.cellsOf (ZS P T)) (.slice (some ⟨w.heap.size,0,none⟩) n n) rows.length ys:=
  ⟨by rw[eC,hlen],.inr ⟨w.heap.size,n,iy,by rw[hlen],Nat.zero_le _,heap_alloc_new w _,zAC,eU,aw,by rw[gM,hlen,List.take_of_length_le zAC]⟩⟩
 refine hK _ _ ⟨X,fun t j=>if t=d then Hd.of (.slice (some ⟨w.heap.size,0,none⟩) n n)else h t j,?_⟩ (XL.PW hg r.hB);have gy:(σ.new d (.one (.sref d 0 0 rows.length)) [.lit (P.cellsOf (ZS P T)) rows]).ob d 0= .lit (P.cellsOf (ZS P T)) rows:=zBQ
 have hc:∀t j,t≠d->Cpt h (fun t j=>if t=d then Hd.of (.slice (some ⟨w.heap.size,0,none⟩) n n)else h t j) σ.ob (σ.new d (.one (.sref d 0 0 rows.length)) [.lit (P.cellsOf (ZS P T)) rows]).ob t j:=by
  intro t j ij;have he:(σ.new d (.one (.sref d 0 0 rows.length)) [.lit (P.cellsOf (ZS P T)) rows]).ob t j=σ.ob t j:=zCJ
  exact Cpt.same (by simp[ij]) he
 refine r.new gj hg (fun _ hb=>hb) (fun _ hb=>.inl hb) _ _ [.lit (P.cellsOf (ZS P T)) rows] (fun _=>Hd.of (.slice (some ⟨w.heap.size,0,none⟩) n n)) ?_ (fun j=>?_) (fun j b _ hb=>hb) (fun j b _ hR=>?_) (fun j j' b ij gf _ _=>?_)
 ·refine⟨Jn iv,fun q' gB hO gG=>(by rw[gy]at gG;cases gG),fun gB hO gG=>?_⟩;rw[gy]at gG;cases gG;simp only[if_true];exact TO iv
 ·cases j with
  |zero=>exact⟨ZS P T,ys,iv,h4,Te hT hc hrf h3⟩
  |succ j=>simp[Yr,JZ]
 ·simp[Hd.of,blk]at hR;subst hR;refine⟨Nat.le_refl _,fun cL=>?_,zAE⟩;have:=(r.hX _ cL).2;omega
 ·have:∀j,Yr [Ob.lit (P.cellsOf (ZS P T)) rows] j≠ .none->j=0:=by
   intro j hj;cases j with
   |zero=>rfl
   |succ j=>simp[Yr]at hj
  rw[this j ij,this j' gf]
theorem tV{T:CS}{ob:Nat->Nat->Ob}:∀{xs:List At}{ds:List D}{vs:List Value},zD xs=some ds->YJ (YR T h ob w) xs vs->(∀x∈xs,∀s r,x≠ .d (.sl s r))->∀(w':World)(S:Nat->Prop)(k:Nat)(v:Value)(d:D),vs[k]?=some v->ds[k]?=some d->Own w' v d S
 |[],ds,vs,hz,ir,_,w',S,k,v,d,hv,_=>by cases ir;simp at hv
 |x::xs,ds,vs,hz,ir,cu,w',S,k,v,d,hv,hd=>by
  cases ir with
  |cons hx ir=>
   cases x with
   |d x=>
    simp only[zD,Option.map_eq_some_iff]at hz;obtain⟨bk,ev,rfl⟩:=hz;cases k with
    |zero=>
     simp at hv hd;subst hv;subst hd;cases x with
     |sl s r=>exact absurd rfl (cu _ zAE s r)
     |int k n=>cases(show Rd _ _ _ _ from hx);exact .int _ _ _
     |bool b=>cases(show Rd _ _ _ _ from hx);exact .bool _ _
     |str s=>cases(show Rd _ _ _ _ from hx);exact .str _ _
     |unk=>exact .unk _ (Rd.X1 hx) _
    |succ k=>exact tV ev ir (fun x hx=>cu x (by simp[hx])) w' S k v d (by simpa using hv) (by simpa using hd)
   |nil s=>
    simp only[zD,Option.map_eq_some_iff]at hz;obtain⟨bk,ev,rfl⟩:=hz;cases k with
    |zero=>simp at hv hd;subst hv;subst hd;cases hx;exact .sl _ s [] _ 0 [] (fun _ _=>False) (World.ownsRow_nil w' 0 0 s) zBT (fun b hb=>by cases hb) rfl (fun k x d hx=>by simp at hx) (fun k b hb=>hb.elim) (fun i j b hb=>hb.elim)
    |succ k=>exact tV ev ir (fun x hx=>cu x (by simp[hx])) w' S k v d (by simpa using hv) (by simpa using hd)
   |any=>simp[zD]at hz
   |sref=>simp[zD]at hz
   |ptr=>simp[zD]at hz
   |bptr=>simp[zD]at hz
   |fn=>simp[zD]at hz
   |rptr=>simp[zD]at hz
   |tref=>simp[zD]at hz
def sv(σ:St)(x:V)(size:Nat)(im:List (List D))(l:List (Nat×Nat)):Prop:=
 match x with
 |.one (.nil _)=>im=[]/\l=[]
 |.one (.sref t j lo len)=>σ.ob t j= .arr true size im/\lo=0/\len=im.length/\l=[(t,j)]
 |_=>False
def rD(σ:St)(x:V)(size:Nat)(news:List (List D))(l:List (Nat×Nat)):Prop:=
 match x with
 |.one (.sref t j lo len)=>∃rows,σ.ob t j= .lit size rows/\lo=0/\len=rows.length/\KT σ rows=some news/\Jc σ rows/\l=XC rows.flatten
 |_=>False
theorem CY(r:Rel T0 B σ a w X h){t e0:TypeId}{m cap:Nat}{ti:TypeInfo}{z:Value}{xs:List Value}(ig:o.op= .call ⟨.builtin .append,#[x,y],#[t,t]⟩)(hd:o.dst=some d)
  (hu:P.underlying t=some (.slice (ZS P t))) (hi:P.info? (ZS P t)=some ti) (dN:ti.zero=some z) (da:z.cells.size=ti.size) (gp:0<ti.size) (gj:σ.fresh d=true) (gl:(m+n)*ti.bytes<=140737488355328) (cJ:m+n<=9223372036854775807)
  (iv:w.ownsRow 0 e0 ti.size (a.eval x) m xs) (fq:∀b,blk (a.eval x)=some b->N b) (hN:∀b,N b->¬B b/\¬X b/\b<w.heap.size/\∀u j,σ.ob u j≠ .none->¬(h u j).u b)
  (aM:a.eval y= .slice base n cap) (dq:base=none->cap=0/\n=0) (eC:ys.length=n*ti.size) (iz:∀ad,base=some ad->∀k v,ys[k]?=some v->w.cell? (ad.add k)=some v) (h1c:∀v∈ys,v.oneCell'=true)
  (dv:rs.length=m+n) (hrz:∀q∈rs,q.length=ti.size) (hOw:KC w (xs++ys) rs.flatten (fun b=>N b/\blk (a.eval x)≠some b))
  (hK:∀a' w',JV T0 B (σ.new d (.one (.sref d 0 0 (m+n))) [.arr true ti.size rs]) a' w'->XL B w w'->K a' w'):o.wp P a w K Q:=by
 have hD:=St.zC gj;have key:∀(v':Value)(w':World)(e1:TypeId),(Builtin.append_ #[t,t] o.type #[a.eval x,a.eval y]).run P w= .ok v' w'->w'.ownsRow 0 e1 ti.size v' (m+n) (xs++ys)->
   w.grownBy w' (blk (a.eval x))->(∀b,blk v'=some b->(w.heap.size<=b/\b<w'.heap.size)\/blk (a.eval x)=some b)->o.wp P a w K Q:=by
  intro v' w' e1 gA gG ew hbv;unfold Oper.wp;have av:(execOp a.eval o).run P w= .ok (.value v') w':=by simp only[execOp,ig,resolve,invoke,builtin,Sem.run_bind,Sem.run_pure,Result.andThen_ok,List.map_toArray,List.map_cons,List.map_nil,gA]
  rw[av,Oper.upon_value,hd];refine hK _ _ ⟨X,fun u j=>if u=d then⟨v',fun k=>((xs++ys)[k]?).getD undef,fun b=>blk v'=some b\/(N b/\blk (a.eval x)≠some b)⟩else h u j,?_⟩
   ⟨ew.os,ew.tape,ew.output,ew.size,fun k hk=>ew.block k (r.hB k hk) (fun e=>(hN k (fq k e.symm)).1 hk)⟩
  have gy:(σ.new d (.one (.sref d 0 0 (m+n))) [.arr true ti.size rs]).ob d 0= .arr true ti.size rs:=zBQ;have g6:w'.ownsRow 0 e1 ti.size v' rs.length (xs++ys):=by rw[dv];exact gG
  have hOw2:KC w' (xs++ys) rs.flatten (fun b=>(blk v'=some b\/(N b/\blk (a.eval x)≠some b))/\blk v'≠some b):=by
   refine(hOw.Hf (fun b hb=>ew.block b (hN b hb.1).2.2.1 (fun e=>hb.2 e.symm))).mono (fun b hb=>⟨.inr hb,fun e=>?_⟩);rcases hbv b e with hl|hl
   ·have:=(hN b hb.1).2.2.1;omega
   ·exact hb.2 hl
  refine r.uv gj N ew.size (fun k hk ij=>ew.block k hk (fun e=>ij (fq k e.symm))) (fun b hb=>⟨(hN b hb).1,(hN b hb).2.1,fun u j _ ij=>(hN b hb).2.2.2 u j ij⟩) (fun _ hb=>hb) (fun _ hb=>.inl hb) _ _ [.arr true ti.size rs]
   (fun _=>⟨v',fun k=>((xs++ys)[k]?).getD undef,fun b=>blk v'=some b\/(N b/\blk (a.eval x)≠some b)⟩) ?_ (fun j=>?_) (fun j b _ hb=>.inl hb) (fun j b ij hR=>?_) (fun j j' b ij gf _ _=>?_)
  ·refine⟨Jn gG,fun q' gB hO hh=>?_,fun gB hO hh=>by rw[gy]at hh;cases hh⟩;rw[gy]at hh;cases hh;simp only[if_true];rw[<-dv];exact TO g6
  ·cases j with
   |zero=>exact⟨e1,xs++ys,g6,hrz,hOw2,fun k x d hx _ _=>by simp[hx]⟩
   |succ j=>simp[Yr,JZ]
  ·rcases hR with hR|hR
   ·rcases hbv b hR with h1|h1
    ·exact⟨.inl h1.1,fun hx=>by have:=(r.hX b hx).2;omega,h1.2⟩
    ·have h2:=hN b (fq b h1);exact⟨.inr (fq b h1),h2.2.1,by have:=ew.size;omega⟩
   ·have h2:=hN b hR.1;exact⟨.inr hR.1,h2.2.1,by have:=ew.size;omega⟩
  ·have:∀j,Yr [Ob.arr true ti.size rs] j≠ .none->j=0:=by
    intro j hj;cases j with
    |zero=>rfl
    |succ j=>simp[Yr]at hj
   rw[this j ij,this j' gf]
 cases base with
 |none=>
  obtain⟨rfl,rfl⟩:=dq rfl;have hys:ys=[]:=List.eq_nil_of_length_eq_zero (by rw[eC];simp)
  have gW:∃base cap,a.eval x= .slice base m cap/\m<=cap/\(base=none->cap=0):=by
   rcases iv.2 with⟨h1,h2⟩|⟨g,cap,cur,h1,_,_,eW,_⟩
   ·exact⟨none,0,by rw[h1,h2],zAC,fun _=>rfl⟩
   ·exact⟨_,cap,h1,eW,(fun hh=>by cases hh)⟩
  obtain⟨base,cap,hex,eW,hb0⟩:=gW;refine key (a.eval x) w e0 ?_ (by rw[hys];simpa using iv) ⟨rfl,rfl,rfl,Nat.le_refl _,fun _ _ _=>rfl⟩ (fun b hb=>.inr hb);rw[aM,hex];exact SK t o.type _ ti hu hi base m cap eW hb0
 |some ad=>obtain⟨v',w',e1,gA,gG,ew,hbv⟩:=MF (P:=P) (w:=w) t o.type _ e0 ti z hu hi dN da gp (a.eval x) m xs iv ad n cap ys eC (iz ad rfl) h1c (by simp only[maxLen];omega) gl;refine key v' w' e1 ?_ gG ew hbv;rw[aM];exact gA
theorem Be(r:Rel T0 B σ a w X h){t:TypeId}(ig:o.op= .call ⟨.builtin .append,#[x,y],#[t,t]⟩)(hd:o.dst=some d)
  (dt:gOf (look P σ t x)=true) (du:gOf (look P σ t y)=true) (ht:XS P t=true) (hz:QE P (ZS P t)=true) (gp:0<P.cellsOf (ZS P t))
  (fe:sv σ (unc (look P σ t x)) (P.cellsOf (ZS P t)) im l1) (db:rD σ (unc (look P σ t y)) (P.cellsOf (ZS P t)) news l2) (gm:(l1++l2).Nodup) (gj:(σ.Z7 (l1++l2)).fresh d=true)
  (gl:(im.length+news.length)*P.bytesOf (ZS P t)<=140737488355328) (cJ:im.length+news.length<=9223372036854775807)
  (hK:∀a' w',JV T0 B ((σ.Z7 (l1++l2)).new d (.one (.sref d 0 0 (im.length+news.length))) [.arr true (P.cellsOf (ZS P t)) (im++news)]) a' w'->XL B w w'->K a' w'):o.wp P a w K Q:=by
 obtain⟨ti,hu,hi,e7⟩:=Xs ht;obtain⟨i,z,row,fP,dN,ep,dA,da,fv,eg⟩:=yz hz;rw[hi]at fP;cases fP;have ak:P.bytesOf (ZS P t)=ti.bytes:=zBy
 rw[ak]at gl;rw[<-fv]at fe db gp hK;have cj:=r.arg (P:=P) t x rfl dt
 have hvy:=r.arg (P:=P) t y rfl du;obtain⟨t2,j2,rows,hsy,aa,eH,ee,hl2⟩:∃t2 j2 rows,unc (look P σ t y)= .one (.sref t2 j2 0 rows.length)/\σ.ob t2 j2= .lit ti.size rows/\KT σ rows=some news/\Jc σ rows/\l2=XC rows.flatten:=by
  unfold rD at db;split at db
  ·rename_i t2 j2 lo len heq;obtain⟨rows,ho,rfl,rfl,hm,hk,rfl⟩:=db;exact⟨t2,j2,rows,heq,ho,hm,hk,rfl⟩
  ·exact db.elim
 subst hl2;obtain⟨hmv1,hmv2,hmv3⟩:=qE eH;have hmok':=xU ee
 rw[hsy]at hvy;have h0:=r.obj t2 j2
 rw[aa]at h0;obtain⟨e2,ys,g6,hz2,cg⟩:=h0;obtain⟨_,hfull2,_⟩:=hvy.2.2 _ _ aa;have hey0:a.eval y=(h t2 j2).v:=hfull2 rfl rfl
 have hnz:∀q∈news,q.length=ti.size:=hmv3 _ hz2;have eS:=Nb r cg hmv1 hmok' (List.nodup_append.1 gm).2.1;have fp:∃e0 xs,w.ownsRow 0 e0 ti.size (a.eval x) im.length xs/\(∀q∈im,q.length=ti.size)/\KC w xs im.flatten (fun b=>zI σ h l1 b/\blk (a.eval x)≠some b)/\(∀b,blk (a.eval x)=some b->zI σ h l1 b):=by
  unfold sv at fe;split at fe
  ·rename_i s heq;obtain⟨rfl,rfl⟩:=fe;rw[heq]at cj;have he:a.eval x= .slice none 0 0:=cj
   rw[he];exact⟨0,[],World.ownsRow_nil w 0 0 _,zBT,KC.nil _,(fun b hb=>by cases hb)⟩
  ·rename_i u j lo len heq;obtain⟨ho,rfl,rfl,rfl⟩:=fe;rw[heq]at cj;have ck:YR (Tof T0 X) h σ.ob w (.sref u j 0 im.length) (a.eval x):=cj
   obtain⟨_,fc,_⟩:=ck.2.1 _ _ _ ho;have he:a.eval x=(h u j).v:=fc rfl rfl
   have h0:=r.obj u j;rw[ho]at h0;obtain⟨e,xs,iv,fR,ir,hn⟩:=h0;have hZ:σ.ob u j≠ .none:=zA9;rw[he];exact⟨e,xs,iv,fR,ir.mono (fun b hb=>⟨⟨(u,j),zAE,hZ,hb.1⟩,hb.2⟩),fun b hb=>⟨(u,j),zAE,hZ,r.ub u j b hZ hb⟩⟩
  ·exact fe.elim
 obtain⟨e0,xs,iv,hoz,ao,fq⟩:=fp;have eC:ys.length=news.length*ti.size:=by rw[eS.1,YV news ti.size hnz]
 have eO:∀b,zI σ h l1 b->zI σ h (XC rows.flatten) b->False:=by
  rintro b ⟨p,hp,ij,hu⟩ ⟨p',aG,gf,ef⟩;obtain⟨e1,e2⟩:=r.inj p.1 p.2 p'.1 p'.2 b ij gf hu ef;have eo:p=p':=Prod.ext e1 e2
  subst eo;exact(List.nodup_append.1 gm).2.2 p hp p aG rfl
 have bo:∀b,zI σ h (l1++XC rows.flatten) b↔zI σ h l1 b\/zI σ h (XC rows.flatten) b:=by
  intro b;constructor
  ·rintro⟨p,hp,hr⟩;rcases List.mem_append.1 hp with hp|hp
   ·exact .inl ⟨p,hp,hr⟩
   ·exact .inr ⟨p,hp,hr⟩
  ·rintro(⟨p,hp,hr⟩|⟨p,hp,hr⟩)
   ·exact⟨p,by simp[hp],hr⟩
   ·exact⟨p,by simp[hp],hr⟩
 have af:∀b,zI σ h (XC rows.flatten) b->blk (a.eval x)≠some b:=fun b hb e=>eO b (fq b e) hb;have hv:∃base cap,a.eval y= .slice base news.length cap/\(base=none->cap=0/\news.length=0)/\∀ad,base=some ad->∀k v,ys[k]?=some v->w.cell? (ad.add k)=some v:=by
  rw[hey0];rcases g6.2 with⟨hn1,hn2⟩|⟨g2,cap2,cur2,gn,_,dD,hnc2,hmx2,hcs2,htk2⟩
  ·have hnl:news.length=0:=by rw[<-hmv2];exact hn2
   exact⟨none,0,by rw[hn1,hnl],fun _=>⟨rfl,hnl⟩,fun ad hh=>by cases hh⟩
  ·refine⟨_,cap2,by rw[gn,hmv2],fun hh=>(by cases hh),fun ad hh k v hk=>?_⟩;cases hh;rw[qO];refine zU dD _ _ ?_;rw[<-htk2,List.getElem?_take]at hk;split at hk
   ·simpa using hk
   ·cases hk
 obtain⟨base,cap,aM,dq,iz⟩:=hv;refine CY (r.Z7 (l1++XC rows.flatten)) ig hd hu hi dN da gp gj gl cJ iv (fun b hb=>(bo b).2 (.inl (fq b hb))) (r.z4 (l1++XC rows.flatten)) aM dq eC iz
  (fun u ef=>by
   obtain⟨x',_,cL⟩:=cg.mem ef;exact YR.X1 cL) (List.length_append ..) (fun q hq=>(List.mem_append.1 hq).elim (hoz q) (hnz q)) ?_ hK
 rw[List.flatten_append];exact(ao.append eS (fun b fB gQ=>eO b fB.1 gQ)).mono (fun b hb=>hb.elim (fun hb=>⟨(bo b).2 (.inl hb.1),hb.2⟩) (fun hb=>⟨(bo b).2 (.inr hb),af b hb⟩))
theorem KC.pick{xs:List Value}(h1:KC w xs ds S){p q:Nat}(hp:p<=q)(hq:q+n<=xs.length):KC w (xs.take p++cut xs q n) (ds.take p++cut ds q n) S:=by
 obtain⟨hl,Sk,hk,hs,hd⟩:=h1;have bA:(xs.take p).length=p:=zBe
 have bj:(ds.take p).length=p:=zBe;refine⟨by rw[List.length_append,List.length_append,bA,bj,XJ _ _ _ hq,XJ _ _ _ zAC],fun k=>if k<p then Sk k else Sk (q+(k-p)),fun k x d hx hJ=>?_,fun k b hb=>?_,fun i j b hi hj=>?_⟩
 ·by_cases hkp:k<p
  ·rw[List.getElem?_append_left zAC]at hx hJ;rw[List.getElem?_take,if_pos hkp]at hx hJ;simp only[if_pos hkp];exact hk k x d hx hJ
  ·rw[List.getElem?_append_right zAC,bA]at hx;rw[List.getElem?_append_right zAC,bj]at hJ;simp only[if_neg hkp];exact hk _ x d (ze _ _ _ _ _ hx) (ze _ _ _ _ _ hJ)
 ·dsimp only at hb;split at hb<;>exact hs _ b hb
 ·dsimp only at hi hj;split at hi<;>split at hj
  ·exact hd _ _ b hi hj
  ·have:=hd _ _ b hi hj;omega
  ·have:=hd _ _ b hi hj;omega
  ·have:=hd _ _ b hi hj;omega
theorem MO(rows:List (List D))(size:Nat)(hz:∀r∈rows,r.length=size)(lo n:Nat)(hle:lo+n<=rows.length):(cut rows lo n).flatten=cut rows.flatten (lo*size) (n*size):=by
 have hdz:∀r∈rows.drop lo,r.length=size:=fun r hr=>hz r (List.mem_of_mem_drop hr);have e1:(rows.drop lo).flatten=rows.flatten.drop (lo*size):=by
  have h1:=Ke rows size hz lo zAC;have h2:(rows.take lo).flatten++(rows.drop lo).flatten=rows.flatten:=zB1;have h3:(rows.take lo).flatten.length=lo*size:=by rw[YV _ size (fun r hr=>hz r (List.mem_of_mem_take hr)),List.length_take];congr 1;omega
  rw[<-h2,<-h3,List.drop_left]
 unfold cut;rw[Ke (rows.drop lo) size hdz n (by rw[List.length_drop];omega),e1]
theorem Cx(r:Rel T0 B σ a w X h){t:TypeId}(ig:o.op= .call ⟨.builtin .append,#[x,y],#[t,t]⟩)(hd:o.dst=some d)
  (dt:gOf (look P σ t x)=true) (du:gOf (look P σ t y)=true) (ht:XS P t=true) (hz:QE P (ZS P t)=true) (gp:0<P.cellsOf (ZS P t))
  (hx:unc (look P σ t x)= .one (.sref u j 0 len)) (hy:unc (look P σ t y)= .one (.sref u j lo n)) (ho:σ.ob u j= .arr true (P.cellsOf (ZS P t)) rows) (hle:len<=lo) (cB:lo+n<=rows.length) (gj:(σ.Z7 [(u,j)]).fresh d=true)
  (gl:(len+n)*P.bytesOf (ZS P t)<=140737488355328) (cJ:len+n<=9223372036854775807)
  (hK:∀a' w',JV T0 B ((σ.Z7 [(u,j)]).new d (.one (.sref d 0 0 (len+n))) [.arr true (P.cellsOf (ZS P t)) (rows.take len++cut rows lo n)]) a' w'->XL B w w'->K a' w'):o.wp P a w K Q:=by
 obtain⟨ti,hu,hi,e7⟩:=Xs ht;obtain⟨i,z,row,fP,dN,ep,dA,da,fv,eg⟩:=yz hz;rw[hi]at fP;cases fP;have ak:P.bytesOf (ZS P t)=ti.bytes:=zBy
 rw[ak]at gl;rw[<-fv]at ho gp hK;have cj:=r.arg (P:=P) t x rfl dt
 have hvy:=r.arg (P:=P) t y rfl du;rw[hx]at cj;rw[hy]at hvy;have ck:YR (Tof T0 X) h σ.ob w (.sref u j 0 len) (a.eval x):=cj;have hvy':YR (Tof T0 X) h σ.ob w (.sref u j lo n) (a.eval y):=hvy;obtain⟨_,_,eF,_⟩:=ck.2.1 _ _ _ ho;have he:a.eval x=II (h u j).v len:=eF rfl;obtain⟨_,_,_,base,cap,aM,fS,hcm,dq,hb⟩:=hvy'.2.1 _ _ _ ho;have h0:=r.obj u j;rw[ho]at h0;obtain⟨e0,zs,dw,fR,ir,hn⟩:=h0;have hZ:σ.ob u j≠ .none:=zA9;have hzl:zs.length=rows.length*ti.size:=dw.1;have hm1:len*ti.size<=lo*ti.size:=Nat.mul_le_mul_right _ hle;have hm2:lo*ti.size+n*ti.size<=zs.length:=by rw[hzl,<-Nat.add_mul];exact Nat.mul_le_mul_right _ cB
 let xs:=zs.take (len*ti.size)
 let ys:=cut zs (lo*ti.size) (n*ti.size)
 have iv:w.ownsRow 0 e0 ti.size (a.eval x) len xs:=by rw[he];exact Wg dw zAC
 have eC:ys.length=n*ti.size:=XJ _ _ _ hm2;have hblx:blk (a.eval x)=blk (h u j).v:=by rw[he,Tf]
 have fK:(rows.take len++cut rows lo n).flatten=rows.flatten.take (len*ti.size)++cut rows.flatten (lo*ti.size) (n*ti.size):=by rw[List.flatten_append,Ke rows ti.size fR len zAC,MO rows ti.size fR lo n cB]
 have hflr:∀q∈rows.take len++cut rows lo n,q.length=ti.size:=by
  intro q hq;rcases List.mem_append.1 hq with hq|hq
  ·exact fR q (List.mem_of_mem_take hq)
  ·exact fR q (List.mem_of_mem_drop (List.mem_of_mem_take hq))
 have hlen:(rows.take len++cut rows lo n).length=len+n:=by rw[List.length_append,List.length_take,XJ _ _ _ cB];omega
 have hg0:∀b,(h u j).u b->zI σ h [(u,j)] b:=fun b hb=>⟨(u,j),zAE,hZ,hb⟩;have fq:∀b,blk (a.eval x)=some b->zI σ h [(u,j)] b:=fun b hb=>hg0 b (r.ub u j b hZ (by rw[<-hblx];exact hb));refine CY (r.Z7 [(u,j)]) (xs:=xs) (ys:=ys) ig hd hu hi dN da zAC gj gl cJ iv fq (r.z4 [(u,j)]) aM (fun hh=>⟨dq hh,by have:=dq hh;omega⟩) eC (fun ad had k v hv=>?_) (fun v hv=>?_) hlen hflr ?_ hK
 ·have eN:0<n:=by
   rcases Nat.eq_zero_or_pos n with h0|h0
   ·have hk:=(List.getElem?_eq_some_iff.1 hv).1;rw[eC,h0]at hk;simp at hk
   ·exact h0
  obtain⟨b,dc,hh,eh⟩:=hb eN;rw[had]at eh;cases eh;rcases dw.2 with⟨hn1,_⟩|⟨g,bn,cur,e9,_,hgg,eW,eU,eT,et⟩
  ·rw[hh]at hn1;cases hn1
  ·rw[hh]at e9;cases e9;have h1:=ze _ _ _ _ _ hv
   rw[qO];refine zU hgg _ _ ?_;rw[<-et,List.getElem?_take]at h1;split at h1
   ·exact h1
   ·cases h1
 ·have gn:v∈zs:=List.mem_of_mem_drop (List.mem_of_mem_take hv);obtain⟨hl,Sk,hk,_⟩:=ir;obtain⟨k,ff⟩:=List.mem_iff_getElem?.1 gn;have bD:k<rows.flatten.length:=by rw[<-hl];exact(List.getElem?_eq_some_iff.1 ff).1
  exact(hk k v _ ff (List.getElem?_eq_getElem bD)).X1
 ·rw[fK];exact(ir.pick hm1 hm2).mono (fun b hb=>⟨hg0 b hb.1,by rw[hblx];exact hb.2⟩)
open Go.RowKit
def AE:List At->Bool
 |[]=>true
 |.d (.sl _ _)::_=>false
 |_::xs=>AE xs
theorem vw:∀{xs:List At},AE xs=true->∀x∈xs,∀s r,x≠ .d (.sl s r)
 |[],_,x,hx,_,_=>zCB
 |y::xs,h,x,hx,s,r=>by
  have h2:AE xs=true/\∀s r,y≠ .d (.sl s r):=by
   cases y with
   |d z=>cases z with
    |sl s r=>cases h
    |_=>exact⟨h,fun s r e=>by cases e⟩
   |_=>exact⟨h,fun s r e=>by cases e⟩
  rcases List.mem_cons.1 hx with rfl|hx
  ·exact h2.2 s r
  ·exact vw h2.1 x hx s r
theorem DK(r:Rel T0 B σ a w X h){T:TypeId}(ig:o.op= .makeSlice T x x)(hd:o.dst=some d)(gj:σ.fresh d=true)
  (ht:XS P T=true) (hz:QE P (ZS P T)=true) (ep:UD P 12 (ZS P T)=some z) (hzd:zD z=some zr) (hzf:AE z=true) (gp:0<P.cellsOf (ZS P T)) (hx:SU P σ x k (n:Int)) (ak:P.bytesOf (ZS P T)*n<=281474976710656) (cJ:n<=9223372036854775807)
  (hK:∀a' w',JV T0 B (σ.new d (.one (.sref d 0 0 n)) [.arr true (P.cellsOf (ZS P T)) (List.replicate n zr)]) a' w'->XL B w w'->K a' w'):o.wp P a w K Q:=by
 obtain⟨ti,hu,hi,e7⟩:=Xs ht;obtain⟨i,zv,row,fP,dN,aq,dA,da,fv,eg⟩:=yz hz;rw[hi]at fP;cases fP;rw[ep]at aq;cases aq;have hex:=qa r hx
 have hby':(ti.bytes:Int)*(n:Int)<=281474976710656:=by have:P.bytesOf (ZS P T)=ti.bytes:=zBy;rw[this]at ak;have h:((ti.bytes*n:Nat):Int)<=281474976710656:=zAC;rwa[Int.natCast_mul]at h
 have gA:=run_make (P:=P) w T (ZS P T) ti zv hu hi dN k k n n zAC (Int.le_refl _) hby' zAC;simp only[Int.toNat_natCast]at gA;unfold Oper.wp;simp only[execOp,ig,hex,Sem.run_bind,gA,Result.andThen_ok,Sem.run_pure,Oper.upon_value,hd];have hzrd:=wS hzd (eg (Tof T0 X) h σ.ob w);have hzl:=hzrd.length;have e1:zv.cells.toList.length=zv.cells.size:=Array.length_toList;have bJ:zr.length=ti.size:=zAC;have dP:(madeCells zv.cells (n*ti.size)).toList.length=n*ti.size:=by rw[Array.length_toList,size_madeCells]
 have ax:∀q u,(madeCells zv.cells (n*ti.size)).toList[q]?=some u->zv.cells.toList[q%ti.size]?=some u:=by
  intro q u hq;have hD:q<n*ti.size:=zBf
  have hmod:q%ti.size<zv.cells.size:=by rw[da];exact Nat.mod_lt _ zAC
  have:(madeCells zv.cells (n*ti.size)).toList[q]?=some (zv.cells[q%zv.cells.size]!):=by simp[madeCells,hD]
  rw[this]at hq;cases hq;rw[da];simp[hmod]
 have cg:KC (w.alloc (.cells (madeCells zv.cells (n*ti.size)) (ZS P T))) (madeCells zv.cells (n*ti.size)).toList (List.replicate n zr).flatten (fun _=>False):=by
  refine⟨by rw[dP,YV _ ti.size (by intro q hq;rw[List.eq_of_mem_replicate hq];exact bJ)];simp,fun _ _=>False,fun q u dd hq eR=>?_,fun _ _ hb=>hb,fun _ _ _ hb=>hb.elim⟩;have hD:q<n*ti.size:=zBf
  rw[VG zr n q (by rw[bJ];exact hD),bJ]at eR;exact tV hzd (eg (Tof T0 X) h σ.ob w) (vw hzf) _ _ _ u dd (ax q u hq) eR
 have:=r.ot gj (World.grownBy_alloc w (.cells (madeCells zv.cells (n*ti.size)) (ZS P T)) none) (.slice (some ⟨w.heap.size,0,none⟩) n n) (e:=ZS P T) (size:=P.cellsOf (ZS P T)) (rows:=List.replicate n zr) (xs:=(madeCells zv.cells (n*ti.size)).toList)
  ⟨by rw[dP,fv];simp,.inr ⟨w.heap.size,n,_,zAE,Nat.zero_le _,heap_alloc_new w _,zAE,by simp only[maxLen];omega,by rw[size_madeCells,fv],by rw[List.take_of_length_le (by rw[dP,fv];simp)]⟩⟩
  (by intro q hq;rw[List.eq_of_mem_replicate hq];omega) cg
  (fun b hb=>by simp[blk]at hb;subst hb;exact⟨Nat.le_refl _,zAE⟩)
 rw[List.length_replicate]at this;exact hK _ _ this.1 this.2
theorem KC.place{xs:List Value}(h1:KC w xs ds S)(h2:KC w ys es S')(hd:∀b,S b->S' b->False)(o:Nat)(ho:o+ys.length<=xs.length):KC w (Vm.place xs o ys) (Vm.place ds o es) (fun b=>S b\/S' b):=by
 obtain⟨l1,Sk,a1,a2,a3⟩:=h1;obtain⟨l2,Sk',b1,b2,b3⟩:=h2;refine⟨by rw[Xu _ _ _ ho,Xu _ _ _ zAC,l1],fun k=>if o<=k/\k<o+ys.length then Sk' (k-o)else Sk k,fun k x d hx hJ=>?_,fun k b hb=>?_,fun i j b hi hj=>?_⟩
 ·rcases Vu xs o ys ho k x hx with⟨p1,p2,p3⟩|⟨p1,p3⟩
  ·rcases Vu ds o es zAC k d hJ with⟨_,_,p4⟩|⟨p4,_⟩
   ·simp only[p1,p2,and_self,if_true];exact b1 _ x d p3 p4
   ·exact absurd ⟨p1,zAC⟩ p4
  ·rcases Vu ds o es zAC k d hJ with⟨p4,p5,_⟩|⟨_,p4⟩
   ·exact absurd ⟨p4,zAC⟩ p1
   ·simp only[p1,if_false];exact a1 k x d p3 p4
 ·by_cases hk:o<=k/\k<o+ys.length
  ·simp only[hk,and_self,if_true]at hb;exact .inr (b2 _ b hb)
  ·simp only[hk,if_false]at hb;exact .inl (a2 k b hb)
 ·by_cases fP:o<=i/\i<o+ys.length
  ·simp only[fP,and_self,if_true]at hi;by_cases dL:o<=j/\j<o+ys.length
   ·simp only[dL,and_self,if_true]at hj;have:=b3 _ _ b hi hj;omega
   ·simp only[dL,if_false]at hj;exact(hd b (a2 j b hj) (b2 _ b hi)).elim
  ·simp only[fP,if_false]at hi;by_cases dL:o<=j/\j<o+ys.length
   ·simp only[dL,and_self,if_true]at hj;exact(hd b (a2 i b hi) (b2 _ b hj)).elim
   ·simp only[dL,if_false]at hj;exact a3 i j b hi hj
theorem Fi(r:Rel T0 B σ a w X h){T:TypeId}(ig:o.op= .store T x y)(hd:o.dst=none)(ht:jc P T=true)(dt:gOf (look P σ 0 x)=true)(du:gOf (look P σ T y)=true)
  (hx:unc (look P σ 0 x)= .one (.ptr t j i c)) (ho:σ.ob t j= .arr true size rows) (hi:i<rows.length) (fL:(unc (look P σ T y)).flat=true) (bU:Jd σ (unc (look P σ T y)).cells=some ds) (gF:QI σ (unc (look P σ T y)).cells)
  (gm:(XC (unc (look P σ T y)).cells).Nodup) (hnt:(t,j)∉XC (unc (look P σ T y)).cells) (htr:(σ.Z7 (XC (unc (look P σ T y)).cells)).yB (At.isT t)=false) (hl:ds.length=P.cellsOf T) (hle:c+P.cellsOf T<=size)
  (hK:∀a' w',JV T0 B ((σ.Z7 (XC (unc (look P σ T y)).cells)).Z0 t j (.arr true size (rows.set i (place (rows.getD i []) c ds)))) a' w'->XL B w w'->K a' w'):o.wp P a w K Q:=by
 obtain⟨_,ti,_,hti,_,_⟩:=VT ht;have hax:=r.arg (P:=P) 0 x hx dt
 obtain⟨b,cap,cur,e,xs,hb,he,hh,fS,eU,eT,et,hz,cf,_,iv⟩:=r.arr ho hax;obtain⟨iv,hn⟩:=iv rfl;have hy:=UL fL (r.arg (P:=P) T y rfl du)
 have eS:=Nb r hy bU gF gm;have eC:=eS.1;have e2:(a.eval y).cells.toList.length=(a.eval y).cells.size:=Array.length_toList;have e3:cur.toList.length=cur.size:=Array.length_toList;have gN:rows[i]?=some (rows.getD i []):=zA7;have hmul:i*size+size<=rows.length*size:=zBv;have hcap2:rows.length*size<=cap*size:=Nat.mul_le_mul_right _ fS;have gA:=run_store (P:=P) (w:=w) hti (o:=i*size+c) (val:=a.eval y) hh zAC zAC (fun u hu=>by obtain⟨x',_,cL⟩:=hy.mem hu;exact YR.X1 cL);have hZ:σ.ob t j≠ .none:=zA9;have gL:blk (h t j).v=some b:=by rw[hb];rfl
 have hB:=r.nf hZ gL;have fE:=r.ub t j b hZ gL;have bl:xs.length=rows.length*size:=by rw[cf,YV rows size hz]
 have dv:(rows.getD i []).length=size:=hz _ (List.mem_of_getElem? gN);generalize hL:XC (unc (look P σ T y)).cells=L at*;have r1:=r.Z7 L;have dB:(σ.Z7 L).ob t j= .arr true size rows:=by rw[St.KO,if_neg hnt,ho]
 have gi:=r.z4 L;have eO:∀b',(h t j).u b'->zI σ h L b'->False:=by rintro b' ef ⟨p,hp,ij,hup⟩;obtain⟨q1,q2⟩:=r.inj t j p.1 p.2 b' hZ ij ef hup;exact hnt (by rw[q1,q2];exact hp)
 unfold Oper.wp;simp only[execOp,ig,he,Sem.run_bind,gA,Result.andThen_ok,Sem.run_pure,Oper.upon_skip,hd];refine hK _ _ ⟨X,_,r1.change (by rw[dB];simp) zCa (fun k hk=>setRow_other w b k _ (fun e=>hk (e▸fE))) (zI σ h L) (fun b' hR=>gi b' hR) _ (by rw[dB];simp[Ob.pg])
  ⟨(h t j).v,fun k=>((place xs (i*size+c) (a.eval y).cells.toList)[k]?).getD undef,fun b'=>(h t j).u b'\/zI σ h L b'⟩ rfl (fun b' hR=>hR) (fun b' hR=>.inl (r.ub t j b' hZ hR)) (At.isT t) htr (.inl (fun u i c=>by simp[At.isT])) ?_⟩ (XL.setRow hB.1 _)
 have fN:=setRow_heap w b cur (place cur.toList (i*size+c) (a.eval y).cells.toList).toArray e (0,0) hh;have hU:∀b',b'≠b->(w.setRow b (place cur.toList (i*size+c) (a.eval y).cells.toList).toArray).heap[b']?=w.heap[b']?:=fun b' ij=>setRow_other w b b' _ ij;have ev:∀r∈rows.set i (place (rows.getD i []) c ds),r.length=size:=by
  intro r' fG;rcases List.mem_or_eq_of_mem_set fG with fG|fG
  ·exact hz r' fG
  ·rw[fG,Xu _ _ _ zAC,dv]
 refine⟨e,place xs (i*size+c) (a.eval y).cells.toList,⟨?_,.inr ⟨b,cap,_,by simpa using hb,Nat.zero_le _,fN,by simpa using fS,eU,?_,?_⟩⟩,ev,?_,fun k u d hu _ _=>by simp[hu]⟩
 ·rw[Xu _ _ _ zAC,bl];simp
 ·simp only[List.size_toArray];rw[Xu _ _ _ zAC,e3,eT]
 ·simp only[List.length_set];rw[IG _ _ _ _ zAC zAC,et]
 ·rw[xX size c ds zAC rows i _ gN hz];have k1:KC (w.setRow b (place cur.toList (i*size+c) (a.eval y).cells.toList).toArray) xs rows.flatten (fun b=>(h t j).u b/\blk (h t j).v≠some b):=iv.Hf (fun b' hR=>hU b' (fun e=>hR.2 (by rw[e];exact gL)))
  have k2:KC (w.setRow b (place cur.toList (i*size+c) (a.eval y).cells.toList).toArray) (a.eval y).cells.toList ds (zI σ h L):=eS.Hf (fun b' hR=>hU b' (fun e=>eO b' (by rw[e];exact fE) hR));refine(k1.place k2 (fun b' h1 h2=>eO b' h1.1 h2) _ zAC).mono (fun b' hR=>?_);rcases hR with hR|hR
  ·exact⟨.inl hR.1,hR.2⟩
  ·exact⟨.inr hR,fun e=>eO b' (r.ub t j b' hZ e) hR⟩
theorem Own.pn{S2:Nat->Prop}(eZ:Own w v (.sl n s) S){k q:Nat}(hk:k<s.length)(hy:KC w ys ds S2)(hle:q+ds.length<=n)(hd:∀b,S b->S2 b->False):
  ∃g cap cur e,v= .slice (some ⟨g,0,none⟩) s.length cap/\S g/\w.heap[g]?=some (.cells cur e (0,0))/\k*n+q+ys.length<=cur.size/\Own (w.setRow g (place cur.toList (k*n+q) ys).toArray) v (.sl n (s.set k (place (s.getD k []) q ds))) (fun b=>S b\/S2 b):=by
 cases eZ with
 |sl v size rows S e xs Sk ho hz hb hl ff hs hJ=>
  have eC:=hy.1;obtain⟨cf,⟨_,h0⟩|⟨g,cap,cur,hv,dR,hh,fS,eU,eT,et⟩⟩:=ho
  ·omega
  have hSg:S g:=hb g (by rw[hv];rfl);have gN:s[k]?=some (s.getD k []):=by simp[List.getD_eq_getElem?_getD,List.getElem?_eq_getElem hk]
  have hmul:k*n+n<=s.length*n:=by rw[<-Nat.succ_mul];exact Nat.mul_le_mul_right _ hk
  have hcap2:s.length*n<=cap*n:=Nat.mul_le_mul_right _ fS;have e3:cur.toList.length=cur.size:=Array.length_toList;have dv:(s.getD k []).length=n:=hz _ (List.mem_of_getElem? gN);refine⟨g,cap,cur,e,hv,hSg,hh,zAC,?_⟩;have fN:=setRow_heap w g cur (place cur.toList (k*n+q) ys).toArray e (0,0) hh;have hU:∀b',b'≠g->(w.setRow g (place cur.toList (k*n+q) ys).toArray).heap[b']?=w.heap[b']?:=fun b' ij=>setRow_other w g b' _ ij;have ev:∀r∈s.set k (place (s.getD k []) q ds),r.length=n:=by
   intro r' fG;rcases List.mem_or_eq_of_mem_set fG with fG|fG
   ·exact hz r' fG
   ·rw[fG,Xu _ _ _ zAC,dv]
  have gL:blk v=some g:=by rw[hv];rfl
  have k1:KC (w.setRow g (place cur.toList (k*n+q) ys).toArray) xs s.flatten (fun b=>S b/\blk v≠some b):=
   KC.Hf (fun b' hR=>hU b' (fun e=>hR.2 (by rw[e];exact gL))) (show KC w xs s.flatten (fun b=>S b/\blk v≠some b)from⟨hl,Sk,ff,fun k b hb=>hs k b hb,hJ⟩)
  have k2:KC (w.setRow g (place cur.toList (k*n+q) ys).toArray) ys ds S2:=hy.Hf (fun b' hR=>hU b' (fun e=>hd b' (by rw[e];exact hSg) hR));have k3:=k1.place k2 (fun b' h1 h2=>hd b' h1.1 h2) (k*n+q) (by rw[cf];omega);rw[<-xX n q ds zAC s k _ gN hz]at k3;obtain⟨hl3,Sk3,a1,a2,a3⟩:=k3;refine .sl v n _ _ e (place xs (k*n+q) ys) Sk3 ⟨?_,.inr ⟨g,cap,_,by simpa using hv,dR,fN,by simpa using fS,eU,?_,?_⟩⟩ ev (fun b' hR=>.inl (hb b' hR)) hl3 a1 (fun k b hR=>?_) a3
  ·rw[Xu _ _ _ (by rw[cf];omega),cf];simp
  ·simp only[List.size_toArray];rw[Xu _ _ _ zAC,e3,eT]
  ·simp only[List.length_set];rw[IG _ _ _ _ zAC zAC,et]
  ·rcases a2 k b hR with h1|h1
   ·exact⟨.inl h1.1,h1.2⟩
   ·exact⟨.inr h1,fun e=>hd b (hb b e) h1⟩
theorem F9(r:Rel T0 B σ a w X h){T:TypeId}(ig:o.op= .store T x y)(hd:o.dst=none)(ht:jc P T=true)(dt:gOf (look P σ 0 x)=true)(du:gOf (look P σ T y)=true)
  {k q:Nat} (hx:unc (look P σ 0 x)= .one (.tref t j i c (some (k*n+q)))) (ho:σ.ob t j= .arr true size rows) (hi:i<rows.length) (iz:(rows.getD i [])[c]?=some (.sl n s)) (hk:k<s.length)
  (fL:(unc (look P σ T y)).flat=true) (bU:Jd σ (unc (look P σ T y)).cells=some ds) (gF:QI σ (unc (look P σ T y)).cells)
  (gm:(XC (unc (look P σ T y)).cells).Nodup) (hnt:(t,j)∉XC (unc (look P σ T y)).cells) (hl:ds.length=P.cellsOf T) (hle:q+P.cellsOf T<=n)
  (hK:∀a' w',JV T0 B ((σ.Z7 (XC (unc (look P σ T y)).cells)).Z0 t j (.arr true size (rows.set i (place (rows.getD i []) c [.sl n (s.set k (place (s.getD k []) q ds))])))) a' w'->XL B w w'->K a' w'):o.wp P a w K Q:=by
 obtain⟨_,ti,_,hti,_,_⟩:=VT ht;have hZ:σ.ob t j≠ .none:=zA9
 have h0:=r.obj t j;rw[ho]at h0;obtain⟨e,vs,eZ,hz,⟨hl0,Sk,o1,o2,o3⟩,hn⟩:=h0;have gN:rows[i]?=some (rows.getD i []):=zA7;have fK:rows.flatten[i*size+c]?=some (.sl n s):=WL rows size hz i _ gN c _ iz;have hD:i*size+c<vs.length:=by rw[hl0];exact(List.getElem?_eq_some_iff.1 fK).1
 have hvs:vs[i*size+c]?=some vs[i*size+c]:=List.getElem?_eq_getElem hD;have hnv:=hn _ _ _ hvs fK rfl;have iv:=o1 _ _ _ hvs fK;have hy:=UL fL (r.arg (P:=P) T y rfl du);have eS:=Nb r hy bU gF gm;have eC:=eS.1;have e2:(a.eval y).cells.toList.length=(a.eval y).cells.size:=Array.length_toList;generalize hL:XC (unc (look P σ T y)).cells=L at*;have eO:∀b',(h t j).u b'->zI σ h L b'->False:=by rintro b' ef ⟨p,hp,ij,hup⟩;obtain⟨q1,q2⟩:=r.inj t j p.1 p.2 b' hZ ij ef hup;exact hnt (by rw[q1,q2];exact hp)
 have hSu:∀b,Sk (i*size+c) b->(h t j).u b:=fun b hb=>(o2 _ b hb).1;obtain⟨g,cap,cur,e1,hv,hSg,hh,g7,gk⟩:=iv.pn (q:=q) hk eS zAC (fun b h1 h2=>eO b (hSu b h1) h2);have hax:=r.arg (P:=P) 0 x hx dt;have he:a.eval x= .pointer (some ⟨g,k*n+q,none⟩):=by obtain⟨b,n',bn,h1,h2⟩:=hax.2 size rows ho;rw[hnv,hv]at h1;cases h1;exact h2
 have gA:=run_store (P:=P) (w:=w) hti (o:=k*n+q) (val:=a.eval y) hh zAC zAC (fun u hu=>by obtain⟨x',_,cL⟩:=hy.mem hu;exact YR.X1 cL);have hgB:=r.own t j g hZ (hSu g hSg);have r1:=r.Z7 L;have dB:(σ.Z7 L).ob t j= .arr true size rows:=by rw[St.KO,if_neg hnt,ho]
 have gi:=r.z4 L;have eT:c+1<=size:=by have h1:=(List.getElem?_eq_some_iff.1 iz).1;have h2:=hz _ (List.mem_of_getElem? gN);omega
 have hfp:=xX size c [D.sl n (s.set k (place (s.getD k []) q ds))] (by simpa using eT) rows i _ gN hz;have hml:i*size+c+[D.sl n (s.set k (place (s.getD k []) q ds))].length<=rows.flatten.length:=by rw[<-hl0];simp;omega
 have dv:(rows.getD i []).length=size:=hz _ (List.mem_of_getElem? gN);have ev:∀r∈rows.set i (place (rows.getD i []) c [D.sl n (s.set k (place (s.getD k []) q ds))]),r.length=size:=by
  intro r' fG;rcases List.mem_or_eq_of_mem_set fG with fG|fG
  ·exact hz r' fG
  ·rw[fG,Xu _ _ _ (by rw[dv];simpa using eT),dv]
 have hU:∀b',b'≠g->(w.setRow g (place cur.toList (k*n+q) (a.eval y).cells.toList).toArray).heap[b']?=w.heap[b']?:=fun b' ij=>setRow_other w g b' _ ij;have gL:∀b,blk (h t j).v=some b->(w.setRow g (place cur.toList (k*n+q) (a.eval y).cells.toList).toArray).heap[b]?=w.heap[b]?:=fun b hb=>hU b (fun e=>(o2 _ g hSg).2 (by rw[<-e];exact hb));unfold Oper.wp;simp only[execOp,ig,he,Sem.run_bind,gA,Result.andThen_ok,Sem.run_pure,Oper.upon_skip,hd];refine hK _ _ ⟨X,_,r1.change (by rw[dB];simp) zCa (fun k' ff=>hU k' (fun e=>ff (e▸hSu g hSg))) (zI σ h L) (fun b' hR=>gi b' hR) _ (by rw[dB];simp[Ob.pg])
  ⟨(h t j).v,(h t j).n,fun b'=>(h t j).u b'\/zI σ h L b'⟩ rfl (fun b' hR=>hR) (fun b' hR=>.inl (r.ub t j b' hZ hR)) (fun _=>false) (St.qW _) (.inr rfl) ?_⟩ (XL.setRow hgB.1 _)
 refine⟨e,vs,by rw[List.length_set];exact jK gL eZ,ev,⟨?_,fun k'=>if k'=i*size+c then(fun b=>Sk (i*size+c) b\/zI σ h L b)else Sk k',fun k' x dd hx eR=>?_,fun k' b hb=>?_,fun p' q' b hp hq=>?_⟩,fun k' x dd hx eR g9=>?_⟩
 ·rw[hfp,Xu _ _ _ hml,hl0]
 ·rw[hfp]at eR;rcases Vu _ _ _ hml k' dd eR with⟨k1,k2,k3⟩|⟨k1,k3⟩
  ·have ff:k'=i*size+c:=by simp at k2;omega
   subst ff;rw[hvs]at hx;cases hx;simp at k3;subst k3;simp only[if_true];exact gk
  ·have ff:¬k'=i*size+c:=fun ff=>k1 ⟨zAC,by simp;omega⟩;simp only[ff,if_false];exact(o1 k' x dd hx k3).Hf (fun b hb=>hU b (fun e=>ff (o3 k' _ b hb (by rw[e];exact hSg))))
 ·by_cases ff:k'=i*size+c
  ·simp only[ff,if_true]at hb;rcases hb with hb|hb
   ·exact⟨.inl (o2 _ b hb).1,(o2 _ b hb).2⟩
   ·exact⟨.inr hb,fun e=>eO b (r.ub t j b hZ e) hb⟩
  ·simp only[ff,if_false]at hb;exact⟨.inl (o2 k' b hb).1,(o2 k' b hb).2⟩
 ·by_cases aG:p'=i*size+c
  ·by_cases ea:q'=i*size+c
   ·rw[aG,ea]
   ·simp only[aG,if_true]at hp;simp only[ea,if_false]at hq;rcases hp with hp|hp
    ·rw[aG];exact(o3 _ _ b hp hq)
    ·exact(eO b (o2 q' b hq).1 hp).elim
  ·simp only[aG,if_false]at hp;by_cases ea:q'=i*size+c
   ·simp only[ea,if_true]at hq;rcases hq with hq|hq
    ·rw[ea];exact(o3 _ _ b hp hq)
    ·exact(eO b (o2 p' b hp).1 hq).elim
   ·simp only[ea,if_false]at hq;exact o3 p' q' b hp hq
 ·rw[hfp]at eR;rcases Vu _ _ _ hml k' dd eR with⟨k1,k2,k3⟩|⟨k1,k3⟩
  ·have ff:k'=i*size+c:=by simp at k2;omega
   subst ff;rw[hvs]at hx;cases hx;exact hnv
  ·exact hn k' x dd hx k3 g9
theorem NQ{α β:Type}(f:α->β)(l:List α)(k:Nat):cut (l.map f) k (l.length-k)=(l.drop k).map f:=by unfold cut;rw[<-List.map_drop,<-List.map_take,List.take_of_length_le (by rw[List.length_drop];exact Nat.le_refl _)]
def hol:D->D
 |.sl _ _=>.unk
 |d=>d
def JL(rows:List (List D))(lo n:Nat):List (List D):=rows.take lo++(cut rows lo n).map (fun r=>r.map hol)++rows.drop (lo+n)
theorem qg(h:lo+n<=rows.length):(JL rows lo n).length=rows.length:=by simp only[JL,List.length_append,List.length_map,List.length_take,List.length_drop,XJ _ _ _ h];omega
theorem G7{bY n':Nat}(h:lo+n<=rows.length)(h':lo+n<=bY):cut (JL rows lo n) bY n'=cut rows bY n':=by
 unfold cut;congr 1;have hl:(rows.take lo++(cut rows lo n).map (fun r=>r.map hol)).length=lo+n:=by simp only[List.length_append,List.length_map,List.length_take,XJ _ _ _ h];omega
 unfold JL;rw[List.drop_append,List.drop_eq_nil_of_le zAC,hl,List.drop_drop,List.nil_append];congr 1;omega
theorem Own.oU{d:D}(hs:d.scalar=true)(ho:Own w v d S):Own w v d S':=by
 cases ho with
 |int k n=>exact .int _ _ _
 |bool b=>exact .bool _ _
 |str s=>exact .str _ _
 |unk v h=>exact .unk _ h _
 |sl=>cases hs
theorem Own.hol{d:D}(ho:Own w v d S):Own w v (Vm.hol d) S':=by
 cases d with
 |sl s r=>exact .unk _ ho.X1 _
 |int k n=>exact ho.oU rfl
 |bool b=>exact ho.oU rfl
 |str s=>exact ho.oU rfl
 |unk=>exact ho.oU rfl
theorem uw(d:D):(hol d).scalar=true:=by cases d<;>rfl
theorem FP(hz:∀r∈rows,r.length=size)(hle:lo+n<=rows.length){k:Nat}{d:D}(hd:(JL rows lo n).flatten[k]?=some d):
  (lo*size<=k/\k<lo*size+n*size/\∃d',rows.flatten[k]?=some d'/\d=hol d')\/(¬(lo*size<=k/\k<lo*size+n*size)/\rows.flatten[k]?=some d):=by
 have fL:rows.flatten.length=rows.length*size:=YV rows size hz;have hm:lo*size+n*size<=rows.length*size:=zBw;have e1:(rows.take lo).flatten=rows.flatten.take (lo*size):=Ke rows size hz lo zAC;have e2:((cut rows lo n).map (fun r=>r.map hol)).flatten=(cut rows.flatten (lo*size) (n*size)).map hol:=by rw[<-MO rows size hz lo n hle,List.map_flatten]
 have l1:((rows.take lo).flatten).length=lo*size:=by rw[e1,List.length_take];omega
 have l2:(((cut rows lo n).map (fun r=>r.map hol)).flatten).length=n*size:=by rw[e2,List.length_map,XJ _ _ _ zAC]
 unfold JL at hd;rw[List.flatten_append,List.flatten_append]at hd;by_cases h1:k<lo*size+n*size
 ·rw[List.getElem?_append_left (by rw[List.length_append,l1,l2];exact h1)]at hd;by_cases h0:k<lo*size
  ·rw[List.getElem?_append_left (by rw[l1];exact h0),e1,List.getElem?_take,if_pos h0]at hd;exact .inr ⟨zAC,hd⟩
  ·rw[List.getElem?_append_right (by rw[l1];omega),l1,e2,List.getElem?_map]at hd;cases hc:(cut rows.flatten (lo*size) (n*size))[k-lo*size]? with
   |none=>rw[hc]at hd;cases hd
   |some d'=>
    rw[hc]at hd;have:=ze _ _ _ _ _ hc
    rw[show lo*size+(k-lo*size)=k by omega]at this;exact .inl ⟨zAC,h1,d',this,(by cases hd;rfl)⟩
 ·rw[List.getElem?_append_right (by rw[List.length_append,l1,l2];omega),List.length_append,l1,l2]at hd;have e3:(rows.drop (lo+n)).flatten=rows.flatten.drop (lo*size+n*size):=by
   have h2:(rows.take (lo+n)).flatten++(rows.drop (lo+n)).flatten=rows.flatten:=zB1;have h3:(rows.take (lo+n)).flatten.length=lo*size+n*size:=by rw[Ke rows size hz (lo+n) hle,List.length_take,Nat.add_mul];omega
   rw[<-h2,<-h3,List.drop_left]
  rw[e3,List.getElem?_drop,show lo*size+n*size+(k-(lo*size+n*size))=k by omega]at hd;exact .inr ⟨zAC,hd⟩
theorem Rel.oh(r:Rel T0 B σ a w X h)(ho:σ.ob u j= .arr true size rows)(hle:lo+n<=rows.length):
  ∃(h':Nat->Nat->Hd)(M:Nat->Prop)(e:TypeId)(zs:List Value),Rel T0 B (σ.Z0 u j (.arr true size (JL rows lo n))) a w X h'/\
   (∀b,M b->¬B b/\¬X b/\b<w.heap.size/\∀t i,(σ.Z0 u j (.arr true size (JL rows lo n))).ob t i≠ .none->¬(h' t i).u b)/\(∀t i,(h' t i).v=(h t i).v)/\
   w.ownsRow 0 e size (h u j).v rows.length zs/\(∀q∈rows,q.length=size)/\KC w (cut zs (lo*size) (n*size)) (cut rows lo n).flatten M/\(∀v∈zs,v.oneCell'=true):=by
 have hZ:σ.ob u j≠ .none:=zA9;have h0:=r.obj u j;rw[ho]at h0;obtain⟨e,zs,eZ,hz,⟨hl0,Sk,o1,o2,o3⟩,hn⟩:=h0;have fL:rows.flatten.length=rows.length*size:=YV rows size hz;have hm:lo*size+n*size<=rows.length*size:=zBw;let M:Nat->Prop:=fun b=>∃k,lo*size<=k/\k<lo*size+n*size/\Sk k b
 let hJ:Hd:=⟨(h u j).v,(h u j).n,fun b=>(h u j).u b/\¬M b⟩
 have hMu:∀b,M b->(h u j).u b/\blk (h u j).v≠some b:=fun b ⟨k,_,_,hk⟩=>o2 k b hk;have ev:∀q∈JL rows lo n,q.length=size:=by
  intro q hq;simp only[JL,List.mem_append,List.mem_map]at hq;rcases hq with(hq|⟨q',hq,rfl⟩)|hq
  ·exact hz q (List.mem_of_mem_take hq)
  ·rw[List.length_map];exact hz q' (List.mem_of_mem_drop (List.mem_of_mem_take hq))
  ·exact hz q (List.mem_of_mem_drop hq)
 have hr:=r.change (w':=w) hZ rfl (fun _ _=>rfl) (fun _=>False) (fun _ hh=>hh.elim) (.arr true size (JL rows lo n)) (by rw[ho];exact⟨rfl,rfl,(qg hle).symm⟩) hJ rfl (fun b hb=>.inl hb.1)
  (fun b hb=>⟨r.ub u j b hZ hb,fun hR=>(hMu b hR).2 hb⟩) (fun _=>false) (St.qW σ) (.inr rfl) (by
   refine⟨e,zs,by rw[qg hle];exact eZ,ev,⟨?_,fun k=>if lo*size<=k/\k<lo*size+n*size then(fun _=>False)else Sk k,fun k x d hx hd=>?_,fun k b hb=>?_,fun k k' b hb hR=>?_⟩,fun k x d hx hd g9=>?_⟩
   ·rw[hl0,YV _ size ev,qg hle,fL]
   ·rcases FP hz hle hd with⟨h1,h2,d',h3,rfl⟩|⟨h1,h2⟩
    ·exact(o1 k x d' hx h3).hol
    ·simp only[h1,if_false];exact o1 k x d hx h2
   ·dsimp only at hb;split at hb
    ·exact hb.elim
    ·rename_i hk;refine⟨⟨(o2 k b hb).1,fun⟨k',h1,h2,h3⟩=>?_⟩,(o2 k b hb).2⟩;have:=o3 k k' b hb h3
     subst this;exact hk ⟨h1,h2⟩
   ·dsimp only at hb hR;split at hb
    ·exact hb.elim
    ·split at hR
     ·exact hR.elim
     ·exact o3 k k' b hb hR
   ·rcases FP hz hle hd with⟨h1,h2,d',h3,rfl⟩|⟨h1,h2⟩
    ·rw[uw]at g9;cases g9
    ·exact hn k x d hx h2 g9)
 have hfc:(cut rows lo n).flatten=cut rows.flatten (lo*size) (n*size):=MO rows size hz lo n hle;refine⟨_,M,e,zs,hr,fun b hb=>?_,fun t i=>?_,eZ,hz,?_,fun v hv=>?_⟩
 ·have h1:=r.own u j b hZ (hMu b hb).1;refine⟨h1.1,h1.2.1,h1.2.2,fun t i ij hR=>?_⟩;split at hR
  ·exact hR.2 hb
  ·rename_i hc;have gf:σ.ob t i≠ .none:=by rw[St.Xh σ u j _ t i hZ,if_neg hc]at ij;exact ij
   exact hc (r.inj t i u j b gf hZ hR (hMu b hb).1)
 ·split
  ·rename_i hc;rw[hc.1,hc.2]
  ·rfl
 ·rw[hfc];have gM:(cut zs (lo*size) (n*size)).length=n*size:=XJ _ _ _ (by rw[hl0,fL];exact hm)
  refine⟨by rw[gM,XJ _ _ _ (by rw[fL];exact hm)],fun k b=>k<n*size/\Sk (lo*size+k) b,fun k x d hx hd=>?_,fun k b hb=>⟨lo*size+k,zAC,zAC,hb.2⟩,fun i k b hi hk=>by have:=o3 _ _ b hi.2 hk.2;omega⟩;have hk:k<n*size:=by rw[<-gM];exact(List.getElem?_eq_some_iff.1 hx).1
  exact(o1 _ x d (ze _ _ _ _ _ hx) (ze _ _ _ _ _ hd)).mono (fun b hb=>⟨hk,hb⟩)
 ·obtain⟨k,hk⟩:=List.mem_iff_getElem?.1 hv;have hD:k<rows.flatten.length:=by rw[<-hl0];exact(List.getElem?_eq_some_iff.1 hk).1
  exact(o1 k v _ hk (List.getElem?_eq_getElem hD)).X1
def vc(σ:St)(x:V)(size:Nat)(im:List (List D))(l:List (Nat×Nat)):Prop:=
 match x with
 |.one (.nil _)=>im=[]/\l=[]
 |.one (.sref t j lo len)=>lo=0/\len=im.length/\l=[(t,j)]/\(σ.ob t j= .arr true size im\/(σ.ob t j= .lit size []/\im=[]))
 |_=>False
theorem Co(r:Rel T0 B σ a w X h){t:TypeId}(ig:o.op= .call ⟨.builtin .append,#[x,y],#[t,t]⟩)(hd:o.dst=some d)
  (dt:gOf (look P σ t x)=true) (du:gOf (look P σ t y)=true) (ht:XS P t=true) (hz:QE P (ZS P t)=true) (gp:0<P.cellsOf (ZS P t))
  (fe:vc σ (unc (look P σ t x)) (P.cellsOf (ZS P t)) im l1) (hy:unc (look P σ t y)= .one (.sref u j lo n)) (ho:σ.ob u j= .arr true (P.cellsOf (ZS P t)) rows) (hle:lo+n<=rows.length) (hnm:(u,j)∉l1)
  (gj:((σ.Z0 u j (.arr true (P.cellsOf (ZS P t)) (JL rows lo n))).Z7 l1).fresh d=true)
  (gl:(im.length+n)*P.bytesOf (ZS P t)<=140737488355328) (cJ:im.length+n<=9223372036854775807)
  (hK:∀a' w',JV T0 B (((σ.Z0 u j (.arr true (P.cellsOf (ZS P t)) (JL rows lo n))).Z7 l1).new d (.one (.sref d 0 0 (im.length+n))) [.arr true (P.cellsOf (ZS P t)) (im++cut rows lo n)]) a' w'->XL B w w'->K a' w'):o.wp P a w K Q:=by
 obtain⟨ti,hu,hi,e7⟩:=Xs ht;obtain⟨i,z,row,fP,dN,ep,dA,da,fv,eg⟩:=yz hz;rw[hi]at fP;cases fP;have ak:P.bytesOf (ZS P t)=ti.bytes:=zBy
 rw[ak]at gl;rw[<-fv]at ho gp hK gj fe;have cj:=r.arg (P:=P) t x rfl dt
 have hvy:=r.arg (P:=P) t y rfl du;rw[hy]at hvy;have hvy':YR (Tof T0 X) h σ.ob w (.sref u j lo n) (a.eval y):=hvy;obtain⟨_,_,_,base,cap,aM,fS,hcm,dq,hb⟩:=hvy'.2.1 _ _ _ ho;obtain⟨h',M,e0,zs,r0,hM,e9,how0,fR,eS,h1c⟩:=r.oh ho hle;have hZ:σ.ob u j≠ .none:=zA9;generalize hσ1:σ.Z0 u j (.arr true ti.size (JL rows lo n))=σ1 at*;have dB:∀t' i',¬(t'=u/\i'=j)->σ1.ob t' i'=σ.ob t' i':=fun t' i' ij=>by rw[<-hσ1,St.Xh σ u j _ t' i' hZ,if_neg ij]
 have hzl:zs.length=rows.length*ti.size:=how0.1;have hm2:lo*ti.size+n*ti.size<=zs.length:=by rw[hzl,<-Nat.add_mul];exact Nat.mul_le_mul_right _ hle
 generalize hys:cut zs (lo*ti.size) (n*ti.size)=ys at*;have eC:ys.length=n*ti.size:=by rw[<-hys];exact XJ _ _ _ hm2
 have gM:(cut rows lo n).length=n:=XJ _ _ _ hle;have hnz:∀q∈cut rows lo n,q.length=ti.size:=fun q hq=>fR q (List.mem_of_mem_drop (List.mem_of_mem_take hq));have fp:∃e1 xs,w.ownsRow 0 e1 ti.size (a.eval x) im.length xs/\(∀q∈im,q.length=ti.size)/\KC w xs im.flatten (fun b=>zI σ1 h' l1 b/\blk (a.eval x)≠some b)/\(∀b,blk (a.eval x)=some b->zI σ1 h' l1 b):=by
  unfold vc at fe;split at fe
  ·rename_i s heq;obtain⟨rfl,rfl⟩:=fe;rw[heq]at cj;have he:a.eval x= .slice none 0 0:=cj
   rw[he];exact⟨0,[],World.ownsRow_nil w 0 0 _,zBT,KC.nil _,(fun b hb=>by cases hb)⟩
  ·rename_i u2 j2 lo2 len2 heq;obtain⟨rfl,rfl,rfl,ed⟩:=fe;rw[heq]at cj;have ck:YR (Tof T0 X) h σ.ob w (.sref u2 j2 0 im.length) (a.eval x):=cj
   have ij:¬(u2=u/\j2=j):=fun hc=>hnm (by rw[hc.1,hc.2];simp);have h0:=r0.obj u2 j2;rw[dB u2 j2 ij]at h0;rcases ed with ed|⟨ed,rfl⟩
   ·obtain⟨_,fc,_⟩:=ck.2.1 _ _ _ ed;have he:a.eval x=(h' u2 j2).v:=by rw[e9];exact fc rfl rfl
    rw[ed]at h0;obtain⟨e,xs,iv,hz2,ir,hn⟩:=h0;have bp:σ1.ob u2 j2≠ .none:=by rw[dB u2 j2 ij,ed];simp
    rw[he];exact⟨e,xs,iv,hz2,ir.mono (fun b hb=>⟨⟨(u2,j2),zAE,bp,hb.1⟩,hb.2⟩),fun b hb=>⟨(u2,j2),zAE,bp,r0.ub u2 j2 b bp hb⟩⟩
   ·obtain⟨_,fc,_⟩:=ck.2.2 _ _ ed;have he:a.eval x=(h' u2 j2).v:=by rw[e9];exact fc rfl rfl
    rw[ed]at h0;obtain⟨e,xs,iv,hz2,ir⟩:=h0;have bp:σ1.ob u2 j2≠ .none:=by rw[dB u2 j2 ij,ed];simp
    have hxs:xs=[]:=by cases ir;rfl
    subst hxs;rw[he];exact⟨e,[],iv,zBT,KC.nil _,fun b hb=>⟨(u2,j2),zAE,bp,r0.ub u2 j2 b bp hb⟩⟩
  ·exact fe.elim
 obtain⟨e1,xs,iv,hoz,ao,fq⟩:=fp;have eO:∀b,zI σ1 h' l1 b->M b->False:=by rintro b ⟨p,hp,ij,ef⟩ hb;exact(hM b hb).2.2.2 p.1 p.2 ij ef
 have gi:=r0.z4 l1;let N:Nat->Prop:=fun b=>zI σ1 h' l1 b\/M b
 have hN:∀b,N b->¬B b/\¬X b/\b<w.heap.size/\∀u' i',(σ1.Z7 l1).ob u' i'≠ .none->¬(h' u' i').u b:=by
  rintro b (hb|hb)
  ·exact gi b hb
  ·obtain⟨q1,q2,q3,q4⟩:=hM b hb;refine⟨q1,q2,q3,fun u' i' ij=>q4 u' i' ?_⟩;rw[St.KO]at ij;split at ij
   ·exact absurd rfl ij
   ·exact ij
 have af:∀b,M b->blk (a.eval x)≠some b:=fun b hb e=>eO b (fq b e) hb;refine CY (r0.Z7 l1) (N:=N) (ys:=ys) ig hd hu hi dN da zAC gj gl cJ iv (fun b hb=>.inl (fq b hb)) hN aM (fun hh=>⟨dq hh,by have:=dq hh;omega⟩) eC (fun ad had k v hv=>?_) (fun v hv=>h1c v (by rw[<-hys]at hv;exact List.mem_of_mem_drop (List.mem_of_mem_take hv))) (by rw[List.length_append,gM]) (fun q hq=>(List.mem_append.1 hq).elim (hoz q) (hnz q)) ?_ hK
 ·have eN:0<n:=by
   rcases Nat.eq_zero_or_pos n with h0|h0
   ·have hk:=(List.getElem?_eq_some_iff.1 hv).1;rw[eC,h0]at hk;simp at hk
   ·exact h0
  obtain⟨b,dc,hh,eh⟩:=hb eN;rw[had]at eh;cases eh;rcases how0.2 with⟨hn1,_⟩|⟨g,bn,cur,e9,_,hgg,eW,eU,eT,et⟩
  ·rw[hh]at hn1;cases hn1
  ·rw[hh]at e9;cases e9;rw[<-hys]at hv;have h1:=ze _ _ _ _ _ hv
   rw[qO];refine zU hgg _ _ ?_;rw[<-et,List.getElem?_take]at h1;split at h1
   ·exact h1
   ·cases h1
 ·rw[List.flatten_append];exact(ao.append eS (fun b fB gQ=>eO b fB.1 gQ)).mono (fun b hb=>hb.elim (fun hb=>⟨.inl hb.1,hb.2⟩) (fun hb=>⟨.inr hb,af b hb⟩))
def o8(w:World)(res:List (List D))(e:Ending)(w':World):Prop:=
 ∃(vs:List Value)(gO:List (List Value)),e= .returned (N8 vs)/\Below w.heap.size w w'/\YJ ye vs gO/\YJ (fun(cs:List Value)(row:List D)=>cs.length=row.length) gO res/\
  KC w' gO.flatten res.flatten (fun b=>w.heap.size<=b/\b<w'.heap.size)
def YN(P:Program)(f:FuncId)(args res:List (List D)):Prop:=
 Rz P f=true/\∀(T:CS)(w:World)(gb:List Value),(∀b k,T b k->b<w.heap.size)->YJ (fun v row=>∃cs,ye v cs/\YJ (Rd T w) cs row) gb args->Calls P f gb.toArray w (o8 w res)
theorem j9{α β:Type}{R:α->β->Prop}:∀{gO:List (List α)}{res:List (List β)},YJ (fun(cs:List α)(row:List β)=>cs.length=row.length) gO res->(∀(k:Nat)(x:α)(d:β),gO.flatten[k]?=some x->res.flatten[k]?=some d->R x d)->YJ (fun cs row=>YJ R cs row) gO res:=by
 intro gO res ir;induction ir with
 |nil=>intro _;exact .nil
 |@cons cs row gO res hl _ ih=>
  intro hk;refine .cons (YJ.xm hl (fun k x d hx hd=>hk k x d ?_ ?_)) (ih (fun k x d hx hd=>hk (cs.length+k) x d ?_ ?_))
  ·rw[List.flatten_cons,List.getElem?_append_left (List.getElem?_eq_some_iff.1 hx).1];exact hx
  ·rw[List.flatten_cons,List.getElem?_append_left (List.getElem?_eq_some_iff.1 hd).1];exact hd
  ·rw[List.flatten_cons,List.getElem?_append_right zAC];simpa using hx
  ·rw[List.flatten_cons,List.getElem?_append_right zAC,hl];simpa using hd
theorem YN.rd{args:List (List D)}(hs:YN P f args res):QX P f false args res:=by refine⟨hs.1,fun T w gb hT ha=>(hs.2 T w gb hT ha).mono ?_⟩;rintro e w' ⟨vs,gO,he,hb,hf,hl,⟨_,Sk,h1,h2,h3⟩⟩;refine⟨vs,gO,fun b=>w.heap.size<=b/\b<w'.heap.size,he,hb,fun b hb=>hb,hf,j9 hl (fun k x d hx hd=>?_),fun hh=>by cases hh⟩;simp only[jB,Bool.false_eq_true,if_false];exact(h1 k x d hx hd).rd (fun b k' hb=>.inr (h2 k b hb))
def YZ:List Bool->List D->List Ob
 |_,[]=>[]
 |q::qs,.sl size rows::ds=>.arr q size rows::YZ qs ds
 |[],.sl size rows::ds=>.arr true size rows::YZ [] ds
 |qs,_::ds=>.none::YZ qs.tail ds
def xJ:List Bool->List D->Prop
 |_,[]=>True
 |q::qs,.sl _ rows::ds=>(q=false->∀r∈rows,∀x∈r,x.scalar=true)/\xJ qs ds
 |[],.sl _ _::ds=>xJ [] ds
 |qs,_::ds=>xJ qs.tail ds
theorem Y2:∀(qs:List Bool)(ds:List D)(k:Nat),xJ qs ds->(∀size rows,ds[k]?=some (.sl size rows)->∃q,Yr (YZ qs ds) k= .arr q size rows/\(q=false->∀r∈rows,∀x∈r,x.scalar=true))/\(Yr (YZ qs ds) k≠ .none->∃size rows,ds[k]?=some (.sl size rows))
 |qs,[],k,_=>⟨fun size rows h=>by simp at h,fun h=>by cases qs<;>simp[YZ,Yr]at h⟩
 |q::qs,.sl size rows::ds,0,hf=>⟨fun s r h=>by simp at h;obtain⟨rfl,rfl⟩:=h;exact⟨q,by simp[YZ,Yr],hf.1⟩,fun _=>⟨size,rows,zAE⟩⟩
 |[],.sl size rows::ds,0,hf=>⟨fun s r h=>by simp at h;obtain⟨rfl,rfl⟩:=h;exact⟨true,by simp[YZ,Yr],fun h=>by cases h⟩,fun _=>⟨size,rows,zAE⟩⟩
 |qs,.int k n::ds,0,hf=>⟨fun s r h=>by simp at h,fun h=>by cases qs<;>simp[YZ,Yr]at h⟩
 |qs,.bool b::ds,0,hf=>⟨fun s r h=>by simp at h,fun h=>by cases qs<;>simp[YZ,Yr]at h⟩
 |qs,.str s::ds,0,hf=>⟨fun s r h=>by simp at h,fun h=>by cases qs<;>simp[YZ,Yr]at h⟩
 |qs,.unk::ds,0,hf=>⟨fun s r h=>by simp at h,fun h=>by cases qs<;>simp[YZ,Yr]at h⟩
 |q::qs,.sl size rows::ds,k+1,hf=>by have:=Y2 qs ds k hf.2;simpa[YZ,Yr]using this
 |[],.sl size rows::ds,k+1,hf=>by have:=Y2 [] ds k hf;simpa[YZ,Yr]using this
 |qs,.int _ _::ds,k+1,hf=>by have:=Y2 qs.tail ds k zCV;cases qs<;>simpa[YZ,Yr]using this
 |qs,.bool _::ds,k+1,hf=>by have:=Y2 qs.tail ds k zCV;cases qs<;>simpa[YZ,Yr]using this
 |qs,.str _::ds,k+1,hf=>by have:=Y2 qs.tail ds k zCV;cases qs<;>simpa[YZ,Yr]using this
 |qs,.unk::ds,k+1,hf=>by have:=Y2 qs.tail ds k zCV;cases qs<;>simpa[YZ,Yr]using this
theorem uY(r:Rel T0 B σ a w X h){c:Call}(qs:List Bool)(ig:o.op= .call c)(hc:c.callee= .value (.func f))(hd:o.dst=some d)(gj:σ.fresh d=true)
  (iw:Qb P σ c.args.toList c.argTypes.toList rows) (hs:YN P f rows res) (hq:xJ qs res.flatten)
  (hK:∀a' w',JV T0 B (σ.new d (WM d res) (YZ qs res.flatten)) a' w'->XL B w w'->K a' w'):o.wp P a w K Q:=by
 have hD:=St.zC gj;unfold Oper.wp;rw[T8 ig hc hs.1,Oper.upon_enter];have ay:=r.Qb false iw (fun hh=>by cases hh);simp only[Bool.false_eq_true,if_false]at ay;refine(hs.2 (Lg T0 X h σ) w _ (fun b k hb=>r.wK hb) ay).mono ?_;rintro e w' ⟨vs,gO,rfl,fu,gW,hlen,⟨_,Sk,h1,h2,h3⟩⟩;rw[hd];have hex:∀j,∃hd:Hd,(∀c,gO.flatten[j]?=some c->hd.v=c)/\(∀size rows,res.flatten[j]?=some (.sl size rows)->(∀b,hd.u b->Sk j b)/\(∀b,blk hd.v=some b->hd.u b)/\∀T h ob,JZ T h ob w' hd (.arr true size rows)/\((∀r∈rows,∀x∈r,x.scalar=true)->JZ T h ob w' hd (.arr false size rows))):=by
  intro j;have fL:gO.flatten.length=res.flatten.length:=by have:=j9 (R:=fun _ _=>True) hlen (fun _ _ _ _ _=>trivial);exact(q9 this).length
  cases hj:res.flatten[j]? with
  |none=>exact⟨Hd.of ((gO.flatten[j]?).getD undef),fun c ga=>by simp[Hd.of,ga],fun size rows hh=>by cases hh⟩
  |some dd=>
   have bD:j<gO.flatten.length:=by rw[fL];exact(List.getElem?_eq_some_iff.1 hj).1
   have bm:gO.flatten[j]?=some gO.flatten[j]:=List.getElem?_eq_getElem bD;cases dd with
   |int k n=>exact⟨Hd.of gO.flatten[j],fun c ga=>by rw[bm]at ga;cases ga;rfl,fun size rows hh=>by cases hh⟩
   |bool k=>exact⟨Hd.of gO.flatten[j],fun c ga=>by rw[bm]at ga;cases ga;rfl,fun size rows hh=>by cases hh⟩
   |str k=>exact⟨Hd.of gO.flatten[j],fun c ga=>by rw[bm]at ga;cases ga;rfl,fun size rows hh=>by cases hh⟩
   |unk=>exact⟨Hd.of gO.flatten[j],fun c ga=>by rw[bm]at ga;cases ga;rfl,fun size rows hh=>by cases hh⟩
   |sl size rows=>
    have ho:=h1 j _ _ bm hj;generalize hv:gO.flatten[j]=v at ho;cases ho with
    |sl v size rows S e xs Sk' ho hz hb hl hk hs' hJ=>
     refine⟨⟨v,fun k=>(xs[k]?).getD undef,Sk j⟩,fun c ga=>by rw[bm,hv]at ga;cases ga;rfl,fun gB hO hh=>?_⟩;cases hh;refine⟨fun b hb=>hb,hb,fun T h ob=>⟨⟨e,xs,ho,hz,⟨hl,Sk',hk,fun k b hb=>hs' k b hb,hJ⟩,fun k x d hx _ _=>by simp[hx]⟩,fun fK=>⟨e,xs,ho,hz,YJ.xm hl (fun k x d hx hd=>?_)⟩⟩⟩;obtain⟨r0,dY,hdr⟩:=List.mem_flatten.1 (List.mem_of_getElem? hd);have g9:=fK r0 dY d hdr
     have:=hk k x d hx hd;cases this with
     |int k n=>exact .int _ _
     |bool b=>exact .bool _
     |str s=>exact .str _
     |unk v h=>exact .unk _ h
     |sl=>cases g9
 obtain⟨hf,aH⟩:=Classical.axiomOfChoice hex;refine hK _ _ ⟨X,fun t j=>if t=d then hf j else h t j,?_⟩ (XL.HV fu r.hB);have hZ:∀j,(σ.new d (WM d res) (YZ qs res.flatten)).ob d j=Yr (YZ qs res.flatten) j:=fun j=>by rw[St.JN];simp[hD]
 have eV:YJ (fun cs row=>YJ (V5 (Tof T0 X) w') cs row) gO res:=by
  refine j9 hlen (fun k x d hx hd=>?_);have ho:=h1 k x d hx hd
  cases ho with
  |int k n=>exact Rd.int _ _
  |bool b=>exact Rd.bool _
  |str s=>exact Rd.str _
  |unk v h=>exact Rd.unk _ h
  |sl v size rows S e xs Sk' ho hz hb hl hk hs' hJ=>exact⟨e,xs,ho⟩
 refine r.new gj (Below.grownBy fu) (fun b hb=>hb) (fun b hb=>.inl hb) (WM d res) (N8 vs) (YZ qs res.flatten) hf ?_ (fun j=>?_) (fun j b ij hb=>?_) (fun j b ij hb=>?_) (fun j j' b ij gf hb hR=>?_)
 ·exact DR (h:=fun t j=>if t=d then hf j else h t j) (ob:=(σ.new d (WM d res) (YZ qs res.flatten)).ob) (t:=d) gW eV (fun i size rows hi=>by
   obtain⟨q,ea,_⟩:=(Y2 qs res.flatten i hq).1 size rows hi;exact⟨q,by rw[hZ];exact ea⟩) (fun i c hi=>by simp only[if_true];exact(aH i).1 c hi)
 ·by_cases ij:Yr (YZ qs res.flatten) j= .none
  ·rw[ij];trivial
  ·obtain⟨size,rows,hj⟩:=(Y2 qs res.flatten j hq).2 ij;obtain⟨q,ea,hqf⟩:=(Y2 qs res.flatten j hq).1 size rows hj;rw[ea];have:=((aH j).2 size rows hj).2.2 (Tof T0 X) (fun t j=>if t=d then hf j else h t j) (σ.new d (WM d res) (YZ qs res.flatten)).ob
   cases q with
   |true=>exact this.1
   |false=>exact this.2 (hqf rfl)
 ·obtain⟨size,rows,hj⟩:=(Y2 qs res.flatten j hq).2 ij;exact((aH j).2 size rows hj).2.1 b hb
 ·obtain⟨size,rows,hj⟩:=(Y2 qs res.flatten j hq).2 ij;have:=h2 j b (((aH j).2 size rows hj).1 b hb)
  exact⟨this.1,fun hx=>by have:=(r.hX b hx).2;omega,this.2⟩
 ·obtain⟨size,rows,hj⟩:=(Y2 qs res.flatten j hq).2 ij;obtain⟨gB,hO,dL⟩:=(Y2 qs res.flatten j' hq).2 gf;exact h3 j j' b (((aH j).2 size rows hj).1 b hb) (((aH j').2 gB hO dL).1 b hR)
end Go.Vm
