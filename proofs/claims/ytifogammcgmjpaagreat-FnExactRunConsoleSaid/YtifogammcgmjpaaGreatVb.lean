/- An abstract machine C7 the model of Go, by value, and that it is sound: part Vb. No condition. -/
import Derived.Test.YtifogammcgmjpaaGreatVa
set_option linter.unusedVariables false
set_option linter.unusedSimpArgs false
namespace Go.Vm
open Go.RowKit
variable{af:Exit->Act->World->Prop}{K:Act->World->Prop}{h h':Nat->Nat->Hd}{Q am au s ag rs:List (List D)}{B X' ad S H N:Nat->Prop}{o:Oper}{P:Program}{σ σ' σ1:J}{x y:Operand}{p:At->Bool}{T0 T T':CS}{a:Act}{v ak:Value}{n d X j t lo c g ae i u:Nat}{w' w:World}{F:Nat->Nat->Ob}{ys vs:List Value}{k:IntKind}{f:FuncId}{q:Bool}{ax:Array Value}{hd:Hd}
theorem Yk.ZEI{ai:Nat->Nat->Ob}(hT:∀b k v,T b k->w.cell? ⟨b,k,none⟩=some v->w'.cell? ⟨b,k,none⟩=some v/\T' b k)(hc:∀t j,bz h h' ai F t j)
  {x:At} (r:Yk T h ai w x v):Yk T' h' F w' x v:=by
 obtain⟨d,hd⟩:∃d,x.ref d=false:=by
  cases x with
  |E t j lo ae=>exact⟨t+1,by simp[At.ref]⟩
  |ptr t j i c=>exact⟨t+1,by simp[At.ref]⟩
  |O t c=>exact⟨t+1,by simp[At.ref]⟩
  |fn f t=>exact⟨t+1,by simp[At.ref]⟩
  |Z t j i c o=>exact⟨t+1,by simp[At.ref]⟩
  |any=>exact⟨0,rfl⟩
  |d x=>exact⟨0,rfl⟩
  |nil s=>exact⟨0,rfl⟩
  |ac r c=>exact⟨0,rfl⟩
 exact Yk.carry hT (fun t j _=>hc t j) hd r
def Oe(p:At->Bool):List At->Bool
 |[]=>false
 |x::xs=>p x||Oe p xs
def V.mI(p:At->Bool):V->Bool
 |.one x=>p x
 |.agg xs=>Oe p xs
 |_=>false
def lK(p:At->Bool):List V->Bool
 |[]=>false
 |x::xs=>x.mI p||lK p xs
def V.zo(p:At->Bool):V->Bool
 |.O xs=>lK p xs
 |.E _ x=>x.mI p
 |.fix _ x=>x.mI p
 |.one x=>p x
 |.agg xs=>Oe p xs
 |.any=>false
def qX(p:At->Bool):List Ob->Bool
 |[]=>false
 |.box E::aa=>Oe p E||qX p aa
 |.lit _ Q::aa=>Oe p Q.flatten||qX p aa
 |_::aa=>qX p aa
def J.zo(p:At->Bool):J->Bool
 |[]=>false
 |e::σ=>e.1.zo p||qX p e.2||J.zo p σ
def At.isT(t:Nat):At->Bool
 |.Z u _ _ _ _=>u==t
 |_=>false
theorem Rf:∀(xs:List At),Oe (fun _=>false) xs=false
 |[]=>rfl
 |_::xs=>by simp[Oe,Rf xs]
theorem vc:∀(xs:List V),lK (fun _=>false) xs=false
 |[]=>rfl
 |x::xs=>by cases x<;>simp[lK,V.mI,Rf,vc xs]
theorem A0(x:V):x.mI (fun _=>false)=false:=by cases x<;>simp[V.mI,Rf]
theorem SA(x:V):x.zo (fun _=>false)=false:=by cases x<;>simp[V.zo,Rf,vc,A0]
theorem GQ:∀(aa:List Ob),qX (fun _=>false) aa=false
 |[]=>rfl
 |o::aa=>by cases o<;>simp[qX,Rf,GQ aa]
theorem J.SA:∀(σ:J),J.zo (fun _=>false) σ=false
 |[]=>rfl
 |e::σ=>by simp[J.zo,Go.Vm.SA,Go.Vm.GQ,J.SA σ]
theorem J.I9{p:At->Bool}:∀{σ:J},σ.zo p=false->∀t,(σ.get t).zo p=false
 |[],_,t=>by simp[J.get,V.zo]
 |e::σ,h,0=>by simp only[J.zo,Bool.or_eq_false_iff]at h;exact h.1.1
 |e::σ,h,t+1=>by
  simp only[J.zo,Bool.or_eq_false_iff]at h;have:=J.I9 h.2 t
  simpa[J.get]using this
theorem lB{p:At->Bool}:∀{aa:List Ob},qX p aa=false->∀j,qX p [Y6 aa j]=false
 |[],_,j=>by simp[Y6,qX]
 |o::aa,h,0=>by cases o<;>simp_all[Y6,qX]
 |o::aa,h,j+1=>by
  have Z:qX p aa=false:=by cases o<;>simp_all[qX]
  have:=lB Z j;simpa[Y6]using this
theorem J.El{p:At->Bool}:∀{σ:J},σ.zo p=false->∀t j,qX p [σ.ob t j]=false
 |[],_,t,j=>by simp[J.ob,qX]
 |e::σ,h,0,j=>by simp only[J.zo,Bool.or_eq_false_iff]at h;exact lB h.1.2 j
 |e::σ,h,t+1,j=>by
  simp only[J.zo,Bool.or_eq_false_iff]at h;have:=J.El h.2 t j
  simpa[J.ob]using this
theorem sP{ai:Nat->Nat->Ob}(f:∀{x:At}{v:Value},p x=false->Yk T h ai w x v->Yk T' h' F w' x v){xs:List At}(O:Oe p xs=false)
  (r:Yd (Yk T h ai w) xs vs):Yd (Yk T' h' F w') xs vs:=by
 induction r with
 |nil=>exact .nil
 |cons r _ ih=>simp only[Oe,Bool.or_eq_false_iff]at O;exact .cons (f O.1 r) (ih O.2)
theorem qR.map{ai:Nat->Nat->Ob}(f:∀{x:At}{v:Value},p x=false->Yk T h ai w x v->Yk T' h' F w' x v){x:V}(O:x.mI p=false)
  (r:qR T h ai w x v):qR T' h' F w' x v:=by
 cases x with
 |any=>exact r
 |one x=>exact f O r
 |agg xs=>obtain⟨I,e,r⟩:=r;exact⟨I,e,sP f O r⟩
 |O xs=>exact r.elim
 |E g x=>exact r.elim
 |fix u x=>exact r.elim
theorem KA.map{ai:Nat->Nat->Ob}(f:∀{x:At}{v:Value},p x=false->Yk T h ai w x v->Yk T' h' F w' x v){x:V}(O:x.zo p=false)
  (r:KA T h ai w x v):KA T' h' F w' x v:=by
 cases x with
 |any=>exact r
 |one x=>exact f O r
 |agg xs=>obtain⟨I,e,r⟩:=r;exact⟨I,e,sP f O r⟩
 |O xs=>
  obtain⟨vs,e,r⟩:=r;refine⟨vs,e,?_⟩;generalize vs.toList=vl at r;simp only[V.zo]at O;induction r with
  |nil=>exact .nil
  |cons r _ ih=>simp only[lK,Bool.or_eq_false_iff]at O;exact .cons (qR.map f O.1 r) (ih O.2)
 |E g x=>exact⟨fun hg=>qR.map f O (r.1 hg),r.2⟩
 |fix u x=>exact⟨r.1,qR.map f O r.2⟩
theorem zf.map{ai:Nat->Nat->Ob}(f:∀{x:At}{v:Value},p x=false->Yk T h ai w x v->Yk T' h' F w' x v)
  (hT:∀b k v,T b k->w.cell? ⟨b,k,none⟩=some v->w'.cell? ⟨b,k,none⟩=some v/\T' b k) {o:Ob}
  (au:o≠ .none->∀b,blk hd.v=some b->hd.u b) (G:o≠ .none->∀b,hd.u b->w'.heap[b]?=w.heap[b]?) (O:qX p [o]=false) (r:zf T h ai w hd o):zf T' h' F w' hd o:=by
 cases o with
 |none=>trivial
 |box E=>obtain⟨b,I,e,hv,hh,aa⟩:=r;simp only[qX,Bool.or_false]at O;exact⟨b,I,e,hv,by rw[G ab b (au ab b (by rw[hv];rfl))];exact hh,sP f O aa⟩
 |arr q X Q=>
  have hk:∀{e:TypeId}{n:Nat}{xs:List Value},w.ownsRow 0 e X hd.v n xs->w'.ownsRow 0 e X hd.v n xs:=fun ho=>Um (fun b h=>G ab b (au ab b h)) ho;cases q with
  |false=>obtain⟨e,xs,ho,hz,aa⟩:=r;exact⟨e,xs,hk ho,hz,aa.imp fun _ _=>Rd.mono hT⟩
  |true=>obtain⟨e,xs,ho,hz,aa,hn⟩:=r;exact⟨e,xs,hk ho,hz,aa.Bn (fun b h=>G ab b h.1),hn⟩
 |lit X Q=>obtain⟨e,xs,ho,hz,aa⟩:=r;simp only[qX,Bool.or_false]at O;exact⟨e,xs,Um (fun b h=>G ab b (au ab b h)) ho,hz,sP f O aa⟩
def Ob.ai:Ob->Ob->Prop
 |.arr q s r,.arr q' J r'=>q=q'/\s=J/\r.length=r'.length
 |.lit s r,.lit J r'=>s=J/\r.length=r'.length
 |.box _,.box _=>True
 |_,_=>False
theorem av.change(r:av T0 B σ a w ad h)(an:σ.ob t j≠ .none)(aB:w'.heap.size=w.heap.size)(hw:∀k,¬(h t j).u k->w'.heap[k]?=w.heap[k]?)(T:Nat->Prop)
  (hM:∀b,T b->¬B b/\¬ad b/\b<w.heap.size/\∀u i,σ.ob u i≠ .none->¬(h u i).u b) (S:Ob) (I:(σ.ob t j).ai S) (m:Hd) (hv:m.v=(h t j).v) (F:∀b,m.u b->(h t j).u b\/T b) (au:∀b,blk m.v=some b->m.u b)
  (p:At->Bool) (hp:σ.zo p=false) (hn:(∀u i c o,p (.Z t u i c o)=true)\/m.n=(h t j).n)
  (ac:zf (al T0 ad) (fun u i=>if u=t/\i=j then m else h u i) (σ.Yg t j S).ob w' m S):av T0 B (σ.Yg t j S) a w' ad (fun u i=>if u=t/\i=j then m else h u i):=by
 have Z:∀u i,¬(u=t/\i=j)->(σ.Yg t j S).ob u i=σ.ob u i:=by intro u i W;rw[J.ze σ t j S u i an,if_neg W]
 have U:(σ.Yg t j S).ob t j=S:=by rw[J.ze σ t j S t j an];simp
 have hT:∀b k v,al T0 ad b k->w.cell? ⟨b,k,none⟩=some v->w'.cell? ⟨b,k,none⟩=some v/\al T0 ad b k:=by
  intro b' k v aj ai;refine⟨?_,aj⟩;have W:¬(h t j).u b':=by
   intro aH;have aq:=r.own t j b' an aH
   rcases aj with aj|aj
   ·exact aq.1 (r.f _ _ aj)
   ·exact aq.2.1 aj
  rw[World.cell?_of_block (hw b' W)];exact ai
 have P:∀u i,((fun u i=>if u=t/\i=j then m else h u i) u i).v=(h u i).v:=by
  intro u i;by_cases hc:u=t/\i=j
  ·simp only[hc,if_true];exact hv
  ·simp only[hc,if_false]
 have ab:∀u i q X Q,(σ.Yg t j S).ob u i= .arr q X Q->∃aL,σ.ob u i= .arr q X aL/\aL.length=Q.length:=by
  intro u i q X Q ho;by_cases hc:u=t/\i=j
  ·obtain⟨rfl,rfl⟩:=hc;rw[U]at ho;subst ho;cases C:σ.ob u i with
   |arr q0 N r0=>rw[C]at I;obtain⟨rfl,rfl,hl⟩:=I;exact⟨r0,rfl,hl⟩
   |none=>rw[C]at I;exact I.elim
   |box c=>rw[C]at I;exact I.elim
   |lit s r=>rw[C]at I;exact I.elim
  ·rw[Z u i hc]at ho;exact⟨Q,ho,rfl⟩
 have ax:∀u i X Q,(σ.Yg t j S).ob u i= .lit X Q->∃aL,σ.ob u i= .lit X aL/\aL.length=Q.length:=by
  intro u i X Q ho;by_cases hc:u=t/\i=j
  ·obtain⟨rfl,rfl⟩:=hc;rw[U]at ho;subst ho;cases C:σ.ob u i with
   |arr q0 N r0=>rw[C]at I;exact I.elim
   |none=>rw[C]at I;exact I.elim
   |box c=>rw[C]at I;exact I.elim
   |lit s r=>rw[C]at I;obtain⟨rfl,hl⟩:=I;exact⟨r,rfl,hl⟩
  ·rw[Z u i hc]at ho;exact⟨Q,ho,rfl⟩
 have V:∀u i E,(σ.Yg t j S).ob u i= .box E->∃K,σ.ob u i= .box K:=by
  intro u i E ho;by_cases hc:u=t/\i=j
  ·obtain⟨rfl,rfl⟩:=hc;rw[U]at ho;subst ho;cases C:σ.ob u i with
   |arr q0 N r0=>rw[C]at I;exact I.elim
   |none=>rw[C]at I;exact I.elim
   |box c=>exact⟨c,rfl⟩
   |lit s r=>rw[C]at I;exact I.elim
  ·rw[Z u i hc]at ho;exact⟨E,ho⟩
 have ah:∀{x:At}{v:Value},p x=false->Yk (al T0 ad) h σ.ob w x v->Yk (al T0 ad) (fun u i=>if u=t/\i=j then m else h u i) (σ.Yg t j S).ob w' x v:=by
  intro x v y n;cases x with
  |any=>exact n
  |d x=>exact Rd.mono hT n
  |nil s=>exact n
  |E u i lo ae=>
   refine⟨n.1,fun q X Q ho=>?_,fun X Q ho=>?_⟩
   ·obtain⟨aL,C,hl⟩:=ab u i q X Q ho;rw[P,<-hl];exact n.2.1 q X aL C
   ·obtain⟨aL,C,hl⟩:=ax u i X Q ho;rw[P,<-hl];exact n.2.2 X aL C
  |ptr u i k c=>refine⟨n.1,fun q X Q ho=>?_⟩;obtain⟨aL,C,hl⟩:=ab u i q X Q ho;rw[P];exact n.2 q X aL C
  |O u c=>refine⟨n.1,fun E ho=>?_⟩;obtain⟨K,C⟩:=V u 0 E ho;rw[P];exact n.2 K C
  |fn f u=>refine⟨n.1,fun E ho=>?_⟩;obtain⟨K,C⟩:=V u 0 E ho;rw[P];exact n.2 K C
  |Z u i k c o=>
   refine⟨n.1,fun X Q ho=>?_⟩;obtain⟨aL,C,hl⟩:=ab u i true X Q ho;have M:=n.2 X aL C
   by_cases hc:u=t/\i=j
   ·obtain⟨rfl,rfl⟩:=hc;rcases hn with hn|hn
    ·rw[hn]at y;cases y
    ·simp only[and_self,if_true,hn];exact M
   ·simp only[hc];exact M
  |ac R c=>obtain⟨b,aw,g,e,hk⟩:=n;exact⟨b,aw,g,e,fun k d hd=>⟨(hT _ _ _ (hk k d hd).2.1 (hk k d hd).1).1,(hk k d hd).2.1,Rd.mono hT (hk k d hd).2.2⟩⟩
 have D:∀u i,(σ.Yg t j S).ob u i≠ .none->σ.ob u i≠ .none:=by
  intro u i A;by_cases aH:u=t/\i=j
  ·obtain⟨rfl,rfl⟩:=aH;exact an
  ·rw[Z u i aH]at A;exact A
 refine⟨by rw[r.size,J.JQ],r.defers,by rw[aB];exact r.d,fun b G=>by rw[aB];exact r.e b G,r.f,fun u aH=>?_,fun u i=>?_,fun u i b' W aj=>?_,fun u i b' W aj=>?_,fun u i l i' b' W aI ag ak=>?_⟩
 ·rw[J.JQ]at aH;rw[J.JR];exact KA.map ah (J.I9 hp u) (r.slot u aH)
 ·by_cases hc:u=t/\i=j
  ·obtain⟨rfl,rfl⟩:=hc;rw[U];simp;exact ac
  ·rw[Z u i hc];simp only[hc];exact zf.map ah hT (fun ho b=>r.c u i b ho) (fun ho b G=>hw b (fun aa=>hc (r.inj u i t j b ho an G aa))) (J.El hp u i) (r.obj u i)
 ·by_cases hc:u=t/\i=j
  ·simp only[hc,if_true]at aj⊢;exact au b' aj
  ·simp only[hc]at aj⊢;exact r.c u i b' (D u i W) aj
 ·rw[aB];by_cases hc:u=t/\i=j
  ·simp only[hc,if_true]at aj;rcases F b' aj with M|M
   ·exact r.own t j b' an M
   ·have:=hM b' M;exact⟨this.1,this.2.1,this.2.2.1⟩
  ·simp only[hc]at aj;exact r.own u i b' (D u i W) aj
 ·by_cases hc:u=t/\i=j
  ·by_cases z:l=t/\i'=j
   ·exact⟨by rw[hc.1,z.1],by rw[hc.2,z.2]⟩
   ·simp only[hc,if_true]at ag;simp only[z]at ak;rcases F b' ag with M|M
    ·have:=r.inj t j l i' b' an (D l i' aI) M ak;grind
    ·exact absurd ak ((hM b' M).2.2.2 l i' (D l i' aI))
  ·by_cases z:l=t/\i'=j
   ·simp only[z,if_true]at ak;simp only[hc]at ag;rcases F b' ak with M|M
    ·have:=r.inj u i t j b' (D u i W) an ag M;grind
    ·exact absurd ag ((hM b' M).2.2.2 u i (D u i W))
   ·simp only[hc]at ag;simp only[z]at ak;exact r.inj u i l i' b' (D u i W) (D l i' aI) ag ak
theorem av.bk(r:av T0 B σ a w ad h)(an:σ.ob t j≠ .none)(aB:w'.heap.size=w.heap.size)(hw:∀k,¬(h t j).u k->w'.heap[k]?=w.heap[k]?)
  (S:Ob) (I:(σ.ob t j).ai S) (ac:zf (al T0 ad) h (σ.Yg t j S).ob w' (h t j) S):av T0 B (σ.Yg t j S) a w' ad h:=by
 have hh:(fun u i=>if u=t/\i=j then h t j else h u i)=h:=by
  funext u i;by_cases hc:u=t/\i=j
  ·simp[hc]
  ·simp[hc]
 have:=r.change an aB hw (fun _=>False) (fun _ hh=>hh.elim) S I _ rfl (fun b G=>.inl G) (fun b G=>r.c t j b an G) (fun _=>false) (J.SA σ) (.inr rfl) aC;grind
theorem run_store{T:TypeId}{f:TypeInfo}(hi:P.info? T=some f){o:Nat}{e:TypeId}(hg:w.heap[g]?=some (.cells ax e (0,0)))(aB:ak.cells.size=P.cellsOf T)(aA:o+P.cellsOf T<=ax.size)(M:∀u∈ak.cells.toList,u.oneCell'=true):
  (Instr.storeAt T (.pointer (some ⟨g,o,none⟩)) ak).run P w= .ok () (w.setRow g (place ax.toList o ak.cells.toList).toArray):=by
 have ar:=run_storeCells_at P g o e ak.cells.toList 0 ax w hg aC M;have W:¬ak.cells.size≠P.cellsOf T:=Y;simp only[Instr.storeAt,Instr.sureAddr,storeVar,Sem.run_bind,Sem.run_pure,Result.andThen_ok,ye hi,if_neg W];rw[ar];simp[place]
theorem Xv.setRow(hg:¬B g)(I:Array Value):Xv B w (w.setRow g I):=
 ⟨rfl,rfl,rfl,ab,fun k hk=>setRow_other w g k I (fun e=>hg (e▸hk))⟩
theorem rf(r:av T0 B σ a w ad h){T:TypeId}(A:o.op= .store T x y)(hd:o.dst=none)(ht:Uh P T=true)(aU:ap (look P σ 0 x)=true)(aV:ap (look P σ T y)=true)
  (O:unc (look P σ 0 x)= .one (.O t c)) {E:List At} (ho:σ.ob t 0= .box E) (aG:(unc (look P σ T y)).flat=true) (hl:(unc (look P σ T y)).cells.length=P.cellsOf T) (aA:c+P.cellsOf T<=E.length)
  (hK:∀a' w',yO T0 B (σ.Yg t 0 (.box (place E c (unc (look P σ T y)).cells))) a' w'->Xv B w w'->K a' w'):o.wp P a w K af:=by
 obtain⟨_,f,_,hi,_,_⟩:=PH ht;have C:=r.arg 0 x O aU
 obtain⟨b,I,e,G,he,hh,aa⟩:=r.box ho C;have hy:=OH aG (r.arg T y rfl aV)
 have V:=hy.length;have R:=aa.length;have H:I.toList.length=I.size:=Array.length_toList;have e2:(a.eval y).cells.toList.length=(a.eval y).cells.size:=Array.length_toList;have aE:=run_store hi (o:=c) (ak:=a.eval y) hh Y Y (fun u F=>by obtain⟨x',_,aW⟩:=hy.mem F;exact Yk.Qo aW);have an:σ.ob t 0≠ .none:=bq;have aP:blk (h t 0).v=some b:=by rw[G];rfl
 have g:=r.ZEp an aP;have au:=r.c t 0 b an aP;unfold Oper.wp;simp only[execOp,A,he,Sem.run_bind,aE,Result.andThen_ok,Sem.run_pure,Oper.upon_skip,hd];refine hK _ _ ⟨ad,h,?_⟩ (Xv.setRow g.1 _);have ac:=setRow_heap w b I (place I.toList c (a.eval y).cells.toList).toArray e _ hh;refine r.bk an ab (fun k hk=>setRow_other w b k _ (fun e=>hk (e▸au))) _ (by rw[ho];trivial) ?_;have hT:∀b' k v,al T0 ad b' k->w.cell? ⟨b',k,none⟩=some v->(w.setRow b (place I.toList c (a.eval y).cells.toList).toArray).cell? ⟨b',k,none⟩=some v/\al T0 ad b' k:=by
  intro b' k v aj ai;refine⟨?_,aj⟩;have W:b'≠b:=by
   rintro rfl;rcases aj with aj|aj
   ·exact g.1 (r.f _ _ aj)
   ·exact g.2.1 aj
  rw[World.cell?_of_block (setRow_other w b b' _ W)];exact ai
 have Z:∀u i,¬(u=t/\i=0)->(σ.Yg t 0 (.box (place E c (unc (look P σ T y)).cells))).ob u i=σ.ob u i:=by intro u i W;rw[J.ze σ t 0 _ u i an,if_neg W]
 have U:(σ.Yg t 0 (.box (place E c (unc (look P σ T y)).cells))).ob t 0= .box (place E c (unc (look P σ T y)).cells):=by rw[J.ze σ t 0 _ t 0 an];simp
 have d:∀u i,bz h h σ.ob (σ.Yg t 0 (.box (place E c (unc (look P σ T y)).cells))).ob u i:=by
  intro u i;by_cases F:u=t/\i=0
  ·obtain⟨rfl,rfl⟩:=F;refine⟨fun q X Q p=>?_,fun X Q p=>?_,fun N p=>⟨rfl,E,ho⟩⟩
   ·rw[U]at p;cases p
   ·rw[U]at p;cases p
  ·exact bz.same rfl (Z u i F)
 have ah:∀{x:At}{v:Value},Yk _ h σ.ob w x v->Yk _ h (σ.Yg t 0 _).ob _ x v:=fun n=>Yk.ZEI hT d n;refine⟨b,_,e,G,ac,?_⟩;have:=(aa.place c hy).imp (fun _ _=>ah);simpa using this
open Go.RowKit
variable{ds I A:List D}{l:List UInt8}
theorem VO{α:Type}(X c:Nat)(ds:List α)(hc:c+ds.length<=X):∀(Q:List (List α))(i:Nat)(L:List α),Q[i]?=some L->(∀r∈Q,r.length=X)->
  (Q.set i (place L c ds)).flatten=place Q.flatten (i*X+c) ds
 |[],i,L,hr,_=>by simp at hr
 |r0::Q,0,L,hr,hz=>by
  simp at hr;subst hr;have h0:=hz r0 ab
  simp only[List.flatten_cons,place,Nat.zero_add];rw[List.take_append_of_le_length Y,List.drop_append_of_le_length Y];simp
 |r0::Q,i+1,L,hr,hz=>by
  have h0:=hz r0 ab;have ih:=VO X c ds hc Q i L aC (fun r hr=>hz r aC);rw[List.set_cons_succ,List.flatten_cons,ih,List.flatten_cons];unfold place;have H:(i+1)*X+c=r0.length+(i*X+c):=by rw[Nat.add_mul];omega
  have e2:(i+1)*X+c+ds.length=r0.length+(i*X+c+ds.length):=by rw[h0];omega
  rw[e2,H,List.take_length_add_append];simp
theorem Dy{α:Type}(l:List α)(n aw:Nat)(xs:List α)(hl:aw+xs.length<=n)(hn:n<=l.length):(place l aw xs).take n=place (l.take n) aw xs:=by unfold place;rw[List.take_take,Nat.min_eq_left Y,List.drop_take];rw[List.take_append,List.take_append];simp;rw[Nat.min_eq_left Y,List.take_of_length_le aC,List.take_of_length_le (l:=xs) Y]
theorem Pj{α:Type}(l:List α)(o:Nat)(xs:List α)(hl:o+xs.length<=l.length)(k:Nat)(v:α)(hv:(place l o xs)[k]?=some v):
  (o<=k/\k<o+xs.length/\xs[k-o]?=some v)\/(¬(o<=k/\k<o+xs.length)/\l[k]?=some v):=by
 unfold place at hv;have M:(l.take o).length=o:=a0
 rcases Nat.lt_or_ge k o with hk|hk
 ·rw[List.append_assoc,List.getElem?_append_left Y,List.getElem?_take,if_pos hk]at hv;grind
 ·rw[List.append_assoc,List.getElem?_append_right Y,M]at hv;rcases Nat.lt_or_ge _ xs.length with a|a
  ·rw[List.getElem?_append_left a]at hv;grind
  ·rw[List.getElem?_append_right a,List.getElem?_drop]at hv;refine .inr ⟨Y,?_⟩;grind
theorem q9(r:av T0 B σ a w ad h){T:TypeId}(A:o.op= .store T x y)(hd:o.dst=none)(ht:Uh P T=true)(aU:ap (look P σ 0 x)=true)(aV:ap (look P σ T y)=true)
  (O:unc (look P σ 0 x)= .one (.ptr t j i c)) (ho:σ.ob t j= .arr q X Q) (hi:i<Q.length) (aG:(unc (look P σ T y)).flat=true) (z:rowOf σ (unc (look P σ T y)).cells=some ds) (ar:qZ (unc (look P σ T y)).cells=true)
  (hl:ds.length=P.cellsOf T) (aA:c+P.cellsOf T<=X) (hq:q=true->(∀d∈ds,d.scalar=true)/\∀k d,k<P.cellsOf T->(Q.getD i [])[c+k]?=some d->d.scalar=true)
  (hK:∀a' w',yO T0 B (σ.Yg t j (.arr q X (Q.set i (place (Q.getD i []) c ds)))) a' w'->Xv B w w'->K a' w'):o.wp P a w K af:=by
 obtain⟨_,f,_,ae,_,_⟩:=PH ht;have C:=r.arg 0 x O aU
 obtain⟨b,ah,ax,e,xs,G,he,hh,aS,aL,aM,aO,hz,H,aa,aq⟩:=r.arr ho C;have hy:=OH aG (r.arg T y rfl aV)
 have p:=r.rowOf true z hy (fun _=>ar);have V:=p.length;have e2:(a.eval y).cells.toList.length=(a.eval y).cells.size:=Array.length_toList;have e3:ax.toList.length=ax.size:=Array.length_toList;have ay:Q[i]?=some (Q.getD i []):=dH;have aB:i*X+X<=Q.length*X:=e1;have az:Q.length*X<=ah*X:=Nat.mul_le_mul_right _ aS;have aE:=run_store ae (o:=i*X+c) (ak:=a.eval y) hh Y Y (fun u F=>by obtain⟨x',_,aW⟩:=hy.mem F;exact Yk.Qo aW);have an:σ.ob t j≠ .none:=bq;have aP:blk (h t j).v=some b:=by rw[G];rfl
 have g:=r.ZEp an aP;have au:=r.c t j b an aP;unfold Oper.wp;simp only[execOp,A,he,Sem.run_bind,aE,Result.andThen_ok,Sem.run_pure,Oper.upon_skip,hd];refine hK _ _ ⟨ad,h,?_⟩ (Xv.setRow g.1 _);refine r.bk an ab (fun k hk=>setRow_other w b k _ (fun e=>hk (e▸au))) _ (by rw[ho];simp[Ob.ai]) ?_;have ac:=setRow_heap w b ax (place ax.toList (i*X+c) (a.eval y).cells.toList).toArray e _ hh;have hT:∀b' k v,al T0 ad b' k->w.cell? ⟨b',k,none⟩=some v->(w.setRow b (place ax.toList (i*X+c) (a.eval y).cells.toList).toArray).cell? ⟨b',k,none⟩=some v/\al T0 ad b' k:=by
  intro b' k v aj ai;refine⟨?_,aj⟩;have W:b'≠b:=by
   rintro rfl;rcases aj with aj|aj
   ·exact g.1 (r.f _ _ aj)
   ·exact g.2.1 aj
  rw[World.cell?_of_block (setRow_other w b b' _ W)];exact ai
 have aI:xs.length=Q.length*X:=by rw[H,XD Q X hz]
 have aT:=hz _ (List.mem_of_getElem? ay);have a0:(w.setRow b (place ax.toList (i*X+c) (a.eval y).cells.toList).toArray).ownsRow 0 e X (h t j).v (Q.set i (place (Q.getD i []) c ds)).length (place xs (i*X+c) (a.eval y).cells.toList):=by
  refine⟨?_,.inr ⟨b,ah,_,by simpa using G,Nat.zero_le _,ac,by simpa using aS,aL,?_,?_⟩⟩
  ·rw[Qb _ _ _ Y,aI];simp
  ·simp;rw[Qb _ _ _ Y,e3,aM]
  ·simp;rw[Dy _ _ _ _ Y Y,aO]
 have am:∀r∈Q.set i (place (Q.getD i []) c ds),r.length=X:=by
  intro r' aF;rcases List.mem_or_eq_of_mem_set aF with aF|aF
  ·exact hz r' aF
  ·rw[aF,Qb _ _ _ Y,aT]
 cases q with
 |false=>refine⟨e,_,a0,am,?_⟩;rw[VO X c ds Y Q i _ ay hz];exact((aa rfl).imp fun _ _=>Rd.mono hT).place _ (p.imp fun _ _=>Rd.mono hT)
 |true=>
  obtain⟨⟨_,l,M,Z,h3⟩,hn⟩:=aq rfl;obtain⟨E,I⟩:=hq rfl;have ai:∀k u,(place xs (i*X+c) (a.eval y).cells.toList)[k]?=some u->(i*X+c<=k/\k<i*X+c+ds.length/\(a.eval y).cells.toList[k-(i*X+c)]?=some u)\/(¬(i*X+c<=k/\k<i*X+c+ds.length)/\xs[k]?=some u):=by intro k u F;exact Pj xs _ _ Y k u F|>.imp (fun hh=>⟨hh.1,Y,hh.2.2⟩) (fun hh=>⟨by rw[<-V];exact hh.1,hh.2⟩)
  have ao:∀k d,(Q.set i (place (Q.getD i []) c ds)).flatten[k]?=some d->(i*X+c<=k/\k<i*X+c+ds.length/\ds[k-(i*X+c)]?=some d)\/(¬(i*X+c<=k/\k<i*X+c+ds.length)/\Q.flatten[k]?=some d):=by intro k d R;rw[VO X c ds Y Q i _ ay hz]at R;exact Pj _ _ _ Y k d R
  refine⟨e,_,a0,am,⟨?_,l,fun k u d F R=>?_,Z,h3⟩,fun k u d F R N=>?_⟩
  ·rw[Qb _ _ _ Y,H,XD Q X hz,XD _ X am];simp
  ·rcases ai k u F with⟨p1,p2,p3⟩|⟨p1,p3⟩
   ·rcases ao k d R with⟨_,_,p4⟩|⟨p4,_⟩
    ·obtain⟨d',m,aF⟩:=p.get _ _ p3;rw[p4]at m;cases m;have U:=E d (List.mem_of_getElem? p4)
     cases aF with
     |int k n=>exact .int _ _ _
     |bool b=>exact .bool _ _
     |str s=>exact .str _ _
     |unk v h=>exact .unk _ h _
     |nil=>simp[D.scalar]at U
     |sl=>simp[D.scalar]at U
    ·exact absurd ⟨p1,p2⟩ p4
   ·rcases ao k d R with⟨p4,L,_⟩|⟨_,p4⟩
    ·exact absurd ⟨p4,L⟩ p1
    ·refine(M k u d p3 p4).Bn (fun b' aj=>setRow_other w b b' _ ?_);rintro rfl;grind
  ·rcases ao k d R with⟨p4,L,p6⟩|⟨p4,p6⟩
   ·have:=E d (List.mem_of_getElem? p6);grind
   ·rcases ai k u F with⟨p1,p2,_⟩|⟨_,p3⟩
    ·exact absurd ⟨p1,p2⟩ p4
    ·exact hn k u d p3 p6 N
open Go.RowKit
variable{z:List At}{ay:Option Addr}
theorem wo(t A e e0:TypeId)(i:TypeInfo)(ht:P.underlying t=some (.slice e))(hi:P.info? e=some i)
  (g b h:Nat) (ax:Array Value) (hg:w.heap[g]?=some (.cells ax e0 (0,0)))
  (a:Addr) (m c:Nat) (am:List Value) (hl:am.length=m*i.size) (f:∀j u,am[j]?=some u->w.cell? (a.add j)=some u) (M:∀u∈am,u.oneCell'=true)
  (d:b+m<=h) (q:b*i.size+am.length<=ax.size):
  (Builtin.append_ #[t,t] A #[.slice (some ⟨g,0,none⟩) b h,.slice (some a) m c]).run P w=
   .ok (.slice (some ⟨g,0,none⟩) (b+m) h) (w.setRow g (ax.toList.take (b*i.size)++am++ax.toList.drop (b*i.size+am.length)).toArray):=by
 have hf:=run_firstCells_some (P:=P) w i.size m a m c am hl f;have ar:=run_storeCells_at P g (b*i.size) e0 am 0 ax w hg (by simpa using q) M;simp[Builtin.append_,run_underlying ht,sizeOf,typeInfo,hi,Builtin.lenOf,d,hf,Addr.add_lit,ar]
theorem Fh(t A e e0:TypeId)(i:TypeInfo)(z:Value)(ht:P.underlying t=some (.slice e))(hi:P.info? e=some i)(hz:i.zero=some z)
  (aR:z.cells.size=i.size) (aB:0<i.size) (v:Value) (n:Nat) (xs:List Value) (aq:w.ownsRow 0 e0 i.size v n xs)
  (a:Addr) (m c:Nat) (am:List Value) (hl:am.length=m*i.size) (f:∀j u,am[j]?=some u->w.cell? (a.add j)=some u) (M:∀u∈am,u.oneCell'=true)
  (h:n+m<=maxLen) (aY:(n+m)*i.bytes<=140737488355328):
  ∃U w' H,(Builtin.append_ #[t,t] A #[v,.slice (some a) m c]).run P w= .ok U w'/\w'.ownsRow 0 H i.size U (n+m) (xs++am)/\w.grownBy w' (blk v)/\
   (∀b,blk U=some b->(w.heap.size<=b/\b<w'.heap.size)\/blk v=some b):=by
 have az:(xs++am).length=(n+m)*i.size:=by rw[List.length_append,aq.1,hl,Nat.add_mul]
 rcases aq.2 with⟨rfl,rfl⟩|⟨g,ah,ax,rfl,_,hg,ar,Z,aM,htake⟩
 ·have O:xs=[]:=List.eq_nil_of_length_eq_zero (by simpa using aq.1);subst O;obtain⟨U,w',hr,ho,R,_⟩:=run_append_own (P:=P) w w.heap.size t A e i z i.size i.bytes ht hi hz rfl rfl aR aB _ 0 [] (World.ownsRow_nil w _ e i.size) a m c am hl f M h aY (Nat.le_refl _);refine⟨U,w',e,hr,?_,R,fun b G=>.inl ?_⟩
  ·refine⟨ho.1,ho.2.imp id ?_⟩;rintro⟨g,ah,ax,hv,_,ai⟩;grind
  ·have aj:U.ownBlock=some b:=by
    cases U with
    |slice o l c=>cases o with
     |none=>simp[blk]at G
     |some I=>simpa[blk,Value.ownBlock]using G
    |pointer o=>rcases ho.2 with⟨hv,_⟩|⟨g,ah,ax,hv,_⟩<;>cases hv
    |_=>simp[blk]at G
   exact ho.lt b aj
 ·by_cases d:n+m<=ah
  ·have q:n*i.size+am.length<=ax.size:=by rw[hl,aM,<-Nat.add_mul];exact Nat.mul_le_mul_right _ d
   have hr:=wo (P:=P) (w:=w) t A e e0 i ht hi g n ah ax hg a m c am hl f M d q;refine⟨_,_,e0,hr,⟨az,.inr ⟨g,ah,_,rfl,Nat.zero_le _,setRow_heap w g ax _ e0 _ hg,d,Z,?_,?_⟩⟩,⟨rfl,rfl,rfl,ab,fun k _ hk=>setRow_other w g k _ (fun e=>hk (by simp[blk,e]))⟩,fun b G=>.inr (by simpa[blk]using G)⟩
   ·simp;omega
   ·rw[htake,<-az];grind
  ·have p:=aq.cells (g:=g) rfl;have s:n+m<=9223372036854775807:=by simp only[maxLen]at h;omega
   have hr:=run_append_grow (P:=P) w t A e i z ht hi hz ⟨g,0,none⟩ n ah xs aq.1 p a m c am hl f Y Y (growslice_fits Y aY);have aN:=grownCap_ge w (n+m) ah e;have r:=grownCap_le_maxLen w (n+m) ah e h;refine⟨_,_,e,hr,⟨az,.inr ⟨w.heap.size,_,_,rfl,Nat.zero_le _,heap_alloc_new w.drew _,aN,r,?_,?_⟩⟩,⟨rfl,rfl,rfl,ab,fun k hk _=>(World.grownBy_alloc w.drew _ none).block k hk ab⟩,fun b G=>.inl ?_⟩
   ·simp only[Array.size_append,List.size_toArray,size_zeroCells,aR,aq.1,hl,<-Nat.add_mul];congr 1;omega
   ·simp;rw[<-List.append_assoc,<-az];grind
   ·simp[blk]at G;subst G;simp
theorem N7(t A e:TypeId)(i:TypeInfo)(ht:P.underlying t=some (.slice e))(hi:P.info? e=some i)(ay:Option Addr)(n ah:Nat)(ar:n<=ah)(G:ay=none->ah=0):
  (Builtin.append_ #[t,t] A #[.slice ay n ah,.slice none 0 0]).run P w= .ok (.slice ay n ah) w:=by
 cases ay with
 |none=>have:=G rfl;subst this;have:n=0:=Y;subst this;simp[Builtin.append_,run_underlying ht,sizeOf,typeInfo,hi,Builtin.lenOf,Builtin.firstCells]
 |some I=>simp[Builtin.append_,run_underlying ht,sizeOf,typeInfo,hi,Builtin.lenOf,Builtin.firstCells,ar,storeCells]
theorem av.less(r:av T0 B σ a w ad h)(hl:σ'.length=σ.length)(af:∀t,σ'.get t=σ.get t)(hk:∀t j,σ'.ob t j≠ .none->σ'.ob t j=σ.ob t j):av T0 B σ' a w ad h:=by
 have m:∀t j o,σ'.ob t j=o->o≠ .none->σ.ob t j=o:=by intro t j o ho W;grind
 have ah:∀{x:At}{v:Value},(fun _:At=>false) x=false->Yk (al T0 ad) h σ.ob w x v->Yk (al T0 ad) h σ'.ob w x v:=by
  intro x v _ n;cases x with
  |any=>exact n
  |d x=>exact n
  |nil s=>exact n
  |E u i lo ae=>exact⟨n.1,fun q X Q ho=>n.2.1 q X Q (m u i _ ho ab),fun X Q ho=>n.2.2 X Q (m u i _ ho ab)⟩
  |ptr u i k c=>exact⟨n.1,fun q X Q ho=>n.2 q X Q (m u i _ ho ab)⟩
  |O u c=>exact⟨n.1,fun E ho=>n.2 E (m u 0 _ ho ab)⟩
  |fn f u=>exact⟨n.1,fun E ho=>n.2 E (m u 0 _ ho ab)⟩
  |Z u i k c o=>exact⟨n.1,fun X Q ho=>n.2 X Q (m u i _ ho ab)⟩
  |ac R c=>exact n
 have D:∀u i,σ'.ob u i≠ .none->σ.ob u i≠ .none:=fun u i hn=>by rw[<-hk u i hn];exact hn
 refine⟨by rw[r.size,hl],r.defers,r.d,r.e,r.f,fun u F=>?_,fun u i=>?_,fun u i b hn=>r.c u i b (D u i hn),fun u i b hn=>r.own u i b (D u i hn),fun u i l i' b hn A=>r.inj u i l i' b (D u i hn) (D l i' A)⟩
 ·rw[af u];exact KA.map ah (SA _) (r.slot u Y)
 ·by_cases hn:σ'.ob u i= .none
  ·rw[hn];trivial
  ·rw[hk u i hn];exact zf.map ah (fun b k v G hc=>⟨hc,G⟩) (fun ho b=>r.c u i b ho) (fun _ _ _=>rfl) (GQ _) (r.obj u i)
theorem J.Lx(σ:J)(t j u i:Nat):(σ.Yg t j .none).ob u i=if u=t/\i=j then .none else σ.ob u i:=by
 by_cases an:σ.ob t j= .none
 ·have ag:∀(σ:J)(t u:Nat),σ.ob t j= .none->(σ.Yg t j .none).ob u i=σ.ob u i:=by
   intro σ;induction σ with
   |nil=>intro t u _;simp[J.Yg]
   |cons e σ ih=>
    intro t u ho;cases t with
    |zero=>cases u with
     |zero=>
      simp only[J.Yg,J.ob,List.getElem?_cons_zero,hu]at ho⊢;split
      ·rename_i hh;rw[hh.1,ho]
      ·rfl
     |succ u=>simp[J.Yg,J.ob]
    |succ t=>cases u with
     |zero=>simp[J.Yg,J.ob]
     |succ u=>have:=ih t u (by simpa[J.ob]using ho);simp only[J.ob,J.Yg]at this⊢;simpa using this
  rw[ag σ t u an];split
  ·rename_i hh;rw[hh.1,hh.2];exact an
  ·rfl
 ·exact J.ze σ t j _ u i an
theorem av.drop(r:av T0 B σ a w ad h)(t j:Nat):av T0 B (σ.Yg t j .none) a w ad h:=by
 refine r.less (J.JQ _ _ _ _) (fun u=>J.JR _ _ _ _ u) (fun u i hn=>?_);rw[J.Lx]at hn⊢;split
 ·rename_i hh;rw[if_pos hh]at hn;exact absurd rfl hn
 ·rfl
def J.YC:J->List (Nat×Nat)->J
 |σ,[]=>σ
 |σ,p::l=>J.YC (σ.Yg p.1 p.2 .none) l
theorem J.yh:∀(l:List (Nat×Nat))(σ:J),(σ.YC l).length=σ.length
 |[],σ=>rfl
 |p::l,σ=>by rw[J.YC,J.yh l,J.JQ]
theorem J.kg:∀(l:List (Nat×Nat))(σ:J)(t:Nat),(σ.YC l).get t=σ.get t
 |[],σ,t=>rfl
 |p::l,σ,t=>by rw[J.YC,J.kg l,J.JR]
theorem J.y0:∀(l:List (Nat×Nat))(σ:J)(t j:Nat),(σ.YC l).ob t j=if(t,j)∈l then .none else σ.ob t j
 |[],σ,t,j=>by simp[J.YC]
 |p::l,σ,t,j=>by
  rw[J.YC,J.y0 l,J.Lx];by_cases M:(t,j)∈l
  ·simp[M]
  ·by_cases Z:t=p.1/\j=p.2
   ·have:(t,j)=p:=by rw[Z.1,Z.2]
    grind
   ·have:¬(t,j)=p:=fun e=>Z aC;grind
theorem av.YC(r:av T0 B σ a w ad h)(l:List (Nat×Nat)):av T0 B (σ.YC l) a w ad h:=by
 refine r.less (J.yh l σ) (J.kg l σ) (fun u i hn=>?_);rw[J.y0]at hn⊢;split
 ·rename_i hh;rw[if_pos hh]at hn;exact absurd rfl hn
 ·rfl
open Go.RowKit
theorem WS{T:TypeId}(hz:JN P T=true):∃i z L,P.info? T=some i/\i.zero=some z/\P8 P 12 T=some L/\i.size=L.length/\z.cells.size=i.size/\i.size=P.cellsOf T/\(∀T' h ai w,Yd (Yk T' h ai w) L z.cells.toList):=by
 have D:∃L,P8 P 12 T=some L:=by
  unfold JN at hz;split at hz
  ·rename_i L i hr hi;exact⟨L,hr⟩
  ·cases hz
 obtain⟨L,hr⟩:=D;obtain⟨i,z,hi,aQ,aB,aa⟩:=pU hz hr;refine⟨i,z,L,hi,aQ,hr,aB,?_,by simp[Program.cellsOf,hi],aa⟩;have:=(aa (fun _ _=>True) (fun _ _=>Hd.of undef) (fun _ _=>.none) default).length
 have H:z.cells.toList.length=z.cells.size:=Array.length_toList;omega
def y9(σ:J)(x:V)(X:Nat)(am:List (List D)):Prop:=
 match x with
 |.one (.d (.sl s Q))=>s=X/\am=Q
 |.one (.nil _)=>am=[]
 |.one (.E t j lo ae)=>∃Q,σ.ob t j= .arr false X Q/\lo+ae<=Q.length/\am=cut Q lo ae
 |_=>False
def GW(σ:J)(x:V)(X:Nat)(au:List (List D))(σ1:J):Prop:=
 match x with
 |.one (.nil _)=>au=[]/\σ1=σ
 |.one (.E t j lo ae)=>∃Q,σ.ob t j= .arr false X Q/\lo=0/\ae<=Q.length/\au=Q.take ae/\σ1=σ.Yg t j .none
 |_=>False
theorem m7(v:Value)(n:Nat):blk (ef v n)=blk v:=by
 cases v with
 |slice o _ _=>cases o<;>rfl
 |_=>rfl
theorem U5(Q:List (List D))(X:Nat)(hz:∀r∈Q,r.length=X)(ae:Nat)(aA:ae<=Q.length):(Q.take ae).flatten=Q.flatten.take (ae*X):=by
 induction Q generalizing ae with
 |nil=>simp
 |cons r Q ih=>
  cases ae with
  |zero=>simp
  |succ ae=>
   have M:=hz r ab;have Z:=ih (fun q hq=>hz q aC) ae aC;have h3:(ae+1)*X=r.length+ae*X:=by rw[Nat.add_mul];omega
   grind
theorem Be{e:TypeId}{xs:List Value}(ho:w.ownsRow 0 e X v n xs)(aA:ae<=n):w.ownsRow 0 e X (ef v ae) ae (xs.take (ae*X)):=by
 have hm:ae*X<=n*X:=Nat.mul_le_mul_right _ aA;refine⟨by rw[List.length_take,ho.1];omega,?_⟩;rcases ho.2 with⟨rfl,rfl⟩|⟨g,ah,ax,rfl,O,hg,ar,Z,aM,aO⟩
 ·have:ae=0:=Y;subst this;exact .inl ⟨rfl,rfl⟩
 ·refine .inr ⟨g,ah,ax,rfl,O,hg,Y,Z,aM,?_⟩;rw[<-aO,List.take_take];congr 1;omega
theorem ma(r:av T0 B σ a w ad h){x:V}(U:y9 σ x X am)(hv:KA (al T0 ad) h σ.ob w x v):
  (∀n∈am,n.length=X)/\((v= .slice none 0 0/\am=[])\/∃I c xs,v= .slice (some I) am.length c/\(∀j u,xs[j]?=some u->w.cell? (I.add j)=some u)/\Yd (Rd (al T0 ad) w) xs am.flatten):=by
 unfold y9 at U;split at U
 ·rename_i s Q;obtain⟨rfl,rfl⟩:=U;refine⟨v6 (hv),?_⟩;cases(hv)with
  |nil=>exact .inl ⟨rfl,rfl⟩
  |sl I ae ah s Q g hl hc hm hz y hg hr=>
   refine .inr ⟨I,ah,(List.range am.flatten.length).map g,by rw[hl],fun j u F=>?_,?_⟩
   ·rw[List.getElem?_map]at F;rcases Nat.lt_or_ge j am.flatten.length with hj|hj
    ·rw[List.getElem?_range hj]at F;cases F;have W:am.flatten≠[]:=by intro he;rw[he]at hj;simp at hj
     have:=(hg j _ (List.getElem?_eq_getElem hj)).1;obtain⟨b,aw,A⟩:=I;have:=y W;simp at this;subst this;rw[V6];assumption
    ·rw[List.getElem?_eq_none aC]at F;cases F
   ·refine Yd.V8 ab (fun k u d F hd=>?_);rw[List.getElem?_map]at F;have hk:=(List.getElem?_eq_some_iff.1 hd).1
    rw[List.getElem?_range hk]at F;cases F;grind
 ·subst U;exact⟨ab,.inl ⟨hv,rfl⟩⟩
 ·rename_i t j lo ae;obtain⟨Q,ho,aA,rfl⟩:=U;have h0:=r.obj t j
  rw[ho]at h0;obtain⟨e,xs,⟨hl,aq⟩,hz,aa⟩:=h0;refine⟨fun x O=>hz x (List.mem_of_mem_drop (List.mem_of_mem_take O)),?_⟩;have aF:=hv
  obtain⟨_,_,_,ay,ah,rfl,aS,_,aG,G⟩:=aF.2.1 _ X Q ho;have R:=Xj _ _ _ aA
  by_cases aK:0<ae
  ·obtain⟨b,aE,hh,rfl⟩:=G aK;rcases aq with⟨hn,_⟩|⟨g,ba,ax,aF,_,hgg,ar,aL,aM,aO⟩
   ·rw[hh]at hn;cases hn
   ·rw[hh]at aF;cases aF;refine .inr ⟨_,ah,cut xs (lo*X) (ae*X),by rw[R],fun j u F=>?_,?_⟩
    ·have M:=jP _ _ _ _ _ F;rw[V6];refine qh hgg _ _ ?_;rw[<-aO,List.getElem?_take]at M;split at M
     ·exact M
     ·cases M
    ·have aI:xs.length=Q.length*X:=by rw[aa.length,XD Q X hz]
     have aB:lo*X+ae*X<=Q.length*X:=fT;refine Yd.V8 ?_ (fun k u d F hd=>?_)
     ·rw[Xj _ _ _ Y,XD (cut Q lo ae) X (fun x O=>hz x (List.mem_of_mem_drop (List.mem_of_mem_take O))),R]
     ·have M:=jP _ _ _ _ _ F;have Z:=Sr Q X lo ae hz k d hd;obtain⟨d',m,hr⟩:=aa.get _ _ M;rw[Z]at m;cases m;exact hr
  ·have:ae=0:=Y;subst this;have K:cut Q lo 0=[]:=by simp[cut]
   cases ay with
   |none=>have:=aG rfl;subst this;exact .inl ⟨rfl,rfl⟩
   |some I=>exact .inr ⟨I,ah,[],rfl,ab,.nil⟩
 ·exact U.elim
theorem sQ(r:av T0 B σ a w ad h){t:TypeId}(A:o.op= .call ⟨.builtin .append,#[x,y],#[t,t]⟩)(hd:o.dst=some d)
  (aU:ap (look P σ t x)=true) (aV:ap (look P σ t y)=true) (ht:Xr P t=true) (hz:JN P (C P t)=true) (aK:0<P.cellsOf (C P t))
  (m:GW σ (unc (look P σ t x)) (P.cellsOf (C P t)) au σ1) (n:y9 σ (unc (look P σ t y)) (P.cellsOf (C P t)) am) (E:σ1.fresh d=true)
  (aY:(au.length+am.length)*P.bytesOf (C P t)<=140737488355328) (aZ:au.length+am.length<=9223372036854775807)
  (hK:∀a' w',yO T0 B (σ1.new d (.one (.E d 0 0 (au.length+am.length))) [.arr false (P.cellsOf (C P t)) (au++am)]) a' w'->Xv B w w'->K a' w'):o.wp P a w K af:=by
 obtain⟨f,F,hi,a2⟩:=Qc ht;obtain⟨i,z,L,ao,aQ,D,a3,aR,aT,a1⟩:=WS hz;rw[hi]at ao;cases ao;have a4:P.bytesOf (C P t)=f.bytes:=de
 rw[a4]at aY;rw[<-aT]at m n aK hK;have X:=r.arg t x rfl aU
 have a7:=r.arg t y rfl aV;obtain⟨aX,N⟩:=ma r n a7;have S:∃e0 xs,w.ownsRow 0 e0 f.size (a.eval x) au.length xs/\(∀q∈au,q.length=f.size)/\Yd (Rd (al T0 ad) w) xs au.flatten/\av T0 B σ1 a w ad h/\
   (∀b,blk (a.eval x)=some b->¬B b/\¬ad b/\b<w.heap.size/\∀u j,σ1.ob u j≠ .none->¬(h u j).u b):=by
  unfold GW at m;split at m
  ·rename_i s heq;obtain⟨rfl,rfl⟩:=m;rw[heq]at X;have he:=X
   rw[he];exact⟨0,[],World.ownsRow_nil w 0 0 _,ab,.nil,r,(fun b G=>by cases G)⟩
  ·rename_i u j lo ae heq;obtain⟨Q,ho,rfl,aA,rfl,rfl⟩:=m;rw[heq]at X;have a9:=X
   obtain⟨_,_,aN,_⟩:=a9.2.1 _ _ _ ho;have he:=aN rfl
   have h0:=r.obj u j;rw[ho]at h0;obtain⟨e,xs,aq,a6,aa⟩:=h0;have an:σ.ob u j≠ .none:=bq;have aB:(Q.take ae).length=ae:=dt;have aG:=U5 Q f.size a6 ae aA;refine⟨e,xs.take _,by rw[he,aB];exact Be aq aA,fun q hq=>a6 q (List.mem_of_mem_take hq),by rw[aG];exact aa.take _,r.drop u j,fun b G=>?_⟩;rw[he,m7]at G;have a8:=r.c u j b an G;have a0:=r.own u j b an a8;refine⟨a0.1,a0.2.1,a0.2.2,fun l j' W aj=>?_⟩;have ba:σ.ob l j'≠ .none:=by
    intro hh;rw[J.ze σ u j _ l j' an]at W;split at W
    ·exact W rfl
    ·exact W hh
   have:=r.inj u j l j' b an ba a8 aj;obtain⟨rfl,rfl⟩:=this;rw[J.ze σ u j _ u j an]at W;grind
  ·exact m.elim
 obtain⟨e0,xs,aq,bd,bc,r1,aP⟩:=S;have bb:∀q∈au++am,q.length=f.size:=by
  intro q hq;rcases List.mem_append.1 hq with hq|hq
  ·exact bd q hq
  ·exact aX q hq
 have ag:∀(U:Value)(w':World)(H:TypeId)(ys:List Value),(Builtin.append_ #[t,t] o.type #[a.eval x,a.eval y]).run P w= .ok U w'->w'.ownsRow 0 H f.size U (au.length+am.length) (xs++ys)->
   Yd (Rd (al T0 ad) w) ys am.flatten->w.grownBy w' (blk (a.eval x))->(∀b,blk U=some b->(w.heap.size<=b/\b<w'.heap.size)\/blk (a.eval x)=some b)->o.wp P a w K af:=by
  intro U w' H ys aE p az R T;have ac:=J.Vo E
  have hT:∀b k v,al T0 ad b k->w.cell? ⟨b,k,none⟩=some v->w'.cell? ⟨b,k,none⟩=some v/\al T0 ad b k:=by
   intro b k v G ai;refine⟨?_,G⟩;have W:some b≠blk (a.eval x):=by
    intro e;have M:=aP b e.symm
    rcases G with G|G
    ·exact M.1 (r.f b k G)
    ·exact M.2.1 G
   rw[World.cell?_of_block (R.block b (r.Tlt G) W)];exact ai
  unfold Oper.wp;have aS:(execOp a.eval o).run P w= .ok (.value U) w':=by simp only[execOp,A,resolve,invoke,builtin,Sem.run_bind,Sem.run_pure,Result.andThen_ok,List.map_toArray,List.map_cons,List.map_nil,aE]
  rw[aS,Oper.upon_value,hd];refine hK _ _ ⟨ad,fun u j=>if u=d then Hd.of U else h u j,?_⟩ ⟨R.os,R.tape,R.output,R.size,fun k hk=>R.block k (r.d k hk) (fun e=>(aP k e.symm).1 hk)⟩;have ak:(σ1.new d (.one (.E d 0 0 (au.length+am.length))) [.arr false f.size (au++am)]).ob d 0= .arr false f.size (au++am):=cT
  have aO:w'.ownsRow 0 H f.size U (au++am).length (xs++ys):=by rw[List.length_append];exact p
  have aL:Yd (Rd (al T0 ad) w') (xs++ys) (au++am).flatten:=by rw[List.flatten_append];exact(bc.imp fun _ _=>Rd.mono hT).append (az.imp fun _ _=>Rd.mono hT)
  refine r1.ZCy E (fun b=>blk _=some b) R.size (fun k hk W=>R.block k hk (fun e=>W e.symm)) (fun b G=>⟨(aP b G).1,(aP b G).2.1,fun u j _ W=>(aP b G).2.2.2 u j W⟩) (fun _ G=>G) (fun _ G=>.inl G) _ _ [.arr false f.size _] (fun _=>Hd.of U) ?_ (fun j=>?_) (fun j b _ G=>G) (fun j b W aj=>?_) (fun j j' b W aI _ _=>?_)
  ·refine⟨qn p,fun q' aJ aD hh=>?_,fun aJ aD hh=>by rw[ak]at hh;cases hh⟩;rw[ak]at hh;cases hh;simp;have:=Hz aO
   rwa[List.length_append]at this
  ·cases j with
   |zero=>exact⟨H,xs++ys,aO,bb,aL⟩
   |succ j=>simp[Y6,zf]
  ·rcases T b aj with M|M
   ·exact⟨.inl M.1,fun O=>by have:=(r.e b O).2;omega,M.2⟩
   ·have Z:=aP b M;exact⟨.inr M,Z.2.1,by have:=R.size;omega⟩
  ·have:∀j,Y6 [Ob.arr false f.size (au++am)] j≠ .none->j=0:=by
    intro j hj;cases j with
    |zero=>rfl
    |succ j=>simp[Y6]at hj
   grind
 rcases N with⟨a5,rfl⟩|⟨I,c,ys,a5,ai,az⟩
 ·have aM:∃ay ah,a.eval x= .slice ay au.length ah/\au.length<=ah/\(ay=none->ah=0):=by
   rcases aq.2 with⟨M,Z⟩|⟨g,ah,ax,M,_,_,ar,_⟩
   ·exact⟨none,0,by rw[M,Z],Y,fun _=>rfl⟩
   ·exact⟨_,ah,M,ar,(fun hh=>by cases hh)⟩
  obtain⟨ay,ah,aw,ar,aW⟩:=aM;refine ag _ w e0 [] ?_ aC .nil ⟨rfl,rfl,rfl,Nat.le_refl _,fun _ _ _=>rfl⟩ (fun b G=>.inr G);rw[aw,a5];exact N7 t o.type _ f F hi ay au.length ah ar aW
 ·have V:ys.length=am.length*f.size:=by rw[az.length,XD am f.size aX]
  obtain⟨U,w',H,aE,p,R,T⟩:=Fh t o.type _ e0 f z F hi aQ aR Y _ au.length xs aq I am.length c ys V ai
   (fun u aH=>by
    obtain⟨k,hk⟩:=List.mem_iff_getElem?.1 aH;obtain⟨d',_,aF⟩:=az.get k u hk;exact Rd.Qo aF) (by simp only[maxLen];omega) aY
  refine ag U w' H ys ?_ p az R T;grind
open Go.RowKit
variable{parts:Array (Nat×Operand)}
def BF(P:Program)(σ:J)(T:TypeId)(X:Nat):List (Nat×Operand)->Nat->List (List D)->Prop
 |[],_,rs=>rs=[]
 |(i,x)::R,k,rs=>i=k/\ap (look P σ T x)=true/\(unc (look P σ T x)).flat=true/\qZ (unc (look P σ T x)).cells=true/\
   ∃r ai,rowOf σ (unc (look P σ T x)).cells=some r/\r.length=X/\BF P σ T X R (k+1) ai/\rs=r::ai
theorem vV{α:Type}(l:List α)(o:Nat)(xs ys:List α)(hl:o+(xs++ys).length<=l.length):place (place l o xs) (o+xs.length) ys=place l o (xs++ys):=by
 unfold place;have M:(l.take o++xs).length=o+xs.length:=a0
 have Z:(l.take o++xs++l.drop (o+xs.length)).take (o+xs.length)=l.take o++xs:=by grind
 have h3:(l.take o++xs++l.drop (o+xs.length)).drop (o+xs.length+ys.length)=l.drop (o+(xs++ys).length):=by rw[show o+xs.length+ys.length=(l.take o++xs).length+ys.length by omega,List.drop_length_add_append,List.drop_drop];congr 1;simp;omega
 grind
theorem AU(r:av T0 B σ a w ad h)(T:TypeId)(X:Nat):∀(R:List (Nat×Operand))(k:Nat)(rs:List (List D))(E:Array Value),BF P σ T X R k rs->(k+R.length)*X<=E.size->
   ∃N ys,Instr.fill (fun i=>some (i*X,X)) E (R.map fun x=>(x.1,a.eval x.2))=some N/\N.toList=place E.toList (k*X) ys/\Yd (Rd (al T0 ad) w) ys rs.flatten/\(∀q∈rs,q.length=X)/\rs.length=R.length
 |[],k,rs,E,G,_=>by cases G;exact⟨E,[],rfl,by simp[place],.nil,ab,rfl⟩
 |(i,x)::R,k,rs,E,G,hl=>by
  obtain⟨rfl,hg,hf,ar,r0,ai,ap,az,G,rfl⟩:=G;have O:=OH hf (r.arg T x rfl hg)
  have p:=r.rowOf true ap O (fun _=>ar);have aD:=p.length;have H:E.toList.length=E.size:=Array.length_toList;have e2:(a.eval x).cells.toList.length=(a.eval x).cells.size:=Array.length_toList;have aB:(i+(R.length+1))*X=i*X+X+R.length*X:=es;simp at hl;have heq:=GJ (i*X) (a.eval x).cells E Y;have a3:((a.eval x).cells.zipIdx.foldl (fun I x=>I.setIfInBounds (i*X+x.2) x.1) E).size=E.size:=by rw[<-Array.length_toList,heq,Qb _ _ _ Y,H]
  have b:(i+1+R.length)*X=i*X+X+R.length*X:=es;obtain⟨N,ys,M,Z,h3,h4,h5⟩:=AU r T X R _ ai _ G (by rw[a3];omega);have V:ys.length=R.length*X:=by rw[h3.length,XD ai X h4,h5]
  refine⟨N,(a.eval x).cells.toList++ys,?_,?_,?_,?_,by simp[h5]⟩
  ·simp only[List.map_cons,Instr.fill];rw[if_neg aC];exact M
  ·rw[Z,heq];rw[show(i+1)*X=i*X+(a.eval x).cells.toList.length by rw[Nat.add_mul];omega];exact vV _ _ _ _ aC
  ·rw[List.flatten_cons];exact p.append h3
  ·intro q hq;rcases List.mem_cons.1 hq with rfl|hq
   ·exact az
   ·exact h4 q hq
theorem AL(r:av T0 B σ a w ad h){T:TypeId}(A:o.op= .buildSlice T n parts)(hd:o.dst=some d)(E:σ.fresh d=true)
  (ht:Xr P T=true) (hz:JN P (C P T)=true) (aK:0<P.cellsOf (C P T)) (hn:parts.toList.length=n) (l:n*P.cellsOf (C P T)<=16777216) (G:BF P σ (C P T) (P.cellsOf (C P T)) parts.toList 0 Q)
  (hK:∀a' w',yO T0 B (σ.new d (.one (.E d 0 0 Q.length)) [.arr false (P.cellsOf (C P T)) Q]) a' w'->Xv B w w'->K a' w'):o.wp P a w K af:=by
 obtain⟨f,F,hi,a2⟩:=Qc ht;obtain⟨i,z,L,ao,aQ,D,a3,aR,aT,a1⟩:=WS hz;rw[hi]at ao;cases ao;have y:(zeroValue (C P T)).run P w= .ok z w:=by simp[zeroValue,typeInfo,hi,aQ]
 obtain⟨zero,e⟩:∃zero:Array Value,(n*P.cellsOf _=0->zero=#[])/\(¬n*P.cellsOf _=0->zero=z.cells):=by
  by_cases h0:n*P.cellsOf (C P T)=0
  ·exact⟨#[],fun _=>rfl,fun hh=>absurd h0 hh⟩
  ·exact⟨z.cells,fun hh=>absurd hh h0,fun _=>rfl⟩
 obtain⟨N,ys,M,Z,h3,h4,h5⟩:=AU r _ _ parts.toList 0 Q ((Array.range (n*P.cellsOf (C P T))).map (zero[·%zero.size]!)) G aC;have V:ys.length=n*P.cellsOf (C P T):=by rw[h3.length,XD Q _ h4,h5,hn]
 have R:N.toList=ys:=by rw[Z];unfold place;grind
 have q:(parts.map fun(x:Nat×Operand)=>(x.1,a.eval x.2)).toList=parts.toList.map fun x=>(x.1,a.eval x.2):=ab;have aE:(execOp a.eval o).run P w= .ok (.value (.slice (some ⟨w.heap.size,0,none⟩) n n)) (w.alloc (.cells N (C P T))):=by
  have H:¬(n*P.cellsOf (C P T)>2^24):=Y;by_cases h0:n*P.cellsOf (C P T)=0
  ·have c:=e.1 h0;subst c;simp only[execOp,A,Instr.buildSlice,Sem.run_bind,run_underlying F,Result.andThen_ok,ye hi,if_neg H,if_pos h0,q,M,newRow,Sem.run_pure,run_newObj_alloc]
  ·have c:=e.2 h0;subst c;simp only[execOp,A,Instr.buildSlice,Sem.run_bind,run_underlying F,Result.andThen_ok,ye hi,if_neg H,if_neg h0,y,q,M,newRow,Sem.run_pure,run_newObj_alloc]
 unfold Oper.wp;rw[aE,Oper.upon_value,hd];have az:Q.length=n:=by rw[h5,hn]
 have hT:∀b k v,al T0 ad b k->w.cell? ⟨b,k,none⟩=some v->(w.alloc (.cells N (C P T))).cell? ⟨b,k,none⟩=some v/\al T0 ad b k:=by intro b k v G ai;refine⟨?_,G⟩;rw[World.cell?_of_block ((World.grownBy_alloc w _ none).block b (r.Tlt G) ab)];exact ai
 have g:N.size=n*P.cellsOf (C P T):=fR;have aL:n<=maxLen:=by have:n<=n*P.cellsOf _:=Nat.le_mul_of_pos_right _ aK;simp only[maxLen];omega
 have:=r.ZA2 E (World.grownBy_alloc w _ none) _
  ⟨C P T,ys,⟨by rw[V,az],.inr ⟨w.heap.size,n,N,by rw[az],Nat.zero_le _,heap_alloc_new w _,Y,aL,g,by rw[R,az,List.take_of_length_le Y]⟩⟩,h4,h3.imp fun _ _=>Rd.mono hT⟩
  (fun b G=>by simp[blk]at G;subst G;exact⟨Nat.le_refl _,ab⟩)
 grind
theorem IP(r:av T0 B σ a w ad h){T:TypeId}(A:o.op= .buildSlice T n parts)(hd:o.dst=some d)
  (ht:Xr P T=true) (hz:JN P (C P T)=true) (aK:0<P.cellsOf (C P T)) (hn:parts.toList.length=n) (l:n*P.cellsOf (C P T)<=16777216) (G:BF P σ (C P T) (P.cellsOf (C P T)) parts.toList 0 Q)
  (hK:∀a' w',yO T0 B (σ.put d (.one (.d (.sl (P.cellsOf (C P T)) Q)))) a' w'->Xv B w w'->K a' w'):o.wp P a w K af:=by
 obtain⟨f,F,hi,a2⟩:=Qc ht;obtain⟨i,z,L,ao,aQ,D,a3,aR,aT,a1⟩:=WS hz;rw[hi]at ao;cases ao;have y:(zeroValue (C P T)).run P w= .ok z w:=by simp[zeroValue,typeInfo,hi,aQ]
 obtain⟨zero,e⟩:∃zero:Array Value,(n*P.cellsOf _=0->zero=#[])/\(¬n*P.cellsOf _=0->zero=z.cells):=by
  by_cases h0:n*P.cellsOf (C P T)=0
  ·exact⟨#[],fun _=>rfl,fun hh=>absurd h0 hh⟩
  ·exact⟨z.cells,fun hh=>absurd hh h0,fun _=>rfl⟩
 obtain⟨N,ys,M,Z,h3,h4,h5⟩:=AU r _ _ parts.toList 0 Q ((Array.range (n*P.cellsOf (C P T))).map (zero[·%zero.size]!)) G aC;have V:ys.length=n*P.cellsOf (C P T):=by rw[h3.length,XD Q _ h4,h5,hn]
 have R:N.toList=ys:=by rw[Z];unfold place;grind
 have q:(parts.map fun(x:Nat×Operand)=>(x.1,a.eval x.2)).toList=parts.toList.map fun x=>(x.1,a.eval x.2):=ab;have aE:(execOp a.eval o).run P w= .ok (.value (.slice (some ⟨w.heap.size,0,none⟩) n n)) (w.alloc (.cells N (C P T))):=by
  have H:¬(n*P.cellsOf (C P T)>2^24):=Y;by_cases h0:n*P.cellsOf (C P T)=0
  ·have c:=e.1 h0;subst c;simp only[execOp,A,Instr.buildSlice,Sem.run_bind,run_underlying F,Result.andThen_ok,ye hi,if_neg H,if_pos h0,q,M,newRow,Sem.run_pure,run_newObj_alloc]
  ·have c:=e.2 h0;subst c;simp only[execOp,A,Instr.buildSlice,Sem.run_bind,run_underlying F,Result.andThen_ok,ye hi,if_neg H,if_neg h0,y,q,M,newRow,Sem.run_pure,run_newObj_alloc]
 unfold Oper.wp;rw[aE,Oper.upon_value,hd];have az:Q.length=n:=by rw[h5,hn]
 have aa:=World.grownBy_alloc w (.cells N (C P T)) none;have r2:=r.grow (X':=fun b=>ad b\/b=w.heap.size) aa (fun b G=>.inl G) (fun b G=>G.imp id (fun hh=>by subst hh;exact⟨Nat.le_refl _,ab⟩));have hT:∀b k v,al T0 ad b k->w.cell? ⟨b,k,none⟩=some v->(w.alloc (.cells N (C P T))).cell? ⟨b,k,none⟩=some v/\al T0 (fun b=>ad b\/b=w.heap.size) b k:=by intro b k v G ai;refine⟨?_,G.imp id .inl⟩;rw[World.cell?_of_block (aa.block b (r.Tlt G) ab)];exact ai
 have g:N.size=n*P.cellsOf (C P T):=fR;have aL:n<=maxLen:=by have:n<=n*P.cellsOf _:=Nat.le_mul_of_pos_right _ aK;simp only[maxLen];omega
 refine hK _ _ ⟨_,_,r2.put d _ _ ?_⟩ (Xv.HU aa r.d);exact hU ⟨by rw[V,az],.inr ⟨w.heap.size,n,N,by rw[az],Nat.zero_le _,heap_alloc_new w _,Y,aL,g,by rw[R,az,List.take_of_length_le Y]⟩⟩ h4 (fun b k G=>by simp[blk]at G;subst G;exact .inr (.inr rfl)) (h3.imp fun _ _=>Rd.mono hT)
def zD:List At->Option (List D)
 |[]=>some []
 |.d x::xs=>(zD xs).map (x::·)
 |.nil s::xs=>(zD xs).map (.sl s []::·)
 |_=>none
theorem gf{T:CS}{ai:Nat->Nat->Ob}:∀{xs:List At}{ds:List D}{vs:List Value},zD xs=some ds->Yd (Yk T h ai w) xs vs->Yd (Rd T w) vs ds
 |[],ds,vs,hz,aa=>by cases aa;simp[zD]at hz;subst hz;exact .nil
 |x::xs,ds,vs,hz,aa=>by
  cases aa with
  |cons O aa=>
   cases x with
   |d x=>simp only[zD,Option.map_eq_some_iff]at hz;obtain⟨g,am,rfl⟩:=hz;exact .cons O (gf am aa)
   |nil s=>simp only[zD,Option.map_eq_some_iff]at hz;obtain⟨g,am,rfl⟩:=hz;cases O;exact .cons (.nil _) (gf am aa)
   |any=>simp[zD]at hz
   |E=>simp[zD]at hz
   |ptr=>simp[zD]at hz
   |O=>simp[zD]at hz
   |fn=>simp[zD]at hz
   |ac=>simp[zD]at hz
   |Z=>simp[zD]at hz
theorem PD{α:Type}(z:List α)(n k:Nat)(hk:k<n*z.length):(List.replicate n z).flatten[k]?=z[k%z.length]?:=by
 induction n generalizing k with
 |zero=>simp at hk
 |succ n ih=>
  rw[List.replicate_succ,List.flatten_cons];rcases Nat.lt_or_ge k z.length with ac|aN
  ·rw[List.getElem?_append_left ac,Nat.mod_eq_of_lt ac]
  ·rw[List.getElem?_append_right aN,ih _ aC];congr 1;rw[Nat.mod_eq_sub_mod aN]
theorem u9(r:av T0 B σ a w ad h){T:TypeId}(A:o.op= .makeSlice T x x)(hd:o.dst=some d)(E:σ.fresh d=true)
  (ht:Xr P T=true) (hz:JN P (C P T)=true) (D:P8 P 12 (C P T)=some z) (s:zD z=some I) (aK:0<P.cellsOf (C P T)) (O:MN P σ x k (n:Int)) (a4:P.bytesOf (C P T)*n<=281474976710656) (aZ:n<=9223372036854775807)
  (hK:∀a' w',yO T0 B (σ.new d (.one (.E d 0 0 n)) [.arr false (P.cellsOf (C P T)) (List.replicate n I)]) a' w'->Xv B w w'->K a' w'):o.wp P a w K af:=by
 obtain⟨f,F,hi,a2⟩:=Qc ht;obtain⟨i,c,L,ao,aQ,j,a3,aR,aT,a1⟩:=WS hz;rw[hi]at ao;cases ao;rw[D]at j;cases j;have aw:=Vz r O
 have t:(f.bytes:Int)*(n:Int)<=281474976710656:=by have:P.bytesOf (C P T)=f.bytes:=de;rw[this]at a4;have h:((f.bytes*n:Nat):Int)<=281474976710656:=Y;rwa[Int.natCast_mul]at h
 have aE:=run_make w T _ f c F hi aQ k k n n ab (Int.le_refl _) t Y;unfold Oper.wp;simp only[execOp,A,aw,Sem.run_bind,aE,Result.andThen_ok,Sem.run_pure,Oper.upon_value,hd];have p:=gf s (a1 (al T0 ad) h σ.ob w);have aJ:=p.length;have H:c.cells.toList.length=c.cells.size:=Array.length_toList;have g:I.length=f.size:=Y;have hT:∀b k v,al T0 ad b k->w.cell? ⟨b,k,none⟩=some v->(w.alloc (.cells (madeCells c.cells (n*f.size)) (C P T))).cell? ⟨b,k,none⟩=some v/\al T0 ad b k:=by intro b k v G ai;refine⟨?_,G⟩;rw[World.cell?_of_block ((World.grownBy_alloc w _ none).block b (r.Tlt G) ab)];exact ai
 have l:(madeCells c.cells (n*f.size)).toList.length=n*f.size:=by rw[Array.length_toList,size_madeCells]
 have y:∀q u,(madeCells c.cells (n*f.size)).toList[q]?=some u->c.cells.toList[q%f.size]?=some u:=by
  intro q u hq;have ac:q<n*f.size:=dS
  have J:q%f.size<c.cells.size:=by rw[aR];exact Nat.mod_lt _ Y
  have:(madeCells c.cells (n*f.size)).toList[q]?=some (c.cells[q%c.cells.size]!):=by simp[madeCells,ac]
  rw[this]at hq;cases hq;rw[aR];grind
 have aL:Yd (Rd (al T0 ad) w) (madeCells c.cells (n*f.size)).toList (List.replicate n I).flatten:=by
  refine Yd.V8 cX (fun q u dd hq R=>?_);have ac:q<n*f.size:=dS
  rw[PD I n q aC,g]at R;obtain⟨d',m,aF⟩:=p.get _ _ (y q u hq);rw[R]at m;cases m;grind
 have:=r.ZA2 E (World.grownBy_alloc w _ none) (.slice (some ⟨w.heap.size,0,none⟩) n n) (X:=P.cellsOf (C P T))
  ⟨C P T,(madeCells c.cells _).toList,⟨by rw[l,aT];simp,.inr ⟨w.heap.size,n,_,ab,Nat.zero_le _,heap_alloc_new w _,ab,by simp only[maxLen];omega,by rw[size_madeCells,aT],by rw[List.take_of_length_le aC]⟩⟩,
   aC,aL.imp fun _ _=>Rd.mono hT⟩
  (fun b G=>by simp[blk]at G;subst G;exact⟨Nat.le_refl _,ab⟩)
 rw[List.length_replicate]at this;grind
open Go.RowKit
def y8(l:List UInt8):List (List D):=l.map fun b=>[D.int .u8 (b.toNat:Int)]
def F4(P:Program)(t:TypeId):Bool:=match P.underlying t with
 |some (.slice e)=>(match P.underlying e with|some (.int .u8)=>true|_=>false)
 |_=>false
theorem vr{t:TypeId}(ht:F4 P t=true):∃e,P.underlying t=some (.slice e)/\P.underlying e=some (.int .u8):=by
 unfold F4 at ht;split at ht
 ·rename_i e he;split at ht
  ·rename_i Z;exact⟨e,he,Z⟩
  ·cases ht
 ·cases ht
theorem I6(l:List UInt8):(y8 l).flatten=l.map fun b=>D.int .u8 (b.toNat:Int):=by
 induction l with
 |nil=>rfl
 |cons b l ih=>simp only[y8,List.map_cons,List.flatten_cons]at ih⊢;rw[ih];rfl
theorem DD(r:av T0 B σ a w ad h){S T:TypeId}(A:o.op= .convert S T x)(hg:ap (look P σ S x)=true)(y:F4 P S=true)(hT:L4 P T=true)
  (n:y9 σ (unc (look P σ S x)) 1 (y8 l)):∃ak,(execOp a.eval o).run P w= .ok (.value ak) w/\KA (al T0 ad) h σ.ob w (.one (.d (.str ⟨l.toArray⟩))) ak:=by
 obtain⟨e,U,he⟩:=vr y;have hv:=r.arg S x rfl hg
 obtain⟨_,N⟩:=ma r n hv;refine⟨.string _,?_,.str _⟩;rcases N with⟨aw,K⟩|⟨I,c,xs,aw,ai,aa⟩
 ·have hl:l=[]:=by cases l with
   |nil=>rfl
   |cons b l=>simp[y8]at K
  subst hl;have hr:(convert S T (.slice none 0 0)).run P w= .ok (.string ⟨#[]⟩) w:=by rw[run_convert_bytes_string w S T e none 0 0 U he (T3 hT)];rfl
  simp only[execOp,A,aw,Sem.run_bind,hr,Result.andThen_ok,Sem.run_pure]
 ·have az:(y8 l).length=l.length:=by simp[y8]
  rw[az]at aw;have hr:=run_convert_bytes_back w S T e I c l U he (T3 hT) (fun j hj=>by
   rw[I6]at aa;obtain⟨u,F,hr⟩:=aa.get' j (D.int .u8 (l[j].toNat:Int)) aC;have:=GO hr
   subst this;exact ai j _ F)
  simp only[execOp,A,aw,Sem.run_bind,hr,Result.andThen_ok,Sem.run_pure]
theorem DG(r:av T0 B σ a w ad h){S T:TypeId}{s:ByteArray}(A:o.op= .convert S T x)(hd:o.dst=some d)(hg:ap (look P σ S x)=true)(y:L4 P S=true)(hT:F4 P T=true)
  (O:unc (look P σ S x)= .one (.d (.str s))) (aB:s.size<=9223372036854775807)
  (hK:∀a' w',yO T0 B (σ.put d (.one (.d (.sl 1 (y8 s.data.toList))))) a' w'->Xv B w w'->K a' w'):o.wp P a w K af:=by
 obtain⟨e,R,he⟩:=vr hT;have aw:=EP (r.arg S x O hg)
 have aE:=run_bytes_of_string w S T e s (T3 y) R he;unfold Oper.wp;simp only[execOp,A,aw,Sem.run_bind,aE,Result.andThen_ok,Sem.run_pure,Oper.upon_value,hd];generalize aS:grownCap w s.size 0 e=ah at*;have aN:s.size<=ah:=by rw[<-aS];exact grownCap_ge w s.size 0 e
 have aL:ah<=maxLen:=by rw[<-aS];exact grownCap_le_maxLen w s.size 0 e (by simp only[maxLen];omega)
 generalize c:w.drew.alloc _=w';have aa:w.grownBy w' none:=by rw[<-c];exact⟨rfl,rfl,rfl,ab,fun k hk _=>(World.grownBy_alloc w.drew _ none).block k hk ab⟩
 have ac:w'.heap[w.heap.size]?=some (.cells (bytesRow s ah) e ((bytesRow s ah).size,(bytesRow s ah).size+1)):=by rw[<-c];exact heap_alloc_new w.drew _
 have f:=(Array.getElem?_eq_some_iff.1 ac).1;have r2:=r.grow (X':=fun b=>ad b\/b=w.heap.size) aa (fun b G=>.inl G) (fun b G=>G.imp id (fun hh=>by subst hh;exact⟨Nat.le_refl _,f⟩));refine hK _ _ ⟨_,_,r2.put d _ _ ?_⟩ (Xv.HU aa r.d);have aG:=I6 s.data.toList;refine Rd.sl _ s.size ah 1 _ (fun k=>.int .u8 ((s.data.toList.getD k 0).toNat:Int)) (by simp[y8]) aN aL (by intro q hq;simp[y8]at hq;obtain⟨b,_,rfl⟩:=hq;rfl) (fun _=>rfl) (fun k dd hk=>?_) (fun k dd hk=>?_)
 ·rw[aG,List.getElem?_map]at hk;cases G:s.data.toList[k]? with
  |none=>rw[G]at hk;cases hk
  |some b=>
   refine⟨?_,.inr (.inr rfl)⟩;refine qh ac _ _ ?_;have g:k<s.data.size:=by have:=(List.getElem?_eq_some_iff.1 G).1;simpa using this
   simp only[bytesRow];rw[Array.toList_append,List.getElem?_append_left aC];grind
 ·rw[aG,List.getElem?_map]at hk;cases G:s.data.toList[k]? with
  |none=>rw[G]at hk;cases hk
  |some b=>rw[G]at hk;cases hk;rw[List.getD_eq_getElem?_getD,G];exact .int _ _
open Go.RowKit
variable{l1 l2:List (Nat×Nat)}
def Ye:List At->List (Nat×Nat)
 |[]=>[]
 |.E t j _ _::xs=>(t,j)::Ye xs
 |_::xs=>Ye xs
def a2(σ:J):At->Option D
 |.d (.sl _ _)=>none
 |.d x=>some x
 |.nil s=>some (.sl s [])
 |.E t j lo ae=>(match σ.ob t j with|.arr _ X Q=>if lo=0/\ae=Q.length then some (.sl X Q)else none|_=>none)
 |_=>none
def tM(σ:J):At->Prop
 |.E t j _ _=>(match σ.ob t j with|.arr false _ Q=>∀r∈Q,∀x∈r,x.scalar=true|_=>True)
 |_=>True
def JF(σ:J):List At->Option (List D)
 |[]=>some []
 |x::xs=>(match a2 σ x,JF σ xs with|some d,some ds=>some (d::ds)|_,_=>none)
def QQ(σ:J):List At->Prop
 |[]=>True
 |x::xs=>tM σ x/\QQ σ xs
def jg(σ:J):List (List At)->Option (List (List D))
 |[]=>some []
 |xs::ai=>(match JF σ xs,jg σ ai with|some r,some rs=>some (r::rs)|_,_=>none)
def y3(σ:J):List (List At)->Prop
 |[]=>True
 |x::xs=>QQ σ x/\y3 σ xs
theorem Fq:∀(xs:List At)(i j:Nat)(t u lo ae C K:Nat),(Ye xs).Nodup->xs[i]?=some (.E t u lo ae)->xs[j]?=some (.E t u C K)->i=j:=by
 intro xs;induction xs with
 |nil=>intro i j t u lo ae C K _ hi;simp at hi
 |cons x xs ih=>
  intro i j t u lo ae C K aw hi hj;have a:∀(k lo ae:Nat),xs[k]?=some (At.E t u lo ae)->(t,u)∈Ye xs:=by
   intro k lo ae hk;clear ih aw hi hj;induction xs generalizing k with
   |nil=>simp at hk
   |cons y ys c=>
    cases k with
    |zero=>simp at hk;subst hk;simp[Ye]
    |succ k=>have:=c k bV;cases y<;>simp[Ye,this]
  have b:(Ye xs).Nodup:=by cases x<;>simp only[Ye]at aw<;>first|exact aw|exact(List.nodup_cons.1 aw).2
  cases i with
  |zero=>
   simp at hi;subst hi;cases j with
   |zero=>rfl
   |succ j=>simp only[Ye]at aw;exact absurd (a j C K (by simpa using hj)) (List.nodup_cons.1 aw).1
  |succ i=>
   cases j with
   |zero=>simp at hj;subst hj;simp only[Ye]at aw;exact absurd (a i lo ae (by simpa using hi)) (List.nodup_cons.1 aw).1
   |succ j=>rw[ih i j t u lo ae C K b (by simpa using hi) (by simpa using hj)]
theorem mq:∀{xs:List At}{k t j lo ae:Nat},xs[k]?=some (At.E t j lo ae)->(t,j)∈Ye xs
 |[],k,t,j,lo,ae,h=>cb
 |x::xs,0,t,j,lo,ae,h=>by simp at h;subst h;simp[Ye]
 |x::xs,k+1,t,j,lo,ae,h=>by have:=mq (xs:=xs) (k:=k) cx;cases x<;>simp[Ye,this]
theorem Pc{σ:J}:∀{xs:List At}{ds:List D},JF σ xs=some ds->xs.length=ds.length/\∀(k:Nat)(x:At)(d:D),xs[k]?=some x->ds[k]?=some d->a2 σ x=some d
 |[],ds,h=>by simp[JF]at h;subst h;exact⟨rfl,fun k x d O=>by simp at O⟩
 |x::xs,ds,h=>by
  simp only[JF]at h;split at h
  ·rename_i d g M Z;cases h;obtain⟨hl,ih⟩:=Pc Z;refine⟨by simp[hl],fun k y e hy he=>?_⟩;cases k with
   |zero=>simp at hy he;subst hy;subst he;exact M
   |succ k=>exact ih k y e (by simpa using hy) (by simpa using he)
  ·cases h
theorem Ck{σ:J}:∀{xs ys:List At}{ds A:List D},JF σ xs=some ds->JF σ ys=some A->JF σ (xs++ys)=some (ds++A)
 |[],ys,ds,A,M,Z=>by simp[JF]at M;subst M;simpa using Z
 |x::xs,ys,ds,A,M,Z=>by
  simp only[JF]at M;split at M
  ·rename_i d g h3 h4;cases M;simp[JF,h3,Ck h4 Z]
  ·cases M
theorem Lb{σ:J}:∀{A:List (List At)}{rs:List (List D)},jg σ A=some rs->JF σ A.flatten=some rs.flatten/\A.length=rs.length/\∀n,(∀x∈A,x.length=n)->∀r∈rs,r.length=n
 |[],rs,h=>by simp[jg]at h;subst h;exact⟨rfl,rfl,fun n _ r hr=>by cases hr⟩
 |xs::A,rs,h=>by
  simp only[jg]at h;split at h
  ·rename_i r b M Z;cases h;obtain⟨w,V,i3⟩:=Lb Z;refine⟨by rw[List.flatten_cons,List.flatten_cons];exact Ck M w,by simp[V],fun n hn q hq=>?_⟩;rcases List.mem_cons.1 hq with rfl|hq
   ·rw[<-(Pc M).1];exact hn xs ab
   ·exact i3 n (fun x O=>hn x (by simp[O])) q hq
  ·cases h
theorem vo{σ:J}:∀{xs:List At},QQ σ xs->∀(k:Nat)(x:At),xs[k]?=some x->tM σ x
 |[],_,k,x,O=>by simp at O
 |y::xs,h,0,x,O=>by simp at O;subst O;exact h.1
 |y::xs,h,k+1,x,O=>vo h.2 k x (by simpa using O)
theorem FR{σ:J}:∀{xs ys:List At},QQ σ xs->QQ σ ys->QQ σ (xs++ys)
 |[],_,_,h=>h
 |_::_,_,M,Z=>⟨M.1,FR M.2 Z⟩
theorem Pt{σ:J}:∀{A:List (List At)},y3 σ A->QQ σ A.flatten
 |[],_=>trivial
 |xs::A,h=>by rw[List.flatten_cons];exact FR h.1 (Pt h.2)
theorem Rd.own{d:D}(U:d.scalar=true)(hr:Rd T w v d):aV w v d S:=by
 cases hr with
 |int k n=>exact .int _ _ _
 |bool b=>exact .bool _ _
 |str s=>exact .str _ _
 |unk v h=>exact .unk _ h _
 |nil=>cases U
 |sl=>cases U
theorem av.ZEz(r:av T0 B σ a w ad h)(ho:σ.ob t j= .arr q X Q)(hq:q=false->∀r∈Q,∀x∈r,x.scalar=true):aV w (h t j).v (.sl X Q) (h t j).u:=by
 have h0:=r.obj t j;have au:=r.c t j;rw[ho]at h0 au;cases q with
 |false=>obtain⟨e,xs,ar,hz,aa⟩:=h0;refine .sl _ X Q _ e xs (fun _ _=>False) ar hz (fun b G=>au b ab G) aa.length (fun k x d O hd=>?_) (fun k b G=>G.elim) (fun i j b G=>G.elim);obtain⟨d',m,hr⟩:=aa.get k x O;rw[hd]at m;cases m;obtain⟨r0,ap,ax⟩:=List.mem_flatten.1 (List.mem_of_getElem? hd);exact Rd.own (hq rfl r0 ap d ax) hr
 |true=>obtain⟨e,xs,ar,hz,⟨hl,l,M,Z,h3⟩,hn⟩:=h0;exact .sl _ X Q _ e xs l ar hz (fun b G=>au b ab G) hl M (fun k b G=>Z k b G) h3
def zb(σ:J)(h:Nat->Nat->Hd)(l:List (Nat×Nat))(b:Nat):Prop:=∃p∈l,σ.ob p.1 p.2≠ .none/\(h p.1 p.2).u b
theorem Mn(r:av T0 B σ a w ad h){xs:List At}(aa:Yd (Yk (al T0 ad) h σ.ob w) xs vs)(Y:JF σ xs=some ds)(ao:QQ σ xs)(aw:(Ye xs).Nodup):z6 w vs ds (zb σ h (Ye xs)):=by
 obtain⟨hl,Y⟩:=Pc Y;refine⟨by rw[<-aa.length,hl],fun k b=>∃t j lo ae,xs[k]?=some (.E t j lo ae)/\σ.ob t j≠ .none/\(h t j).u b,fun k v d hv hd=>?_,?_,?_⟩
 ·obtain⟨x,O,hr⟩:=aa.get' k v hv;have hm:=Y k x d O hd
  have ho:=vo ao k x O;cases x with
  |d x=>
   cases x with
   |sl s Q=>simp[a2]at hm
   |int k n=>simp[a2]at hm;subst hm;exact Rd.own rfl hr
   |bool b=>simp[a2]at hm;subst hm;exact Rd.own rfl hr
   |str s=>simp[a2]at hm;subst hm;exact Rd.own rfl hr
   |unk=>simp[a2]at hm;subst hm;exact Rd.own rfl hr
  |nil s=>simp[a2]at hm;subst hm;cases hr;exact .sl _ s [] _ 0 [] (fun _ _=>False) (World.ownsRow_nil w 0 0 s) ci (fun b G=>by cases G) rfl (fun k x d O=>by simp at O) (fun k b G=>G.elim) (fun i j b G=>G.elim)
  |E t j lo ae=>
   simp only[a2]at hm;split at hm
   ·rename_i q X Q an;split at hm
    ·rename_i hc;obtain⟨rfl,rfl⟩:=hc;cases hm;obtain⟨_,az,_⟩:=hr.2.1 q X Q an;rw[az rfl rfl];refine(r.ZEz an (fun hq=>?_)).mono (fun b G=>⟨t,j,0,Q.length,O,by rw[an];simp,G⟩);subst hq;simp only[tM,an]at ho;exact ho
    ·cases hm
   ·cases hm
  |any=>simp[a2]at hm
  |ptr=>simp[a2]at hm
  |O=>simp[a2]at hm
  |fn=>simp[a2]at hm
  |ac=>simp[a2]at hm
  |Z=>simp[a2]at hm
 ·rintro k b ⟨t,j,lo,ae,O,W,F⟩;exact⟨(t,j),mq O,W,F⟩
 ·rintro i k b ⟨t,j,lo,ae,O,W,F⟩ ⟨t',j',C,K,aW,aI,aH⟩;obtain⟨rfl,rfl⟩:=r.inj t j t' j' b W aI F aH;exact Fq xs i k t j lo ae C K aw O aW
theorem z6.append{xs:List Value}(M:z6 w xs ds S)(Z:z6 w ys A H)(hd:∀b,S b->H b->False):z6 w (xs++ys) (ds++A) (fun b=>S b\/H b):=by
 obtain⟨l1,l,C,E,N⟩:=M;obtain⟨l2,F,V,b2,t⟩:=Z;refine⟨by simp[l1,l2],fun k=>if k<xs.length then l k else F (k-xs.length),fun k x d O m=>?_,fun k b G=>?_,fun i j b hi hj=>?_⟩
 ·by_cases hk:k<xs.length
  ·simp only[hk,if_true];rw[List.getElem?_append_left hk]at O;rw[List.getElem?_append_left Y]at m;exact C k x d O m
  ·simp only[hk,if_false];rw[List.getElem?_append_right Y]at O;rw[List.getElem?_append_right Y,<-l1]at m;exact V _ x d O m
 ·by_cases hk:k<xs.length
  ·simp only[hk,if_true]at G;exact .inl (E k b G)
  ·simp only[hk,if_false]at G;exact .inr (b2 _ b G)
 ·by_cases ao:i<xs.length
  ·simp only[ao,if_true]at hi;by_cases aH:j<xs.length
   ·simp only[aH,if_true]at hj;exact N i j b hi hj
   ·simp only[aH,if_false]at hj;exact(hd b (E i b hi) (b2 _ b hj)).elim
  ·simp only[ao,if_false]at hi;by_cases aH:j<xs.length
   ·simp only[aH,if_true]at hj;exact(hd b (E j b hj) (b2 _ b hi)).elim
   ·simp only[aH,if_false]at hj;have:=t _ _ b hi hj;omega
theorem z6.mono{xs:List Value}(y:∀b,S b->H b)(M:z6 w xs ds S):z6 w xs ds H:=by obtain⟨l1,l,C,E,N⟩:=M;exact⟨l1,l,C,fun k b G=>y b (E k b G),N⟩
theorem z6.nil(S:Nat->Prop):z6 w [] [] S:=⟨rfl,fun _ _=>False,fun k x d O=>by simp at O,fun _ _ G=>G.elim,fun _ _ _ G=>G.elim⟩
theorem av.zj(r:av T0 B σ a w ad h)(l:List (Nat×Nat))(b:Nat)(G:zb σ h l b):¬B b/\¬ad b/\b<w.heap.size/\∀u i,(σ.YC l).ob u i≠ .none->¬(h u i).u b:=by
 obtain⟨p,hp,W,F⟩:=G;have ho:=r.own p.1 p.2 b W F
 refine⟨ho.1,ho.2.1,ho.2.2,fun u i hn aH=>?_⟩;rw[J.y0]at hn;split at hn
 ·exact hn rfl
 ·rename_i aj;obtain⟨M,Z⟩:=r.inj p.1 p.2 u i b W hn F aH;exact aj (by rw[<-M,<-Z];exact hp)
open Go.RowKit
def Bi(P:Program)(σ:J)(T:TypeId)(X:Nat):List (Nat×Operand)->Nat->List (List At)->Prop
 |[],_,rs=>rs=[]
 |(i,x)::R,k,rs=>i=k/\ap (look P σ T x)=true/\(unc (look P σ T x)).flat=true/\(unc (look P σ T x)).cells.length=X/\
   ∃ai,Bi P σ T X R (k+1) ai/\rs=(unc (look P σ T x)).cells::ai
theorem gJ(r:av T0 B σ a w ad h)(T:TypeId)(X:Nat):∀(R:List (Nat×Operand))(k:Nat)(rs:List (List At))(E:Array Value),Bi P σ T X R k rs->(k+R.length)*X<=E.size->
   ∃N ys,Instr.fill (fun i=>some (i*X,X)) E (R.map fun x=>(x.1,a.eval x.2))=some N/\N.toList=place E.toList (k*X) ys/\Yd (Yk (al T0 ad) h σ.ob w) rs.flatten ys/\(∀q∈rs,q.length=X)/\rs.length=R.length
 |[],k,rs,E,G,_=>by cases G;exact⟨E,[],rfl,by simp[place],.nil,ci,rfl⟩
 |(i,x)::R,k,rs,E,G,hl=>by
  obtain⟨rfl,hg,hf,az,ai,G,rfl⟩:=G;have O:=OH hf (r.arg (P:=P) T x rfl hg)
  have aD:=O.length;have H:E.toList.length=E.size:=Array.length_toList;have e2:(a.eval x).cells.toList.length=(a.eval x).cells.size:=Array.length_toList;have aB:(i+(R.length+1))*X=i*X+X+R.length*X:=es;simp only[List.length_cons]at hl;have heq:=GJ (i*X) (a.eval x).cells E Y;have a3:((a.eval x).cells.zipIdx.foldl (fun I x=>I.setIfInBounds (i*X+x.2) x.1) E).size=E.size:=by rw[<-Array.length_toList,heq,Qb _ _ _ Y,H]
  have b:(i+1+R.length)*X=i*X+X+R.length*X:=es;obtain⟨N,ys,M,Z,h3,h4,h5⟩:=gJ r T X R (i+1) ai _ G (by rw[a3];omega);have V:ys.length=R.length*X:=by rw[<-h3.length,XD ai X h4,h5]
  refine⟨N,(a.eval x).cells.toList++ys,?_,?_,?_,?_,by simp[h5]⟩
  ·simp only[List.map_cons,Instr.fill];rw[if_neg a0];exact M
  ·rw[Z,heq];rw[show(i+1)*X=i*X+(a.eval x).cells.toList.length by rw[Nat.add_mul];omega];exact vV _ _ _ _ a0
  ·rw[List.flatten_cons];exact O.append h3
  ·intro q hq;rcases List.mem_cons.1 hq with rfl|hq
   ·exact az
   ·exact h4 q hq
theorem Fk(r:av T0 B σ a w ad h){T:TypeId}{Q:List (List At)}(A:o.op= .buildSlice T n parts)(hd:o.dst=some d)(E:σ.fresh d=true)
  (ht:Xr P T=true) (hz:JN P (C P T)=true) (aK:0<P.cellsOf (C P T)) (hn:parts.toList.length=n) (l:n*P.cellsOf (C P T)<=16777216) (G:Bi P σ (C P T) (P.cellsOf (C P T)) parts.toList 0 Q) (m:U d Q.flatten=false)
  (hK:∀a' w',yO T0 B (σ.new d (.one (.E d 0 0 Q.length)) [.lit (P.cellsOf (C P T)) Q]) a' w'->Xv B w w'->K a' w'):o.wp P a w K af:=by
 obtain⟨f,F,hi,a2⟩:=Qc ht;obtain⟨i,z,L,ao,aQ,D,a3,aR,aT,a1⟩:=WS hz;rw[hi]at ao;cases ao;have y:(zeroValue (C P T)).run P w= .ok z w:=by simp[zeroValue,typeInfo,hi,aQ]
 obtain⟨zero,e⟩:∃zero:Array Value,(n*P.cellsOf (C P T)=0->zero=#[])/\(¬n*P.cellsOf (C P T)=0->zero=z.cells):=by
  by_cases h0:n*P.cellsOf (C P T)=0
  ·exact⟨#[],fun _=>rfl,fun hh=>absurd h0 hh⟩
  ·exact⟨z.cells,fun hh=>absurd hh h0,fun _=>rfl⟩
 obtain⟨N,ys,M,Z,h3,h4,h5⟩:=gJ r (C P T) (P.cellsOf (C P T)) parts.toList 0 Q ((Array.range (n*P.cellsOf (C P T))).map (zero[·%zero.size]!)) G (by simp[hn]);have V:ys.length=n*P.cellsOf (C P T):=by rw[<-h3.length,XD Q _ h4,h5,hn]
 have R:N.toList=ys:=by rw[Z];unfold place;simp[V]
 have q:(parts.map fun(x:Nat×Operand)=>(x.1,a.eval x.2)).toList=parts.toList.map fun x=>(x.1,a.eval x.2):=ab;have aE:(execOp a.eval o).run P w= .ok (.value (.slice (some ⟨w.heap.size,0,none⟩) n n)) (w.alloc (.cells N (C P T))):=by
  have H:¬(n*P.cellsOf (C P T)>2^24):=Y;by_cases h0:n*P.cellsOf (C P T)=0
  ·have c:=e.1 h0;subst c;simp only[execOp,A,Instr.buildSlice,Sem.run_bind,run_underlying F,Result.andThen_ok,ye hi,if_neg H,if_pos h0,q,M,newRow,Sem.run_pure,run_newObj_alloc]
  ·have c:=e.2 h0;subst c;simp only[execOp,A,Instr.buildSlice,Sem.run_bind,run_underlying F,Result.andThen_ok,ye hi,if_neg H,if_neg h0,y,q,M,newRow,Sem.run_pure,run_newObj_alloc]
 unfold Oper.wp;rw[aE,Oper.upon_value,hd];have az:Q.length=n:=by rw[h5,hn]
 have hg:=World.grownBy_alloc w (.cells N (C P T)) none;have ac:=J.Vo E;have hT:∀b k v,al T0 ad b k->w.cell? ⟨b,k,none⟩=some v->(w.alloc (.cells N (C P T))).cell? ⟨b,k,none⟩=some v/\al T0 ad b k:=by intro b k v G ai;refine⟨?_,G⟩;rw[World.cell?_of_block (hg.block b (r.Tlt G) ab)];exact ai
 have g:N.size=n*P.cellsOf (C P T):=fR;have aL:n<=maxLen:=by have:n<=n*P.cellsOf (C P T):=Nat.le_mul_of_pos_right _ aK;simp only[maxLen];omega
 have aq:(w.alloc (.cells N (C P T))).ownsRow 0 (C P T) (P.cellsOf (C P T)) (.slice (some ⟨w.heap.size,0,none⟩) n n) Q.length ys:=
  ⟨by rw[V,az],.inr ⟨w.heap.size,n,N,by rw[az],Nat.zero_le _,heap_alloc_new w _,Y,aL,g,by rw[R,az,List.take_of_length_le Y]⟩⟩
 refine hK _ _ ⟨ad,fun t j=>if t=d then Hd.of (.slice (some ⟨w.heap.size,0,none⟩) n n)else h t j,?_⟩ (Xv.HU hg r.d);have ak:(σ.new d (.one (.E d 0 0 Q.length)) [.lit (P.cellsOf (C P T)) Q]).ob d 0= .lit (P.cellsOf (C P T)) Q:=cT
 have hc:∀t j,t≠d->bz h (fun t j=>if t=d then Hd.of (.slice (some ⟨w.heap.size,0,none⟩) n n)else h t j) σ.ob (σ.new d (.one (.E d 0 0 Q.length)) [.lit (P.cellsOf (C P T)) Q]).ob t j:=by
  intro t j W;have he:(σ.new d (.one (.E d 0 0 Q.length)) [.lit (P.cellsOf (C P T)) Q]).ob t j=σ.ob t j:=eY
  exact bz.same (by simp[W]) he
 refine r.new E hg (fun _ G=>G) (fun _ G=>.inl G) _ _ [.lit (P.cellsOf (C P T)) Q] (fun _=>Hd.of (.slice (some ⟨w.heap.size,0,none⟩) n n)) ?_ (fun j=>?_) (fun j b _ G=>G) (fun j b _ aj=>?_) (fun j j' b W aI _ _=>?_)
 ·refine⟨qn aq,fun q' aJ aD p=>(by rw[ak]at p;cases p),fun aJ aD p=>?_⟩;rw[ak]at p;cases p;simp only[if_true];exact Hz aq
 ·cases j with
  |zero=>exact⟨C P T,ys,aq,h4,Nw hT hc m h3⟩
  |succ j=>simp[Y6,zf]
 ·simp[Hd.of,blk]at aj;subst aj;refine⟨Nat.le_refl _,fun aW=>?_,ab⟩;have:=(r.e _ aW).2;omega
 ·have:∀j,Y6 [Ob.lit (P.cellsOf (C P T)) Q] j≠ .none->j=0:=by
   intro j hj;cases j with
   |zero=>rfl
   |succ j=>simp[Y6]at hj
  rw[this j W,this j' aI]
theorem eT{T:CS}{ai:Nat->Nat->Ob}:∀{xs:List At}{ds:List D}{vs:List Value},zD xs=some ds->Yd (Yk T h ai w) xs vs->(∀x∈xs,∀s r,x≠ .d (.sl s r))->∀(w':World)(S:Nat->Prop)(k:Nat)(v:Value)(d:D),vs[k]?=some v->ds[k]?=some d->aV w' v d S
 |[],ds,vs,hz,aa,_,w',S,k,v,d,hv,_=>by cases aa;simp at hv
 |x::xs,ds,vs,hz,aa,a,w',S,k,v,d,hv,hd=>by
  cases aa with
  |cons O aa=>
   cases x with
   |d x=>
    simp only[zD,Option.map_eq_some_iff]at hz;obtain⟨g,am,rfl⟩:=hz;cases k with
    |zero=>
     simp at hv hd;subst hv;subst hd;cases x with
     |sl s r=>exact absurd rfl (a _ ab s r)
     |int k n=>cases(show Rd _ _ _ _ from O);exact .int _ _ _
     |bool b=>cases(show Rd _ _ _ _ from O);exact .bool _ _
     |str s=>cases(show Rd _ _ _ _ from O);exact .str _ _
     |unk=>exact .unk _ (Rd.Qo O) _
    |succ k=>exact eT am aa (fun x O=>a x (by simp[O])) w' S k v d (by simpa using hv) (by simpa using hd)
   |nil s=>
    simp only[zD,Option.map_eq_some_iff]at hz;obtain⟨g,am,rfl⟩:=hz;cases k with
    |zero=>simp at hv hd;subst hv;subst hd;cases O;exact .sl _ s [] _ 0 [] (fun _ _=>False) (World.ownsRow_nil w' 0 0 s) ci (fun b G=>by cases G) rfl (fun k x d O=>by simp at O) (fun k b G=>G.elim) (fun i j b G=>G.elim)
    |succ k=>exact eT am aa (fun x O=>a x (by simp[O])) w' S k v d (by simpa using hv) (by simpa using hd)
   |any=>simp[zD]at hz
   |E=>simp[zD]at hz
   |ptr=>simp[zD]at hz
   |O=>simp[zD]at hz
   |fn=>simp[zD]at hz
   |ac=>simp[zD]at hz
   |Z=>simp[zD]at hz
def dc(σ:J)(x:V)(X:Nat)(au:List (List D))(l:List (Nat×Nat)):Prop:=
 match x with
 |.one (.nil _)=>au=[]/\l=[]
 |.one (.E t j lo ae)=>σ.ob t j= .arr true X au/\lo=0/\ae=au.length/\l=[(t,j)]
 |_=>False
def cM(σ:J)(x:V)(X:Nat)(am:List (List D))(l:List (Nat×Nat)):Prop:=
 match x with
 |.one (.E t j lo ae)=>∃Q,σ.ob t j= .lit X Q/\lo=0/\ae=Q.length/\jg σ Q=some am/\y3 σ Q/\l=Ye Q.flatten
 |_=>False
theorem oH(r:av T0 B σ a w ad h){t e0:TypeId}{m ah:Nat}{f:TypeInfo}{z:Value}{xs:List Value}(A:o.op= .call ⟨.builtin .append,#[x,y],#[t,t]⟩)(hd:o.dst=some d)
  (F:P.underlying t=some (.slice (C P t))) (hi:P.info? (C P t)=some f) (aQ:f.zero=some z) (aR:z.cells.size=f.size) (aK:0<f.size) (E:σ.fresh d=true) (aY:(m+n)*f.bytes<=140737488355328) (aZ:m+n<=9223372036854775807)
  (aq:w.ownsRow 0 e0 f.size (a.eval x) m xs) (aP:∀b,blk (a.eval x)=some b->N b) (hN:∀b,N b->¬B b/\¬ad b/\b<w.heap.size/\∀u j,σ.ob u j≠ .none->¬(h u j).u b)
  (a5:a.eval y= .slice ay n ah) (aG:ay=none->ah=0/\n=0) (V:ys.length=n*f.size) (ai:∀I,ay=some I->∀k v,ys[k]?=some v->w.cell? (I.add k)=some v) (aB:∀v∈ys,v.oneCell'=true)
  (aT:rs.length=m+n) (i:∀q∈rs,q.length=f.size) (c:z6 w (xs++ys) rs.flatten (fun b=>N b/\blk (a.eval x)≠some b))
  (hK:∀a' w',yO T0 B (σ.new d (.one (.E d 0 0 (m+n))) [.arr true f.size rs]) a' w'->Xv B w w'->K a' w'):o.wp P a w K af:=by
 have ac:=J.Vo E;have ag:∀(U:Value)(w':World)(H:TypeId),(Builtin.append_ #[t,t] o.type #[a.eval x,a.eval y]).run P w= .ok U w'->w'.ownsRow 0 H f.size U (m+n) (xs++ys)->
   w.grownBy w' (blk (a.eval x))->(∀b,blk U=some b->(w.heap.size<=b/\b<w'.heap.size)\/blk (a.eval x)=some b)->o.wp P a w K af:=by
  intro U w' H aE p R T;unfold Oper.wp;have aS:(execOp a.eval o).run P w= .ok (.value U) w':=by simp only[execOp,A,resolve,invoke,builtin,Sem.run_bind,Sem.run_pure,Result.andThen_ok,List.map_toArray,List.map_cons,List.map_nil,aE]
  rw[aS,Oper.upon_value,hd];refine hK _ _ ⟨ad,fun u j=>if u=d then⟨U,fun k=>((xs++ys)[k]?).getD undef,fun b=>blk U=some b\/(N b/\blk (a.eval x)≠some b)⟩else h u j,?_⟩
   ⟨R.os,R.tape,R.output,R.size,fun k hk=>R.block k (r.d k hk) (fun e=>(hN k (aP k e.symm)).1 hk)⟩
  have ak:(σ.new d (.one (.E d 0 0 (m+n))) [.arr true f.size rs]).ob d 0= .arr true f.size rs:=cT;have aO:w'.ownsRow 0 H f.size U rs.length (xs++ys):=by rw[aT];exact p
  have l:z6 w' (xs++ys) rs.flatten (fun b=>(blk U=some b\/(N b/\blk (a.eval x)≠some b))/\blk U≠some b):=by
   refine(c.Bn (fun b G=>R.block b (hN b G.1).2.2.1 (fun e=>G.2 e.symm))).mono (fun b G=>⟨.inr G,fun e=>?_⟩);rcases T b e with hl|hl
   ·have:=(hN b G.1).2.2.1;omega
   ·exact G.2 hl
  refine r.ZCy E N R.size (fun k hk W=>R.block k hk (fun e=>W (aP k e.symm))) (fun b G=>⟨(hN b G).1,(hN b G).2.1,fun u j _ W=>(hN b G).2.2.2 u j W⟩) (fun _ G=>G) (fun _ G=>.inl G) _ _ [.arr true f.size rs]
   (fun _=>⟨U,fun k=>((xs++ys)[k]?).getD undef,fun b=>blk U=some b\/(N b/\blk (a.eval x)≠some b)⟩) ?_ (fun j=>?_) (fun j b _ G=>.inl G) (fun j b W aj=>?_) (fun j j' b W aI _ _=>?_)
  ·refine⟨qn p,fun q' aJ aD hh=>?_,fun aJ aD hh=>by rw[ak]at hh;cases hh⟩;rw[ak]at hh;cases hh;simp only[if_true];rw[<-aT];exact Hz aO
  ·cases j with
   |zero=>exact⟨H,xs++ys,aO,i,l,fun k x d O _ _=>by simp[O]⟩
   |succ j=>simp[Y6,zf]
  ·rcases aj with aj|aj
   ·rcases T b aj with M|M
    ·exact⟨.inl M.1,fun O=>by have:=(r.e b O).2;omega,M.2⟩
    ·have Z:=hN b (aP b M);exact⟨.inr (aP b M),Z.2.1,by have:=R.size;omega⟩
   ·have Z:=hN b aj.1;exact⟨.inr aj.1,Z.2.1,by have:=R.size;omega⟩
  ·have:∀j,Y6 [Ob.arr true f.size rs] j≠ .none->j=0:=by
    intro j hj;cases j with
    |zero=>rfl
    |succ j=>simp[Y6]at hj
   rw[this j W,this j' aI]
 cases ay with
 |none=>
  obtain⟨rfl,rfl⟩:=aG rfl;have ae:ys=[]:=List.eq_nil_of_length_eq_zero (by rw[V];simp)
  have aM:∃ay ah,a.eval x= .slice ay m ah/\m<=ah/\(ay=none->ah=0):=by
   rcases aq.2 with⟨M,Z⟩|⟨g,ah,ax,M,_,_,ar,_⟩
   ·exact⟨none,0,by rw[M,Z],Y,fun _=>rfl⟩
   ·exact⟨_,ah,M,ar,(fun hh=>by cases hh)⟩
  obtain⟨ay,ah,aw,ar,aW⟩:=aM;refine ag (a.eval x) w e0 ?_ (by rw[ae];simpa using aq) ⟨rfl,rfl,rfl,Nat.le_refl _,fun _ _ _=>rfl⟩ (fun b G=>.inr G);rw[a5,aw];exact N7 t o.type _ f F hi ay m ah ar aW
 |some I=>obtain⟨U,w',H,aE,p,R,T⟩:=Fh (P:=P) (w:=w) t o.type _ e0 f z F hi aQ aR aK (a.eval x) m xs aq I n ah ys V (ai I rfl) aB (by simp only[maxLen];omega) aY;refine ag U w' H ?_ p R T;rw[a5];exact aE
theorem If(r:av T0 B σ a w ad h){t:TypeId}(A:o.op= .call ⟨.builtin .append,#[x,y],#[t,t]⟩)(hd:o.dst=some d)
  (aU:ap (look P σ t x)=true) (aV:ap (look P σ t y)=true) (ht:Xr P t=true) (hz:JN P (C P t)=true) (aK:0<P.cellsOf (C P t))
  (m:dc σ (unc (look P σ t x)) (P.cellsOf (C P t)) au l1) (n:cM σ (unc (look P σ t y)) (P.cellsOf (C P t)) am l2) (aw:(l1++l2).Nodup) (E:(σ.YC (l1++l2)).fresh d=true)
  (aY:(au.length+am.length)*P.bytesOf (C P t)<=140737488355328) (aZ:au.length+am.length<=9223372036854775807)
  (hK:∀a' w',yO T0 B ((σ.YC (l1++l2)).new d (.one (.E d 0 0 (au.length+am.length))) [.arr true (P.cellsOf (C P t)) (au++am)]) a' w'->Xv B w w'->K a' w'):o.wp P a w K af:=by
 obtain⟨f,F,hi,a2⟩:=Qc ht;obtain⟨i,z,L,ao,aQ,D,a3,aR,aT,a1⟩:=WS hz;rw[hi]at ao;cases ao;have a4:P.bytesOf (C P t)=f.bytes:=de
 rw[a4]at aY;rw[<-aT]at m n aK hK;have X:=r.arg (P:=P) t x rfl aU
 have a7:=r.arg (P:=P) t y rfl aV;obtain⟨t2,j2,Q,O,l,Y,N,aD⟩:∃t2 j2 Q,unc (look P σ t y)= .one (.E t2 j2 0 Q.length)/\σ.ob t2 j2= .lit f.size Q/\jg σ Q=some am/\y3 σ Q/\l2=Ye Q.flatten:=by
  unfold cM at n;split at n
  ·rename_i t2 j2 lo ae heq;obtain⟨Q,ho,rfl,rfl,hm,hk,rfl⟩:=n;exact⟨t2,j2,Q,heq,ho,hm,hk,rfl⟩
  ·exact n.elim
 subst aD;obtain⟨R,g,M⟩:=Lb Y;have aj:=Pt N
 rw[O]at a7;have h0:=r.obj t2 j2
 rw[l]at h0;obtain⟨e2,ys,aO,a0,aL⟩:=h0;obtain⟨_,T,_⟩:=a7.2.2 _ _ l;have Z:a.eval y=(h t2 j2).v:=T rfl rfl
 have aX:∀q∈am,q.length=f.size:=M _ a0;have a8:=Mn r aL R aj (List.nodup_append.1 aw).2.1;have S:∃e0 xs,w.ownsRow 0 e0 f.size (a.eval x) au.length xs/\(∀q∈au,q.length=f.size)/\z6 w xs au.flatten (fun b=>zb σ h l1 b/\blk (a.eval x)≠some b)/\(∀b,blk (a.eval x)=some b->zb σ h l1 b):=by
  unfold dc at m;split at m
  ·rename_i s heq;obtain⟨rfl,rfl⟩:=m;rw[heq]at X;have he:a.eval x= .slice none 0 0:=X
   rw[he];exact⟨0,[],World.ownsRow_nil w 0 0 _,ci,z6.nil _,(fun b G=>by cases G)⟩
  ·rename_i u j lo ae heq;obtain⟨ho,rfl,rfl,rfl⟩:=m;rw[heq]at X;have a9:Yk (al T0 ad) h σ.ob w (.E u j 0 au.length) (a.eval x):=X
   obtain⟨_,az,_⟩:=a9.2.1 _ _ _ ho;have he:a.eval x=(h u j).v:=az rfl rfl
   have h0:=r.obj u j;rw[ho]at h0;obtain⟨e,xs,aq,a6,aa,hn⟩:=h0;have an:σ.ob u j≠ .none:=bq;rw[he];exact⟨e,xs,aq,a6,aa.mono (fun b G=>⟨⟨(u,j),ab,an,G.1⟩,G.2⟩),fun b G=>⟨(u,j),ab,an,r.c u j b an G⟩⟩
  ·exact m.elim
 obtain⟨e0,xs,aq,bd,bc,aP⟩:=S;have V:ys.length=am.length*f.size:=by rw[a8.1,XD am f.size aX]
 have aC:∀b,zb σ h l1 b->zb σ h (Ye Q.flatten) b->False:=by
  rintro b ⟨p,hp,W,F⟩ ⟨p',aJ,aI,aH⟩;obtain⟨H,e2⟩:=r.inj p.1 p.2 p'.1 p'.2 b W aI F aH;have aA:p=p':=Prod.ext H e2
  subst aA;exact(List.nodup_append.1 aw).2.2 p hp p aJ rfl
 have c:∀b,zb σ h (l1++Ye Q.flatten) b↔zb σ h l1 b\/zb σ h (Ye Q.flatten) b:=by
  intro b;constructor
  ·rintro⟨p,hp,hr⟩;rcases List.mem_append.1 hp with hp|hp
   ·exact .inl ⟨p,hp,hr⟩
   ·exact .inr ⟨p,hp,hr⟩
  ·rintro(⟨p,hp,hr⟩|⟨p,hp,hr⟩)
   ·exact⟨p,by simp[hp],hr⟩
   ·exact⟨p,by simp[hp],hr⟩
 have bb:∀b,zb σ h (Ye Q.flatten) b->blk (a.eval x)≠some b:=fun b G e=>aC b (aP b e) G;have hv:∃ay ah,a.eval y= .slice ay am.length ah/\(ay=none->ah=0/\am.length=0)/\∀I,ay=some I->∀k v,ys[k]?=some v->w.cell? (I.add k)=some v:=by
  rw[Z];rcases aO.2 with⟨hn1,ac⟩|⟨g2,cap2,cur2,aB,_,U,hnc2,hmx2,hcs2,htk2⟩
  ·have J:am.length=0:=by rw[<-g];exact ac
   exact⟨none,0,by rw[hn1,J],fun _=>⟨rfl,J⟩,fun I hh=>by cases hh⟩
  ·refine⟨_,cap2,by rw[aB,g],fun hh=>(by cases hh),fun I hh k v hk=>?_⟩;cases hh;rw[V6];refine qh U _ _ ?_;rw[<-htk2,List.getElem?_take]at hk;split at hk
   ·simpa using hk
   ·cases hk
 obtain⟨ay,ah,a5,aG,ai⟩:=hv;refine oH (r.YC (l1++Ye Q.flatten)) A hd F hi aQ aR aK E aY aZ aq (fun b G=>(c b).2 (.inl (aP b G))) (r.zj (l1++Ye Q.flatten)) a5 aG V ai
  (fun u aH=>by
   obtain⟨x',_,aW⟩:=aL.mem aH;exact Yk.Qo aW) (List.length_append ..) (fun q hq=>(List.mem_append.1 hq).elim (bd q) (aX q)) ?_ hK
 rw[List.flatten_append];exact(bc.append a8 (fun b ag ak=>aC b ag.1 ak)).mono (fun b G=>G.elim (fun G=>⟨(c b).2 (.inl G.1),G.2⟩) (fun G=>⟨(c b).2 (.inr G),bb b G⟩))
theorem z6.pick{xs:List Value}(M:z6 w xs ds S){p q:Nat}(hp:p<=q)(hq:q+n<=xs.length):z6 w (xs.take p++cut xs q n) (ds.take p++cut ds q n) S:=by
 obtain⟨hl,l,hk,U,hd⟩:=M;have s:(xs.take p).length=p:=dt
 have y:(ds.take p).length=p:=dt;refine⟨by rw[List.length_append,List.length_append,s,y,Xj _ _ _ hq,Xj _ _ _ Y],fun k=>if k<p then l k else l (q+(k-p)),fun k x d O m=>?_,fun k b G=>?_,fun i j b hi hj=>?_⟩
 ·by_cases c:k<p
  ·rw[List.getElem?_append_left Y]at O m;rw[List.getElem?_take,if_pos c]at O m;simp only[if_pos c];exact hk k x d O m
  ·rw[List.getElem?_append_right Y,s]at O;rw[List.getElem?_append_right Y,y]at m;simp only[if_neg c];exact hk _ x d (jP _ _ _ _ _ O) (jP _ _ _ _ _ m)
 ·dsimp only at G;split at G<;>exact U _ b G
 ·dsimp only at hi hj;split at hi<;>split at hj
  ·exact hd _ _ b hi hj
  ·have:=hd _ _ b hi hj;omega
  ·have:=hd _ _ b hi hj;omega
  ·have:=hd _ _ b hi hj;omega
theorem EY(Q:List (List D))(X:Nat)(hz:∀r∈Q,r.length=X)(lo n:Nat)(aA:lo+n<=Q.length):(cut Q lo n).flatten=cut Q.flatten (lo*X) (n*X):=by
 have a:∀r∈Q.drop lo,r.length=X:=fun r hr=>hz r (List.mem_of_mem_drop hr);have H:(Q.drop lo).flatten=Q.flatten.drop (lo*X):=by
  have M:=U5 Q X hz lo Y;have Z:(Q.take lo).flatten++(Q.drop lo).flatten=Q.flatten:=fb;have h3:(Q.take lo).flatten.length=lo*X:=by rw[XD _ X (fun r hr=>hz r (List.mem_of_mem_take hr)),List.length_take];congr 1;omega
  rw[<-Z,<-h3,List.drop_left]
 unfold cut;rw[U5 (Q.drop lo) X a n (by rw[List.length_drop];omega),H]
theorem v5(r:av T0 B σ a w ad h){t:TypeId}(A:o.op= .call ⟨.builtin .append,#[x,y],#[t,t]⟩)(hd:o.dst=some d)
  (aU:ap (look P σ t x)=true) (aV:ap (look P σ t y)=true) (ht:Xr P t=true) (hz:JN P (C P t)=true) (aK:0<P.cellsOf (C P t))
  (O:unc (look P σ t x)= .one (.E u j 0 ae)) (hy:unc (look P σ t y)= .one (.E u j lo n)) (ho:σ.ob u j= .arr true (P.cellsOf (C P t)) Q) (aA:ae<=lo) (H:lo+n<=Q.length) (E:(σ.YC [(u,j)]).fresh d=true)
  (aY:(ae+n)*P.bytesOf (C P t)<=140737488355328) (aZ:ae+n<=9223372036854775807)
  (hK:∀a' w',yO T0 B ((σ.YC [(u,j)]).new d (.one (.E d 0 0 (ae+n))) [.arr true (P.cellsOf (C P t)) (Q.take ae++cut Q lo n)]) a' w'->Xv B w w'->K a' w'):o.wp P a w K af:=by
 obtain⟨f,F,hi,a2⟩:=Qc ht;obtain⟨i,z,L,ao,aQ,D,a3,aR,aT,a1⟩:=WS hz;rw[hi]at ao;cases ao;have a4:P.bytesOf (C P t)=f.bytes:=de
 rw[a4]at aY;rw[<-aT]at ho aK hK;have X:=r.arg (P:=P) t x rfl aU
 have a7:=r.arg (P:=P) t y rfl aV;rw[O]at X;rw[hy]at a7;have a9:Yk (al T0 ad) h σ.ob w (.E u j 0 ae) (a.eval x):=X;have aW:Yk (al T0 ad) h σ.ob w (.E u j lo n) (a.eval y):=a7;obtain⟨_,_,aN,_⟩:=a9.2.1 _ _ _ ho;have he:a.eval x=ef (h u j).v ae:=aN rfl;obtain⟨_,_,_,ay,ah,a5,aS,Z,aG,G⟩:=aW.2.1 _ _ _ ho;have h0:=r.obj u j;rw[ho]at h0;obtain⟨e0,U,a8,a6,aa,hn⟩:=h0;have an:σ.ob u j≠ .none:=bq;have aJ:U.length=Q.length*f.size:=a8.1;have N:ae*f.size<=lo*f.size:=Nat.mul_le_mul_right _ aA;have ai:lo*f.size+n*f.size<=U.length:=by rw[aJ,<-Nat.add_mul];exact Nat.mul_le_mul_right _ H
 let xs:=U.take (ae*f.size)
 let ys:=cut U (lo*f.size) (n*f.size)
 have aq:w.ownsRow 0 e0 f.size (a.eval x) ae xs:=by rw[he];exact Be a8 Y
 have V:ys.length=n*f.size:=Xj _ _ _ ai;have e:blk (a.eval x)=blk (h u j).v:=by rw[he,m7]
 have aX:(Q.take ae++cut Q lo n).flatten=Q.flatten.take (ae*f.size)++cut Q.flatten (lo*f.size) (n*f.size):=by rw[List.flatten_append,U5 Q f.size a6 ae Y,EY Q f.size a6 lo n H]
 have bb:∀q∈Q.take ae++cut Q lo n,q.length=f.size:=by
  intro q hq;rcases List.mem_append.1 hq with hq|hq
  ·exact a6 q (List.mem_of_mem_take hq)
  ·exact a6 q (List.mem_of_mem_drop (List.mem_of_mem_take hq))
 have az:(Q.take ae++cut Q lo n).length=ae+n:=by rw[List.length_append,List.length_take,Xj _ _ _ H];omega
 have a0:∀b,(h u j).u b->zb σ h [(u,j)] b:=fun b G=>⟨(u,j),ab,an,G⟩;have aP:∀b,blk (a.eval x)=some b->zb σ h [(u,j)] b:=fun b G=>a0 b (r.c u j b an (by rw[<-e];exact G));refine oH (r.YC [(u,j)]) (xs:=xs) (ys:=ys) A hd F hi aQ aR Y E aY aZ aq aP (r.zj [(u,j)]) a5 (fun hh=>⟨aG hh,by have:=aG hh;omega⟩) V (fun I aw k v hv=>?_) (fun v hv=>?_) az bb ?_ hK
 ·have c:0<n:=by
   rcases Nat.eq_zero_or_pos n with h0|h0
   ·have hk:=(List.getElem?_eq_some_iff.1 hv).1;rw[V,h0]at hk;simp at hk
   ·exact h0
  obtain⟨b,aE,hh,am⟩:=G c;rw[aw]at am;cases am;rcases a8.2 with⟨hn1,_⟩|⟨g,ba,ax,aF,_,hgg,ar,aL,aM,aO⟩
  ·rw[hh]at hn1;cases hn1
  ·rw[hh]at aF;cases aF;have M:=jP _ _ _ _ _ hv
   rw[V6];refine qh hgg _ _ ?_;rw[<-aO,List.getElem?_take]at M;split at M
   ·exact M
   ·cases M
 ·have aB:v∈U:=List.mem_of_mem_drop (List.mem_of_mem_take hv);obtain⟨hl,l,hk,_⟩:=aa;obtain⟨k,aI⟩:=List.mem_iff_getElem?.1 aB;have aC:k<Q.flatten.length:=by rw[<-hl];exact(List.getElem?_eq_some_iff.1 aI).1
  exact(hk k v _ aI (List.getElem?_eq_getElem aC)).Qo
 ·rw[aX];exact(aa.pick N ai).mono (fun b G=>⟨a0 b G.1,by rw[e];exact G.2⟩)
open Go.RowKit
def m9:List At->Bool
 |[]=>true
 |.d (.sl _ _)::_=>false
 |_::xs=>m9 xs
theorem h3:∀{xs:List At},m9 xs=true->∀x∈xs,∀s r,x≠ .d (.sl s r)
 |[],_,x,O,_,_=>bL
 |y::xs,h,x,O,s,r=>by
  have Z:m9 xs=true/\∀s r,y≠ .d (.sl s r):=by
   cases y with
   |d z=>cases z with
    |sl s r=>cases h
    |_=>exact⟨h,fun s r e=>by cases e⟩
   |_=>exact⟨h,fun s r e=>by cases e⟩
  rcases List.mem_cons.1 O with rfl|O
  ·exact Z.2 s r
  ·exact h3 Z.1 x O s r
theorem B5(r:av T0 B σ a w ad h){T:TypeId}(A:o.op= .makeSlice T x x)(hd:o.dst=some d)(E:σ.fresh d=true)
  (ht:Xr P T=true) (hz:JN P (C P T)=true) (D:P8 P 12 (C P T)=some z) (s:zD z=some I) (m:m9 z=true) (aK:0<P.cellsOf (C P T)) (O:MN P σ x k (n:Int)) (a4:P.bytesOf (C P T)*n<=281474976710656) (aZ:n<=9223372036854775807)
  (hK:∀a' w',yO T0 B (σ.new d (.one (.E d 0 0 n)) [.arr true (P.cellsOf (C P T)) (List.replicate n I)]) a' w'->Xv B w w'->K a' w'):o.wp P a w K af:=by
 obtain⟨f,F,hi,a2⟩:=Qc ht;obtain⟨i,c,L,ao,aQ,j,a3,aR,aT,a1⟩:=WS hz;rw[hi]at ao;cases ao;rw[D]at j;cases j;have aw:=Vz r O
 have t:(f.bytes:Int)*(n:Int)<=281474976710656:=by have:P.bytesOf (C P T)=f.bytes:=de;rw[this]at a4;have h:((f.bytes*n:Nat):Int)<=281474976710656:=Y;rwa[Int.natCast_mul]at h
 have aE:=run_make (P:=P) w T (C P T) f c F hi aQ k k n n Y (Int.le_refl _) t Y;simp only[Int.toNat_natCast]at aE;unfold Oper.wp;simp only[execOp,A,aw,Sem.run_bind,aE,Result.andThen_ok,Sem.run_pure,Oper.upon_value,hd];have p:=gf s (a1 (al T0 ad) h σ.ob w);have aJ:=p.length;have H:c.cells.toList.length=c.cells.size:=Array.length_toList;have g:I.length=f.size:=Y;have l:(madeCells c.cells (n*f.size)).toList.length=n*f.size:=by rw[Array.length_toList,size_madeCells]
 have y:∀q u,(madeCells c.cells (n*f.size)).toList[q]?=some u->c.cells.toList[q%f.size]?=some u:=by
  intro q u hq;have ac:q<n*f.size:=dS
  have J:q%f.size<c.cells.size:=by rw[aR];exact Nat.mod_lt _ Y
  have:(madeCells c.cells (n*f.size)).toList[q]?=some (c.cells[q%c.cells.size]!):=by simp[madeCells,ac]
  rw[this]at hq;cases hq;rw[aR];simp[J]
 have aL:z6 (w.alloc (.cells (madeCells c.cells (n*f.size)) (C P T))) (madeCells c.cells (n*f.size)).toList (List.replicate n I).flatten (fun _=>False):=by
  refine⟨by rw[l,XD _ f.size (by intro q hq;rw[List.eq_of_mem_replicate hq];exact g)];simp,fun _ _=>False,fun q u dd hq R=>?_,fun _ _ G=>G,fun _ _ _ G=>G.elim⟩;have ac:q<n*f.size:=dS
  rw[PD I n q (by rw[g];exact ac),g]at R;exact eT s (a1 (al T0 ad) h σ.ob w) (h3 m) _ _ _ u dd (y q u hq) R
 have:=r.ZC6 E (World.grownBy_alloc w (.cells (madeCells c.cells (n*f.size)) (C P T)) none) (.slice (some ⟨w.heap.size,0,none⟩) n n) (e:=C P T) (X:=P.cellsOf (C P T)) (Q:=List.replicate n I) (xs:=(madeCells c.cells (n*f.size)).toList)
  ⟨by rw[l,aT];simp,.inr ⟨w.heap.size,n,_,ab,Nat.zero_le _,heap_alloc_new w _,ab,by simp only[maxLen];omega,by rw[size_madeCells,aT],by rw[List.take_of_length_le (by rw[l,aT];simp)]⟩⟩
  (by intro q hq;rw[List.eq_of_mem_replicate hq];omega) aL
  (fun b G=>by simp[blk]at G;subst G;exact⟨Nat.le_refl _,ab⟩)
 rw[List.length_replicate]at this;exact hK _ _ this.1 this.2
theorem z6.place{xs:List Value}(M:z6 w xs ds S)(Z:z6 w ys A H)(hd:∀b,S b->H b->False)(o:Nat)(ho:o+ys.length<=xs.length):z6 w (Vm.place xs o ys) (Vm.place ds o A) (fun b=>S b\/H b):=by
 obtain⟨l1,l,C,E,N⟩:=M;obtain⟨l2,F,V,b2,t⟩:=Z;refine⟨by rw[Qb _ _ _ ho,Qb _ _ _ Y,l1],fun k=>if o<=k/\k<o+ys.length then F (k-o)else l k,fun k x d O m=>?_,fun k b G=>?_,fun i j b hi hj=>?_⟩
 ·rcases Pj xs o ys ho k x O with⟨p1,p2,p3⟩|⟨p1,p3⟩
  ·rcases Pj ds o A Y k d m with⟨_,_,p4⟩|⟨p4,_⟩
   ·simp only[p1,p2,and_self,if_true];exact V _ x d p3 p4
   ·exact absurd ⟨p1,Y⟩ p4
  ·rcases Pj ds o A Y k d m with⟨p4,L,_⟩|⟨_,p4⟩
   ·exact absurd ⟨p4,Y⟩ p1
   ·simp only[p1,if_false];exact C k x d p3 p4
 ·by_cases hk:o<=k/\k<o+ys.length
  ·simp only[hk,and_self,if_true]at G;exact .inr (b2 _ b G)
  ·simp only[hk,if_false]at G;exact .inl (E k b G)
 ·by_cases ao:o<=i/\i<o+ys.length
  ·simp only[ao,and_self,if_true]at hi;by_cases aH:o<=j/\j<o+ys.length
   ·simp only[aH,and_self,if_true]at hj;have:=t _ _ b hi hj;omega
   ·simp only[aH,if_false]at hj;exact(hd b (E j b hj) (b2 _ b hi)).elim
  ·simp only[ao,if_false]at hi;by_cases aH:o<=j/\j<o+ys.length
   ·simp only[aH,and_self,if_true]at hj;exact(hd b (E i b hi) (b2 _ b hj)).elim
   ·simp only[aH,if_false]at hj;exact N i j b hi hj
theorem va(r:av T0 B σ a w ad h){T:TypeId}(A:o.op= .store T x y)(hd:o.dst=none)(ht:Uh P T=true)(aU:ap (look P σ 0 x)=true)(aV:ap (look P σ T y)=true)
  (O:unc (look P σ 0 x)= .one (.ptr t j i c)) (ho:σ.ob t j= .arr true X Q) (hi:i<Q.length) (aG:(unc (look P σ T y)).flat=true) (z:JF σ (unc (look P σ T y)).cells=some ds) (ao:QQ σ (unc (look P σ T y)).cells)
  (aw:(Ye (unc (look P σ T y)).cells).Nodup) (I:(t,j)∉Ye (unc (look P σ T y)).cells) (ag:(σ.YC (Ye (unc (look P σ T y)).cells)).zo (At.isT t)=false) (hl:ds.length=P.cellsOf T) (aA:c+P.cellsOf T<=X)
  (hK:∀a' w',yO T0 B ((σ.YC (Ye (unc (look P σ T y)).cells)).Yg t j (.arr true X (Q.set i (place (Q.getD i []) c ds)))) a' w'->Xv B w w'->K a' w'):o.wp P a w K af:=by
 obtain⟨_,f,_,ae,_,_⟩:=PH ht;have C:=r.arg (P:=P) 0 x O aU
 obtain⟨b,ah,ax,e,xs,G,he,hh,aS,aL,aM,aO,hz,H,_,aq⟩:=r.arr ho C;obtain⟨aq,hn⟩:=aq rfl;have hy:=OH aG (r.arg (P:=P) T y rfl aV)
 have a8:=Mn r hy z ao aw;have V:=a8.1;have e2:(a.eval y).cells.toList.length=(a.eval y).cells.size:=Array.length_toList;have e3:ax.toList.length=ax.size:=Array.length_toList;have ay:Q[i]?=some (Q.getD i []):=by simp[List.getD_eq_getElem?_getD,List.getElem?_eq_getElem hi]
 have aB:i*X+X<=Q.length*X:=e1;have az:Q.length*X<=ah*X:=Nat.mul_le_mul_right _ aS;have aE:=run_store (P:=P) (w:=w) ae (o:=i*X+c) (ak:=a.eval y) hh Y Y (fun u F=>by obtain⟨x',_,aW⟩:=hy.mem F;exact Yk.Qo aW);have an:σ.ob t j≠ .none:=bq;have aP:blk (h t j).v=some b:=by rw[G];rfl
 have g:=r.ZEp an aP;have au:=r.c t j b an aP;have aI:xs.length=Q.length*X:=by rw[H,XD Q X hz]
 have aT:(Q.getD i []).length=X:=hz _ (List.mem_of_getElem? ay);generalize hL:Ye (unc (look P σ T y)).cells=L at*;have r1:=r.YC L;have aD:(σ.YC L).ob t j= .arr true X Q:=by rw[J.y0,if_neg I,ho]
 have aN:=r.zj L;have aC:∀b',(h t j).u b'->zb σ h L b'->False:=by rintro b' aH ⟨p,hp,W,aK⟩;obtain⟨q1,q2⟩:=r.inj t j p.1 p.2 b' an W aH aK;exact I (by rw[q1,q2];exact hp)
 unfold Oper.wp;simp only[execOp,A,he,Sem.run_bind,aE,Result.andThen_ok,Sem.run_pure,Oper.upon_skip,hd];refine hK _ _ ⟨ad,_,r1.change (by rw[aD];simp) (by simp[World.setRow]) (fun k hk=>setRow_other w b k _ (fun e=>hk (e▸au))) (zb σ h L) (fun b' aj=>aN b' aj) _ (by rw[aD];simp[Ob.ai])
  ⟨(h t j).v,fun k=>((place xs (i*X+c) (a.eval y).cells.toList)[k]?).getD undef,fun b'=>(h t j).u b'\/zb σ h L b'⟩ rfl (fun b' aj=>aj) (fun b' aj=>.inl (r.c t j b' an aj)) (At.isT t) ag (.inl (fun u i c=>by simp[At.isT])) ?_⟩ (Xv.setRow g.1 _)
 have ac:=setRow_heap w b ax (place ax.toList (i*X+c) (a.eval y).cells.toList).toArray e (0,0) hh;have ab:∀b',b'≠b->(w.setRow b (place ax.toList (i*X+c) (a.eval y).cells.toList).toArray).heap[b']?=w.heap[b']?:=fun b' W=>setRow_other w b b' _ W;have am:∀r∈Q.set i (place (Q.getD i []) c ds),r.length=X:=by
  intro r' aF;rcases List.mem_or_eq_of_mem_set aF with aF|aF
  ·exact hz r' aF
  ·rw[aF,Qb _ _ _ Y,aT]
 refine⟨e,place xs (i*X+c) (a.eval y).cells.toList,⟨?_,.inr ⟨b,ah,_,by simpa using G,Nat.zero_le _,ac,by simpa using aS,aL,?_,?_⟩⟩,am,?_,fun k u d F _ _=>by simp[F]⟩
 ·rw[Qb _ _ _ Y,aI];simp
 ·simp only[List.size_toArray];rw[Qb _ _ _ Y,e3,aM]
 ·simp only[List.length_set];rw[Dy _ _ _ _ Y Y,aO]
 ·rw[VO X c ds Y Q i _ ay hz];have k1:z6 (w.setRow b (place ax.toList (i*X+c) (a.eval y).cells.toList).toArray) xs Q.flatten (fun b=>(h t j).u b/\blk (h t j).v≠some b):=aq.Bn (fun b' aj=>ab b' (fun e=>aj.2 (by rw[e];exact aP)))
  have k2:z6 (w.setRow b (place ax.toList (i*X+c) (a.eval y).cells.toList).toArray) (a.eval y).cells.toList ds (zb σ h L):=a8.Bn (fun b' aj=>ab b' (fun e=>aC b' (by rw[e];exact au) aj));refine(k1.place k2 (fun b' M Z=>aC b' M.1 Z) _ Y).mono (fun b' aj=>?_);rcases aj with aj|aj
  ·exact⟨.inl aj.1,aj.2⟩
  ·exact⟨.inr aj,fun e=>aC b' (r.c t j b' an e) aj⟩
theorem aV.ZBG{p:Nat->Prop}(ar:aV w v (.sl n s) S){k q:Nat}(hk:k<s.length)(hy:z6 w ys ds p)(aA:q+ds.length<=n)(hd:∀b,S b->p b->False):
  ∃g ah ax e,v= .slice (some ⟨g,0,none⟩) s.length ah/\S g/\w.heap[g]?=some (.cells ax e (0,0))/\k*n+q+ys.length<=ax.size/\aV (w.setRow g (place ax.toList (k*n+q) ys).toArray) v (.sl n (s.set k (place (s.getD k []) q ds))) (fun b=>S b\/p b):=by
 cases ar with
 |sl v X Q S e xs l ho hz G hl aI U m=>
  have V:=hy.1;obtain⟨H,⟨_,h0⟩|⟨g,ah,ax,hv,aN,hh,aS,aL,aM,aO⟩⟩:=ho
  ·omega
  have d:S g:=G g (by rw[hv];rfl);have ay:s[k]?=some (s.getD k []):=by simp[List.getD_eq_getElem?_getD,List.getElem?_eq_getElem hk]
  have aB:k*n+n<=s.length*n:=by rw[<-Nat.succ_mul];exact Nat.mul_le_mul_right _ hk
  have az:s.length*n<=ah*n:=Nat.mul_le_mul_right _ aS;have e3:ax.toList.length=ax.size:=Array.length_toList;have aT:(s.getD k []).length=n:=hz _ (List.mem_of_getElem? ay);refine⟨g,ah,ax,e,hv,d,hh,Y,?_⟩;have ac:=setRow_heap w g ax (place ax.toList (k*n+q) ys).toArray e (0,0) hh;have ab:∀b',b'≠g->(w.setRow g (place ax.toList (k*n+q) ys).toArray).heap[b']?=w.heap[b']?:=fun b' W=>setRow_other w g b' _ W;have am:∀r∈s.set k (place (s.getD k []) q ds),r.length=n:=by
   intro r' aF;rcases List.mem_or_eq_of_mem_set aF with aF|aF
   ·exact hz r' aF
   ·rw[aF,Qb _ _ _ Y,aT]
  have aP:blk v=some g:=by rw[hv];rfl
  have k1:z6 (w.setRow g (place ax.toList (k*n+q) ys).toArray) xs s.flatten (fun b=>S b/\blk v≠some b):=
   z6.Bn (fun b' aj=>ab b' (fun e=>aj.2 (by rw[e];exact aP))) (show z6 w xs s.flatten (fun b=>S b/\blk v≠some b)from⟨hl,l,aI,fun k b G=>U k b G,m⟩)
  have k2:z6 (w.setRow g (place ax.toList (k*n+q) ys).toArray) ys ds p:=hy.Bn (fun b' aj=>ab b' (fun e=>hd b' (by rw[e];exact d) aj));have k3:=k1.place k2 (fun b' M Z=>hd b' M.1 Z) (k*n+q) (by rw[H];omega);rw[<-VO n q ds Y s k _ ay hz]at k3;obtain⟨a,c,C,E,N⟩:=k3;refine .sl v n _ _ e (place xs (k*n+q) ys) c ⟨?_,.inr ⟨g,ah,_,by simpa using hv,aN,ac,by simpa using aS,aL,?_,?_⟩⟩ am (fun b' aj=>.inl (G b' aj)) a C (fun k b aj=>?_) N
  ·rw[Qb _ _ _ (by rw[H];omega),H];simp
  ·simp only[List.size_toArray];rw[Qb _ _ _ Y,e3,aM]
  ·simp only[List.length_set];rw[Dy _ _ _ _ Y Y,aO]
  ·rcases E k b aj with M|M
   ·exact⟨.inl M.1,M.2⟩
   ·exact⟨.inr M,fun e=>hd b (G b e) M⟩
theorem vG(r:av T0 B σ a w ad h){T:TypeId}(A:o.op= .store T x y)(hd:o.dst=none)(ht:Uh P T=true)(aU:ap (look P σ 0 x)=true)(aV:ap (look P σ T y)=true)
  {k q:Nat} (O:unc (look P σ 0 x)= .one (.Z t j i c (some (k*n+q)))) (ho:σ.ob t j= .arr true X Q) (hi:i<Q.length) (ai:(Q.getD i [])[c]?=some (.sl n s)) (hk:k<s.length)
  (aG:(unc (look P σ T y)).flat=true) (z:JF σ (unc (look P σ T y)).cells=some ds) (ao:QQ σ (unc (look P σ T y)).cells)
  (aw:(Ye (unc (look P σ T y)).cells).Nodup) (I:(t,j)∉Ye (unc (look P σ T y)).cells) (hl:ds.length=P.cellsOf T) (aA:q+P.cellsOf T<=n)
  (hK:∀a' w',yO T0 B ((σ.YC (Ye (unc (look P σ T y)).cells)).Yg t j (.arr true X (Q.set i (place (Q.getD i []) c [.sl n (s.set k (place (s.getD k []) q ds))])))) a' w'->Xv B w w'->K a' w'):o.wp P a w K af:=by
 obtain⟨_,f,_,ae,_,_⟩:=PH ht;have an:σ.ob t j≠ .none:=bq
 have h0:=r.obj t j;rw[ho]at h0;obtain⟨e,vs,ar,hz,⟨S,l,o1,E,o3⟩,hn⟩:=h0;have ay:Q[i]?=some (Q.getD i []):=by simp[List.getD_eq_getElem?_getD,List.getElem?_eq_getElem hi]
 have aX:Q.flatten[i*X+c]?=some (.sl n s):=S8 Q X hz i _ ay c _ ai;have ac:i*X+c<vs.length:=by rw[S];exact(List.getElem?_eq_some_iff.1 aX).1
 have m:vs[i*X+c]?=some vs[i*X+c]:=List.getElem?_eq_getElem ac;have aa:=hn _ _ _ m aX rfl;have aq:=o1 _ _ _ m aX;have hy:=OH aG (r.arg (P:=P) T y rfl aV);have a8:=Mn r hy z ao aw;have V:=a8.1;have e2:(a.eval y).cells.toList.length=(a.eval y).cells.size:=Array.length_toList;generalize hL:Ye (unc (look P σ T y)).cells=L at*;have aC:∀b',(h t j).u b'->zb σ h L b'->False:=by rintro b' aH ⟨p,hp,W,aK⟩;obtain⟨q1,q2⟩:=r.inj t j p.1 p.2 b' an W aH aK;exact I (by rw[q1,q2];exact hp)
 have U:∀b,l (i*X+c) b->(h t j).u b:=fun b G=>(E _ b G).1;obtain⟨g,ah,ax,H,hv,d,hh,aB,a0⟩:=aq.ZBG (q:=q) hk a8 Y (fun b M Z=>aC b (U b M) Z);have C:=r.arg (P:=P) 0 x O aU;have he:a.eval x= .pointer (some ⟨g,k*n+q,none⟩):=by obtain⟨b,n',ba,M,Z⟩:=C.2 X Q ho;rw[aa,hv]at M;cases M;exact Z
 have aE:=run_store (P:=P) (w:=w) ae (o:=k*n+q) (ak:=a.eval y) hh Y Y (fun u F=>by obtain⟨x',_,aW⟩:=hy.mem F;exact Yk.Qo aW);have ag:=r.own t j g an (U g d);have r1:=r.YC L;have aD:(σ.YC L).ob t j= .arr true X Q:=by rw[J.y0,if_neg I,ho]
 have aN:=r.zj L;have aM:c+1<=X:=by have M:=(List.getElem?_eq_some_iff.1 ai).1;have Z:=hz _ (List.mem_of_getElem? ay);omega
 have v:=VO X c [D.sl n (s.set k (place (s.getD k []) q ds))] (by simpa using aM) Q i _ ay hz;have aO:i*X+c+[D.sl n (s.set k (place (s.getD k []) q ds))].length<=Q.flatten.length:=by rw[<-S];simp;omega
 have aT:(Q.getD i []).length=X:=hz _ (List.mem_of_getElem? ay);have am:∀r∈Q.set i (place (Q.getD i []) c [D.sl n (s.set k (place (s.getD k []) q ds))]),r.length=X:=by
  intro r' aF;rcases List.mem_or_eq_of_mem_set aF with aF|aF
  ·exact hz r' aF
  ·rw[aF,Qb _ _ _ (by rw[aT];simpa using aM),aT]
 have ab:∀b',b'≠g->(w.setRow g (place ax.toList (k*n+q) (a.eval y).cells.toList).toArray).heap[b']?=w.heap[b']?:=fun b' W=>setRow_other w g b' _ W;have aP:∀b,blk (h t j).v=some b->(w.setRow g (place ax.toList (k*n+q) (a.eval y).cells.toList).toArray).heap[b]?=w.heap[b]?:=fun b G=>ab b (fun e=>(E _ g d).2 (by rw[<-e];exact G));unfold Oper.wp;simp only[execOp,A,he,Sem.run_bind,aE,Result.andThen_ok,Sem.run_pure,Oper.upon_skip,hd];refine hK _ _ ⟨ad,_,r1.change (by rw[aD];simp) (by simp[World.setRow]) (fun k' aI=>ab k' (fun e=>aI (e▸U g d))) (zb σ h L) (fun b' aj=>aN b' aj) _ (by rw[aD];simp[Ob.ai])
  ⟨(h t j).v,(h t j).n,fun b'=>(h t j).u b'\/zb σ h L b'⟩ rfl (fun b' aj=>aj) (fun b' aj=>.inl (r.c t j b' an aj)) (fun _=>false) (J.SA _) (.inr rfl) ?_⟩ (Xv.setRow ag.1 _)
 refine⟨e,vs,by rw[List.length_set];exact Um aP ar,am,⟨?_,fun k'=>if k'=i*X+c then(fun b=>l (i*X+c) b\/zb σ h L b)else l k',fun k' x dd O R=>?_,fun k' b G=>?_,fun p' q' b hp hq=>?_⟩,fun k' x dd O R N=>?_⟩
 ·rw[v,Qb _ _ _ aO,S]
 ·rw[v]at R;rcases Pj _ _ _ aO k' dd R with⟨k1,k2,k3⟩|⟨k1,k3⟩
  ·have aI:k'=i*X+c:=by simp at k2;omega
   subst aI;rw[m]at O;cases O;simp at k3;subst k3;simp only[if_true];exact a0
  ·have aI:¬k'=i*X+c:=fun aI=>k1 ⟨Y,by simp;omega⟩;simp only[aI,if_false];exact(o1 k' x dd O k3).Bn (fun b G=>ab b (fun e=>aI (o3 k' _ b G (by rw[e];exact d))))
 ·by_cases aI:k'=i*X+c
  ·simp only[aI,if_true]at G;rcases G with G|G
   ·exact⟨.inl (E _ b G).1,(E _ b G).2⟩
   ·exact⟨.inr G,fun e=>aC b (r.c t j b an e) G⟩
  ·simp only[aI,if_false]at G;exact⟨.inl (E k' b G).1,(E k' b G).2⟩
 ·by_cases aJ:p'=i*X+c
  ·by_cases aL:q'=i*X+c
   ·rw[aJ,aL]
   ·simp only[aJ,if_true]at hp;simp only[aL,if_false]at hq;rcases hp with hp|hp
    ·rw[aJ];exact(o3 _ _ b hp hq)
    ·exact(aC b (E q' b hq).1 hp).elim
  ·simp only[aJ,if_false]at hp;by_cases aL:q'=i*X+c
   ·simp only[aL,if_true]at hq;rcases hq with hq|hq
    ·rw[aL];exact(o3 _ _ b hp hq)
    ·exact(aC b (E p' b hp).1 hq).elim
   ·simp only[aL,if_false]at hq;exact o3 p' q' b hp hq
 ·rw[v]at R;rcases Pj _ _ _ aO k' dd R with⟨k1,k2,k3⟩|⟨k1,k3⟩
  ·have aI:k'=i*X+c:=by simp at k2;omega
   subst aI;rw[m]at O;cases O;exact aa
  ·exact hn k' x dd O k3 N
theorem Fs{α β:Type}(f:α->β)(l:List α)(k:Nat):cut (l.map f) k (l.length-k)=(l.drop k).map f:=by unfold cut;rw[<-List.map_drop,<-List.map_take,List.take_of_length_le (by rw[List.length_drop];exact Nat.le_refl _)]
def hol:D->D
 |.sl _ _=>.unk
 |d=>d
def zJ(Q:List (List D))(lo n:Nat):List (List D):=Q.take lo++(cut Q lo n).map (fun r=>r.map hol)++Q.drop (lo+n)
theorem Vn(h:lo+n<=Q.length):(zJ Q lo n).length=Q.length:=by simp only[zJ,List.length_append,List.length_map,List.length_take,List.length_drop,Xj _ _ _ h];omega
theorem vZ{C n':Nat}(h:lo+n<=Q.length)(h':lo+n<=C):cut (zJ Q lo n) C n'=cut Q C n':=by
 unfold cut;congr 1;have hl:(Q.take lo++(cut Q lo n).map (fun r=>r.map hol)).length=lo+n:=by simp only[List.length_append,List.length_map,List.length_take,Xj _ _ _ h];omega
 unfold zJ;rw[List.drop_append,List.drop_eq_nil_of_le Y,hl,List.drop_drop,List.nil_append];congr 1;omega
theorem aV.ZDX{d:D}(U:d.scalar=true)(ho:aV w v d S):aV w v d H:=by
 cases ho with
 |int k n=>exact .int _ _ _
 |bool b=>exact .bool _ _
 |str s=>exact .str _ _
 |unk v h=>exact .unk _ h _
 |sl=>cases U
theorem aV.hol{d:D}(ho:aV w v d S):aV w v (Vm.hol d) H:=by
 cases d with
 |sl s r=>exact .unk _ ho.Qo _
 |int k n=>exact ho.ZDX rfl
 |bool b=>exact ho.ZDX rfl
 |str s=>exact ho.ZDX rfl
 |unk=>exact ho.ZDX rfl
theorem p3(d:D):(hol d).scalar=true:=by cases d<;>rfl
theorem v9(hz:∀r∈Q,r.length=X)(aA:lo+n<=Q.length){k:Nat}{d:D}(hd:(zJ Q lo n).flatten[k]?=some d):
  (lo*X<=k/\k<lo*X+n*X/\∃d',Q.flatten[k]?=some d'/\d=hol d')\/(¬(lo*X<=k/\k<lo*X+n*X)/\Q.flatten[k]?=some d):=by
 have aG:Q.flatten.length=Q.length*X:=XD Q X hz;have hm:lo*X+n*X<=Q.length*X:=fT;have H:(Q.take lo).flatten=Q.flatten.take (lo*X):=U5 Q X hz lo Y;have e2:((cut Q lo n).map (fun r=>r.map hol)).flatten=(cut Q.flatten (lo*X) (n*X)).map hol:=by rw[<-EY Q X hz lo n aA,List.map_flatten]
 have l1:((Q.take lo).flatten).length=lo*X:=by rw[H,List.length_take];omega
 have l2:(((cut Q lo n).map (fun r=>r.map hol)).flatten).length=n*X:=by rw[e2,List.length_map,Xj _ _ _ Y]
 unfold zJ at hd;rw[List.flatten_append,List.flatten_append]at hd;by_cases M:k<lo*X+n*X
 ·rw[List.getElem?_append_left (by rw[List.length_append,l1,l2];exact M)]at hd;by_cases h0:k<lo*X
  ·rw[List.getElem?_append_left (by rw[l1];exact h0),H,List.getElem?_take,if_pos h0]at hd;exact .inr ⟨Y,hd⟩
  ·rw[List.getElem?_append_right (by rw[l1];omega),l1,e2,List.getElem?_map]at hd;cases hc:(cut Q.flatten (lo*X) (n*X))[k-lo*X]? with
   |none=>rw[hc]at hd;cases hd
   |some d'=>
    rw[hc]at hd;have:=jP _ _ _ _ _ hc
    rw[show lo*X+(k-lo*X)=k by omega]at this;exact .inl ⟨Y,M,d',this,(by cases hd;rfl)⟩
 ·rw[List.getElem?_append_right (by rw[List.length_append,l1,l2];omega),List.length_append,l1,l2]at hd;have e3:(Q.drop (lo+n)).flatten=Q.flatten.drop (lo*X+n*X):=by
   have Z:(Q.take (lo+n)).flatten++(Q.drop (lo+n)).flatten=Q.flatten:=fb;have h3:(Q.take (lo+n)).flatten.length=lo*X+n*X:=by rw[U5 Q X hz (lo+n) aA,List.length_take,Nat.add_mul];omega
   rw[<-Z,<-h3,List.drop_left]
  rw[e3,List.getElem?_drop,show lo*X+n*X+(k-(lo*X+n*X))=k by omega]at hd;exact .inr ⟨Y,hd⟩
theorem av.ZC3(r:av T0 B σ a w ad h)(ho:σ.ob u j= .arr true X Q)(aA:lo+n<=Q.length):
  ∃(h':Nat->Nat->Hd)(T:Nat->Prop)(e:TypeId)(U:List Value),av T0 B (σ.Yg u j (.arr true X (zJ Q lo n))) a w ad h'/\
   (∀b,T b->¬B b/\¬ad b/\b<w.heap.size/\∀t i,(σ.Yg u j (.arr true X (zJ Q lo n))).ob t i≠ .none->¬(h' t i).u b)/\(∀t i,(h' t i).v=(h t i).v)/\
   w.ownsRow 0 e X (h u j).v Q.length U/\(∀q∈Q,q.length=X)/\z6 w (cut U (lo*X) (n*X)) (cut Q lo n).flatten T/\(∀v∈U,v.oneCell'=true):=by
 have an:σ.ob u j≠ .none:=bq;have h0:=r.obj u j;rw[ho]at h0;obtain⟨e,U,ar,hz,⟨S,l,o1,E,o3⟩,hn⟩:=h0;have aG:Q.flatten.length=Q.length*X:=XD Q X hz;have hm:lo*X+n*X<=Q.length*X:=fT;let T:Nat->Prop:=fun b=>∃k,lo*X<=k/\k<lo*X+n*X/\l k b
 let m:Hd:=⟨(h u j).v,(h u j).n,fun b=>(h u j).u b/\¬T b⟩
 have g:∀b,T b->(h u j).u b/\blk (h u j).v≠some b:=fun b ⟨k,_,_,hk⟩=>E k b hk;have am:∀q∈zJ Q lo n,q.length=X:=by
  intro q hq;simp only[zJ,List.mem_append,List.mem_map]at hq;rcases hq with(hq|⟨q',hq,rfl⟩)|hq
  ·exact hz q (List.mem_of_mem_take hq)
  ·rw[List.length_map];exact hz q' (List.mem_of_mem_drop (List.mem_of_mem_take hq))
  ·exact hz q (List.mem_of_mem_drop hq)
 have hr:=r.change (w':=w) an rfl (fun _ _=>rfl) (fun _=>False) (fun _ hh=>hh.elim) (.arr true X (zJ Q lo n)) (by rw[ho];exact⟨rfl,rfl,(Vn aA).symm⟩) m rfl (fun b G=>.inl G.1)
  (fun b G=>⟨r.c u j b an G,fun aj=>(g b aj).2 G⟩) (fun _=>false) (J.SA σ) (.inr rfl) (by
   refine⟨e,U,by rw[Vn aA];exact ar,am,⟨?_,fun k=>if lo*X<=k/\k<lo*X+n*X then(fun _=>False)else l k,fun k x d O hd=>?_,fun k b G=>?_,fun k k' b G aj=>?_⟩,fun k x d O hd N=>?_⟩
   ·rw[S,XD _ X am,Vn aA,aG]
   ·rcases v9 hz aA hd with⟨M,Z,d',h3,rfl⟩|⟨M,Z⟩
    ·exact(o1 k x d' O h3).hol
    ·simp only[M,if_false];exact o1 k x d O Z
   ·dsimp only at G;split at G
    ·exact G.elim
    ·rename_i hk;refine⟨⟨(E k b G).1,fun⟨k',M,Z,h3⟩=>?_⟩,(E k b G).2⟩;have:=o3 k k' b G h3
     subst this;exact hk ⟨M,Z⟩
   ·dsimp only at G aj;split at G
    ·exact G.elim
    ·split at aj
     ·exact aj.elim
     ·exact o3 k k' b G aj
   ·rcases v9 hz aA hd with⟨M,Z,d',h3,rfl⟩|⟨M,Z⟩
    ·rw[p3]at N;cases N
    ·exact hn k x d O Z N)
 have o:(cut Q lo n).flatten=cut Q.flatten (lo*X) (n*X):=EY Q X hz lo n aA;refine⟨_,T,e,U,hr,fun b G=>?_,fun t i=>?_,ar,hz,?_,fun v hv=>?_⟩
 ·have M:=r.own u j b an (g b G).1;refine⟨M.1,M.2.1,M.2.2,fun t i W aj=>?_⟩;split at aj
  ·exact aj.2 G
  ·rename_i hc;have aI:σ.ob t i≠ .none:=by rw[J.ze σ u j _ t i an,if_neg hc]at W;exact W
   exact hc (r.inj t i u j b aI an aj (g b G).1)
 ·split
  ·rename_i hc;rw[hc.1,hc.2]
  ·rfl
 ·rw[o];have R:(cut U (lo*X) (n*X)).length=n*X:=Xj _ _ _ (by rw[S,aG];exact hm)
  refine⟨by rw[R,Xj _ _ _ (by rw[aG];exact hm)],fun k b=>k<n*X/\l (lo*X+k) b,fun k x d O hd=>?_,fun k b G=>⟨lo*X+k,Y,Y,G.2⟩,fun i k b hi hk=>by have:=o3 _ _ b hi.2 hk.2;omega⟩;have hk:k<n*X:=by rw[<-R];exact(List.getElem?_eq_some_iff.1 O).1
  exact(o1 _ x d (jP _ _ _ _ _ O) (jP _ _ _ _ _ hd)).mono (fun b G=>⟨hk,G⟩)
 ·obtain⟨k,hk⟩:=List.mem_iff_getElem?.1 hv;have ac:k<Q.flatten.length:=by rw[<-S];exact(List.getElem?_eq_some_iff.1 hk).1
  exact(o1 k v _ hk (List.getElem?_eq_getElem ac)).Qo
def dB(σ:J)(x:V)(X:Nat)(au:List (List D))(l:List (Nat×Nat)):Prop:=
 match x with
 |.one (.nil _)=>au=[]/\l=[]
 |.one (.E t j lo ae)=>lo=0/\ae=au.length/\l=[(t,j)]/\(σ.ob t j= .arr true X au\/(σ.ob t j= .lit X []/\au=[]))
 |_=>False
theorem q5(r:av T0 B σ a w ad h){t:TypeId}(A:o.op= .call ⟨.builtin .append,#[x,y],#[t,t]⟩)(hd:o.dst=some d)
  (aU:ap (look P σ t x)=true) (aV:ap (look P σ t y)=true) (ht:Xr P t=true) (hz:JN P (C P t)=true) (aK:0<P.cellsOf (C P t))
  (m:dB σ (unc (look P σ t x)) (P.cellsOf (C P t)) au l1) (hy:unc (look P σ t y)= .one (.E u j lo n)) (ho:σ.ob u j= .arr true (P.cellsOf (C P t)) Q) (aA:lo+n<=Q.length) (aj:(u,j)∉l1)
  (E:((σ.Yg u j (.arr true (P.cellsOf (C P t)) (zJ Q lo n))).YC l1).fresh d=true)
  (aY:(au.length+n)*P.bytesOf (C P t)<=140737488355328) (aZ:au.length+n<=9223372036854775807)
  (hK:∀a' w',yO T0 B (((σ.Yg u j (.arr true (P.cellsOf (C P t)) (zJ Q lo n))).YC l1).new d (.one (.E d 0 0 (au.length+n))) [.arr true (P.cellsOf (C P t)) (au++cut Q lo n)]) a' w'->Xv B w w'->K a' w'):o.wp P a w K af:=by
 obtain⟨f,F,hi,a2⟩:=Qc ht;obtain⟨i,z,L,ao,aQ,D,a3,aR,aT,a1⟩:=WS hz;rw[hi]at ao;cases ao;have a4:P.bytesOf (C P t)=f.bytes:=de
 rw[a4]at aY;rw[<-aT]at ho aK hK E m;have X:=r.arg (P:=P) t x rfl aU
 have a7:=r.arg (P:=P) t y rfl aV;rw[hy]at a7;have aW:Yk (al T0 ad) h σ.ob w (.E u j lo n) (a.eval y):=a7;obtain⟨_,_,_,ay,ah,a5,aS,Z,aG,G⟩:=aW.2.1 _ _ _ ho;obtain⟨h',T,e0,U,r0,hM,aF,bf,a6,a8,aB⟩:=r.ZC3 ho aA;have an:σ.ob u j≠ .none:=bq;generalize bg:σ.Yg u j (.arr true f.size (zJ Q lo n))=σ1 at*;have aD:∀t' i',¬(t'=u/\i'=j)->σ1.ob t' i'=σ.ob t' i':=fun t' i' W=>by rw[<-bg,J.ze σ u j _ t' i' an,if_neg W]
 have aJ:U.length=Q.length*f.size:=bf.1;have ai:lo*f.size+n*f.size<=U.length:=by rw[aJ,<-Nat.add_mul];exact Nat.mul_le_mul_right _ aA
 generalize ae:cut U (lo*f.size) (n*f.size)=ys at*;have V:ys.length=n*f.size:=by rw[<-ae];exact Xj _ _ _ ai
 have R:(cut Q lo n).length=n:=Xj _ _ _ aA;have aX:∀q∈cut Q lo n,q.length=f.size:=fun q hq=>a6 q (List.mem_of_mem_drop (List.mem_of_mem_take hq));have S:∃H xs,w.ownsRow 0 H f.size (a.eval x) au.length xs/\(∀q∈au,q.length=f.size)/\z6 w xs au.flatten (fun b=>zb σ1 h' l1 b/\blk (a.eval x)≠some b)/\(∀b,blk (a.eval x)=some b->zb σ1 h' l1 b):=by
  unfold dB at m;split at m
  ·rename_i s heq;obtain⟨rfl,rfl⟩:=m;rw[heq]at X;have he:a.eval x= .slice none 0 0:=X
   rw[he];exact⟨0,[],World.ownsRow_nil w 0 0 _,ci,z6.nil _,(fun b G=>by cases G)⟩
  ·rename_i u2 j2 aI be heq;obtain⟨rfl,rfl,rfl,ac⟩:=m;rw[heq]at X;have a9:Yk (al T0 ad) h σ.ob w (.E u2 j2 0 au.length) (a.eval x):=X
   have W:¬(u2=u/\j2=j):=fun hc=>aj (by rw[hc.1,hc.2];simp);have h0:=r0.obj u2 j2;rw[aD u2 j2 W]at h0;rcases ac with ac|⟨ac,rfl⟩
   ·obtain⟨_,az,_⟩:=a9.2.1 _ _ _ ac;have he:a.eval x=(h' u2 j2).v:=by rw[aF];exact az rfl rfl
    rw[ac]at h0;obtain⟨e,xs,aq,a0,aa,hn⟩:=h0;have O:σ1.ob u2 j2≠ .none:=by rw[aD u2 j2 W,ac];simp
    rw[he];exact⟨e,xs,aq,a0,aa.mono (fun b G=>⟨⟨(u2,j2),ab,O,G.1⟩,G.2⟩),fun b G=>⟨(u2,j2),ab,O,r0.c u2 j2 b O G⟩⟩
   ·obtain⟨_,az,_⟩:=a9.2.2 _ _ ac;have he:a.eval x=(h' u2 j2).v:=by rw[aF];exact az rfl rfl
    rw[ac]at h0;obtain⟨e,xs,aq,a0,aa⟩:=h0;have O:σ1.ob u2 j2≠ .none:=by rw[aD u2 j2 W,ac];simp
    have bh:xs=[]:=by cases aa;rfl
    subst bh;rw[he];exact⟨e,[],aq,ci,z6.nil _,fun b G=>⟨(u2,j2),ab,O,r0.c u2 j2 b O G⟩⟩
  ·exact m.elim
 obtain⟨H,xs,aq,bd,bc,aP⟩:=S;have aC:∀b,zb σ1 h' l1 b->T b->False:=by rintro b ⟨p,hp,W,aH⟩ G;exact(hM b G).2.2.2 p.1 p.2 W aH
 have aN:=r0.zj l1;let N:Nat->Prop:=fun b=>zb σ1 h' l1 b\/T b
 have hN:∀b,N b->¬B b/\¬ad b/\b<w.heap.size/\∀l i',(σ1.YC l1).ob l i'≠ .none->¬(h' l i').u b:=by
  rintro b (G|G)
  ·exact aN b G
  ·obtain⟨q1,q2,q3,q4⟩:=hM b G;refine⟨q1,q2,q3,fun l i' W=>q4 l i' ?_⟩;rw[J.y0]at W;split at W
   ·exact absurd rfl W
   ·exact W
 have bb:∀b,T b->blk (a.eval x)≠some b:=fun b G e=>aC b (aP b e) G;refine oH (r0.YC l1) (N:=N) (ys:=ys) A hd F hi aQ aR Y E aY aZ aq (fun b G=>.inl (aP b G)) hN a5 (fun hh=>⟨aG hh,by have:=aG hh;omega⟩) V (fun I aw k v hv=>?_) (fun v hv=>aB v (by rw[<-ae]at hv;exact List.mem_of_mem_drop (List.mem_of_mem_take hv))) (by rw[List.length_append,R]) (fun q hq=>(List.mem_append.1 hq).elim (bd q) (aX q)) ?_ hK
 ·have c:0<n:=by
   rcases Nat.eq_zero_or_pos n with h0|h0
   ·have hk:=(List.getElem?_eq_some_iff.1 hv).1;rw[V,h0]at hk;simp at hk
   ·exact h0
  obtain⟨b,aE,hh,am⟩:=G c;rw[aw]at am;cases am;rcases bf.2 with⟨hn1,_⟩|⟨g,ba,ax,aF,_,hgg,ar,aL,aM,aO⟩
  ·rw[hh]at hn1;cases hn1
  ·rw[hh]at aF;cases aF;rw[<-ae]at hv;have M:=jP _ _ _ _ _ hv
   rw[V6];refine qh hgg _ _ ?_;rw[<-aO,List.getElem?_take]at M;split at M
   ·exact M
   ·cases M
 ·rw[List.flatten_append];exact(bc.append a8 (fun b ag ak=>aC b ag.1 ak)).mono (fun b G=>G.elim (fun G=>⟨.inl G.1,G.2⟩) (fun G=>⟨.inr G,bb b G⟩))
def j5(w:World)(ag:List (List D))(e:Ending)(w':World):Prop:=
 ∃(vs:List Value)(g:List (List Value)),e= .returned (pj vs)/\Below w.heap.size w w'/\Yd xK vs g/\Yd (fun(I:List Value)(L:List D)=>I.length=L.length) g ag/\
  z6 w' g.flatten ag.flatten (fun b=>w.heap.size<=b/\b<w'.heap.size)
def Z7(P:Program)(f:FuncId)(aA ag:List (List D)):Prop:=
 Ly P f=true/\∀(T:CS)(w:World)(ar:List Value),(∀b k,T b k->b<w.heap.size)->Yd (fun v L=>∃I,xK v I/\Yd (Rd T w) I L) ar aA->Calls P f ar.toArray w (j5 w ag)
theorem Pl{α β:Type}{R:α->β->Prop}:∀{g:List (List α)}{ag:List (List β)},Yd (fun(I:List α)(L:List β)=>I.length=L.length) g ag->(∀(k:Nat)(x:α)(d:β),g.flatten[k]?=some x->ag.flatten[k]?=some d->R x d)->Yd (fun I L=>Yd R I L) g ag:=by
 intro g ag aa;induction aa with
 |nil=>intro _;exact .nil
 |@cons I L g ag hl _ ih=>
  intro hk;refine .cons (Yd.V8 hl (fun k x d O hd=>hk k x d ?_ ?_)) (ih (fun k x d O hd=>hk (I.length+k) x d ?_ ?_))
  ·rw[List.flatten_cons,List.getElem?_append_left (List.getElem?_eq_some_iff.1 O).1];exact O
  ·rw[List.flatten_cons,List.getElem?_append_left (List.getElem?_eq_some_iff.1 hd).1];exact hd
  ·rw[List.flatten_cons,List.getElem?_append_right Y];simpa using O
  ·rw[List.flatten_cons,List.getElem?_append_right Y,hl];simpa using hd
theorem Z7.rd{aA:List (List D)}(U:Z7 P f aA ag):KJ P f false aA ag:=by refine⟨U.1,fun T w ar hT ha=>(U.2 T w ar hT ha).mono ?_⟩;rintro e w' ⟨vs,g,he,G,hf,hl,⟨_,l,M,Z,h3⟩⟩;refine⟨vs,g,fun b=>w.heap.size<=b/\b<w'.heap.size,he,G,fun b G=>G,hf,Pl hl (fun k x d O hd=>?_),fun hh=>by cases hh⟩;simp only[R6,Bool.false_eq_true,if_false];exact(M k x d O hd).rd (fun b k' G=>.inr (Z k b G))
def Ya:List Bool->List D->List Ob
 |_,[]=>[]
 |q::qs,.sl X Q::ds=>.arr q X Q::Ya qs ds
 |[],.sl X Q::ds=>.arr true X Q::Ya [] ds
 |qs,_::ds=>.none::Ya qs.tail ds
def Re:List Bool->List D->Prop
 |_,[]=>True
 |q::qs,.sl _ Q::ds=>(q=false->∀r∈Q,∀x∈r,x.scalar=true)/\Re qs ds
 |[],.sl _ _::ds=>Re [] ds
 |qs,_::ds=>Re qs.tail ds
theorem Xt:∀(qs:List Bool)(ds:List D)(k:Nat),Re qs ds->(∀X Q,ds[k]?=some (.sl X Q)->∃q,Y6 (Ya qs ds) k= .arr q X Q/\(q=false->∀r∈Q,∀x∈r,x.scalar=true))/\(Y6 (Ya qs ds) k≠ .none->∃X Q,ds[k]?=some (.sl X Q))
 |qs,[],k,_=>⟨fun X Q h=>by simp at h,fun h=>by cases qs<;>simp[Ya,Y6]at h⟩
 |q::qs,.sl X Q::ds,0,hf=>⟨fun s r h=>by simp at h;obtain⟨rfl,rfl⟩:=h;exact⟨q,by simp[Ya,Y6],hf.1⟩,fun _=>⟨X,Q,ab⟩⟩
 |[],.sl X Q::ds,0,hf=>⟨fun s r h=>by simp at h;obtain⟨rfl,rfl⟩:=h;exact⟨true,by simp[Ya,Y6],fun h=>by cases h⟩,fun _=>⟨X,Q,ab⟩⟩
 |qs,.int k n::ds,0,hf=>⟨fun s r h=>by simp at h,fun h=>by cases qs<;>simp[Ya,Y6]at h⟩
 |qs,.bool b::ds,0,hf=>⟨fun s r h=>by simp at h,fun h=>by cases qs<;>simp[Ya,Y6]at h⟩
 |qs,.str s::ds,0,hf=>⟨fun s r h=>by simp at h,fun h=>by cases qs<;>simp[Ya,Y6]at h⟩
 |qs,.unk::ds,0,hf=>⟨fun s r h=>by simp at h,fun h=>by cases qs<;>simp[Ya,Y6]at h⟩
 |q::qs,.sl X Q::ds,k+1,hf=>by have:=Xt qs ds k hf.2;simpa[Ya,Y6]using this
 |[],.sl X Q::ds,k+1,hf=>by have:=Xt [] ds k hf;simpa[Ya,Y6]using this
 |qs,.int _ _::ds,k+1,hf=>by have:=Xt qs.tail ds k ex;cases qs<;>simpa[Ya,Y6]using this
 |qs,.bool _::ds,k+1,hf=>by have:=Xt qs.tail ds k ex;cases qs<;>simpa[Ya,Y6]using this
 |qs,.str _::ds,k+1,hf=>by have:=Xt qs.tail ds k ex;cases qs<;>simpa[Ya,Y6]using this
 |qs,.unk::ds,k+1,hf=>by have:=Xt qs.tail ds k ex;cases qs<;>simpa[Ya,Y6]using this
theorem sS(r:av T0 B σ a w ad h){c:Call}(qs:List Bool)(A:o.op= .call c)(hc:c.callee= .value (.func f))(hd:o.dst=some d)(E:σ.fresh d=true)
  (am:Jx P σ c.args.toList c.argTypes.toList Q) (U:Z7 P f Q ag) (hq:Re qs ag.flatten)
  (hK:∀a' w',yO T0 B (σ.new d (Mz d ag) (Ya qs ag.flatten)) a' w'->Xv B w w'->K a' w'):o.wp P a w K af:=by
 have ac:=J.Vo E;unfold Oper.wp;rw[MB A hc U.1,Oper.upon_enter];have D:=r.Jx false am (fun hh=>by cases hh);simp only[Bool.false_eq_true,if_false]at D;refine(U.2 (wH T0 ad h σ) w _ (fun b k G=>r.iG G) D).mono ?_;rintro e w' ⟨vs,g,rfl,y,aM,az,⟨_,l,M,Z,h3⟩⟩;rw[hd];have aw:∀j,∃hd:Hd,(∀c,g.flatten[j]?=some c->hd.v=c)/\(∀X Q,ag.flatten[j]?=some (.sl X Q)->(∀b,hd.u b->l j b)/\(∀b,blk hd.v=some b->hd.u b)/\∀T h ai,zf T h ai w' hd (.arr true X Q)/\((∀r∈Q,∀x∈r,x.scalar=true)->zf T h ai w' hd (.arr false X Q))):=by
  intro j;have aG:g.flatten.length=ag.flatten.length:=by have:=Pl (R:=fun _ _=>True) az (fun _ _ _ _ _=>trivial);exact(Rn this).length
  cases hj:ag.flatten[j]? with
  |none=>exact⟨Hd.of ((g.flatten[j]?).getD undef),fun c z=>by simp[Hd.of,z],fun X Q hh=>by cases hh⟩
  |some dd=>
   have aC:j<g.flatten.length:=by rw[aG];exact(List.getElem?_eq_some_iff.1 hj).1
   have p:g.flatten[j]?=some g.flatten[j]:=List.getElem?_eq_getElem aC;cases dd with
   |int k n=>exact⟨Hd.of g.flatten[j],fun c z=>by rw[p]at z;cases z;rfl,fun X Q hh=>by cases hh⟩
   |bool k=>exact⟨Hd.of g.flatten[j],fun c z=>by rw[p]at z;cases z;rfl,fun X Q hh=>by cases hh⟩
   |str k=>exact⟨Hd.of g.flatten[j],fun c z=>by rw[p]at z;cases z;rfl,fun X Q hh=>by cases hh⟩
   |unk=>exact⟨Hd.of g.flatten[j],fun c z=>by rw[p]at z;cases z;rfl,fun X Q hh=>by cases hh⟩
   |sl X Q=>
    have ho:=M j _ _ p hj;generalize hv:g.flatten[j]=v at ho;cases ho with
    |sl v X Q S e xs F ho hz G hl hk aB m=>
     refine⟨⟨v,fun k=>(xs[k]?).getD undef,l j⟩,fun c z=>by rw[p,hv]at z;cases z;rfl,fun aJ aD hh=>?_⟩;cases hh;refine⟨fun b G=>G,G,fun T h ai=>⟨⟨e,xs,ho,hz,⟨hl,F,hk,fun k b G=>aB k b G,m⟩,fun k x d O _ _=>by simp[O]⟩,fun aX=>⟨e,xs,ho,hz,Yd.V8 hl (fun k x d O hd=>?_)⟩⟩⟩;obtain⟨r0,ap,ax⟩:=List.mem_flatten.1 (List.mem_of_getElem? hd);have N:=aX r0 ap d ax
     have:=hk k x d O hd;cases this with
     |int k n=>exact .int _ _
     |bool b=>exact .bool _
     |str s=>exact .str _
     |unk v h=>exact .unk _ h
     |sl=>cases N
 obtain⟨hf,H⟩:=Classical.axiomOfChoice aw;refine hK _ _ ⟨ad,fun t j=>if t=d then hf j else h t j,?_⟩ (Xv.pq y r.d);have an:∀j,(σ.new d (Mz d ag) (Ya qs ag.flatten)).ob d j=Y6 (Ya qs ag.flatten) j:=fun j=>by rw[J.qK];simp[ac]
 have V:Yd (fun I L=>Yd (NO (al T0 ad) w') I L) g ag:=by
  refine Pl az (fun k x d O hd=>?_);have ho:=M k x d O hd
  cases ho with
  |int k n=>exact Rd.int _ _
  |bool b=>exact Rd.bool _
  |str s=>exact Rd.str _
  |unk v h=>exact Rd.unk _ h
  |sl v X Q S e xs F ho hz G hl hk aB m=>exact⟨e,xs,ho⟩
 refine r.new E (Below.grownBy y) (fun b G=>G) (fun b G=>.inl G) (Mz d ag) (pj vs) (Ya qs ag.flatten) hf ?_ (fun j=>?_) (fun j b W G=>?_) (fun j b W G=>?_) (fun j j' b W aI G aj=>?_)
 ·exact iM (h:=fun t j=>if t=d then hf j else h t j) (ai:=(σ.new d (Mz d ag) (Ya qs ag.flatten)).ob) (t:=d) aM V (fun i X Q hi=>by
   obtain⟨q,aL,_⟩:=(Xt qs ag.flatten i hq).1 X Q hi;exact⟨q,by rw[an];exact aL⟩) (fun i c hi=>by simp only[if_true];exact(H i).1 c hi)
 ·by_cases W:Y6 (Ya qs ag.flatten) j= .none
  ·rw[W];trivial
  ·obtain⟨X,Q,hj⟩:=(Xt qs ag.flatten j hq).2 W;obtain⟨q,aL,C⟩:=(Xt qs ag.flatten j hq).1 X Q hj;rw[aL];have:=((H j).2 X Q hj).2.2 (al T0 ad) (fun t j=>if t=d then hf j else h t j) (σ.new d (Mz d ag) (Ya qs ag.flatten)).ob
   cases q with
   |true=>exact this.1
   |false=>exact this.2 (C rfl)
 ·obtain⟨X,Q,hj⟩:=(Xt qs ag.flatten j hq).2 W;exact((H j).2 X Q hj).2.1 b G
 ·obtain⟨X,Q,hj⟩:=(Xt qs ag.flatten j hq).2 W;have:=Z j b (((H j).2 X Q hj).1 b G)
  exact⟨this.1,fun O=>by have:=(r.e b O).2;omega,this.2⟩
 ·obtain⟨X,Q,hj⟩:=(Xt qs ag.flatten j hq).2 W;obtain⟨aJ,aD,aH⟩:=(Xt qs ag.flatten j' hq).2 aI;exact h3 j j' b (((H j).2 X Q hj).1 b G) (((H j').2 aJ aD aH).1 b aj)
end Go.Vm
