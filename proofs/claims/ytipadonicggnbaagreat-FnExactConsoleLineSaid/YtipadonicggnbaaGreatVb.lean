/- An abstract machine Hb the model of Go, by value, and that it is sound: part Vb. No condition. -/
import Derived.Test.YtipadonicggnbaaGreatVa
set_option linter.unusedVariables false
set_option linter.unusedSimpArgs false
namespace Go.Vm
open Go.RowKit
variable{af:Exit->Act->World->Prop}{K:Act->World->Prop}{h h':Nat->Nat->Hd}{M al aq s H rs:List (List D)}{B X' ad S C N:Nat->Prop}{o:Oper}{P:Program}{σ σ' σ1:U}{x y:Operand}{p:At->Bool}{T0 T T':CS}{a:Act}{v an:Value}{n d Q j t lo c g ae i u:Nat}{w' w:World}{F:Nat->Nat->Ob}{ys vs:List Value}{k:IntKind}{f:FuncId}{ay:Array Value}{hd:Hd}
theorem Ys.ZAt{ai:Nat->Nat->Ob}(hT:∀b k v,T b k->w.cell? ⟨b,k,none⟩=some v->w'.cell? ⟨b,k,none⟩=some v/\T' b k)(Z:∀t j,bA h h' ai F t j)
  {x:At} (r:Ys T h ai w x v):Ys T' h' F w' x v:=by
 obtain⟨d,hd⟩:∃d,x.ref d=false:=by
  cases x with
  |O t j lo ae=>exact⟨t+1,by simp[At.ref]⟩
  |ptr t j i c=>exact⟨t+1,by simp[At.ref]⟩
  |Z t c=>exact⟨t+1,by simp[At.ref]⟩
  |fn f t=>exact⟨t+1,by simp[At.ref]⟩
  |ac t j i c o=>exact⟨t+1,by simp[At.ref]⟩
  |any=>exact⟨0,rfl⟩
  |d x=>exact⟨0,rfl⟩
  |nil s=>exact⟨0,rfl⟩
  |am r c=>exact⟨0,rfl⟩
 exact Ys.carry hT (fun t j _=>Z t j) hd r
def Sv(p:At->Bool):List At->Bool
 |[]=>false
 |x::xs=>p x||Sv p xs
def V.tP(p:At->Bool):V->Bool
 |.one x=>p x
 |.agg xs=>Sv p xs
 |_=>false
def pE(p:At->Bool):List V->Bool
 |[]=>false
 |x::xs=>x.tP p||pE p xs
def V.zX(p:At->Bool):V->Bool
 |.Z xs=>pE p xs
 |.O _ x=>x.tP p
 |.fix _ x=>x.tP p
 |.one x=>p x
 |.agg xs=>Sv p xs
 |.any=>false
def xM(p:At->Bool):List Ob->Bool
 |[]=>false
 |.box G::aa=>Sv p G||xM p aa
 |.lit _ M::aa=>Sv p M.flatten||xM p aa
 |_::aa=>xM p aa
def U.zX(p:At->Bool):U->Bool
 |[]=>false
 |e::σ=>e.1.zX p||xM p e.2||U.zX p σ
def At.isT(t:Nat):At->Bool
 |.ac u _ _ _ _=>u==t
 |_=>false
theorem UY:∀(xs:List At),Sv (fun _=>false) xs=false
 |[]=>rfl
 |_::xs=>by simp[Sv,UY xs]
theorem Ck:∀(xs:List V),pE (fun _=>false) xs=false
 |[]=>rfl
 |x::xs=>by cases x<;>simp[pE,V.tP,UY,Ck xs]
theorem I1(x:V):x.tP (fun _=>false)=false:=by cases x<;>simp[V.tP,UY]
theorem kd(x:V):x.zX (fun _=>false)=false:=by cases x<;>simp[V.zX,UY,Ck,I1]
theorem Mm:∀(aa:List Ob),xM (fun _=>false) aa=false
 |[]=>rfl
 |o::aa=>by cases o<;>simp[xM,UY,Mm aa]
theorem U.kd:∀(σ:U),U.zX (fun _=>false) σ=false
 |[]=>rfl
 |e::σ=>by simp[U.zX,Go.Vm.kd,Go.Vm.Mm,U.kd σ]
theorem U.Nh{p:At->Bool}:∀{σ:U},σ.zX p=false->∀t,(σ.get t).zX p=false
 |[],_,t=>by simp[U.get,V.zX]
 |e::σ,h,0=>by simp only[U.zX,Bool.or_eq_false_iff]at h;exact h.1.1
 |e::σ,h,t+1=>by
  simp only[U.zX,Bool.or_eq_false_iff]at h;have:=U.Nh h.2 t
  simpa[U.get]using this
theorem oH{p:At->Bool}:∀{aa:List Ob},xM p aa=false->∀j,xM p [XG aa j]=false
 |[],_,j=>by simp[XG,xM]
 |o::aa,h,0=>by cases o<;>simp_all[XG,xM]
 |o::aa,h,j+1=>by
  have X:xM p aa=false:=by cases o<;>simp_all[xM]
  have:=oH X j;simpa[XG]using this
theorem U.HQ{p:At->Bool}:∀{σ:U},σ.zX p=false->∀t j,xM p [σ.ob t j]=false
 |[],_,t,j=>by simp[U.ob,xM]
 |e::σ,h,0,j=>by simp only[U.zX,Bool.or_eq_false_iff]at h;exact oH h.1.2 j
 |e::σ,h,t+1,j=>by
  simp only[U.zX,Bool.or_eq_false_iff]at h;have:=U.HQ h.2 t j
  simpa[U.ob]using this
theorem Ay{ai:Nat->Nat->Ob}(f:∀{x:At}{v:Value},p x=false->Ys T h ai w x v->Ys T' h' F w' x v){xs:List At}(O:Sv p xs=false)
  (r:Yn (Ys T h ai w) xs vs):Yn (Ys T' h' F w') xs vs:=by
 induction r with
 |nil=>exact .nil
 |cons r _ ih=>simp only[Sv,Bool.or_eq_false_iff]at O;exact .cons (f O.1 r) (ih O.2)
theorem y9.map{ai:Nat->Nat->Ob}(f:∀{x:At}{v:Value},p x=false->Ys T h ai w x v->Ys T' h' F w' x v){x:V}(O:x.tP p=false)
  (r:y9 T h ai w x v):y9 T' h' F w' x v:=by
 cases x with
 |any=>exact r
 |one x=>exact f O r
 |agg xs=>obtain⟨C,e,r⟩:=r;exact⟨C,e,Ay f O r⟩
 |Z xs=>exact r.elim
 |O g x=>exact r.elim
 |fix u x=>exact r.elim
theorem J8.map{ai:Nat->Nat->Ob}(f:∀{x:At}{v:Value},p x=false->Ys T h ai w x v->Ys T' h' F w' x v){x:V}(O:x.zX p=false)
  (r:J8 T h ai w x v):J8 T' h' F w' x v:=by
 cases x with
 |any=>exact r
 |one x=>exact f O r
 |agg xs=>obtain⟨C,e,r⟩:=r;exact⟨C,e,Ay f O r⟩
 |Z xs=>
  obtain⟨vs,e,r⟩:=r;refine⟨vs,e,?_⟩;generalize vs.toList=vl at r;simp only[V.zX]at O;induction r with
  |nil=>exact .nil
  |cons r _ ih=>simp only[pE,Bool.or_eq_false_iff]at O;exact .cons (y9.map f O.1 r) (ih O.2)
 |O g x=>exact⟨fun hg=>y9.map f O (r.1 hg),r.2⟩
 |fix u x=>exact⟨r.1,y9.map f O r.2⟩
theorem zR.map{ai:Nat->Nat->Ob}(f:∀{x:At}{v:Value},p x=false->Ys T h ai w x v->Ys T' h' F w' x v)
  (hT:∀b k v,T b k->w.cell? ⟨b,k,none⟩=some v->w'.cell? ⟨b,k,none⟩=some v/\T' b k) {o:Ob}
  (aM:o≠ .none->∀b,blk hd.v=some b->hd.u b) (J:o≠ .none->∀b,hd.u b->w'.heap[b]?=w.heap[b]?) (O:xM p [o]=false) (r:zR T h ai w hd o):zR T' h' F w' hd o:=by
 cases o with
 |none=>trivial
 |box G=>obtain⟨b,C,e,hv,hh,aa⟩:=r;simp only[xM,Bool.or_false]at O;exact⟨b,C,e,hv,by rw[J ab b (aM ab b (by rw[hv];rfl))];exact hh,Ay f O aa⟩
 |arr q Q M=>
  have hk:∀{e:TypeId}{n:Nat}{xs:List Value},w.ownsRow 0 e Q hd.v n xs->w'.ownsRow 0 e Q hd.v n xs:=fun ho=>j8 (fun b h=>J ab b (aM ab b h)) ho;cases q with
  |false=>obtain⟨e,xs,ho,hz,aa⟩:=r;exact⟨e,xs,hk ho,hz,aa.imp fun _ _=>Rd.mono hT⟩
  |true=>obtain⟨e,xs,ho,hz,aa,hn⟩:=r;exact⟨e,xs,hk ho,hz,aa.Gi (fun b h=>J ab b h.1),hn⟩
 |lit Q M=>obtain⟨e,xs,ho,hz,aa⟩:=r;simp only[xM,Bool.or_false]at O;exact⟨e,xs,j8 (fun b h=>J ab b (aM ab b h)) ho,hz,Ay f O aa⟩
def Ob.gz:Ob->Ob->Prop
 |.arr q s r,.arr q' s' r'=>q=q'/\s=s'/\r.length=r'.length
 |.lit s r,.lit s' r'=>s=s'/\r.length=r'.length
 |.box _,.box _=>True
 |_,_=>False
theorem ar.change(r:ar T0 B σ a w ad h)(ao:σ.ob t j≠ .none)(aI:w'.heap.size=w.heap.size)(hw:∀k,¬(h t j).u k->w'.heap[k]?=w.heap[k]?)(al:Nat->Prop)
  (hM:∀b,al b->¬B b/\¬ad b/\b<w.heap.size/\∀u i,σ.ob u i≠ .none->¬(h u i).u b) (z:Ob) (X:(σ.ob t j).gz z) (m:Hd) (hv:m.v=(h t j).v) (F:∀b,m.u b->(h t j).u b\/al b) (aM:∀b,blk m.v=some b->m.u b)
  (p:At->Bool) (hp:σ.zX p=false) (hn:(∀u i c o,p (.ac t u i c o)=true)\/m.n=(h t j).n)
  (ap:zR (ak T0 ad) (fun u i=>if u=t/\i=j then m else h u i) (σ.Yj t j z).ob w' m z):ar T0 B (σ.Yj t j z) a w' ad (fun u i=>if u=t/\i=j then m else h u i):=by
 have ah:∀u i,¬(u=t/\i=j)->(σ.Yj t j z).ob u i=σ.ob u i:=by intro u i W;rw[U.Kg σ t j z u i ao,if_neg W]
 have aq:(σ.Yj t j z).ob t j=z:=by rw[U.Kg σ t j z t j ao];simp
 have hT:∀b k v,ak T0 ad b k->w.cell? ⟨b,k,none⟩=some v->w'.cell? ⟨b,k,none⟩=some v/\ak T0 ad b k:=by
  intro b' k v aj aB;refine⟨?_,aj⟩;have W:¬(h t j).u b':=by
   intro aL;have av:=r.own t j b' ao aL
   rcases aj with aj|aj
   ·exact av.1 (r.f _ _ aj)
   ·exact av.2.1 aj
  rw[World.cell?_of_block (hw b' W)];exact aB
 have ag:∀u i,((fun u i=>if u=t/\i=j then m else h u i) u i).v=(h u i).v:=by
  intro u i;by_cases Z:u=t/\i=j
  ·simp only[Z,if_true];exact hv
  ·simp only[Z,if_false]
 have ai:∀u i q Q M,(σ.Yj t j z).ob u i= .arr q Q M->∃aH,σ.ob u i= .arr q Q aH/\aH.length=M.length:=by
  intro u i q Q M ho;by_cases Z:u=t/\i=j
  ·obtain⟨rfl,rfl⟩:=Z;rw[aq]at ho;subst ho;cases af:σ.ob u i with
   |arr q0 C r0=>rw[af]at X;obtain⟨rfl,rfl,hl⟩:=X;exact⟨r0,rfl,hl⟩
   |none=>rw[af]at X;exact X.elim
   |box c=>rw[af]at X;exact X.elim
   |lit s r=>rw[af]at X;exact X.elim
  ·rw[ah u i Z]at ho;exact⟨M,ho,rfl⟩
 have aF:∀u i Q M,(σ.Yj t j z).ob u i= .lit Q M->∃aH,σ.ob u i= .lit Q aH/\aH.length=M.length:=by
  intro u i Q M ho;by_cases Z:u=t/\i=j
  ·obtain⟨rfl,rfl⟩:=Z;rw[aq]at ho;subst ho;cases af:σ.ob u i with
   |arr q0 C r0=>rw[af]at X;exact X.elim
   |none=>rw[af]at X;exact X.elim
   |box c=>rw[af]at X;exact X.elim
   |lit s r=>rw[af]at X;obtain⟨rfl,hl⟩:=X;exact⟨r,rfl,hl⟩
  ·rw[ah u i Z]at ho;exact⟨M,ho,rfl⟩
 have ab:∀u i G,(σ.Yj t j z).ob u i= .box G->∃aa,σ.ob u i= .box aa:=by
  intro u i G ho;by_cases Z:u=t/\i=j
  ·obtain⟨rfl,rfl⟩:=Z;rw[aq]at ho;subst ho;cases af:σ.ob u i with
   |arr q0 C r0=>rw[af]at X;exact X.elim
   |none=>rw[af]at X;exact X.elim
   |box c=>exact⟨c,rfl⟩
   |lit s r=>rw[af]at X;exact X.elim
  ·rw[ah u i Z]at ho;exact⟨G,ho⟩
 have ac:∀{x:At}{v:Value},p x=false->Ys (ak T0 ad) h σ.ob w x v->Ys (ak T0 ad) (fun u i=>if u=t/\i=j then m else h u i) (σ.Yj t j z).ob w' x v:=by
  intro x v R E;cases x with
  |any=>exact E
  |d x=>exact Rd.mono hT E
  |nil s=>exact E
  |O u i lo ae=>
   refine⟨E.1,fun q Q M ho=>?_,fun Q M ho=>?_⟩
   ·obtain⟨aH,af,hl⟩:=ai u i q Q M ho;rw[ag,<-hl];exact E.2.1 q Q aH af
   ·obtain⟨aH,af,hl⟩:=aF u i Q M ho;rw[ag,<-hl];exact E.2.2 Q aH af
  |ptr u i k c=>refine⟨E.1,fun q Q M ho=>?_⟩;obtain⟨aH,af,hl⟩:=ai u i q Q M ho;rw[ag];exact E.2 q Q aH af
  |Z u c=>refine⟨E.1,fun G ho=>?_⟩;obtain⟨aa,af⟩:=ab u 0 G ho;rw[ag];exact E.2 aa af
  |fn f u=>refine⟨E.1,fun G ho=>?_⟩;obtain⟨aa,af⟩:=ab u 0 G ho;rw[ag];exact E.2 aa af
  |ac u i k c o=>
   refine⟨E.1,fun Q M ho=>?_⟩;obtain⟨aH,af,hl⟩:=ai u i true Q M ho;have I:=E.2 Q aH af
   by_cases Z:u=t/\i=j
   ·obtain⟨rfl,rfl⟩:=Z;rcases hn with hn|hn
    ·rw[hn]at R;cases R
    ·simp only[and_self,if_true,hn];exact I
   ·simp only[Z];exact I
  |am rr c=>obtain⟨b,aw,g,e,hk⟩:=E;exact⟨b,aw,g,e,fun k d hd=>⟨(hT _ _ _ (hk k d hd).2.1 (hk k d hd).1).1,(hk k d hd).2.1,Rd.mono hT (hk k d hd).2.2⟩⟩
 have l:∀u i,(σ.Yj t j z).ob u i≠ .none->σ.ob u i≠ .none:=by
  intro u i A;by_cases aL:u=t/\i=j
  ·obtain⟨rfl,rfl⟩:=aL;exact ao
  ·rw[ah u i aL]at A;exact A
 refine⟨by rw[r.size,U.Qs],r.defers,by rw[aI];exact r.d,fun b J=>by rw[aI];exact r.e b J,r.f,fun u aL=>?_,fun u i=>?_,fun u i b' W aj=>?_,fun u i b' W aj=>?_,fun u i u' i' b' W aK aJ aD=>?_⟩
 ·rw[U.Qs]at aL;rw[U.JI];exact J8.map ac (U.Nh hp u) (r.slot u aL)
 ·by_cases Z:u=t/\i=j
  ·obtain⟨rfl,rfl⟩:=Z;rw[aq];simp;exact ap
  ·rw[ah u i Z];simp only[Z];exact zR.map ac hT (fun ho b=>r.c u i b ho) (fun ho b J=>hw b (fun au=>Z (r.inj u i t j b ho ao J au))) (U.HQ hp u i) (r.obj u i)
 ·by_cases Z:u=t/\i=j
  ·simp only[Z,if_true]at aj⊢;exact aM b' aj
  ·simp only[Z]at aj⊢;exact r.c u i b' (l u i W) aj
 ·rw[aI];by_cases Z:u=t/\i=j
  ·simp only[Z,if_true]at aj;rcases F b' aj with I|I
   ·exact r.own t j b' ao I
   ·have:=hM b' I;exact⟨this.1,this.2.1,this.2.2.1⟩
  ·simp only[Z]at aj;exact r.own u i b' (l u i W) aj
 ·by_cases Z:u=t/\i=j
  ·by_cases an:u'=t/\i'=j
   ·exact⟨by rw[Z.1,an.1],by rw[Z.2,an.2]⟩
   ·simp only[Z,if_true]at aJ;simp only[an]at aD;rcases F b' aJ with I|I
    ·have:=r.inj t j u' i' b' ao (l u' i' aK) I aD;grind
    ·exact absurd aD ((hM b' I).2.2.2 u' i' (l u' i' aK))
  ·by_cases an:u'=t/\i'=j
   ·simp only[an,if_true]at aD;simp only[Z]at aJ;rcases F b' aD with I|I
    ·have:=r.inj u i t j b' (l u i W) ao aJ I;grind
    ·exact absurd aJ ((hM b' I).2.2.2 u i (l u i W))
   ·simp only[Z]at aJ;simp only[an]at aD;exact r.inj u i u' i' b' (l u i W) (l u' i' aK) aJ aD
theorem ar.eC(r:ar T0 B σ a w ad h)(ao:σ.ob t j≠ .none)(aI:w'.heap.size=w.heap.size)(hw:∀k,¬(h t j).u k->w'.heap[k]?=w.heap[k]?)
  (z:Ob) (X:(σ.ob t j).gz z) (ap:zR (ak T0 ad) h (σ.Yj t j z).ob w' (h t j) z):ar T0 B (σ.Yj t j z) a w' ad h:=by
 have hh:(fun u i=>if u=t/\i=j then h t j else h u i)=h:=by
  funext u i;by_cases Z:u=t/\i=j
  ·simp[Z]
  ·simp[Z]
 have:=r.change ao aI hw (fun _=>False) (fun _ hh=>hh.elim) z X _ rfl (fun b J=>.inl J) (fun b J=>r.c t j b ao J) (fun _=>false) (U.kd σ) (.inr rfl) aD;grind
theorem run_store{T:TypeId}{f:TypeInfo}(hi:P.info? T=some f){o:Nat}{e:TypeId}(hg:w.heap[g]?=some (.cells ay e (0,0)))(aI:an.cells.size=P.cellsOf T)(aF:o+P.cellsOf T<=ay.size)(I:∀u∈an.cells.toList,u.oneCell'=true):
  (Instr.storeAt T (.pointer (some ⟨g,o,none⟩)) an).run P w= .ok () (w.setRow g (place ay.toList o an.cells.toList).toArray):=by
 have au:=run_storeCells_at P g o e an.cells.toList 0 ay w hg aD I;have W:¬an.cells.size≠P.cellsOf T:=Y;simp only[Instr.storeAt,Instr.sureAddr,storeVar,Sem.run_bind,Sem.run_pure,Result.andThen_ok,z5 hi,if_neg W];rw[au];simp[place]
theorem Xl.setRow(hg:¬B g)(C:Array Value):Xl B w (w.setRow g C):=
 ⟨rfl,rfl,rfl,ab,fun k hk=>setRow_other w g k C (fun e=>hg (e▸hk))⟩
theorem vj(r:ar T0 B σ a w ad h){T:TypeId}(A:o.op= .store T x y)(hd:o.dst=none)(ht:Wj P T=true)(aZ:am (look P σ 0 x)=true)(a0:am (look P σ T y)=true)
  (O:unc (look P σ 0 x)= .one (.Z t c)) {G:List At} (ho:σ.ob t 0= .box G) (aJ:(unc (look P σ T y)).flat=true) (hl:(unc (look P σ T y)).cells.length=P.cellsOf T) (aF:c+P.cellsOf T<=G.length)
  (hK:∀a' w',zh T0 B (σ.Yj t 0 (.box (place G c (unc (look P σ T y)).cells))) a' w'->Xl B w w'->K a' w'):o.wp P a w K af:=by
 obtain⟨_,f,_,hi,_,_⟩:=Tq ht;have al:=r.arg 0 x O aZ
 obtain⟨b,C,e,J,he,hh,aa⟩:=r.box ho al;have hy:=SP aJ (r.arg T y rfl a0)
 have aO:=hy.length;have R:=aa.length;have H:C.toList.length=C.size:=Array.length_toList;have e2:(a.eval y).cells.toList.length=(a.eval y).cells.size:=Array.length_toList;have aH:=run_store hi (o:=c) (an:=a.eval y) hh Y Y (fun u F=>by obtain⟨x',_,ai⟩:=hy.mem F;exact Ys.Qe ai);have ao:σ.ob t 0≠ .none:=bv;have aS:blk (h t 0).v=some b:=by rw[J];rfl
 have hB:=r.bh ao aS;have aM:=r.c t 0 b ao aS;unfold Oper.wp;simp only[execOp,A,he,Sem.run_bind,aH,Result.andThen_ok,Sem.run_pure,Oper.upon_skip,hd];refine hK _ _ ⟨ad,h,?_⟩ (Xl.setRow hB.1 _);have ae:=setRow_heap w b C (place C.toList c (a.eval y).cells.toList).toArray e _ hh;refine r.eC ao ab (fun k hk=>setRow_other w b k _ (fun e=>hk (e▸aM))) _ (by rw[ho];trivial) ?_;have hT:∀b' k v,ak T0 ad b' k->w.cell? ⟨b',k,none⟩=some v->(w.setRow b (place C.toList c (a.eval y).cells.toList).toArray).cell? ⟨b',k,none⟩=some v/\ak T0 ad b' k:=by
  intro b' k v aj aB;refine⟨?_,aj⟩;have W:b'≠b:=by
   rintro rfl;rcases aj with aj|aj
   ·exact hB.1 (r.f _ _ aj)
   ·exact hB.2.1 aj
  rw[World.cell?_of_block (setRow_other w b b' _ W)];exact aB
 have ah:∀u i,¬(u=t/\i=0)->(σ.Yj t 0 (.box (place G c (unc (look P σ T y)).cells))).ob u i=σ.ob u i:=by intro u i W;rw[U.Kg σ t 0 _ u i ao,if_neg W]
 have aq:(σ.Yj t 0 (.box (place G c (unc (look P σ T y)).cells))).ob t 0= .box (place G c (unc (look P σ T y)).cells):=by rw[U.Kg σ t 0 _ t 0 ao];simp
 have d:∀u i,bA h h σ.ob (σ.Yj t 0 (.box (place G c (unc (look P σ T y)).cells))).ob u i:=by
  intro u i;by_cases F:u=t/\i=0
  ·obtain⟨rfl,rfl⟩:=F;refine⟨fun q Q M L=>?_,fun Q M L=>?_,fun N L=>⟨rfl,G,ho⟩⟩
   ·rw[aq]at L;cases L
   ·rw[aq]at L;cases L
  ·exact bA.same rfl (ah u i F)
 have ac:∀{x:At}{v:Value},Ys _ h σ.ob w x v->Ys _ h (σ.Yj t 0 _).ob _ x v:=fun E=>Ys.ZAt hT d E;refine⟨b,_,e,J,ae,?_⟩;have:=(aa.place c hy).imp (fun _ _=>ac);simpa using this
open Go.RowKit
variable{ds zr A:List D}
theorem qD{α:Type}(Q c:Nat)(ds:List α)(Z:c+ds.length<=Q):∀(M:List (List α))(i:Nat)(ac:List α),M[i]?=some ac->(∀r∈M,r.length=Q)->
  (M.set i (place ac c ds)).flatten=place M.flatten (i*Q+c) ds
 |[],i,ac,hr,_=>by simp at hr
 |r0::M,0,ac,hr,hz=>by
  simp at hr;subst hr;have h0:=hz r0 ab
  simp only[List.flatten_cons,place,Nat.zero_add];rw[List.take_append_of_le_length Y,List.drop_append_of_le_length Y];simp
 |r0::M,i+1,ac,hr,hz=>by
  have h0:=hz r0 ab;have ih:=qD Q c ds Z M i ac aD (fun r hr=>hz r aD);rw[List.set_cons_succ,List.flatten_cons,ih,List.flatten_cons];unfold place;have H:(i+1)*Q+c=r0.length+(i*Q+c):=by rw[Nat.add_mul];omega
  have e2:(i+1)*Q+c+ds.length=r0.length+(i*Q+c+ds.length):=by rw[h0];omega
  rw[e2,H,List.take_length_add_append];simp
theorem G8{α:Type}(l:List α)(n aw:Nat)(xs:List α)(hl:aw+xs.length<=n)(hn:n<=l.length):(place l aw xs).take n=place (l.take n) aw xs:=by unfold place;rw[List.take_take,Nat.min_eq_left Y,List.drop_take];rw[List.take_append,List.take_append];simp;rw[Nat.min_eq_left Y,List.take_of_length_le aD,List.take_of_length_le (l:=xs) Y]
theorem Wf{α:Type}(l:List α)(o:Nat)(xs:List α)(hl:o+xs.length<=l.length)(k:Nat)(v:α)(hv:(place l o xs)[k]?=some v):
  (o<=k/\k<o+xs.length/\xs[k-o]?=some v)\/(¬(o<=k/\k<o+xs.length)/\l[k]?=some v):=by
 unfold place at hv;have I:(l.take o).length=o:=a0
 rcases Nat.lt_or_ge k o with hk|hk
 ·rw[List.append_assoc,List.getElem?_append_left Y,List.getElem?_take,if_pos hk]at hv;grind
 ·rw[List.append_assoc,List.getElem?_append_right Y,I]at hv;rcases Nat.lt_or_ge _ xs.length with z|z
  ·rw[List.getElem?_append_left z]at hv;grind
  ·rw[List.getElem?_append_right z,List.getElem?_drop]at hv;refine .inr ⟨Y,?_⟩;grind
theorem vg(r:ar T0 B σ a w ad h){T:TypeId}(A:o.op= .store T x y)(hd:o.dst=none)(ht:Wj P T=true)(aZ:am (look P σ 0 x)=true)(a0:am (look P σ T y)=true)
  (O:unc (look P σ 0 x)= .one (.ptr t j i c)) {q:Bool} (ho:σ.ob t j= .arr q Q M) (hi:i<M.length) (aJ:(unc (look P σ T y)).flat=true) (S:rowOf σ (unc (look P σ T y)).cells=some ds) (au:xY (unc (look P σ T y)).cells=true)
  (hl:ds.length=P.cellsOf T) (aF:c+P.cellsOf T<=Q) (hq:q=true->(∀d∈ds,d.scalar=true)/\∀k d,k<P.cellsOf T->(M.getD i [])[c+k]?=some d->d.scalar=true)
  (hK:∀a' w',zh T0 B (σ.Yj t j (.arr q Q (M.set i (place (M.getD i []) c ds)))) a' w'->Xl B w w'->K a' w'):o.wp P a w K af:=by
 obtain⟨_,f,_,aD,_,_⟩:=Tq ht;have al:=r.arg 0 x O aZ
 obtain⟨b,ah,ay,e,xs,J,he,hh,aX,aP,aK,aU,hz,C,aa,av⟩:=r.arr ho al;have hy:=SP aJ (r.arg T y rfl a0)
 have g:=r.rowOf true S hy (fun _=>au);have aO:=g.length;have e2:(a.eval y).cells.toList.length=(a.eval y).cells.size:=Array.length_toList;have e3:ay.toList.length=ay.size:=Array.length_toList;have aA:M[i]?=some (M.getD i []):=eg;have aI:i*Q+Q<=M.length*Q:=fs;have H:M.length*Q<=ah*Q:=Nat.mul_le_mul_right _ aX;have aH:=run_store aD (o:=i*Q+c) (an:=a.eval y) hh Y Y (fun u F=>by obtain⟨x',_,ai⟩:=hy.mem F;exact Ys.Qe ai);have ao:σ.ob t j≠ .none:=bv;have aS:blk (h t j).v=some b:=by rw[J];rfl
 have hB:=r.bh ao aS;have aM:=r.c t j b ao aS;unfold Oper.wp;simp only[execOp,A,he,Sem.run_bind,aH,Result.andThen_ok,Sem.run_pure,Oper.upon_skip,hd];refine hK _ _ ⟨ad,h,?_⟩ (Xl.setRow hB.1 _);refine r.eC ao ab (fun k hk=>setRow_other w b k _ (fun e=>hk (e▸aM))) _ (by rw[ho];simp[Ob.gz]) ?_;have ae:=setRow_heap w b ay (place ay.toList (i*Q+c) (a.eval y).cells.toList).toArray e _ hh;have hT:∀b' k v,ak T0 ad b' k->w.cell? ⟨b',k,none⟩=some v->(w.setRow b (place ay.toList (i*Q+c) (a.eval y).cells.toList).toArray).cell? ⟨b',k,none⟩=some v/\ak T0 ad b' k:=by
  intro b' k v aj aB;refine⟨?_,aj⟩;have W:b'≠b:=by
   rintro rfl;rcases aj with aj|aj
   ·exact hB.1 (r.f _ _ aj)
   ·exact hB.2.1 aj
  rw[World.cell?_of_block (setRow_other w b b' _ W)];exact aB
 have aq:xs.length=M.length*Q:=by rw[C,XM M Q hz]
 have aV:=hz _ (List.mem_of_getElem? aA);have a1:(w.setRow b (place ay.toList (i*Q+c) (a.eval y).cells.toList).toArray).ownsRow 0 e Q (h t j).v (M.set i (place (M.getD i []) c ds)).length (place xs (i*Q+c) (a.eval y).cells.toList):=by
  refine⟨?_,.inr ⟨b,ah,_,by simpa using J,Nat.zero_le _,ae,by simpa using aX,aP,?_,?_⟩⟩
  ·rw[QB _ _ _ Y,aq];simp
  ·simp;rw[QB _ _ _ Y,e3,aK]
  ·simp;rw[G8 _ _ _ _ Y Y,aU]
 have ac:∀r∈M.set i (place (M.getD i []) c ds),r.length=Q:=by
  intro r' ax;rcases List.mem_or_eq_of_mem_set ax with ax|ax
  ·exact hz r' ax
  ·rw[ax,QB _ _ _ Y,aV]
 cases q with
 |false=>refine⟨e,_,a1,ac,?_⟩;rw[qD Q c ds Y M i _ aA hz];exact((aa rfl).imp fun _ _=>Rd.mono hT).place _ (g.imp fun _ _=>Rd.mono hT)
 |true=>
  obtain⟨⟨_,l,I,X,h3⟩,hn⟩:=av rfl;obtain⟨z,E⟩:=hq rfl;have aB:∀k u,(place xs (i*Q+c) (a.eval y).cells.toList)[k]?=some u->(i*Q+c<=k/\k<i*Q+c+ds.length/\(a.eval y).cells.toList[k-(i*Q+c)]?=some u)\/(¬(i*Q+c<=k/\k<i*Q+c+ds.length)/\xs[k]?=some u):=by intro k u F;exact Wf xs _ _ Y k u F|>.imp (fun hh=>⟨hh.1,Y,hh.2.2⟩) (fun hh=>⟨by rw[<-aO];exact hh.1,hh.2⟩)
  have p:∀k d,(M.set i (place (M.getD i []) c ds)).flatten[k]?=some d->(i*Q+c<=k/\k<i*Q+c+ds.length/\ds[k-(i*Q+c)]?=some d)\/(¬(i*Q+c<=k/\k<i*Q+c+ds.length)/\M.flatten[k]?=some d):=by intro k d G;rw[qD Q c ds Y M i _ aA hz]at G;exact Wf _ _ _ Y k d G
  refine⟨e,_,a1,ac,⟨?_,l,fun k u d F G=>?_,X,h3⟩,fun k u d F G aG=>?_⟩
  ·rw[QB _ _ _ Y,C,XM M Q hz,XM _ Q ac];simp
  ·rcases aB k u F with⟨p1,p2,p3⟩|⟨p1,p3⟩
   ·rcases p k d G with⟨_,_,p4⟩|⟨p4,_⟩
    ·obtain⟨d',m,ax⟩:=g.get _ _ p3;rw[p4]at m;cases m;have hs:=z d (List.mem_of_getElem? p4)
     cases ax with
     |int k n=>exact .int _ _ _
     |bool b=>exact .bool _ _
     |str s=>exact .str _ _
     |unk v h=>exact .unk _ h _
     |nil=>simp[D.scalar]at hs
     |sl=>simp[D.scalar]at hs
    ·exact absurd ⟨p1,p2⟩ p4
   ·rcases p k d G with⟨p4,L,_⟩|⟨_,p4⟩
    ·exact absurd ⟨p4,L⟩ p1
    ·refine(I k u d p3 p4).Gi (fun b' aj=>setRow_other w b b' _ ?_);rintro rfl;grind
  ·rcases p k d G with⟨p4,L,p6⟩|⟨p4,p6⟩
   ·have:=z d (List.mem_of_getElem? p6);grind
   ·rcases aB k u F with⟨p1,p2,_⟩|⟨_,p3⟩
    ·exact absurd ⟨p1,p2⟩ p4
    ·exact hn k u d p3 p6 aG
open Go.RowKit
variable{z:List At}{aA:Option Addr}
theorem Dr(t A e e0:TypeId)(i:TypeInfo)(ht:P.underlying t=some (.slice e))(hi:P.info? e=some i)
  (g b h:Nat) (ay:Array Value) (hg:w.heap[g]?=some (.cells ay e0 (0,0)))
  (a:Addr) (m c:Nat) (al:List Value) (hl:al.length=m*i.size) (f:∀j u,al[j]?=some u->w.cell? (a.add j)=some u) (I:∀u∈al,u.oneCell'=true)
  (d:b+m<=h) (q:b*i.size+al.length<=ay.size):
  (Builtin.append_ #[t,t] A #[.slice (some ⟨g,0,none⟩) b h,.slice (some a) m c]).run P w=
   .ok (.slice (some ⟨g,0,none⟩) (b+m) h) (w.setRow g (ay.toList.take (b*i.size)++al++ay.toList.drop (b*i.size+al.length)).toArray):=by
 have hf:=run_firstCells_some (P:=P) w i.size m a m c al hl f;have au:=run_storeCells_at P g (b*i.size) e0 al 0 ay w hg (by simpa using q) I;simp[Builtin.append_,run_underlying ht,sizeOf,typeInfo,hi,Builtin.lenOf,d,hf,Addr.add_lit,au]
theorem I5(t A e e0:TypeId)(i:TypeInfo)(z:Value)(ht:P.underlying t=some (.slice e))(hi:P.info? e=some i)(hz:i.zero=some z)
  (aY:z.cells.size=i.size) (aI:0<i.size) (v:Value) (n:Nat) (xs:List Value) (av:w.ownsRow 0 e0 i.size v n xs)
  (a:Addr) (m c:Nat) (al:List Value) (hl:al.length=m*i.size) (f:∀j u,al[j]?=some u->w.cell? (a.add j)=some u) (I:∀u∈al,u.oneCell'=true)
  (h:n+m<=maxLen) (Q:(n+m)*i.bytes<=140737488355328):
  ∃v' w' H,(Builtin.append_ #[t,t] A #[v,.slice (some a) m c]).run P w= .ok v' w'/\w'.ownsRow 0 H i.size v' (n+m) (xs++al)/\w.grownBy w' (blk v)/\
   (∀b,blk v'=some b->(w.heap.size<=b/\b<w'.heap.size)\/blk v=some b):=by
 have aC:(xs++al).length=(n+m)*i.size:=by rw[List.length_append,av.1,hl,Nat.add_mul]
 rcases av.2 with⟨rfl,rfl⟩|⟨g,ah,ay,rfl,_,hg,au,V,aK,htake⟩
 ·have O:xs=[]:=List.eq_nil_of_length_eq_zero (by simpa using av.1);subst O;obtain⟨v',w',hr,ho,p,_⟩:=run_append_own (P:=P) w w.heap.size t A e i z i.size i.bytes ht hi hz rfl rfl aY aI _ 0 [] (World.ownsRow_nil w _ e i.size) a m c al hl f I h Q (Nat.le_refl _);refine⟨v',w',e,hr,?_,p,fun b J=>.inl ?_⟩
  ·refine⟨ho.1,ho.2.imp id ?_⟩;rintro⟨g,ah,ay,hv,_,ap⟩;grind
  ·have aj:v'.ownBlock=some b:=by
    cases v' with
    |slice o l c=>cases o with
     |none=>simp[blk]at J
     |some C=>simpa[blk,Value.ownBlock]using J
    |pointer o=>rcases ho.2 with⟨hv,_⟩|⟨g,ah,ay,hv,_⟩<;>cases hv
    |_=>simp[blk]at J
   exact ho.lt b aj
 ·by_cases d:n+m<=ah
  ·have q:n*i.size+al.length<=ay.size:=by rw[hl,aK,<-Nat.add_mul];exact Nat.mul_le_mul_right _ d
   have hr:=Dr (P:=P) (w:=w) t A e e0 i ht hi g n ah ay hg a m c al hl f I d q;refine⟨_,_,e0,hr,⟨aC,.inr ⟨g,ah,_,rfl,Nat.zero_le _,setRow_heap w g ay _ e0 _ hg,d,V,?_,?_⟩⟩,⟨rfl,rfl,rfl,ab,fun k _ hk=>setRow_other w g k _ (fun e=>hk (by simp[blk,e]))⟩,fun b J=>.inr (by simpa[blk]using J)⟩
   ·simp;omega
   ·rw[htake,<-aC];grind
  ·have G:=av.cells (g:=g) rfl;have s:n+m<=9223372036854775807:=by simp only[maxLen]at h;omega
   have hr:=run_append_grow (P:=P) w t A e i z ht hi hz ⟨g,0,none⟩ n ah xs av.1 G a m c al hl f Y Y (growslice_fits Y Q);have aG:=grownCap_ge w (n+m) ah e;have r:=grownCap_le_maxLen w (n+m) ah e h;refine⟨_,_,e,hr,⟨aC,.inr ⟨w.heap.size,_,_,rfl,Nat.zero_le _,heap_alloc_new w.drew _,aG,r,?_,?_⟩⟩,⟨rfl,rfl,rfl,ab,fun k hk _=>(World.grownBy_alloc w.drew _ none).block k hk ab⟩,fun b J=>.inl ?_⟩
   ·simp only[Array.size_append,List.size_toArray,size_zeroCells,aY,av.1,hl,<-Nat.add_mul];congr 1;omega
   ·simp;rw[<-List.append_assoc,<-aC];grind
   ·simp[blk]at J;subst J;simp
theorem PF(t A e:TypeId)(i:TypeInfo)(ht:P.underlying t=some (.slice e))(hi:P.info? e=some i)(aA:Option Addr)(n ah:Nat)(au:n<=ah)(J:aA=none->ah=0):
  (Builtin.append_ #[t,t] A #[.slice aA n ah,.slice none 0 0]).run P w= .ok (.slice aA n ah) w:=by
 cases aA with
 |none=>have:=J rfl;subst this;have:n=0:=Y;subst this;simp[Builtin.append_,run_underlying ht,sizeOf,typeInfo,hi,Builtin.lenOf,Builtin.firstCells]
 |some C=>simp[Builtin.append_,run_underlying ht,sizeOf,typeInfo,hi,Builtin.lenOf,Builtin.firstCells,au,storeCells]
theorem ar.less(r:ar T0 B σ a w ad h)(hl:σ'.length=σ.length)(am:∀t,σ'.get t=σ.get t)(hk:∀t j,σ'.ob t j≠ .none->σ'.ob t j=σ.ob t j):ar T0 B σ' a w ad h:=by
 have m:∀t j o,σ'.ob t j=o->o≠ .none->σ.ob t j=o:=by intro t j o ho W;grind
 have ac:∀{x:At}{v:Value},(fun _:At=>false) x=false->Ys (ak T0 ad) h σ.ob w x v->Ys (ak T0 ad) h σ'.ob w x v:=by
  intro x v _ E;cases x with
  |any=>exact E
  |d x=>exact E
  |nil s=>exact E
  |O u i lo ae=>exact⟨E.1,fun q Q M ho=>E.2.1 q Q M (m u i _ ho ab),fun Q M ho=>E.2.2 Q M (m u i _ ho ab)⟩
  |ptr u i k c=>exact⟨E.1,fun q Q M ho=>E.2 q Q M (m u i _ ho ab)⟩
  |Z u c=>exact⟨E.1,fun G ho=>E.2 G (m u 0 _ ho ab)⟩
  |fn f u=>exact⟨E.1,fun G ho=>E.2 G (m u 0 _ ho ab)⟩
  |ac u i k c o=>exact⟨E.1,fun Q M ho=>E.2 Q M (m u i _ ho ab)⟩
  |am rr c=>exact E
 have l:∀u i,σ'.ob u i≠ .none->σ.ob u i≠ .none:=fun u i hn=>by rw[<-hk u i hn];exact hn
 refine⟨by rw[r.size,hl],r.defers,r.d,r.e,r.f,fun u F=>?_,fun u i=>?_,fun u i b hn=>r.c u i b (l u i hn),fun u i b hn=>r.own u i b (l u i hn),fun u i u' i' b hn A=>r.inj u i u' i' b (l u i hn) (l u' i' A)⟩
 ·rw[am u];exact J8.map ac (kd _) (r.slot u Y)
 ·by_cases hn:σ'.ob u i= .none
  ·rw[hn];trivial
  ·rw[hk u i hn];exact zR.map ac (fun b k v J Z=>⟨Z,J⟩) (fun ho b=>r.c u i b ho) (fun _ _ _=>rfl) (Mm _) (r.obj u i)
theorem U.O3(σ:U)(t j u i:Nat):(σ.Yj t j .none).ob u i=if u=t/\i=j then .none else σ.ob u i:=by
 by_cases ao:σ.ob t j= .none
 ·have ai:∀(σ:U)(t u:Nat),σ.ob t j= .none->(σ.Yj t j .none).ob u i=σ.ob u i:=by
   intro σ;induction σ with
   |nil=>intro t u _;simp[U.Yj]
   |cons e σ ih=>
    intro t u ho;cases t with
    |zero=>cases u with
     |zero=>
      simp only[U.Yj,U.ob,List.getElem?_cons_zero,l8]at ho⊢;split
      ·rename_i hh;rw[hh.1,ho]
      ·rfl
     |succ u=>simp[U.Yj,U.ob]
    |succ t=>cases u with
     |zero=>simp[U.Yj,U.ob]
     |succ u=>have:=ih t u (by simpa[U.ob]using ho);simp only[U.ob,U.Yj]at this⊢;simpa using this
  rw[ai σ t u ao];split
  ·rename_i hh;rw[hh.1,hh.2];exact ao
  ·rfl
 ·exact U.Kg σ t j _ u i ao
theorem ar.drop(r:ar T0 B σ a w ad h)(t j:Nat):ar T0 B (σ.Yj t j .none) a w ad h:=by
 refine r.less (U.Qs _ _ _ _) (fun u=>U.JI _ _ _ _ u) (fun u i hn=>?_);rw[U.O3]at hn⊢;split
 ·rename_i hh;rw[if_pos hh]at hn;exact absurd rfl hn
 ·rfl
def U.YI:U->List (Nat×Nat)->U
 |σ,[]=>σ
 |σ,p::l=>U.YI (σ.Yj p.1 p.2 .none) l
theorem U.z7:∀(l:List (Nat×Nat))(σ:U),(σ.YI l).length=σ.length
 |[],σ=>rfl
 |p::l,σ=>by rw[U.YI,U.z7 l,U.Qs]
theorem U.jD:∀(l:List (Nat×Nat))(σ:U)(t:Nat),(σ.YI l).get t=σ.get t
 |[],σ,t=>rfl
 |p::l,σ,t=>by rw[U.YI,U.jD l,U.JI]
theorem U.yU:∀(l:List (Nat×Nat))(σ:U)(t j:Nat),(σ.YI l).ob t j=if(t,j)∈l then .none else σ.ob t j
 |[],σ,t,j=>by simp[U.YI]
 |p::l,σ,t,j=>by
  rw[U.YI,U.yU l,U.O3];by_cases I:(t,j)∈l
  ·simp[I]
  ·by_cases X:t=p.1/\j=p.2
   ·have:(t,j)=p:=by rw[X.1,X.2]
    grind
   ·have:¬(t,j)=p:=fun e=>X aD;grind
theorem ar.YI(r:ar T0 B σ a w ad h)(l:List (Nat×Nat)):ar T0 B (σ.YI l) a w ad h:=by
 refine r.less (U.z7 l σ) (U.jD l σ) (fun u i hn=>?_);rw[U.yU]at hn⊢;split
 ·rename_i hh;rw[if_pos hh]at hn;exact absurd rfl hn
 ·rfl
open Go.RowKit
theorem jW{T:TypeId}(hz:Qq P T=true):∃i z ac,P.info? T=some i/\i.zero=some z/\TG P 12 T=some ac/\i.size=ac.length/\z.cells.size=i.size/\i.size=P.cellsOf T/\(∀T' h ai w,Yn (Ys T' h ai w) ac z.cells.toList):=by
 have D:∃ac,TG P 12 T=some ac:=by
  unfold Qq at hz;split at hz
  ·rename_i ac i hr hi;exact⟨ac,hr⟩
  ·cases hz
 obtain⟨ac,hr⟩:=D;obtain⟨i,z,hi,aW,aI,aa⟩:=wH hz hr;refine⟨i,z,ac,hi,aW,hr,aI,?_,by simp[Program.cellsOf,hi],aa⟩;have:=(aa (fun _ _=>True) (fun _ _=>Hd.of undef) (fun _ _=>.none) default).length
 have H:z.cells.toList.length=z.cells.size:=Array.length_toList;omega
def yh(σ:U)(x:V)(Q:Nat)(al:List (List D)):Prop:=
 match x with
 |.one (.d (.sl s M))=>s=Q/\al=M
 |.one (.nil _)=>al=[]
 |.one (.O t j lo ae)=>∃M,σ.ob t j= .arr false Q M/\lo+ae<=M.length/\al=cut M lo ae
 |_=>False
def MR(σ:U)(x:V)(Q:Nat)(aq:List (List D))(σ1:U):Prop:=
 match x with
 |.one (.nil _)=>aq=[]/\σ1=σ
 |.one (.O t j lo ae)=>∃M,σ.ob t j= .arr false Q M/\lo=0/\ae<=M.length/\aq=M.take ae/\σ1=σ.Yj t j .none
 |_=>False
theorem oA(v:Value)(n:Nat):blk (ib v n)=blk v:=by
 cases v with
 |slice o _ _=>cases o<;>rfl
 |_=>rfl
theorem Wp(M:List (List D))(Q:Nat)(hz:∀r∈M,r.length=Q)(ae:Nat)(aF:ae<=M.length):(M.take ae).flatten=M.flatten.take (ae*Q):=by
 induction M generalizing ae with
 |nil=>simp
 |cons r M ih=>
  cases ae with
  |zero=>simp
  |succ ae=>
   have I:=hz r ab;have X:=ih (fun q hq=>hz q aD) ae aD;have h3:(ae+1)*Q=r.length+ae*Q:=by rw[Nat.add_mul];omega
   grind
theorem FN{e:TypeId}{xs:List Value}(ho:w.ownsRow 0 e Q v n xs)(aF:ae<=n):w.ownsRow 0 e Q (ib v ae) ae (xs.take (ae*Q)):=by
 have hm:ae*Q<=n*Q:=Nat.mul_le_mul_right _ aF;refine⟨by rw[List.length_take,ho.1];omega,?_⟩;rcases ho.2 with⟨rfl,rfl⟩|⟨g,ah,ay,rfl,O,hg,au,V,aK,aU⟩
 ·have:ae=0:=Y;subst this;exact .inl ⟨rfl,rfl⟩
 ·refine .inr ⟨g,ah,ay,rfl,O,hg,Y,V,aK,?_⟩;rw[<-aU,List.take_take];congr 1;omega
theorem pe(r:ar T0 B σ a w ad h){x:V}(hs:yh σ x Q al)(hv:J8 (ak T0 ad) h σ.ob w x v):
  (∀n∈al,n.length=Q)/\((v= .slice none 0 0/\al=[])\/∃C c xs,v= .slice (some C) al.length c/\(∀j u,xs[j]?=some u->w.cell? (C.add j)=some u)/\Yn (Rd (ak T0 ad) w) xs al.flatten):=by
 unfold yh at hs;split at hs
 ·rename_i s M;obtain⟨rfl,rfl⟩:=hs;refine⟨sy (hv),?_⟩;cases(hv)with
  |nil=>exact .inl ⟨rfl,rfl⟩
  |sl C ae ah s M g hl Z hm hz z hg hr=>
   refine .inr ⟨C,ah,(List.range al.flatten.length).map g,by rw[hl],fun j u F=>?_,?_⟩
   ·rw[List.getElem?_map]at F;rcases Nat.lt_or_ge j al.flatten.length with hj|hj
    ·rw[List.getElem?_range hj]at F;cases F;have W:al.flatten≠[]:=by intro he;rw[he]at hj;simp at hj
     have:=(hg j _ (List.getElem?_eq_getElem hj)).1;obtain⟨b,aw,sp⟩:=C;have:=z W;simp at this;subst this;rw[WA];assumption
    ·rw[List.getElem?_eq_none aD]at F;cases F
   ·refine Yn.ka ab (fun k u d F hd=>?_);rw[List.getElem?_map]at F;have hk:=(List.getElem?_eq_some_iff.1 hd).1
    rw[List.getElem?_range hk]at F;cases F;grind
 ·subst hs;exact⟨ab,.inl ⟨hv,rfl⟩⟩
 ·rename_i t j lo ae;obtain⟨M,ho,aF,rfl⟩:=hs;have h0:=r.obj t j
  rw[ho]at h0;obtain⟨e,xs,⟨hl,av⟩,hz,aa⟩:=h0;refine⟨fun x O=>hz x (List.mem_of_mem_drop (List.mem_of_mem_take O)),?_⟩;have G:=hv
  obtain⟨_,_,_,aA,ah,rfl,aX,_,ax,J⟩:=G.2.1 _ Q M ho;have R:=Xh _ _ _ aF
  by_cases aQ:0<ae
  ·obtain⟨b,aE,hh,rfl⟩:=J aQ;rcases av with⟨hn,_⟩|⟨g,bd,ay,G,_,hgg,au,aP,aK,aU⟩
   ·rw[hh]at hn;cases hn
   ·rw[hh]at G;cases G;refine .inr ⟨_,ah,cut xs (lo*Q) (ae*Q),by rw[R],fun j u F=>?_,?_⟩
    ·have I:=xn _ _ _ _ _ F;rw[WA];refine xO hgg _ _ ?_;rw[<-aU,List.getElem?_take]at I;split at I
     ·exact I
     ·cases I
    ·have aq:xs.length=M.length*Q:=by rw[aa.length,XM M Q hz]
     have aI:lo*Q+ae*Q<=M.length*Q:=fo;refine Yn.ka ?_ (fun k u d F hd=>?_)
     ·rw[Xh _ _ _ Y,XM (cut M lo ae) Q (fun x O=>hz x (List.mem_of_mem_drop (List.mem_of_mem_take O))),R]
     ·have I:=xn _ _ _ _ _ F;have X:=UD M Q lo ae hz k d hd;obtain⟨d',m,hr⟩:=aa.get _ _ I;rw[X]at m;cases m;exact hr
  ·have:ae=0:=Y;subst this;have H:cut M lo 0=[]:=by simp[cut]
   cases aA with
   |none=>have:=ax rfl;subst this;exact .inl ⟨rfl,rfl⟩
   |some C=>exact .inr ⟨C,ah,[],rfl,ab,.nil⟩
 ·exact hs.elim
theorem o9(r:ar T0 B σ a w ad h){t:TypeId}(A:o.op= .call ⟨.builtin .append,#[x,y],#[t,t]⟩)(hd:o.dst=some d)
  (aZ:am (look P σ t x)=true) (a0:am (look P σ t y)=true) (ht:Xo P t=true) (hz:Qq P (E P t)=true) (aQ:0<P.cellsOf (E P t))
  (l:MR σ (unc (look P σ t x)) (P.cellsOf (E P t)) aq σ1) (n:yh σ (unc (look P σ t y)) (P.cellsOf (E P t)) al) (aw:σ1.fresh d=true)
  (Q:(aq.length+al.length)*P.bytesOf (E P t)<=140737488355328) (a2:aq.length+al.length<=9223372036854775807)
  (hK:∀a' w',zh T0 B (σ1.new d (.one (.O d 0 0 (aq.length+al.length))) [.arr false (P.cellsOf (E P t)) (aq++al)]) a' w'->Xl B w w'->K a' w'):o.wp P a w K af:=by
 obtain⟨f,F,hi,a5⟩:=Qc ht;obtain⟨i,z,ac,ap,aW,D,a4,aY,aV,a3⟩:=jW hz;rw[hi]at ap;cases ap;have a8:P.bytesOf (E P t)=f.bytes:=dC
 rw[a8]at Q;rw[<-aV]at l n aQ hK;have m:=r.arg t x rfl aZ
 have ba:=r.arg t y rfl a0;obtain⟨bc,aG⟩:=pe r n ba;have aM:∃e0 xs,w.ownsRow 0 e0 f.size (a.eval x) aq.length xs/\(∀q∈aq,q.length=f.size)/\Yn (Rd (ak T0 ad) w) xs aq.flatten/\ar T0 B σ1 a w ad h/\
   (∀b,blk (a.eval x)=some b->¬B b/\¬ad b/\b<w.heap.size/\∀u j,σ1.ob u j≠ .none->¬(h u j).u b):=by
  unfold MR at l;split at l
  ·rename_i s heq;obtain⟨rfl,rfl⟩:=l;rw[heq]at m;have he:=m
   rw[he];exact⟨0,[],World.ownsRow_nil w 0 0 _,ab,.nil,r,(fun b J=>by cases J)⟩
  ·rename_i u j lo ae heq;obtain⟨M,ho,rfl,aF,rfl,rfl⟩:=l;rw[heq]at m;have bb:=m
   obtain⟨_,_,aR,_⟩:=bb.2.1 _ _ _ ho;have he:=aR rfl
   have h0:=r.obj u j;rw[ho]at h0;obtain⟨e,xs,av,a7,aa⟩:=h0;have ao:σ.ob u j≠ .none:=bv;have S:(M.take ae).length=ae:=dH;have aJ:=Wp M f.size a7 ae aF;refine⟨e,xs.take _,by rw[he,S];exact FN av aF,fun q hq=>a7 q (List.mem_of_mem_take hq),by rw[aJ];exact aa.take _,r.drop u j,fun b J=>?_⟩;rw[he,oA]at J;have T:=r.c u j b ao J;have a1:=r.own u j b ao T;refine⟨a1.1,a1.2.1,a1.2.2,fun u' j' W aj=>?_⟩;have aI:σ.ob u' j'≠ .none:=by
    intro hh;rw[U.Kg σ u j _ u' j' ao]at W;split at W
    ·exact W rfl
    ·exact W hh
   have:=r.inj u j u' j' b ao aI T aj;obtain⟨rfl,rfl⟩:=this;rw[U.Kg σ u j _ u j ao]at W;grind
  ·exact l.elim
 obtain⟨e0,xs,av,bf,be,r1,aS⟩:=aM;have a9:∀q∈aq++al,q.length=f.size:=by
  intro q hq;rcases List.mem_append.1 hq with hq|hq
  ·exact bf q hq
  ·exact bc q hq
 have ai:∀(v':Value)(w':World)(H:TypeId)(ys:List Value),(Builtin.append_ #[t,t] o.type #[a.eval x,a.eval y]).run P w= .ok v' w'->w'.ownsRow 0 H f.size v' (aq.length+al.length) (xs++ys)->
   Yn (Rd (ak T0 ad) w) ys al.flatten->w.grownBy w' (blk (a.eval x))->(∀b,blk v'=some b->(w.heap.size<=b/\b<w'.heap.size)\/blk (a.eval x)=some b)->o.wp P a w K af:=by
  intro v' w' H ys aH L R p G;have ag:=U.kh aw
  have hT:∀b k v,ak T0 ad b k->w.cell? ⟨b,k,none⟩=some v->w'.cell? ⟨b,k,none⟩=some v/\ak T0 ad b k:=by
   intro b k v J aB;refine⟨?_,J⟩;have W:some b≠blk (a.eval x):=by
    intro e;have I:=aS b e.symm
    rcases J with J|J
    ·exact I.1 (r.f b k J)
    ·exact I.2.1 J
   rw[World.cell?_of_block (p.block b (r.Tlt J) W)];exact aB
  unfold Oper.wp;have aE:(execOp a.eval o).run P w= .ok (.value v') w':=by simp only[execOp,A,resolve,invoke,builtin,Sem.run_bind,Sem.run_pure,Result.andThen_ok,List.map_toArray,List.map_cons,List.map_nil,aH]
  rw[aE,Oper.upon_value,hd];refine hK _ _ ⟨ad,fun u j=>if u=d then Hd.of v' else h u j,?_⟩ ⟨p.os,p.tape,p.output,p.size,fun k hk=>p.block k (r.d k hk) (fun e=>(aS k e.symm).1 hk)⟩;have an:(σ1.new d (.one (.O d 0 0 (aq.length+al.length))) [.arr false f.size (aq++al)]).ob d 0= .arr false f.size (aq++al):=du
  have Z:w'.ownsRow 0 H f.size v' (aq++al).length (xs++ys):=by rw[List.length_append];exact L
  have N:Yn (Rd (ak T0 ad) w') (xs++ys) (aq++al).flatten:=by rw[List.flatten_append];exact(be.imp fun _ _=>Rd.mono hT).append (R.imp fun _ _=>Rd.mono hT)
  refine r1.ZAM aw (fun b=>blk _=some b) p.size (fun k hk W=>p.block k hk (fun e=>W e.symm)) (fun b J=>⟨(aS b J).1,(aS b J).2.1,fun u j _ W=>(aS b J).2.2.2 u j W⟩) (fun _ J=>J) (fun _ J=>.inl J) _ _ [.arr false f.size _] (fun _=>Hd.of v') ?_ (fun j=>?_) (fun j b _ J=>J) (fun j b W aj=>?_) (fun j j' b W aK _ _=>?_)
  ·refine⟨xr L,fun q' aN az hh=>?_,fun aN az hh=>by rw[an]at hh;cases hh⟩;rw[an]at hh;cases hh;simp;have:=MS Z
   rwa[List.length_append]at this
  ·cases j with
   |zero=>exact⟨H,xs++ys,Z,a9,N⟩
   |succ j=>simp[XG,zR]
  ·rcases G b aj with I|I
   ·exact⟨.inl I.1,fun O=>by have:=(r.e b O).2;omega,I.2⟩
   ·have X:=aS b I;exact⟨.inr I,X.2.1,by have:=p.size;omega⟩
  ·have:∀j,XG [Ob.arr false f.size (aq++al)] j≠ .none->j=0:=by
    intro j hj;cases j with
    |zero=>rfl
    |succ j=>simp[XG]at hj
   grind
 rcases aG with⟨a6,rfl⟩|⟨C,c,ys,a6,aB,R⟩
 ·have aT:∃aA ah,a.eval x= .slice aA aq.length ah/\aq.length<=ah/\(aA=none->ah=0):=by
   rcases av.2 with⟨I,X⟩|⟨g,ah,ay,I,_,_,au,_⟩
   ·exact⟨none,0,by rw[I,X],Y,fun _=>rfl⟩
   ·exact⟨_,ah,I,au,(fun hh=>by cases hh)⟩
  obtain⟨aA,ah,V,au,aC⟩:=aT;refine ai _ w e0 [] ?_ aD .nil ⟨rfl,rfl,rfl,Nat.le_refl _,fun _ _ _=>rfl⟩ (fun b J=>.inr J);rw[V,a6];exact PF t o.type _ f F hi aA aq.length ah au aC
 ·have aO:ys.length=al.length*f.size:=by rw[R.length,XM al f.size bc]
  obtain⟨v',w',H,aH,L,p,G⟩:=I5 t o.type _ e0 f z F hi aW aY Y _ aq.length xs av C al.length c ys aO aB
   (fun u aL=>by
    obtain⟨k,hk⟩:=List.mem_iff_getElem?.1 aL;obtain⟨d',_,ax⟩:=R.get k u hk;exact Rd.Qe ax) (by simp only[maxLen];omega) Q
  refine ai v' w' H ys ?_ L R p G;grind
open Go.RowKit
variable{parts:Array (Nat×Operand)}
def Ed(P:Program)(σ:U)(T:TypeId)(Q:Nat):List (Nat×Operand)->Nat->List (List D)->Prop
 |[],_,rs=>rs=[]
 |(i,x)::K,k,rs=>i=k/\am (look P σ T x)=true/\(unc (look P σ T x)).flat=true/\xY (unc (look P σ T x)).cells=true/\
   ∃r ap,rowOf σ (unc (look P σ T x)).cells=some r/\r.length=Q/\Ed P σ T Q K (k+1) ap/\rs=r::ap
theorem Cz{α:Type}(l:List α)(o:Nat)(xs ys:List α)(hl:o+(xs++ys).length<=l.length):place (place l o xs) (o+xs.length) ys=place l o (xs++ys):=by
 unfold place;have I:(l.take o++xs).length=o+xs.length:=a0
 have X:(l.take o++xs++l.drop (o+xs.length)).take (o+xs.length)=l.take o++xs:=by grind
 have h3:(l.take o++xs++l.drop (o+xs.length)).drop (o+xs.length+ys.length)=l.drop (o+(xs++ys).length):=by rw[show o+xs.length+ys.length=(l.take o++xs).length+ys.length by omega,List.drop_length_add_append,List.drop_drop];congr 1;simp;omega
 grind
theorem D7(r:ar T0 B σ a w ad h)(T:TypeId)(Q:Nat):∀(K:List (Nat×Operand))(k:Nat)(rs:List (List D))(G:Array Value),Ed P σ T Q K k rs->(k+K.length)*Q<=G.size->
   ∃N ys,Instr.fill (fun i=>some (i*Q,Q)) G (K.map fun x=>(x.1,a.eval x.2))=some N/\N.toList=place G.toList (k*Q) ys/\Yn (Rd (ak T0 ad) w) ys rs.flatten/\(∀q∈rs,q.length=Q)/\rs.length=K.length
 |[],k,rs,G,J,_=>by cases J;exact⟨G,[],rfl,by simp[place],.nil,ab,rfl⟩
 |(i,x)::K,k,rs,G,J,hl=>by
  obtain⟨rfl,hg,hf,au,r0,ap,ah,aC,J,rfl⟩:=J;have O:=SP hf (r.arg T x rfl hg)
  have g:=r.rowOf true ah O (fun _=>au);have ay:=g.length;have H:G.toList.length=G.size:=Array.length_toList;have e2:(a.eval x).cells.toList.length=(a.eval x).cells.size:=Array.length_toList;have aI:(i+(K.length+1))*Q=i*Q+Q+K.length*Q:=eT;simp at hl;have heq:=MZ (i*Q) (a.eval x).cells G Y;have a4:((a.eval x).cells.zipIdx.foldl (fun C x=>C.setIfInBounds (i*Q+x.2) x.1) G).size=G.size:=by rw[<-Array.length_toList,heq,QB _ _ _ Y,H]
  have b:(i+1+K.length)*Q=i*Q+Q+K.length*Q:=eT;obtain⟨N,ys,I,X,h3,h4,h5⟩:=D7 r T Q K _ ap _ J (by rw[a4];omega);have aO:ys.length=K.length*Q:=by rw[h3.length,XM ap Q h4,h5]
  refine⟨N,(a.eval x).cells.toList++ys,?_,?_,?_,?_,by simp[h5]⟩
  ·simp only[List.map_cons,Instr.fill];rw[if_neg aD];exact I
  ·rw[X,heq];rw[show(i+1)*Q=i*Q+(a.eval x).cells.toList.length by rw[Nat.add_mul];omega];exact Cz _ _ _ _ aD
  ·rw[List.flatten_cons];exact g.append h3
  ·intro q hq;rcases List.mem_cons.1 hq with rfl|hq
   ·exact aC
   ·exact h4 q hq
theorem Dm(r:ar T0 B σ a w ad h){T:TypeId}(A:o.op= .buildSlice T n parts)(hd:o.dst=some d)(aw:σ.fresh d=true)
  (ht:Xo P T=true) (hz:Qq P (E P T)=true) (aQ:0<P.cellsOf (E P T)) (hn:parts.toList.length=n) (l:n*P.cellsOf (E P T)<=16777216) (J:Ed P σ (E P T) (P.cellsOf (E P T)) parts.toList 0 M)
  (hK:∀a' w',zh T0 B (σ.new d (.one (.O d 0 0 M.length)) [.arr false (P.cellsOf (E P T)) M]) a' w'->Xl B w w'->K a' w'):o.wp P a w K af:=by
 obtain⟨f,F,hi,a5⟩:=Qc ht;obtain⟨i,z,ac,ap,aW,D,a4,aY,aV,a3⟩:=jW hz;rw[hi]at ap;cases ap;have G:(zeroValue (E P T)).run P w= .ok z w:=by simp[zeroValue,typeInfo,hi,aW]
 obtain⟨zero,e⟩:∃zero:Array Value,(n*P.cellsOf _=0->zero=#[])/\(¬n*P.cellsOf _=0->zero=z.cells):=by
  by_cases h0:n*P.cellsOf (E P T)=0
  ·exact⟨#[],fun _=>rfl,fun hh=>absurd h0 hh⟩
  ·exact⟨z.cells,fun hh=>absurd hh h0,fun _=>rfl⟩
 obtain⟨N,ys,I,X,h3,h4,h5⟩:=D7 r _ _ parts.toList 0 M ((Array.range (n*P.cellsOf (E P T))).map (zero[·%zero.size]!)) J aD;have aO:ys.length=n*P.cellsOf (E P T):=by rw[h3.length,XM M _ h4,h5,hn]
 have R:N.toList=ys:=by rw[X];unfold place;grind
 have q:(parts.map fun(x:Nat×Operand)=>(x.1,a.eval x.2)).toList=parts.toList.map fun x=>(x.1,a.eval x.2):=ab;have aH:(execOp a.eval o).run P w= .ok (.value (.slice (some ⟨w.heap.size,0,none⟩) n n)) (w.alloc (.cells N (E P T))):=by
  have y:¬(n*P.cellsOf (E P T)>2^24):=Y;by_cases h0:n*P.cellsOf (E P T)=0
  ·have c:=e.1 h0;subst c;simp only[execOp,A,Instr.buildSlice,Sem.run_bind,run_underlying F,Result.andThen_ok,z5 hi,if_neg y,if_pos h0,q,I,newRow,Sem.run_pure,run_newObj_alloc]
  ·have c:=e.2 h0;subst c;simp only[execOp,A,Instr.buildSlice,Sem.run_bind,run_underlying F,Result.andThen_ok,z5 hi,if_neg y,if_neg h0,G,q,I,newRow,Sem.run_pure,run_newObj_alloc]
 unfold Oper.wp;rw[aH,Oper.upon_value,hd];have aC:M.length=n:=by rw[h5,hn]
 have hT:∀b k v,ak T0 ad b k->w.cell? ⟨b,k,none⟩=some v->(w.alloc (.cells N (E P T))).cell? ⟨b,k,none⟩=some v/\ak T0 ad b k:=by intro b k v J aB;refine⟨?_,J⟩;rw[World.cell?_of_block ((World.grownBy_alloc w _ none).block b (r.Tlt J) ab)];exact aB
 have g:N.size=n*P.cellsOf (E P T):=fG;have aP:n<=maxLen:=by have:n<=n*P.cellsOf _:=Nat.le_mul_of_pos_right _ aQ;simp only[maxLen];omega
 have:=r.bQ aw (World.grownBy_alloc w _ none) _
  ⟨E P T,ys,⟨by rw[aO,aC],.inr ⟨w.heap.size,n,N,by rw[aC],Nat.zero_le _,heap_alloc_new w _,Y,aP,g,by rw[R,aC,List.take_of_length_le Y]⟩⟩,h4,h3.imp fun _ _=>Rd.mono hT⟩
  (fun b J=>by simp[blk]at J;subst J;exact⟨Nat.le_refl _,ab⟩)
 grind
theorem vS(r:ar T0 B σ a w ad h){T:TypeId}(A:o.op= .buildSlice T n parts)(hd:o.dst=some d)
  (ht:Xo P T=true) (hz:Qq P (E P T)=true) (aQ:0<P.cellsOf (E P T)) (hn:parts.toList.length=n) (l:n*P.cellsOf (E P T)<=16777216) (J:Ed P σ (E P T) (P.cellsOf (E P T)) parts.toList 0 M)
  (hK:∀a' w',zh T0 B (σ.put d (.one (.d (.sl (P.cellsOf (E P T)) M)))) a' w'->Xl B w w'->K a' w'):o.wp P a w K af:=by
 obtain⟨f,F,hi,a5⟩:=Qc ht;obtain⟨i,z,ac,ap,aW,D,a4,aY,aV,a3⟩:=jW hz;rw[hi]at ap;cases ap;have G:(zeroValue (E P T)).run P w= .ok z w:=by simp[zeroValue,typeInfo,hi,aW]
 obtain⟨zero,e⟩:∃zero:Array Value,(n*P.cellsOf _=0->zero=#[])/\(¬n*P.cellsOf _=0->zero=z.cells):=by
  by_cases h0:n*P.cellsOf (E P T)=0
  ·exact⟨#[],fun _=>rfl,fun hh=>absurd h0 hh⟩
  ·exact⟨z.cells,fun hh=>absurd hh h0,fun _=>rfl⟩
 obtain⟨N,ys,I,X,h3,h4,h5⟩:=D7 r _ _ parts.toList 0 M ((Array.range (n*P.cellsOf (E P T))).map (zero[·%zero.size]!)) J aD;have aO:ys.length=n*P.cellsOf (E P T):=by rw[h3.length,XM M _ h4,h5,hn]
 have R:N.toList=ys:=by rw[X];unfold place;grind
 have q:(parts.map fun(x:Nat×Operand)=>(x.1,a.eval x.2)).toList=parts.toList.map fun x=>(x.1,a.eval x.2):=ab;have aH:(execOp a.eval o).run P w= .ok (.value (.slice (some ⟨w.heap.size,0,none⟩) n n)) (w.alloc (.cells N (E P T))):=by
  have y:¬(n*P.cellsOf (E P T)>2^24):=Y;by_cases h0:n*P.cellsOf (E P T)=0
  ·have c:=e.1 h0;subst c;simp only[execOp,A,Instr.buildSlice,Sem.run_bind,run_underlying F,Result.andThen_ok,z5 hi,if_neg y,if_pos h0,q,I,newRow,Sem.run_pure,run_newObj_alloc]
  ·have c:=e.2 h0;subst c;simp only[execOp,A,Instr.buildSlice,Sem.run_bind,run_underlying F,Result.andThen_ok,z5 hi,if_neg y,if_neg h0,G,q,I,newRow,Sem.run_pure,run_newObj_alloc]
 unfold Oper.wp;rw[aH,Oper.upon_value,hd];have aC:M.length=n:=by rw[h5,hn]
 have aa:=World.grownBy_alloc w (.cells N (E P T)) none;have r2:=r.grow (X':=fun b=>ad b\/b=w.heap.size) aa (fun b J=>.inl J) (fun b J=>J.imp id (fun hh=>by subst hh;exact⟨Nat.le_refl _,ab⟩));have hT:∀b k v,ak T0 ad b k->w.cell? ⟨b,k,none⟩=some v->(w.alloc (.cells N (E P T))).cell? ⟨b,k,none⟩=some v/\ak T0 (fun b=>ad b\/b=w.heap.size) b k:=by intro b k v J aB;refine⟨?_,J.imp id .inl⟩;rw[World.cell?_of_block (aa.block b (r.Tlt J) ab)];exact aB
 have g:N.size=n*P.cellsOf (E P T):=fG;have aP:n<=maxLen:=by have:n<=n*P.cellsOf _:=Nat.le_mul_of_pos_right _ aQ;simp only[maxLen];omega
 refine hK _ _ ⟨_,_,r2.put d _ _ ?_⟩ (Xl.Ng aa r.d);exact hp ⟨by rw[aO,aC],.inr ⟨w.heap.size,n,N,by rw[aC],Nat.zero_le _,heap_alloc_new w _,Y,aP,g,by rw[R,aC,List.take_of_length_le Y]⟩⟩ h4 (fun b k J=>by simp[blk]at J;subst J;exact .inr (.inr rfl)) (h3.imp fun _ _=>Rd.mono hT)
def zD:List At->Option (List D)
 |[]=>some []
 |.d x::xs=>(zD xs).map (x::·)
 |.nil s::xs=>(zD xs).map (.sl s []::·)
 |_=>none
theorem nP{T:CS}{ai:Nat->Nat->Ob}:∀{xs:List At}{ds:List D}{vs:List Value},zD xs=some ds->Yn (Ys T h ai w) xs vs->Yn (Rd T w) vs ds
 |[],ds,vs,hz,aa=>by cases aa;simp[zD]at hz;subst hz;exact .nil
 |x::xs,ds,vs,hz,aa=>by
  cases aa with
  |cons O aa=>
   cases x with
   |d x=>simp only[zD,Option.map_eq_some_iff]at hz;obtain⟨g,ac,rfl⟩:=hz;exact .cons O (nP ac aa)
   |nil s=>simp only[zD,Option.map_eq_some_iff]at hz;obtain⟨g,ac,rfl⟩:=hz;cases O;exact .cons (.nil _) (nP ac aa)
   |any=>simp[zD]at hz
   |O=>simp[zD]at hz
   |ptr=>simp[zD]at hz
   |Z=>simp[zD]at hz
   |fn=>simp[zD]at hz
   |am=>simp[zD]at hz
   |ac=>simp[zD]at hz
theorem TJ{α:Type}(z:List α)(n k:Nat)(hk:k<n*z.length):(List.replicate n z).flatten[k]?=z[k%z.length]?:=by
 induction n generalizing k with
 |zero=>simp at hk
 |succ n ih=>
  rw[List.replicate_succ,List.flatten_cons];rcases Nat.lt_or_ge k z.length with ag|aG
  ·rw[List.getElem?_append_left ag,Nat.mod_eq_of_lt ag]
  ·rw[List.getElem?_append_right aG,ih _ aD];congr 1;rw[Nat.mod_eq_sub_mod aG]
theorem Bz(r:ar T0 B σ a w ad h){T:TypeId}(A:o.op= .makeSlice T x x)(hd:o.dst=some d)(aw:σ.fresh d=true)
  (ht:Xo P T=true) (hz:Qq P (E P T)=true) (D:TG P 12 (E P T)=some z) (t:zD z=some zr) (aQ:0<P.cellsOf (E P T)) (O:Pk P σ x k (n:Int)) (a8:P.bytesOf (E P T)*n<=281474976710656) (a2:n<=9223372036854775807)
  (hK:∀a' w',zh T0 B (σ.new d (.one (.O d 0 0 n)) [.arr false (P.cellsOf (E P T)) (List.replicate n zr)]) a' w'->Xl B w w'->K a' w'):o.wp P a w K af:=by
 obtain⟨f,F,hi,a5⟩:=Qc ht;obtain⟨i,c,ac,ap,aW,p,a4,aY,aV,a3⟩:=jW hz;rw[hi]at ap;cases ap;rw[D]at p;cases p;have V:=kW r O
 have C:(f.bytes:Int)*(n:Int)<=281474976710656:=by have:P.bytesOf (E P T)=f.bytes:=dC;rw[this]at a8;have h:((f.bytes*n:Nat):Int)<=281474976710656:=Y;rwa[Int.natCast_mul]at h
 have aH:=run_make w T _ f c F hi aW k k n n ab (Int.le_refl _) C Y;unfold Oper.wp;simp only[execOp,A,V,Sem.run_bind,aH,Result.andThen_ok,Sem.run_pure,Oper.upon_value,hd];have s:=nP t (a3 (ak T0 ad) h σ.ob w);have an:=s.length;have H:c.cells.toList.length=c.cells.size:=Array.length_toList;have l:zr.length=f.size:=Y;have hT:∀b k v,ak T0 ad b k->w.cell? ⟨b,k,none⟩=some v->(w.alloc (.cells (madeCells c.cells (n*f.size)) (E P T))).cell? ⟨b,k,none⟩=some v/\ak T0 ad b k:=by intro b k v J aB;refine⟨?_,J⟩;rw[World.cell?_of_block ((World.grownBy_alloc w _ none).block b (r.Tlt J) ab)];exact aB
 have g:(madeCells c.cells (n*f.size)).toList.length=n*f.size:=by rw[Array.length_toList,size_madeCells]
 have y:∀q u,(madeCells c.cells (n*f.size)).toList[q]?=some u->c.cells.toList[q%f.size]?=some u:=by
  intro q u hq;have ag:q<n*f.size:=eS
  have I:q%f.size<c.cells.size:=by rw[aY];exact Nat.mod_lt _ Y
  have:(madeCells c.cells (n*f.size)).toList[q]?=some (c.cells[q%c.cells.size]!):=by simp[madeCells,ag]
  rw[this]at hq;cases hq;rw[aY];grind
 have N:Yn (Rd (ak T0 ad) w) (madeCells c.cells (n*f.size)).toList (List.replicate n zr).flatten:=by
  refine Yn.ka dw (fun q u dd hq G=>?_);have ag:q<n*f.size:=eS
  rw[TJ zr n q aD,l]at G;obtain⟨d',m,ax⟩:=s.get _ _ (y q u hq);rw[G]at m;cases m;grind
 have:=r.bQ aw (World.grownBy_alloc w _ none) (.slice (some ⟨w.heap.size,0,none⟩) n n) (Q:=P.cellsOf (E P T))
  ⟨E P T,(madeCells c.cells _).toList,⟨by rw[g,aV];simp,.inr ⟨w.heap.size,n,_,ab,Nat.zero_le _,heap_alloc_new w _,ab,by simp only[maxLen];omega,by rw[size_madeCells,aV],by rw[List.take_of_length_le aD]⟩⟩,
   aD,N.imp fun _ _=>Rd.mono hT⟩
  (fun b J=>by simp[blk]at J;subst J;exact⟨Nat.le_refl _,ab⟩)
 rw[List.length_replicate]at this;grind
open Go.RowKit
def yY(l:List UInt8):List (List D):=l.map fun b=>[D.int .u8 (b.toNat:Int)]
def Ig(P:Program)(t:TypeId):Bool:=match P.underlying t with
 |some (.slice e)=>(match P.underlying e with|some (.int .u8)=>true|_=>false)
 |_=>false
theorem Co{t:TypeId}(ht:Ig P t=true):∃e,P.underlying t=some (.slice e)/\P.underlying e=some (.int .u8):=by
 unfold Ig at ht;split at ht
 ·rename_i e he;split at ht
  ·rename_i X;exact⟨e,he,X⟩
  ·cases ht
 ·cases ht
theorem Ns(l:List UInt8):(yY l).flatten=l.map fun b=>D.int .u8 (b.toNat:Int):=by
 induction l with
 |nil=>rfl
 |cons b l ih=>simp only[yY,List.map_cons,List.flatten_cons]at ih⊢;rw[ih];rfl
theorem HW(r:ar T0 B σ a w ad h){S T:TypeId}{l:List UInt8}(A:o.op= .convert S T x)(hg:am (look P σ S x)=true)(L:Ig P S=true)(hT:Oo P T=true)
  (n:yh σ (unc (look P σ S x)) 1 (yY l)):∃an,(execOp a.eval o).run P w= .ok (.value an) w/\J8 (ak T0 ad) h σ.ob w (.one (.d (.str ⟨l.toArray⟩))) an:=by
 obtain⟨e,hs,he⟩:=Co L;have hv:=r.arg S x rfl hg
 obtain⟨_,aG⟩:=pe r n hv;refine⟨.string _,?_,.str _⟩;rcases aG with⟨V,H⟩|⟨C,c,xs,V,aB,aa⟩
 ·have hl:l=[]:=by cases l with
   |nil=>rfl
   |cons b l=>simp[yY]at H
  subst hl;have hr:(convert S T (.slice none 0 0)).run P w= .ok (.string ⟨#[]⟩) w:=by rw[run_convert_bytes_string w S T e none 0 0 hs he (Vr hT)];rfl
  simp only[execOp,A,V,Sem.run_bind,hr,Result.andThen_ok,Sem.run_pure]
 ·have aC:(yY l).length=l.length:=by simp[yY]
  rw[aC]at V;have hr:=run_convert_bytes_back w S T e C c l hs he (Vr hT) (fun j hj=>by
   rw[Ns]at aa;obtain⟨u,F,hr⟩:=aa.get' j (D.int .u8 (l[j].toNat:Int)) aD;have:=Mx hr
   subst this;exact aB j _ F)
  simp only[execOp,A,V,Sem.run_bind,hr,Result.andThen_ok,Sem.run_pure]
theorem Hh(r:ar T0 B σ a w ad h){S T:TypeId}{s:ByteArray}(A:o.op= .convert S T x)(hd:o.dst=some d)(hg:am (look P σ S x)=true)(L:Oo P S=true)(hT:Ig P T=true)
  (O:unc (look P σ S x)= .one (.d (.str s))) (aI:s.size<=9223372036854775807)
  (hK:∀a' w',zh T0 B (σ.put d (.one (.d (.sl 1 (yY s.data.toList))))) a' w'->Xl B w w'->K a' w'):o.wp P a w K af:=by
 obtain⟨e,G,he⟩:=Co hT;have V:=L0 (r.arg S x O hg)
 have aH:=run_bytes_of_string w S T e s (Vr L) G he;unfold Oper.wp;simp only[execOp,A,V,Sem.run_bind,aH,Result.andThen_ok,Sem.run_pure,Oper.upon_value,hd];generalize aX:grownCap w s.size 0 e=ah at*;have aG:s.size<=ah:=by rw[<-aX];exact grownCap_ge w s.size 0 e
 have aP:ah<=maxLen:=by rw[<-aX];exact grownCap_le_maxLen w s.size 0 e (by simp only[maxLen];omega)
 generalize c:w.drew.alloc _=w';have aa:w.grownBy w' none:=by rw[<-c];exact⟨rfl,rfl,rfl,ab,fun k hk _=>(World.grownBy_alloc w.drew _ none).block k hk ab⟩
 have ap:w'.heap[w.heap.size]?=some (.cells (bytesRow s ah) e ((bytesRow s ah).size,(bytesRow s ah).size+1)):=by rw[<-c];exact heap_alloc_new w.drew _
 have f:=(Array.getElem?_eq_some_iff.1 ap).1;have r2:=r.grow (X':=fun b=>ad b\/b=w.heap.size) aa (fun b J=>.inl J) (fun b J=>J.imp id (fun hh=>by subst hh;exact⟨Nat.le_refl _,f⟩));refine hK _ _ ⟨_,_,r2.put d _ _ ?_⟩ (Xl.Ng aa r.d);have aJ:=Ns s.data.toList;refine Rd.sl _ s.size ah 1 _ (fun k=>.int .u8 ((s.data.toList.getD k 0).toNat:Int)) (by simp[yY]) aG aP (by intro q hq;simp[yY]at hq;obtain⟨b,_,rfl⟩:=hq;rfl) (fun _=>rfl) (fun k dd hk=>?_) (fun k dd hk=>?_)
 ·rw[aJ,List.getElem?_map]at hk;cases J:s.data.toList[k]? with
  |none=>rw[J]at hk;cases hk
  |some b=>
   refine⟨?_,.inr (.inr rfl)⟩;refine xO ap _ _ ?_;have g:k<s.data.size:=by have:=(List.getElem?_eq_some_iff.1 J).1;simpa using this
   simp only[bytesRow];rw[Array.toList_append,List.getElem?_append_left aD];grind
 ·rw[aJ,List.getElem?_map]at hk;cases J:s.data.toList[k]? with
  |none=>rw[J]at hk;cases hk
  |some b=>rw[J]at hk;cases hk;rw[List.getD_eq_getElem?_getD,J];exact .int _ _
open Go.RowKit
variable{l1 l2:List (Nat×Nat)}
def Yp:List At->List (Nat×Nat)
 |[]=>[]
 |.O t j _ _::xs=>(t,j)::Yp xs
 |_::xs=>Yp xs
def a6(σ:U):At->Option D
 |.d (.sl _ _)=>none
 |.d x=>some x
 |.nil s=>some (.sl s [])
 |.O t j lo ae=>(match σ.ob t j with|.arr _ Q M=>if lo=0/\ae=M.length then some (.sl Q M)else none|_=>none)
 |_=>none
def B9(σ:U):At->Prop
 |.O t j _ _=>(match σ.ob t j with|.arr false _ M=>∀r∈M,∀x∈r,x.scalar=true|_=>True)
 |_=>True
def JA(σ:U):List At->Option (List D)
 |[]=>some []
 |x::xs=>(match a6 σ x,JA σ xs with|some d,some ds=>some (d::ds)|_,_=>none)
def QO(σ:U):List At->Prop
 |[]=>True
 |x::xs=>B9 σ x/\QO σ xs
def qe(σ:U):List (List At)->Option (List (List D))
 |[]=>some []
 |xs::ap=>(match JA σ xs,qe σ ap with|some r,some rs=>some (r::rs)|_,_=>none)
def xB(σ:U):List (List At)->Prop
 |[]=>True
 |x::xs=>QO σ x/\xB σ xs
theorem Iu:∀(xs:List At)(i j:Nat)(t u lo ae E K:Nat),(Yp xs).Nodup->xs[i]?=some (.O t u lo ae)->xs[j]?=some (.O t u E K)->i=j:=by
 intro xs;induction xs with
 |nil=>intro i j t u lo ae E K _ hi;simp at hi
 |cons x xs ih=>
  intro i j t u lo ae E K aE hi hj;have a:∀(k lo ae:Nat),xs[k]?=some (At.O t u lo ae)->(t,u)∈Yp xs:=by
   intro k lo ae hk;clear ih aE hi hj;induction xs generalizing k with
   |nil=>simp at hk
   |cons y ys c=>
    cases k with
    |zero=>simp at hk;subst hk;simp[Yp]
    |succ k=>have:=c k cc;cases y<;>simp[Yp,this]
  have b:(Yp xs).Nodup:=by cases x<;>simp only[Yp]at aE<;>first|exact aE|exact(List.nodup_cons.1 aE).2
  cases i with
  |zero=>
   simp at hi;subst hi;cases j with
   |zero=>rfl
   |succ j=>simp only[Yp]at aE;exact absurd (a j E K (by simpa using hj)) (List.nodup_cons.1 aE).1
  |succ i=>
   cases j with
   |zero=>simp at hj;subst hj;simp only[Yp]at aE;exact absurd (a i lo ae (by simpa using hi)) (List.nodup_cons.1 aE).1
   |succ j=>rw[ih i j t u lo ae E K b (by simpa using hi) (by simpa using hj)]
theorem pa:∀{xs:List At}{k t j lo ae:Nat},xs[k]?=some (At.O t j lo ae)->(t,j)∈Yp xs
 |[],k,t,j,lo,ae,h=>cz
 |x::xs,0,t,j,lo,ae,h=>by simp at h;subst h;simp[Yp]
 |x::xs,k+1,t,j,lo,ae,h=>by have:=pa (xs:=xs) (k:=k) c3;cases x<;>simp[Yp,this]
theorem TT{σ:U}:∀{xs:List At}{ds:List D},JA σ xs=some ds->xs.length=ds.length/\∀(k:Nat)(x:At)(d:D),xs[k]?=some x->ds[k]?=some d->a6 σ x=some d
 |[],ds,h=>by simp[JA]at h;subst h;exact⟨rfl,fun k x d O=>by simp at O⟩
 |x::xs,ds,h=>by
  simp only[JA]at h;split at h
  ·rename_i d g I X;cases h;obtain⟨hl,ih⟩:=TT X;refine⟨by simp[hl],fun k y e hy he=>?_⟩;cases k with
   |zero=>simp at hy he;subst hy;subst he;exact I
   |succ k=>exact ih k y e (by simpa using hy) (by simpa using he)
  ·cases h
theorem Fe{σ:U}:∀{xs ys:List At}{ds A:List D},JA σ xs=some ds->JA σ ys=some A->JA σ (xs++ys)=some (ds++A)
 |[],ys,ds,A,I,X=>by simp[JA]at I;subst I;simpa using X
 |x::xs,ys,ds,A,I,X=>by
  simp only[JA]at I;split at I
  ·rename_i d g h3 h4;cases I;simp[JA,h3,Fe h4 X]
  ·cases I
theorem P1{σ:U}:∀{A:List (List At)}{rs:List (List D)},qe σ A=some rs->JA σ A.flatten=some rs.flatten/\A.length=rs.length/\∀n,(∀x∈A,x.length=n)->∀r∈rs,r.length=n
 |[],rs,h=>by simp[qe]at h;subst h;exact⟨rfl,rfl,fun n _ r hr=>by cases hr⟩
 |xs::A,rs,h=>by
  simp only[qe]at h;split at h
  ·rename_i r b I X;cases h;obtain⟨N,i2,i3⟩:=P1 X;refine⟨by rw[List.flatten_cons,List.flatten_cons];exact Fe I N,by simp[i2],fun n hn q hq=>?_⟩;rcases List.mem_cons.1 hq with rfl|hq
   ·rw[<-(TT I).1];exact hn xs ab
   ·exact i3 n (fun x O=>hn x (by simp[O])) q hq
  ·cases h
theorem CY{σ:U}:∀{xs:List At},QO σ xs->∀(k:Nat)(x:At),xs[k]?=some x->B9 σ x
 |[],_,k,x,O=>by simp at O
 |y::xs,h,0,x,O=>by simp at O;subst O;exact h.1
 |y::xs,h,k+1,x,O=>CY h.2 k x (by simpa using O)
theorem HB{σ:U}:∀{xs ys:List At},QO σ xs->QO σ ys->QO σ (xs++ys)
 |[],_,_,h=>h
 |_::_,_,I,X=>⟨I.1,HB I.2 X⟩
theorem Tv{σ:U}:∀{A:List (List At)},xB σ A->QO σ A.flatten
 |[],_=>trivial
 |xs::A,h=>by rw[List.flatten_cons];exact HB h.1 (Tv h.2)
theorem Rd.own{d:D}(hs:d.scalar=true)(hr:Rd T w v d):aZ w v d S:=by
 cases hr with
 |int k n=>exact .int _ _ _
 |bool b=>exact .bool _ _
 |str s=>exact .str _ _
 |unk v h=>exact .unk _ h _
 |nil=>cases hs
 |sl=>cases hs
theorem ar.ZCA(r:ar T0 B σ a w ad h){q:Bool}(ho:σ.ob t j= .arr q Q M)(hq:q=false->∀r∈M,∀x∈r,x.scalar=true):aZ w (h t j).v (.sl Q M) (h t j).u:=by
 have h0:=r.obj t j;have aM:=r.c t j;rw[ho]at h0 aM;cases q with
 |false=>obtain⟨e,xs,aw,hz,aa⟩:=h0;refine .sl _ Q M _ e xs (fun _ _=>False) aw hz (fun b J=>aM b ab J) aa.length (fun k x d O hd=>?_) (fun k b J=>J.elim) (fun i j b J=>J.elim);obtain⟨d',m,hr⟩:=aa.get k x O;rw[hd]at m;cases m;obtain⟨r0,ah,L⟩:=List.mem_flatten.1 (List.mem_of_getElem? hd);exact Rd.own (hq rfl r0 ah d L) hr
 |true=>obtain⟨e,xs,aw,hz,⟨hl,l,I,X,h3⟩,hn⟩:=h0;exact .sl _ Q M _ e xs l aw hz (fun b J=>aM b ab J) hl I (fun k b J=>X k b J) h3
def zO(σ:U)(h:Nat->Nat->Hd)(l:List (Nat×Nat))(b:Nat):Prop:=∃p∈l,σ.ob p.1 p.2≠ .none/\(h p.1 p.2).u b
theorem PG(r:ar T0 B σ a w ad h){xs:List At}(aa:Yn (Ys (ak T0 ad) h σ.ob w) xs vs)(Y:JA σ xs=some ds)(ap:QO σ xs)(aE:(Yp xs).Nodup):zq w vs ds (zO σ h (Yp xs)):=by
 obtain⟨hl,Y⟩:=TT Y;refine⟨by rw[<-aa.length,hl],fun k b=>∃t j lo ae,xs[k]?=some (.O t j lo ae)/\σ.ob t j≠ .none/\(h t j).u b,fun k v d hv hd=>?_,?_,?_⟩
 ·obtain⟨x,O,hr⟩:=aa.get' k v hv;have hm:=Y k x d O hd
  have ho:=CY ap k x O;cases x with
  |d x=>
   cases x with
   |sl s M=>simp[a6]at hm
   |int k n=>simp[a6]at hm;subst hm;exact Rd.own rfl hr
   |bool b=>simp[a6]at hm;subst hm;exact Rd.own rfl hr
   |str s=>simp[a6]at hm;subst hm;exact Rd.own rfl hr
   |unk=>simp[a6]at hm;subst hm;exact Rd.own rfl hr
  |nil s=>simp[a6]at hm;subst hm;cases hr;exact .sl _ s [] _ 0 [] (fun _ _=>False) (World.ownsRow_nil w 0 0 s) cN (fun b J=>by cases J) rfl (fun k x d O=>by simp at O) (fun k b J=>J.elim) (fun i j b J=>J.elim)
  |O t j lo ae=>
   simp only[a6]at hm;split at hm
   ·rename_i q Q M ao;split at hm
    ·rename_i Z;obtain⟨rfl,rfl⟩:=Z;cases hm;obtain⟨_,aG,_⟩:=hr.2.1 q Q M ao;rw[aG rfl rfl];refine(r.ZCA ao (fun hq=>?_)).mono (fun b J=>⟨t,j,0,M.length,O,by rw[ao];simp,J⟩);subst hq;simp only[B9,ao]at ho;exact ho
    ·cases hm
   ·cases hm
  |any=>simp[a6]at hm
  |ptr=>simp[a6]at hm
  |Z=>simp[a6]at hm
  |fn=>simp[a6]at hm
  |am=>simp[a6]at hm
  |ac=>simp[a6]at hm
 ·rintro k b ⟨t,j,lo,ae,O,W,F⟩;exact⟨(t,j),pa O,W,F⟩
 ·rintro i k b ⟨t,j,lo,ae,O,W,F⟩ ⟨t',j',E,K,ai,aK,aL⟩;obtain⟨rfl,rfl⟩:=r.inj t j t' j' b W aK F aL;exact Iu xs i k t j lo ae E K aE O ai
theorem zq.append{xs:List Value}(I:zq w xs ds S)(X:zq w ys A C)(hd:∀b,S b->C b->False):zq w (xs++ys) (ds++A) (fun b=>S b\/C b):=by
 obtain⟨l1,l,E,G,V⟩:=I;obtain⟨l2,F,b1,b2,r⟩:=X;refine⟨by simp[l1,l2],fun k=>if k<xs.length then l k else F (k-xs.length),fun k x d O m=>?_,fun k b J=>?_,fun i j b hi hj=>?_⟩
 ·by_cases hk:k<xs.length
  ·simp only[hk,if_true];rw[List.getElem?_append_left hk]at O;rw[List.getElem?_append_left Y]at m;exact E k x d O m
  ·simp only[hk,if_false];rw[List.getElem?_append_right Y]at O;rw[List.getElem?_append_right Y,<-l1]at m;exact b1 _ x d O m
 ·by_cases hk:k<xs.length
  ·simp only[hk,if_true]at J;exact .inl (G k b J)
  ·simp only[hk,if_false]at J;exact .inr (b2 _ b J)
 ·by_cases ap:i<xs.length
  ·simp only[ap,if_true]at hi;by_cases ay:j<xs.length
   ·simp only[ay,if_true]at hj;exact V i j b hi hj
   ·simp only[ay,if_false]at hj;exact(hd b (G i b hi) (b2 _ b hj)).elim
  ·simp only[ap,if_false]at hi;by_cases ay:j<xs.length
   ·simp only[ay,if_true]at hj;exact(hd b (G j b hj) (b2 _ b hi)).elim
   ·simp only[ay,if_false]at hj;have:=r _ _ b hi hj;omega
theorem zq.mono{xs:List Value}(L:∀b,S b->C b)(I:zq w xs ds S):zq w xs ds C:=by obtain⟨l1,l,E,G,V⟩:=I;exact⟨l1,l,E,fun k b J=>L b (G k b J),V⟩
theorem zq.nil(S:Nat->Prop):zq w [] [] S:=⟨rfl,fun _ _=>False,fun k x d O=>by simp at O,fun _ _ J=>J.elim,fun _ _ _ J=>J.elim⟩
theorem ar.zZ(r:ar T0 B σ a w ad h)(l:List (Nat×Nat))(b:Nat)(J:zO σ h l b):¬B b/\¬ad b/\b<w.heap.size/\∀u i,(σ.YI l).ob u i≠ .none->¬(h u i).u b:=by
 obtain⟨p,hp,W,F⟩:=J;have ho:=r.own p.1 p.2 b W F
 refine⟨ho.1,ho.2.1,ho.2.2,fun u i hn aL=>?_⟩;rw[U.yU]at hn;split at hn
 ·exact hn rfl
 ·rename_i aj;obtain⟨I,X⟩:=r.inj p.1 p.2 u i b W hn F aL;exact aj (by rw[<-I,<-X];exact hp)
open Go.RowKit
def F1(P:Program)(σ:U)(T:TypeId)(Q:Nat):List (Nat×Operand)->Nat->List (List At)->Prop
 |[],_,rs=>rs=[]
 |(i,x)::K,k,rs=>i=k/\am (look P σ T x)=true/\(unc (look P σ T x)).flat=true/\(unc (look P σ T x)).cells.length=Q/\
   ∃ap,F1 P σ T Q K (k+1) ap/\rs=(unc (look P σ T x)).cells::ap
theorem lp(r:ar T0 B σ a w ad h)(T:TypeId)(Q:Nat):∀(K:List (Nat×Operand))(k:Nat)(rs:List (List At))(G:Array Value),F1 P σ T Q K k rs->(k+K.length)*Q<=G.size->
   ∃N ys,Instr.fill (fun i=>some (i*Q,Q)) G (K.map fun x=>(x.1,a.eval x.2))=some N/\N.toList=place G.toList (k*Q) ys/\Yn (Ys (ak T0 ad) h σ.ob w) rs.flatten ys/\(∀q∈rs,q.length=Q)/\rs.length=K.length
 |[],k,rs,G,J,_=>by cases J;exact⟨G,[],rfl,by simp[place],.nil,cN,rfl⟩
 |(i,x)::K,k,rs,G,J,hl=>by
  obtain⟨rfl,hg,hf,aC,ap,J,rfl⟩:=J;have O:=SP hf (r.arg (P:=P) T x rfl hg)
  have ay:=O.length;have H:G.toList.length=G.size:=Array.length_toList;have e2:(a.eval x).cells.toList.length=(a.eval x).cells.size:=Array.length_toList;have aI:(i+(K.length+1))*Q=i*Q+Q+K.length*Q:=eT;simp only[List.length_cons]at hl;have heq:=MZ (i*Q) (a.eval x).cells G Y;have a4:((a.eval x).cells.zipIdx.foldl (fun C x=>C.setIfInBounds (i*Q+x.2) x.1) G).size=G.size:=by rw[<-Array.length_toList,heq,QB _ _ _ Y,H]
  have b:(i+1+K.length)*Q=i*Q+Q+K.length*Q:=eT;obtain⟨N,ys,I,X,h3,h4,h5⟩:=lp r T Q K (i+1) ap _ J (by rw[a4];omega);have aO:ys.length=K.length*Q:=by rw[<-h3.length,XM ap Q h4,h5]
  refine⟨N,(a.eval x).cells.toList++ys,?_,?_,?_,?_,by simp[h5]⟩
  ·simp only[List.map_cons,Instr.fill];rw[if_neg a0];exact I
  ·rw[X,heq];rw[show(i+1)*Q=i*Q+(a.eval x).cells.toList.length by rw[Nat.add_mul];omega];exact Cz _ _ _ _ a0
  ·rw[List.flatten_cons];exact O.append h3
  ·intro q hq;rcases List.mem_cons.1 hq with rfl|hq
   ·exact aC
   ·exact h4 q hq
theorem Lu(r:ar T0 B σ a w ad h){T:TypeId}{M:List (List At)}(A:o.op= .buildSlice T n parts)(hd:o.dst=some d)(aw:σ.fresh d=true)
  (ht:Xo P T=true) (hz:Qq P (E P T)=true) (aQ:0<P.cellsOf (E P T)) (hn:parts.toList.length=n) (l:n*P.cellsOf (E P T)<=16777216) (J:F1 P σ (E P T) (P.cellsOf (E P T)) parts.toList 0 M) (m:Y6 d M.flatten=false)
  (hK:∀a' w',zh T0 B (σ.new d (.one (.O d 0 0 M.length)) [.lit (P.cellsOf (E P T)) M]) a' w'->Xl B w w'->K a' w'):o.wp P a w K af:=by
 obtain⟨f,F,hi,a5⟩:=Qc ht;obtain⟨i,z,ac,ap,aW,D,a4,aY,aV,a3⟩:=jW hz;rw[hi]at ap;cases ap;have G:(zeroValue (E P T)).run P w= .ok z w:=by simp[zeroValue,typeInfo,hi,aW]
 obtain⟨zero,e⟩:∃zero:Array Value,(n*P.cellsOf (E P T)=0->zero=#[])/\(¬n*P.cellsOf (E P T)=0->zero=z.cells):=by
  by_cases h0:n*P.cellsOf (E P T)=0
  ·exact⟨#[],fun _=>rfl,fun hh=>absurd h0 hh⟩
  ·exact⟨z.cells,fun hh=>absurd hh h0,fun _=>rfl⟩
 obtain⟨N,ys,I,X,h3,h4,h5⟩:=lp r (E P T) (P.cellsOf (E P T)) parts.toList 0 M ((Array.range (n*P.cellsOf (E P T))).map (zero[·%zero.size]!)) J (by simp[hn]);have aO:ys.length=n*P.cellsOf (E P T):=by rw[<-h3.length,XM M _ h4,h5,hn]
 have R:N.toList=ys:=by rw[X];unfold place;simp[aO]
 have q:(parts.map fun(x:Nat×Operand)=>(x.1,a.eval x.2)).toList=parts.toList.map fun x=>(x.1,a.eval x.2):=ab;have aH:(execOp a.eval o).run P w= .ok (.value (.slice (some ⟨w.heap.size,0,none⟩) n n)) (w.alloc (.cells N (E P T))):=by
  have y:¬(n*P.cellsOf (E P T)>2^24):=Y;by_cases h0:n*P.cellsOf (E P T)=0
  ·have c:=e.1 h0;subst c;simp only[execOp,A,Instr.buildSlice,Sem.run_bind,run_underlying F,Result.andThen_ok,z5 hi,if_neg y,if_pos h0,q,I,newRow,Sem.run_pure,run_newObj_alloc]
  ·have c:=e.2 h0;subst c;simp only[execOp,A,Instr.buildSlice,Sem.run_bind,run_underlying F,Result.andThen_ok,z5 hi,if_neg y,if_neg h0,G,q,I,newRow,Sem.run_pure,run_newObj_alloc]
 unfold Oper.wp;rw[aH,Oper.upon_value,hd];have aC:M.length=n:=by rw[h5,hn]
 have hg:=World.grownBy_alloc w (.cells N (E P T)) none;have ag:=U.kh aw;have hT:∀b k v,ak T0 ad b k->w.cell? ⟨b,k,none⟩=some v->(w.alloc (.cells N (E P T))).cell? ⟨b,k,none⟩=some v/\ak T0 ad b k:=by intro b k v J aB;refine⟨?_,J⟩;rw[World.cell?_of_block (hg.block b (r.Tlt J) ab)];exact aB
 have g:N.size=n*P.cellsOf (E P T):=fG;have aP:n<=maxLen:=by have:n<=n*P.cellsOf (E P T):=Nat.le_mul_of_pos_right _ aQ;simp only[maxLen];omega
 have av:(w.alloc (.cells N (E P T))).ownsRow 0 (E P T) (P.cellsOf (E P T)) (.slice (some ⟨w.heap.size,0,none⟩) n n) M.length ys:=
  ⟨by rw[aO,aC],.inr ⟨w.heap.size,n,N,by rw[aC],Nat.zero_le _,heap_alloc_new w _,Y,aP,g,by rw[R,aC,List.take_of_length_le Y]⟩⟩
 refine hK _ _ ⟨ad,fun t j=>if t=d then Hd.of (.slice (some ⟨w.heap.size,0,none⟩) n n)else h t j,?_⟩ (Xl.Ng hg r.d);have an:(σ.new d (.one (.O d 0 0 M.length)) [.lit (P.cellsOf (E P T)) M]).ob d 0= .lit (P.cellsOf (E P T)) M:=du
 have Z:∀t j,t≠d->bA h (fun t j=>if t=d then Hd.of (.slice (some ⟨w.heap.size,0,none⟩) n n)else h t j) σ.ob (σ.new d (.one (.O d 0 0 M.length)) [.lit (P.cellsOf (E P T)) M]).ob t j:=by
  intro t j W;have he:(σ.new d (.one (.O d 0 0 M.length)) [.lit (P.cellsOf (E P T)) M]).ob t j=σ.ob t j:=fQ
  exact bA.same (by simp[W]) he
 refine r.new aw hg (fun _ J=>J) (fun _ J=>.inl J) _ _ [.lit (P.cellsOf (E P T)) M] (fun _=>Hd.of (.slice (some ⟨w.heap.size,0,none⟩) n n)) ?_ (fun j=>?_) (fun j b _ J=>J) (fun j b _ aj=>?_) (fun j j' b W aK _ _=>?_)
 ·refine⟨xr av,fun q' aN az L=>(by rw[an]at L;cases L),fun aN az L=>?_⟩;rw[an]at L;cases L;simp only[if_true];exact MS av
 ·cases j with
  |zero=>exact⟨E P T,ys,av,h4,Rt hT Z m h3⟩
  |succ j=>simp[XG,zR]
 ·simp[Hd.of,blk]at aj;subst aj;refine⟨Nat.le_refl _,fun ai=>?_,ab⟩;have:=(r.e _ ai).2;omega
 ·have:∀j,XG [Ob.lit (P.cellsOf (E P T)) M] j≠ .none->j=0:=by
   intro j hj;cases j with
   |zero=>rfl
   |succ j=>simp[XG]at hj
  rw[this j W,this j' aK]
theorem gr{T:CS}{ai:Nat->Nat->Ob}:∀{xs:List At}{ds:List D}{vs:List Value},zD xs=some ds->Yn (Ys T h ai w) xs vs->(∀x∈xs,∀s r,x≠ .d (.sl s r))->∀(w':World)(S:Nat->Prop)(k:Nat)(v:Value)(d:D),vs[k]?=some v->ds[k]?=some d->aZ w' v d S
 |[],ds,vs,hz,aa,_,w',S,k,v,d,hv,_=>by cases aa;simp at hv
 |x::xs,ds,vs,hz,aa,e,w',S,k,v,d,hv,hd=>by
  cases aa with
  |cons O aa=>
   cases x with
   |d x=>
    simp only[zD,Option.map_eq_some_iff]at hz;obtain⟨g,ac,rfl⟩:=hz;cases k with
    |zero=>
     simp at hv hd;subst hv;subst hd;cases x with
     |sl s r=>exact absurd rfl (e _ ab s r)
     |int k n=>cases(show Rd _ _ _ _ from O);exact .int _ _ _
     |bool b=>cases(show Rd _ _ _ _ from O);exact .bool _ _
     |str s=>cases(show Rd _ _ _ _ from O);exact .str _ _
     |unk=>exact .unk _ (Rd.Qe O) _
    |succ k=>exact gr ac aa (fun x O=>e x (by simp[O])) w' S k v d (by simpa using hv) (by simpa using hd)
   |nil s=>
    simp only[zD,Option.map_eq_some_iff]at hz;obtain⟨g,ac,rfl⟩:=hz;cases k with
    |zero=>simp at hv hd;subst hv;subst hd;cases O;exact .sl _ s [] _ 0 [] (fun _ _=>False) (World.ownsRow_nil w' 0 0 s) cN (fun b J=>by cases J) rfl (fun k x d O=>by simp at O) (fun k b J=>J.elim) (fun i j b J=>J.elim)
    |succ k=>exact gr ac aa (fun x O=>e x (by simp[O])) w' S k v d (by simpa using hv) (by simpa using hd)
   |any=>simp[zD]at hz
   |O=>simp[zD]at hz
   |ptr=>simp[zD]at hz
   |Z=>simp[zD]at hz
   |fn=>simp[zD]at hz
   |am=>simp[zD]at hz
   |ac=>simp[zD]at hz
def dK(σ:U)(x:V)(Q:Nat)(aq:List (List D))(l:List (Nat×Nat)):Prop:=
 match x with
 |.one (.nil _)=>aq=[]/\l=[]
 |.one (.O t j lo ae)=>σ.ob t j= .arr true Q aq/\lo=0/\ae=aq.length/\l=[(t,j)]
 |_=>False
def dg(σ:U)(x:V)(Q:Nat)(al:List (List D))(l:List (Nat×Nat)):Prop:=
 match x with
 |.one (.O t j lo ae)=>∃M,σ.ob t j= .lit Q M/\lo=0/\ae=M.length/\qe σ M=some al/\xB σ M/\l=Yp M.flatten
 |_=>False
theorem vX(r:ar T0 B σ a w ad h){t e0:TypeId}{m ah:Nat}{f:TypeInfo}{z:Value}{xs:List Value}(A:o.op= .call ⟨.builtin .append,#[x,y],#[t,t]⟩)(hd:o.dst=some d)
  (F:P.underlying t=some (.slice (E P t))) (hi:P.info? (E P t)=some f) (aW:f.zero=some z) (aY:z.cells.size=f.size) (aQ:0<f.size) (aw:σ.fresh d=true) (Q:(m+n)*f.bytes<=140737488355328) (a2:m+n<=9223372036854775807)
  (av:w.ownsRow 0 e0 f.size (a.eval x) m xs) (T:∀b,blk (a.eval x)=some b->N b) (S:∀b,N b->¬B b/\¬ad b/\b<w.heap.size/\∀u j,σ.ob u j≠ .none->¬(h u j).u b)
  (a6:a.eval y= .slice aA n ah) (ax:aA=none->ah=0/\n=0) (aO:ys.length=n*f.size) (aB:∀C,aA=some C->∀k v,ys[k]?=some v->w.cell? (C.add k)=some v) (aI:∀v∈ys,v.oneCell'=true)
  (aV:rs.length=m+n) (l:∀q∈rs,q.length=f.size) (i:zq w (xs++ys) rs.flatten (fun b=>N b/\blk (a.eval x)≠some b))
  (hK:∀a' w',zh T0 B (σ.new d (.one (.O d 0 0 (m+n))) [.arr true f.size rs]) a' w'->Xl B w w'->K a' w'):o.wp P a w K af:=by
 have ag:=U.kh aw;have ai:∀(v':Value)(w':World)(H:TypeId),(Builtin.append_ #[t,t] o.type #[a.eval x,a.eval y]).run P w= .ok v' w'->w'.ownsRow 0 H f.size v' (m+n) (xs++ys)->
   w.grownBy w' (blk (a.eval x))->(∀b,blk v'=some b->(w.heap.size<=b/\b<w'.heap.size)\/blk (a.eval x)=some b)->o.wp P a w K af:=by
  intro v' w' H aH L p G;unfold Oper.wp;have aE:(execOp a.eval o).run P w= .ok (.value v') w':=by simp only[execOp,A,resolve,invoke,builtin,Sem.run_bind,Sem.run_pure,Result.andThen_ok,List.map_toArray,List.map_cons,List.map_nil,aH]
  rw[aE,Oper.upon_value,hd];refine hK _ _ ⟨ad,fun u j=>if u=d then⟨v',fun k=>((xs++ys)[k]?).getD undef,fun b=>blk v'=some b\/(N b/\blk (a.eval x)≠some b)⟩else h u j,?_⟩
   ⟨p.os,p.tape,p.output,p.size,fun k hk=>p.block k (r.d k hk) (fun e=>(S k (T k e.symm)).1 hk)⟩
  have an:(σ.new d (.one (.O d 0 0 (m+n))) [.arr true f.size rs]).ob d 0= .arr true f.size rs:=du;have Z:w'.ownsRow 0 H f.size v' rs.length (xs++ys):=by rw[aV];exact L
  have c:zq w' (xs++ys) rs.flatten (fun b=>(blk v'=some b\/(N b/\blk (a.eval x)≠some b))/\blk v'≠some b):=by
   refine(i.Gi (fun b J=>p.block b (S b J.1).2.2.1 (fun e=>J.2 e.symm))).mono (fun b J=>⟨.inr J,fun e=>?_⟩);rcases G b e with hl|hl
   ·have:=(S b J.1).2.2.1;omega
   ·exact J.2 hl
  refine r.ZAM aw N p.size (fun k hk W=>p.block k hk (fun e=>W (T k e.symm))) (fun b J=>⟨(S b J).1,(S b J).2.1,fun u j _ W=>(S b J).2.2.2 u j W⟩) (fun _ J=>J) (fun _ J=>.inl J) _ _ [.arr true f.size rs]
   (fun _=>⟨v',fun k=>((xs++ys)[k]?).getD undef,fun b=>blk v'=some b\/(N b/\blk (a.eval x)≠some b)⟩) ?_ (fun j=>?_) (fun j b _ J=>.inl J) (fun j b W aj=>?_) (fun j j' b W aK _ _=>?_)
  ·refine⟨xr L,fun q' aN az hh=>?_,fun aN az hh=>by rw[an]at hh;cases hh⟩;rw[an]at hh;cases hh;simp only[if_true];rw[<-aV];exact MS Z
  ·cases j with
   |zero=>exact⟨H,xs++ys,Z,l,c,fun k x d O _ _=>by simp[O]⟩
   |succ j=>simp[XG,zR]
  ·rcases aj with aj|aj
   ·rcases G b aj with I|I
    ·exact⟨.inl I.1,fun O=>by have:=(r.e b O).2;omega,I.2⟩
    ·have X:=S b (T b I);exact⟨.inr (T b I),X.2.1,by have:=p.size;omega⟩
   ·have X:=S b aj.1;exact⟨.inr aj.1,X.2.1,by have:=p.size;omega⟩
  ·have:∀j,XG [Ob.arr true f.size rs] j≠ .none->j=0:=by
    intro j hj;cases j with
    |zero=>rfl
    |succ j=>simp[XG]at hj
   rw[this j W,this j' aK]
 cases aA with
 |none=>
  obtain⟨rfl,rfl⟩:=ax rfl;have ae:ys=[]:=List.eq_nil_of_length_eq_zero (by rw[aO];simp)
  have aT:∃aA ah,a.eval x= .slice aA m ah/\m<=ah/\(aA=none->ah=0):=by
   rcases av.2 with⟨I,X⟩|⟨g,ah,ay,I,_,_,au,_⟩
   ·exact⟨none,0,by rw[I,X],Y,fun _=>rfl⟩
   ·exact⟨_,ah,I,au,(fun hh=>by cases hh)⟩
  obtain⟨aA,ah,V,au,aC⟩:=aT;refine ai (a.eval x) w e0 ?_ (by rw[ae];simpa using av) ⟨rfl,rfl,rfl,Nat.le_refl _,fun _ _ _=>rfl⟩ (fun b J=>.inr J);rw[a6,V];exact PF t o.type _ f F hi aA m ah au aC
 |some C=>obtain⟨v',w',H,aH,L,p,G⟩:=I5 (P:=P) (w:=w) t o.type _ e0 f z F hi aW aY aQ (a.eval x) m xs av C n ah ys aO (aB C rfl) aI (by simp only[maxLen];omega) Q;refine ai v' w' H ?_ L p G;rw[a6];exact aH
theorem rM(r:ar T0 B σ a w ad h){t:TypeId}(A:o.op= .call ⟨.builtin .append,#[x,y],#[t,t]⟩)(hd:o.dst=some d)
  (aZ:am (look P σ t x)=true) (a0:am (look P σ t y)=true) (ht:Xo P t=true) (hz:Qq P (E P t)=true) (aQ:0<P.cellsOf (E P t))
  (l:dK σ (unc (look P σ t x)) (P.cellsOf (E P t)) aq l1) (n:dg σ (unc (look P σ t y)) (P.cellsOf (E P t)) al l2) (aE:(l1++l2).Nodup) (aw:(σ.YI (l1++l2)).fresh d=true)
  (Q:(aq.length+al.length)*P.bytesOf (E P t)<=140737488355328) (a2:aq.length+al.length<=9223372036854775807)
  (hK:∀a' w',zh T0 B ((σ.YI (l1++l2)).new d (.one (.O d 0 0 (aq.length+al.length))) [.arr true (P.cellsOf (E P t)) (aq++al)]) a' w'->Xl B w w'->K a' w'):o.wp P a w K af:=by
 obtain⟨f,F,hi,a5⟩:=Qc ht;obtain⟨i,z,ac,ap,aW,D,a4,aY,aV,a3⟩:=jW hz;rw[hi]at ap;cases ap;have a8:P.bytesOf (E P t)=f.bytes:=dC
 rw[a8]at Q;rw[<-aV]at l n aQ hK;have m:=r.arg (P:=P) t x rfl aZ
 have ba:=r.arg (P:=P) t y rfl a0;obtain⟨t2,j2,M,aj,g,Y,aC,ay⟩:∃t2 j2 M,unc (look P σ t y)= .one (.O t2 j2 0 M.length)/\σ.ob t2 j2= .lit f.size M/\qe σ M=some al/\xB σ M/\l2=Yp M.flatten:=by
  unfold dg at n;split at n
  ·rename_i t2 j2 lo ae heq;obtain⟨M,ho,rfl,rfl,hm,hk,rfl⟩:=n;exact⟨t2,j2,M,heq,ho,hm,hk,rfl⟩
  ·exact n.elim
 subst ay;obtain⟨an,I,O⟩:=P1 Y;have U:=Tv aC
 rw[aj]at ba;have h0:=r.obj t2 j2
 rw[g]at h0;obtain⟨e2,ys,Z,aH,N⟩:=h0;obtain⟨_,X,_⟩:=ba.2.2 _ _ g;have L:a.eval y=(h t2 j2).v:=X rfl rfl
 have bc:∀q∈al,q.length=f.size:=O _ aH;have a9:=PG r N an U (List.nodup_append.1 aE).2.1;have aM:∃e0 xs,w.ownsRow 0 e0 f.size (a.eval x) aq.length xs/\(∀q∈aq,q.length=f.size)/\zq w xs aq.flatten (fun b=>zO σ h l1 b/\blk (a.eval x)≠some b)/\(∀b,blk (a.eval x)=some b->zO σ h l1 b):=by
  unfold dK at l;split at l
  ·rename_i s heq;obtain⟨rfl,rfl⟩:=l;rw[heq]at m;have he:a.eval x= .slice none 0 0:=m
   rw[he];exact⟨0,[],World.ownsRow_nil w 0 0 _,cN,zq.nil _,(fun b J=>by cases J)⟩
  ·rename_i u j lo ae heq;obtain⟨ho,rfl,rfl,rfl⟩:=l;rw[heq]at m;have bb:Ys (ak T0 ad) h σ.ob w (.O u j 0 aq.length) (a.eval x):=m
   obtain⟨_,aG,_⟩:=bb.2.1 _ _ _ ho;have he:a.eval x=(h u j).v:=aG rfl rfl
   have h0:=r.obj u j;rw[ho]at h0;obtain⟨e,xs,av,a7,aa,hn⟩:=h0;have ao:σ.ob u j≠ .none:=bv;rw[he];exact⟨e,xs,av,a7,aa.mono (fun b J=>⟨⟨(u,j),ab,ao,J.1⟩,J.2⟩),fun b J=>⟨(u,j),ab,ao,r.c u j b ao J⟩⟩
  ·exact l.elim
 obtain⟨e0,xs,av,bf,be,T⟩:=aM;have aO:ys.length=al.length*f.size:=by rw[a9.1,XM al f.size bc]
 have aN:∀b,zO σ h l1 b->zO σ h (Yp M.flatten) b->False:=by
  rintro b ⟨p,hp,W,F⟩ ⟨R,az,aK,aL⟩;obtain⟨H,e2⟩:=r.inj p.1 p.2 R.1 R.2 b W aK F aL;have S:p=R:=Prod.ext H e2
  subst S;exact(List.nodup_append.1 aE).2.2 p hp p az rfl
 have c:∀b,zO σ h (l1++Yp M.flatten) b↔zO σ h l1 b\/zO σ h (Yp M.flatten) b:=by
  intro b;constructor
  ·rintro⟨p,hp,hr⟩;rcases List.mem_append.1 hp with hp|hp
   ·exact .inl ⟨p,hp,hr⟩
   ·exact .inr ⟨p,hp,hr⟩
  ·rintro(⟨p,hp,hr⟩|⟨p,hp,hr⟩)
   ·exact⟨p,by simp[hp],hr⟩
   ·exact⟨p,by simp[hp],hr⟩
 have aS:∀b,zO σ h (Yp M.flatten) b->blk (a.eval x)≠some b:=fun b J e=>aN b (T b e) J;have hv:∃aA ah,a.eval y= .slice aA al.length ah/\(aA=none->ah=0/\al.length=0)/\∀C,aA=some C->∀k v,ys[k]?=some v->w.cell? (C.add k)=some v:=by
  rw[L];rcases Z.2 with⟨hn1,au⟩|⟨V,cap2,cur2,aI,_,ag,hnc2,hmx2,hcs2,htk2⟩
  ·have G:al.length=0:=by rw[<-I];exact au
   exact⟨none,0,by rw[hn1,G],fun _=>⟨rfl,G⟩,fun C hh=>by cases hh⟩
  ·refine⟨_,cap2,by rw[aI,I],fun hh=>(by cases hh),fun C hh k v hk=>?_⟩;cases hh;rw[WA];refine xO ag _ _ ?_;rw[<-htk2,List.getElem?_take]at hk;split at hk
   ·simpa using hk
   ·cases hk
 obtain⟨aA,ah,a6,ax,aB⟩:=hv;refine vX (r.YI (l1++Yp M.flatten)) A hd F hi aW aY aQ aw Q a2 av (fun b J=>(c b).2 (.inl (T b J))) (r.zZ (l1++Yp M.flatten)) a6 ax aO aB
  (fun u aL=>by
   obtain⟨x',_,ai⟩:=N.mem aL;exact Ys.Qe ai) (List.length_append ..) (fun q hq=>(List.mem_append.1 hq).elim (bf q) (bc q)) ?_ hK
 rw[List.flatten_append];exact(be.append a9 (fun b aJ aD=>aN b aJ.1 aD)).mono (fun b J=>J.elim (fun J=>⟨(c b).2 (.inl J.1),J.2⟩) (fun J=>⟨(c b).2 (.inr J),aS b J⟩))
theorem zq.pick{xs:List Value}(I:zq w xs ds S){p q:Nat}(hp:p<=q)(hq:q+n<=xs.length):zq w (xs.take p++cut xs q n) (ds.take p++cut ds q n) S:=by
 obtain⟨hl,l,hk,hs,hd⟩:=I;have L:(xs.take p).length=p:=dH
 have G:(ds.take p).length=p:=dH;refine⟨by rw[List.length_append,List.length_append,L,G,Xh _ _ _ hq,Xh _ _ _ Y],fun k=>if k<p then l k else l (q+(k-p)),fun k x d O m=>?_,fun k b J=>?_,fun i j b hi hj=>?_⟩
 ·by_cases C:k<p
  ·rw[List.getElem?_append_left Y]at O m;rw[List.getElem?_take,if_pos C]at O m;simp only[if_pos C];exact hk k x d O m
  ·rw[List.getElem?_append_right Y,L]at O;rw[List.getElem?_append_right Y,G]at m;simp only[if_neg C];exact hk _ x d (xn _ _ _ _ _ O) (xn _ _ _ _ _ m)
 ·dsimp only at J;split at J<;>exact hs _ b J
 ·dsimp only at hi hj;split at hi<;>split at hj
  ·exact hd _ _ b hi hj
  ·have:=hd _ _ b hi hj;omega
  ·have:=hd _ _ b hi hj;omega
  ·have:=hd _ _ b hi hj;omega
theorem IN(M:List (List D))(Q:Nat)(hz:∀r∈M,r.length=Q)(lo n:Nat)(aF:lo+n<=M.length):(cut M lo n).flatten=cut M.flatten (lo*Q) (n*Q):=by
 have a:∀r∈M.drop lo,r.length=Q:=fun r hr=>hz r (List.mem_of_mem_drop hr);have H:(M.drop lo).flatten=M.flatten.drop (lo*Q):=by
  have I:=Wp M Q hz lo Y;have X:(M.take lo).flatten++(M.drop lo).flatten=M.flatten:=ga;have h3:(M.take lo).flatten.length=lo*Q:=by rw[XM _ Q (fun r hr=>hz r (List.mem_of_mem_take hr)),List.length_take];congr 1;omega
  rw[<-X,<-h3,List.drop_left]
 unfold cut;rw[Wp (M.drop lo) Q a n (by rw[List.length_drop];omega),H]
theorem uh(r:ar T0 B σ a w ad h){t:TypeId}(A:o.op= .call ⟨.builtin .append,#[x,y],#[t,t]⟩)(hd:o.dst=some d)
  (aZ:am (look P σ t x)=true) (a0:am (look P σ t y)=true) (ht:Xo P t=true) (hz:Qq P (E P t)=true) (aQ:0<P.cellsOf (E P t))
  (O:unc (look P σ t x)= .one (.O u j 0 ae)) (hy:unc (look P σ t y)= .one (.O u j lo n)) (ho:σ.ob u j= .arr true (P.cellsOf (E P t)) M) (aF:ae<=lo) (H:lo+n<=M.length) (aw:(σ.YI [(u,j)]).fresh d=true)
  (Q:(ae+n)*P.bytesOf (E P t)<=140737488355328) (a2:ae+n<=9223372036854775807)
  (hK:∀a' w',zh T0 B ((σ.YI [(u,j)]).new d (.one (.O d 0 0 (ae+n))) [.arr true (P.cellsOf (E P t)) (M.take ae++cut M lo n)]) a' w'->Xl B w w'->K a' w'):o.wp P a w K af:=by
 obtain⟨f,F,hi,a5⟩:=Qc ht;obtain⟨i,z,ac,ap,aW,D,a4,aY,aV,a3⟩:=jW hz;rw[hi]at ap;cases ap;have a8:P.bytesOf (E P t)=f.bytes:=dC
 rw[a8]at Q;rw[<-aV]at ho aQ hK;have m:=r.arg (P:=P) t x rfl aZ
 have ba:=r.arg (P:=P) t y rfl a0;rw[O]at m;rw[hy]at ba;have bb:Ys (ak T0 ad) h σ.ob w (.O u j 0 ae) (a.eval x):=m;have az:Ys (ak T0 ad) h σ.ob w (.O u j lo n) (a.eval y):=ba;obtain⟨_,_,aR,_⟩:=bb.2.1 _ _ _ ho;have he:a.eval x=ib (h u j).v ae:=aR rfl;obtain⟨_,_,_,aA,ah,a6,aX,V,ax,J⟩:=az.2.1 _ _ _ ho;have h0:=r.obj u j;rw[ho]at h0;obtain⟨e0,zs,N,a7,aa,hn⟩:=h0;have ao:σ.ob u j≠ .none:=bv;have an:zs.length=M.length*f.size:=N.1;have ag:ae*f.size<=lo*f.size:=Nat.mul_le_mul_right _ aF;have X:lo*f.size+n*f.size<=zs.length:=by rw[an,<-Nat.add_mul];exact Nat.mul_le_mul_right _ H
 let xs:=zs.take (ae*f.size)
 let ys:=cut zs (lo*f.size) (n*f.size)
 have av:w.ownsRow 0 e0 f.size (a.eval x) ae xs:=by rw[he];exact FN N Y
 have aO:ys.length=n*f.size:=Xh _ _ _ X;have e:blk (a.eval x)=blk (h u j).v:=by rw[he,oA]
 have aM:(M.take ae++cut M lo n).flatten=M.flatten.take (ae*f.size)++cut M.flatten (lo*f.size) (n*f.size):=by rw[List.flatten_append,Wp M f.size a7 ae Y,IN M f.size a7 lo n H]
 have a9:∀q∈M.take ae++cut M lo n,q.length=f.size:=by
  intro q hq;rcases List.mem_append.1 hq with hq|hq
  ·exact a7 q (List.mem_of_mem_take hq)
  ·exact a7 q (List.mem_of_mem_drop (List.mem_of_mem_take hq))
 have aC:(M.take ae++cut M lo n).length=ae+n:=by rw[List.length_append,List.length_take,Xh _ _ _ H];omega
 have aS:∀b,(h u j).u b->zO σ h [(u,j)] b:=fun b J=>⟨(u,j),ab,ao,J⟩;have T:∀b,blk (a.eval x)=some b->zO σ h [(u,j)] b:=fun b J=>aS b (r.c u j b ao (by rw[<-e];exact J));refine vX (r.YI [(u,j)]) (xs:=xs) (ys:=ys) A hd F hi aW aY Y aw Q a2 av T (r.zZ [(u,j)]) a6 (fun hh=>⟨ax hh,by have:=ax hh;omega⟩) aO (fun C a1 k v hv=>?_) (fun v hv=>?_) aC a9 ?_ hK
 ·have c:0<n:=by
   rcases Nat.eq_zero_or_pos n with h0|h0
   ·have hk:=(List.getElem?_eq_some_iff.1 hv).1;rw[aO,h0]at hk;simp at hk
   ·exact h0
  obtain⟨b,aE,hh,ai⟩:=J c;rw[a1]at ai;cases ai;rcases N.2 with⟨hn1,_⟩|⟨g,bd,ay,G,_,hgg,au,aP,aK,aU⟩
  ·rw[hh]at hn1;cases hn1
  ·rw[hh]at G;cases G;have I:=xn _ _ _ _ _ hv
   rw[WA];refine xO hgg _ _ ?_;rw[<-aU,List.getElem?_take]at I;split at I
   ·exact I
   ·cases I
 ·have aI:v∈zs:=List.mem_of_mem_drop (List.mem_of_mem_take hv);obtain⟨hl,l,hk,_⟩:=aa;obtain⟨k,aq⟩:=List.mem_iff_getElem?.1 aI;have aB:k<M.flatten.length:=by rw[<-hl];exact(List.getElem?_eq_some_iff.1 aq).1
  exact(hk k v _ aq (List.getElem?_eq_getElem aB)).Qe
 ·rw[aM];exact(aa.pick ag X).mono (fun b J=>⟨aS b J.1,by rw[e];exact J.2⟩)
open Go.RowKit
def C0:List At->Bool
 |[]=>true
 |.d (.sl _ _)::_=>false
 |_::xs=>C0 xs
theorem lg:∀{xs:List At},C0 xs=true->∀x∈xs,∀s r,x≠ .d (.sl s r)
 |[],_,x,O,_,_=>cW
 |y::xs,h,x,O,s,r=>by
  have X:C0 xs=true/\∀s r,y≠ .d (.sl s r):=by
   cases y with
   |d z=>cases z with
    |sl s r=>cases h
    |_=>exact⟨h,fun s r e=>by cases e⟩
   |_=>exact⟨h,fun s r e=>by cases e⟩
  rcases List.mem_cons.1 O with rfl|O
  ·exact X.2 s r
  ·exact lg X.1 x O s r
theorem vD(r:ar T0 B σ a w ad h){T:TypeId}(A:o.op= .makeSlice T x x)(hd:o.dst=some d)(aw:σ.fresh d=true)
  (ht:Xo P T=true) (hz:Qq P (E P T)=true) (D:TG P 12 (E P T)=some z) (t:zD z=some zr) (j:C0 z=true) (aQ:0<P.cellsOf (E P T)) (O:Pk P σ x k (n:Int)) (a8:P.bytesOf (E P T)*n<=281474976710656) (a2:n<=9223372036854775807)
  (hK:∀a' w',zh T0 B (σ.new d (.one (.O d 0 0 n)) [.arr true (P.cellsOf (E P T)) (List.replicate n zr)]) a' w'->Xl B w w'->K a' w'):o.wp P a w K af:=by
 obtain⟨f,F,hi,a5⟩:=Qc ht;obtain⟨i,c,ac,ap,aW,p,a4,aY,aV,a3⟩:=jW hz;rw[hi]at ap;cases ap;rw[D]at p;cases p;have V:=kW r O
 have C:(f.bytes:Int)*(n:Int)<=281474976710656:=by have:P.bytesOf (E P T)=f.bytes:=dC;rw[this]at a8;have h:((f.bytes*n:Nat):Int)<=281474976710656:=Y;rwa[Int.natCast_mul]at h
 have aH:=run_make (P:=P) w T (E P T) f c F hi aW k k n n Y (Int.le_refl _) C Y;simp only[Int.toNat_natCast]at aH;unfold Oper.wp;simp only[execOp,A,V,Sem.run_bind,aH,Result.andThen_ok,Sem.run_pure,Oper.upon_value,hd];have s:=nP t (a3 (ak T0 ad) h σ.ob w);have an:=s.length;have H:c.cells.toList.length=c.cells.size:=Array.length_toList;have l:zr.length=f.size:=Y;have g:(madeCells c.cells (n*f.size)).toList.length=n*f.size:=by rw[Array.length_toList,size_madeCells]
 have y:∀q u,(madeCells c.cells (n*f.size)).toList[q]?=some u->c.cells.toList[q%f.size]?=some u:=by
  intro q u hq;have ag:q<n*f.size:=eS
  have I:q%f.size<c.cells.size:=by rw[aY];exact Nat.mod_lt _ Y
  have:(madeCells c.cells (n*f.size)).toList[q]?=some (c.cells[q%c.cells.size]!):=by simp[madeCells,ag]
  rw[this]at hq;cases hq;rw[aY];simp[I]
 have N:zq (w.alloc (.cells (madeCells c.cells (n*f.size)) (E P T))) (madeCells c.cells (n*f.size)).toList (List.replicate n zr).flatten (fun _=>False):=by
  refine⟨by rw[g,XM _ f.size (by intro q hq;rw[List.eq_of_mem_replicate hq];exact l)];simp,fun _ _=>False,fun q u dd hq G=>?_,fun _ _ J=>J,fun _ _ _ J=>J.elim⟩;have ag:q<n*f.size:=eS
  rw[TJ zr n q (by rw[l];exact ag),l]at G;exact gr t (a3 (ak T0 ad) h σ.ob w) (lg j) _ _ _ u dd (y q u hq) G
 have:=r.ZAD aw (World.grownBy_alloc w (.cells (madeCells c.cells (n*f.size)) (E P T)) none) (.slice (some ⟨w.heap.size,0,none⟩) n n) (e:=E P T) (Q:=P.cellsOf (E P T)) (M:=List.replicate n zr) (xs:=(madeCells c.cells (n*f.size)).toList)
  ⟨by rw[g,aV];simp,.inr ⟨w.heap.size,n,_,ab,Nat.zero_le _,heap_alloc_new w _,ab,by simp only[maxLen];omega,by rw[size_madeCells,aV],by rw[List.take_of_length_le (by rw[g,aV];simp)]⟩⟩
  (by intro q hq;rw[List.eq_of_mem_replicate hq];omega) N
  (fun b J=>by simp[blk]at J;subst J;exact⟨Nat.le_refl _,ab⟩)
 rw[List.length_replicate]at this;exact hK _ _ this.1 this.2
theorem zq.place{xs:List Value}(I:zq w xs ds S)(X:zq w ys A C)(hd:∀b,S b->C b->False)(o:Nat)(ho:o+ys.length<=xs.length):zq w (Vm.place xs o ys) (Vm.place ds o A) (fun b=>S b\/C b):=by
 obtain⟨l1,l,E,G,V⟩:=I;obtain⟨l2,F,b1,b2,r⟩:=X;refine⟨by rw[QB _ _ _ ho,QB _ _ _ Y,l1],fun k=>if o<=k/\k<o+ys.length then F (k-o)else l k,fun k x d O m=>?_,fun k b J=>?_,fun i j b hi hj=>?_⟩
 ·rcases Wf xs o ys ho k x O with⟨p1,p2,p3⟩|⟨p1,p3⟩
  ·rcases Wf ds o A Y k d m with⟨_,_,p4⟩|⟨p4,_⟩
   ·simp only[p1,p2,and_self,if_true];exact b1 _ x d p3 p4
   ·exact absurd ⟨p1,Y⟩ p4
  ·rcases Wf ds o A Y k d m with⟨p4,L,_⟩|⟨_,p4⟩
   ·exact absurd ⟨p4,Y⟩ p1
   ·simp only[p1,if_false];exact E k x d p3 p4
 ·by_cases hk:o<=k/\k<o+ys.length
  ·simp only[hk,and_self,if_true]at J;exact .inr (b2 _ b J)
  ·simp only[hk,if_false]at J;exact .inl (G k b J)
 ·by_cases ap:o<=i/\i<o+ys.length
  ·simp only[ap,and_self,if_true]at hi;by_cases ay:o<=j/\j<o+ys.length
   ·simp only[ay,and_self,if_true]at hj;have:=r _ _ b hi hj;omega
   ·simp only[ay,if_false]at hj;exact(hd b (G j b hj) (b2 _ b hi)).elim
  ·simp only[ap,if_false]at hi;by_cases ay:o<=j/\j<o+ys.length
   ·simp only[ay,and_self,if_true]at hj;exact(hd b (G i b hi) (b2 _ b hj)).elim
   ·simp only[ay,if_false]at hj;exact V i j b hi hj
theorem BZ(r:ar T0 B σ a w ad h){T:TypeId}(A:o.op= .store T x y)(hd:o.dst=none)(ht:Wj P T=true)(aZ:am (look P σ 0 x)=true)(a0:am (look P σ T y)=true)
  (O:unc (look P σ 0 x)= .one (.ptr t j i c)) (ho:σ.ob t j= .arr true Q M) (hi:i<M.length) (aJ:(unc (look P σ T y)).flat=true) (S:JA σ (unc (look P σ T y)).cells=some ds) (ap:QO σ (unc (look P σ T y)).cells)
  (aE:(Yp (unc (look P σ T y)).cells).Nodup) (au:(t,j)∉Yp (unc (look P σ T y)).cells) (n:(σ.YI (Yp (unc (look P σ T y)).cells)).zX (At.isT t)=false) (hl:ds.length=P.cellsOf T) (aF:c+P.cellsOf T<=Q)
  (hK:∀a' w',zh T0 B ((σ.YI (Yp (unc (look P σ T y)).cells)).Yj t j (.arr true Q (M.set i (place (M.getD i []) c ds)))) a' w'->Xl B w w'->K a' w'):o.wp P a w K af:=by
 obtain⟨_,f,_,aD,_,_⟩:=Tq ht;have al:=r.arg (P:=P) 0 x O aZ
 obtain⟨b,ah,ay,e,xs,J,he,hh,aX,aP,aK,aU,hz,C,_,av⟩:=r.arr ho al;obtain⟨av,hn⟩:=av rfl;have hy:=SP aJ (r.arg (P:=P) T y rfl a0)
 have a9:=PG r hy S ap aE;have aO:=a9.1;have e2:(a.eval y).cells.toList.length=(a.eval y).cells.size:=Array.length_toList;have e3:ay.toList.length=ay.size:=Array.length_toList;have aA:M[i]?=some (M.getD i []):=fX;have aI:i*Q+Q<=M.length*Q:=fs;have H:M.length*Q<=ah*Q:=Nat.mul_le_mul_right _ aX;have aH:=run_store (P:=P) (w:=w) aD (o:=i*Q+c) (an:=a.eval y) hh Y Y (fun u F=>by obtain⟨x',_,ai⟩:=hy.mem F;exact Ys.Qe ai);have ao:σ.ob t j≠ .none:=bv;have aS:blk (h t j).v=some b:=by rw[J];rfl
 have hB:=r.bh ao aS;have aM:=r.c t j b ao aS;have aq:xs.length=M.length*Q:=by rw[C,XM M Q hz]
 have aV:(M.getD i []).length=Q:=hz _ (List.mem_of_getElem? aA);generalize N:Yp (unc (look P σ T y)).cells=L at*;have r1:=r.YI L;have aT:(σ.YI L).ob t j= .arr true Q M:=by rw[U.yU,if_neg au,ho]
 have aR:=r.zZ L;have aN:∀b',(h t j).u b'->zO σ h L b'->False:=by rintro b' aL ⟨p,hp,W,aQ⟩;obtain⟨q1,q2⟩:=r.inj t j p.1 p.2 b' ao W aL aQ;exact au (by rw[q1,q2];exact hp)
 unfold Oper.wp;simp only[execOp,A,he,Sem.run_bind,aH,Result.andThen_ok,Sem.run_pure,Oper.upon_skip,hd];refine hK _ _ ⟨ad,_,r1.change (by rw[aT];simp) (by simp[World.setRow]) (fun k hk=>setRow_other w b k _ (fun e=>hk (e▸aM))) (zO σ h L) (fun b' aj=>aR b' aj) _ (by rw[aT];simp[Ob.gz])
  ⟨(h t j).v,fun k=>((place xs (i*Q+c) (a.eval y).cells.toList)[k]?).getD undef,fun b'=>(h t j).u b'\/zO σ h L b'⟩ rfl (fun b' aj=>aj) (fun b' aj=>.inl (r.c t j b' ao aj)) (At.isT t) n (.inl (fun u i c=>by simp[At.isT])) ?_⟩ (Xl.setRow hB.1 _)
 have ae:=setRow_heap w b ay (place ay.toList (i*Q+c) (a.eval y).cells.toList).toArray e (0,0) hh;have ab:∀b',b'≠b->(w.setRow b (place ay.toList (i*Q+c) (a.eval y).cells.toList).toArray).heap[b']?=w.heap[b']?:=fun b' W=>setRow_other w b b' _ W;have ac:∀r∈M.set i (place (M.getD i []) c ds),r.length=Q:=by
  intro r' ax;rcases List.mem_or_eq_of_mem_set ax with ax|ax
  ·exact hz r' ax
  ·rw[ax,QB _ _ _ Y,aV]
 refine⟨e,place xs (i*Q+c) (a.eval y).cells.toList,⟨?_,.inr ⟨b,ah,_,by simpa using J,Nat.zero_le _,ae,by simpa using aX,aP,?_,?_⟩⟩,ac,?_,fun k u d F _ _=>by simp[F]⟩
 ·rw[QB _ _ _ Y,aq];simp
 ·simp only[List.size_toArray];rw[QB _ _ _ Y,e3,aK]
 ·simp only[List.length_set];rw[G8 _ _ _ _ Y Y,aU]
 ·rw[qD Q c ds Y M i _ aA hz];have k1:zq (w.setRow b (place ay.toList (i*Q+c) (a.eval y).cells.toList).toArray) xs M.flatten (fun b=>(h t j).u b/\blk (h t j).v≠some b):=av.Gi (fun b' aj=>ab b' (fun e=>aj.2 (by rw[e];exact aS)))
  have k2:zq (w.setRow b (place ay.toList (i*Q+c) (a.eval y).cells.toList).toArray) (a.eval y).cells.toList ds (zO σ h L):=a9.Gi (fun b' aj=>ab b' (fun e=>aN b' (by rw[e];exact aM) aj));refine(k1.place k2 (fun b' I X=>aN b' I.1 X) _ Y).mono (fun b' aj=>?_);rcases aj with aj|aj
  ·exact⟨.inl aj.1,aj.2⟩
  ·exact⟨.inr aj,fun e=>aN b' (r.c t j b' ao e) aj⟩
theorem aZ.cp{A:Nat->Prop}(aw:aZ w v (.sl n s) S){k q:Nat}(hk:k<s.length)(hy:zq w ys ds A)(aF:q+ds.length<=n)(hd:∀b,S b->A b->False):
  ∃g ah ay e,v= .slice (some ⟨g,0,none⟩) s.length ah/\S g/\w.heap[g]?=some (.cells ay e (0,0))/\k*n+q+ys.length<=ay.size/\aZ (w.setRow g (place ay.toList (k*n+q) ys).toArray) v (.sl n (s.set k (place (s.getD k []) q ds))) (fun b=>S b\/A b):=by
 cases aw with
 |sl v Q M S e xs l ho hz J hl aq hs m=>
  have aO:=hy.1;obtain⟨C,⟨_,h0⟩|⟨g,ah,ay,hv,aG,hh,aX,aP,aK,aU⟩⟩:=ho
  ·omega
  have Z:S g:=J g (by rw[hv];rfl);have aA:s[k]?=some (s.getD k []):=by simp[List.getD_eq_getElem?_getD,List.getElem?_eq_getElem hk]
  have aI:k*n+n<=s.length*n:=by rw[<-Nat.succ_mul];exact Nat.mul_le_mul_right _ hk
  have H:s.length*n<=ah*n:=Nat.mul_le_mul_right _ aX;have e3:ay.toList.length=ay.size:=Array.length_toList;have aV:(s.getD k []).length=n:=hz _ (List.mem_of_getElem? aA);refine⟨g,ah,ay,e,hv,Z,hh,Y,?_⟩;have ae:=setRow_heap w g ay (place ay.toList (k*n+q) ys).toArray e (0,0) hh;have ab:∀b',b'≠g->(w.setRow g (place ay.toList (k*n+q) ys).toArray).heap[b']?=w.heap[b']?:=fun b' W=>setRow_other w g b' _ W;have ac:∀r∈s.set k (place (s.getD k []) q ds),r.length=n:=by
   intro r' ax;rcases List.mem_or_eq_of_mem_set ax with ax|ax
   ·exact hz r' ax
   ·rw[ax,QB _ _ _ Y,aV]
  have aS:blk v=some g:=by rw[hv];rfl
  have k1:zq (w.setRow g (place ay.toList (k*n+q) ys).toArray) xs s.flatten (fun b=>S b/\blk v≠some b):=
   zq.Gi (fun b' aj=>ab b' (fun e=>aj.2 (by rw[e];exact aS))) (show zq w xs s.flatten (fun b=>S b/\blk v≠some b)from⟨hl,l,aq,fun k b J=>hs k b J,m⟩)
  have k2:zq (w.setRow g (place ay.toList (k*n+q) ys).toArray) ys ds A:=hy.Gi (fun b' aj=>ab b' (fun e=>hd b' (by rw[e];exact Z) aj));have k3:=k1.place k2 (fun b' I X=>hd b' I.1 X) (k*n+q) (by rw[C];omega);rw[<-qD n q ds Y s k _ aA hz]at k3;obtain⟨L,F,E,G,V⟩:=k3;refine .sl v n _ _ e (place xs (k*n+q) ys) F ⟨?_,.inr ⟨g,ah,_,by simpa using hv,aG,ae,by simpa using aX,aP,?_,?_⟩⟩ ac (fun b' aj=>.inl (J b' aj)) L E (fun k b aj=>?_) V
  ·rw[QB _ _ _ (by rw[C];omega),C];simp
  ·simp only[List.size_toArray];rw[QB _ _ _ Y,e3,aK]
  ·simp only[List.length_set];rw[G8 _ _ _ _ Y Y,aU]
  ·rcases G k b aj with I|I
   ·exact⟨.inl I.1,I.2⟩
   ·exact⟨.inr I,fun e=>hd b (J b e) I⟩
theorem Bq(r:ar T0 B σ a w ad h){T:TypeId}(A:o.op= .store T x y)(hd:o.dst=none)(ht:Wj P T=true)(aZ:am (look P σ 0 x)=true)(a0:am (look P σ T y)=true)
  {k q:Nat} (O:unc (look P σ 0 x)= .one (.ac t j i c (some (k*n+q)))) (ho:σ.ob t j= .arr true Q M) (hi:i<M.length) (aB:(M.getD i [])[c]?=some (.sl n s)) (hk:k<s.length)
  (aJ:(unc (look P σ T y)).flat=true) (S:JA σ (unc (look P σ T y)).cells=some ds) (ap:QO σ (unc (look P σ T y)).cells)
  (aE:(Yp (unc (look P σ T y)).cells).Nodup) (au:(t,j)∉Yp (unc (look P σ T y)).cells) (hl:ds.length=P.cellsOf T) (aF:q+P.cellsOf T<=n)
  (hK:∀a' w',zh T0 B ((σ.YI (Yp (unc (look P σ T y)).cells)).Yj t j (.arr true Q (M.set i (place (M.getD i []) c [.sl n (s.set k (place (s.getD k []) q ds))])))) a' w'->Xl B w w'->K a' w'):o.wp P a w K af:=by
 obtain⟨_,f,_,aD,_,_⟩:=Tq ht;have ao:σ.ob t j≠ .none:=bv
 have h0:=r.obj t j;rw[ho]at h0;obtain⟨e,vs,aw,hz,⟨aa,l,o1,V,o3⟩,hn⟩:=h0;have aA:M[i]?=some (M.getD i []):=fX;have aM:M.flatten[i*Q+c]?=some (.sl n s):=WB M Q hz i _ aA c _ aB;have ag:i*Q+c<vs.length:=by rw[aa];exact(List.getElem?_eq_some_iff.1 aM).1
 have m:vs[i*Q+c]?=some vs[i*Q+c]:=List.getElem?_eq_getElem ag;have ae:=hn _ _ _ m aM rfl;have av:=o1 _ _ _ m aM;have hy:=SP aJ (r.arg (P:=P) T y rfl a0);have a9:=PG r hy S ap aE;have aO:=a9.1;have e2:(a.eval y).cells.toList.length=(a.eval y).cells.size:=Array.length_toList;generalize N:Yp (unc (look P σ T y)).cells=L at*;have aN:∀b',(h t j).u b'->zO σ h L b'->False:=by rintro b' aL ⟨p,hp,W,aQ⟩;obtain⟨q1,q2⟩:=r.inj t j p.1 p.2 b' ao W aL aQ;exact au (by rw[q1,q2];exact hp)
 have C:∀b,l (i*Q+c) b->(h t j).u b:=fun b J=>(V _ b J).1;obtain⟨g,ah,ay,H,hv,Z,hh,aI,a1⟩:=av.cp (q:=q) hk a9 Y (fun b I X=>aN b (C b I) X);have al:=r.arg (P:=P) 0 x O aZ;have he:a.eval x= .pointer (some ⟨g,k*n+q,none⟩):=by obtain⟨b,n',bd,I,X⟩:=al.2 Q M ho;rw[ae,hv]at I;cases I;exact X
 have aH:=run_store (P:=P) (w:=w) aD (o:=k*n+q) (an:=a.eval y) hh Y Y (fun u F=>by obtain⟨x',_,ai⟩:=hy.mem F;exact Ys.Qe ai);have d:=r.own t j g ao (C g Z);have r1:=r.YI L;have aT:(σ.YI L).ob t j= .arr true Q M:=by rw[U.yU,if_neg au,ho]
 have aR:=r.zZ L;have aK:c+1<=Q:=by have I:=(List.getElem?_eq_some_iff.1 aB).1;have X:=hz _ (List.mem_of_getElem? aA);omega
 have E:=qD Q c [D.sl n (s.set k (place (s.getD k []) q ds))] (by simpa using aK) M i _ aA hz;have aC:i*Q+c+[D.sl n (s.set k (place (s.getD k []) q ds))].length<=M.flatten.length:=by rw[<-aa];simp;omega
 have aV:(M.getD i []).length=Q:=hz _ (List.mem_of_getElem? aA);have ac:∀r∈M.set i (place (M.getD i []) c [D.sl n (s.set k (place (s.getD k []) q ds))]),r.length=Q:=by
  intro r' ax;rcases List.mem_or_eq_of_mem_set ax with ax|ax
  ·exact hz r' ax
  ·rw[ax,QB _ _ _ (by rw[aV];simpa using aK),aV]
 have ab:∀b',b'≠g->(w.setRow g (place ay.toList (k*n+q) (a.eval y).cells.toList).toArray).heap[b']?=w.heap[b']?:=fun b' W=>setRow_other w g b' _ W;have aS:∀b,blk (h t j).v=some b->(w.setRow g (place ay.toList (k*n+q) (a.eval y).cells.toList).toArray).heap[b]?=w.heap[b]?:=fun b J=>ab b (fun e=>(V _ g Z).2 (by rw[<-e];exact J));unfold Oper.wp;simp only[execOp,A,he,Sem.run_bind,aH,Result.andThen_ok,Sem.run_pure,Oper.upon_skip,hd];refine hK _ _ ⟨ad,_,r1.change (by rw[aT];simp) (by simp[World.setRow]) (fun k' aq=>ab k' (fun e=>aq (e▸C g Z))) (zO σ h L) (fun b' aj=>aR b' aj) _ (by rw[aT];simp[Ob.gz])
  ⟨(h t j).v,(h t j).n,fun b'=>(h t j).u b'\/zO σ h L b'⟩ rfl (fun b' aj=>aj) (fun b' aj=>.inl (r.c t j b' ao aj)) (fun _=>false) (U.kd _) (.inr rfl) ?_⟩ (Xl.setRow d.1 _)
 refine⟨e,vs,by rw[List.length_set];exact j8 aS aw,ac,⟨?_,fun k'=>if k'=i*Q+c then(fun b=>l (i*Q+c) b\/zO σ h L b)else l k',fun k' x dd O G=>?_,fun k' b J=>?_,fun R q' b hp hq=>?_⟩,fun k' x dd O G aG=>?_⟩
 ·rw[E,QB _ _ _ aC,aa]
 ·rw[E]at G;rcases Wf _ _ _ aC k' dd G with⟨k1,k2,k3⟩|⟨k1,k3⟩
  ·have aq:k'=i*Q+c:=by simp at k2;omega
   subst aq;rw[m]at O;cases O;simp at k3;subst k3;simp only[if_true];exact a1
  ·have aq:¬k'=i*Q+c:=fun aq=>k1 ⟨Y,by simp;omega⟩;simp only[aq,if_false];exact(o1 k' x dd O k3).Gi (fun b J=>ab b (fun e=>aq (o3 k' _ b J (by rw[e];exact Z))))
 ·by_cases aq:k'=i*Q+c
  ·simp only[aq,if_true]at J;rcases J with J|J
   ·exact⟨.inl (V _ b J).1,(V _ b J).2⟩
   ·exact⟨.inr J,fun e=>aN b (r.c t j b ao e) J⟩
  ·simp only[aq,if_false]at J;exact⟨.inl (V k' b J).1,(V k' b J).2⟩
 ·by_cases az:R=i*Q+c
  ·by_cases z:q'=i*Q+c
   ·rw[az,z]
   ·simp only[az,if_true]at hp;simp only[z,if_false]at hq;rcases hp with hp|hp
    ·rw[az];exact(o3 _ _ b hp hq)
    ·exact(aN b (V q' b hq).1 hp).elim
  ·simp only[az,if_false]at hp;by_cases z:q'=i*Q+c
   ·simp only[z,if_true]at hq;rcases hq with hq|hq
    ·rw[z];exact(o3 _ _ b hp hq)
    ·exact(aN b (V R b hp).1 hq).elim
   ·simp only[z,if_false]at hq;exact o3 R q' b hp hq
 ·rw[E]at G;rcases Wf _ _ _ aC k' dd G with⟨k1,k2,k3⟩|⟨k1,k3⟩
  ·have aq:k'=i*Q+c:=by simp at k2;omega
   subst aq;rw[m]at O;cases O;exact ae
  ·exact hn k' x dd O k3 aG
theorem I9{α β:Type}(f:α->β)(l:List α)(k:Nat):cut (l.map f) k (l.length-k)=(l.drop k).map f:=by unfold cut;rw[<-List.map_drop,<-List.map_take,List.take_of_length_le (by rw[List.length_drop];exact Nat.le_refl _)]
def hol:D->D
 |.sl _ _=>.unk
 |d=>d
def K6(M:List (List D))(lo n:Nat):List (List D):=M.take lo++(cut M lo n).map (fun r=>r.map hol)++M.drop (lo+n)
theorem ku(h:lo+n<=M.length):(K6 M lo n).length=M.length:=by simp only[K6,List.length_append,List.length_map,List.length_take,List.length_drop,Xh _ _ _ h];omega
theorem Cy{E n':Nat}(h:lo+n<=M.length)(h':lo+n<=E):cut (K6 M lo n) E n'=cut M E n':=by
 unfold cut;congr 1;have hl:(M.take lo++(cut M lo n).map (fun r=>r.map hol)).length=lo+n:=by simp only[List.length_append,List.length_map,List.length_take,Xh _ _ _ h];omega
 unfold K6;rw[List.drop_append,List.drop_eq_nil_of_le Y,hl,List.drop_drop,List.nil_append];congr 1;omega
theorem aZ.aT{d:D}(hs:d.scalar=true)(ho:aZ w v d S):aZ w v d C:=by
 cases ho with
 |int k n=>exact .int _ _ _
 |bool b=>exact .bool _ _
 |str s=>exact .str _ _
 |unk v h=>exact .unk _ h _
 |sl=>cases hs
theorem aZ.hol{d:D}(ho:aZ w v d S):aZ w v (Vm.hol d) C:=by
 cases d with
 |sl s r=>exact .unk _ ho.Qe _
 |int k n=>exact ho.aT rfl
 |bool b=>exact ho.aT rfl
 |str s=>exact ho.aT rfl
 |unk=>exact ho.aT rfl
theorem vz(d:D):(hol d).scalar=true:=by cases d<;>rfl
theorem Cd(hz:∀r∈M,r.length=Q)(aF:lo+n<=M.length){k:Nat}{d:D}(hd:(K6 M lo n).flatten[k]?=some d):
  (lo*Q<=k/\k<lo*Q+n*Q/\∃d',M.flatten[k]?=some d'/\d=hol d')\/(¬(lo*Q<=k/\k<lo*Q+n*Q)/\M.flatten[k]?=some d):=by
 have aJ:M.flatten.length=M.length*Q:=XM M Q hz;have hm:lo*Q+n*Q<=M.length*Q:=fo;have H:(M.take lo).flatten=M.flatten.take (lo*Q):=Wp M Q hz lo Y;have e2:((cut M lo n).map (fun r=>r.map hol)).flatten=(cut M.flatten (lo*Q) (n*Q)).map hol:=by rw[<-IN M Q hz lo n aF,List.map_flatten]
 have l1:((M.take lo).flatten).length=lo*Q:=by rw[H,List.length_take];omega
 have l2:(((cut M lo n).map (fun r=>r.map hol)).flatten).length=n*Q:=by rw[e2,List.length_map,Xh _ _ _ Y]
 unfold K6 at hd;rw[List.flatten_append,List.flatten_append]at hd;by_cases I:k<lo*Q+n*Q
 ·rw[List.getElem?_append_left (by rw[List.length_append,l1,l2];exact I)]at hd;by_cases h0:k<lo*Q
  ·rw[List.getElem?_append_left (by rw[l1];exact h0),H,List.getElem?_take,if_pos h0]at hd;exact .inr ⟨Y,hd⟩
  ·rw[List.getElem?_append_right (by rw[l1];omega),l1,e2,List.getElem?_map]at hd;cases Z:(cut M.flatten (lo*Q) (n*Q))[k-lo*Q]? with
   |none=>rw[Z]at hd;cases hd
   |some d'=>
    rw[Z]at hd;have:=xn _ _ _ _ _ Z
    rw[show lo*Q+(k-lo*Q)=k by omega]at this;exact .inl ⟨Y,I,d',this,(by cases hd;rfl)⟩
 ·rw[List.getElem?_append_right (by rw[List.length_append,l1,l2];omega),List.length_append,l1,l2]at hd;have e3:(M.drop (lo+n)).flatten=M.flatten.drop (lo*Q+n*Q):=by
   have X:(M.take (lo+n)).flatten++(M.drop (lo+n)).flatten=M.flatten:=ga;have h3:(M.take (lo+n)).flatten.length=lo*Q+n*Q:=by rw[Wp M Q hz (lo+n) aF,List.length_take,Nat.add_mul];omega
   rw[<-X,<-h3,List.drop_left]
  rw[e3,List.getElem?_drop,show lo*Q+n*Q+(k-(lo*Q+n*Q))=k by omega]at hd;exact .inr ⟨Y,hd⟩
theorem ar.aO(r:ar T0 B σ a w ad h)(ho:σ.ob u j= .arr true Q M)(aF:lo+n<=M.length):
  ∃(h':Nat->Nat->Hd)(al:Nat->Prop)(e:TypeId)(zs:List Value),ar T0 B (σ.Yj u j (.arr true Q (K6 M lo n))) a w ad h'/\
   (∀b,al b->¬B b/\¬ad b/\b<w.heap.size/\∀t i,(σ.Yj u j (.arr true Q (K6 M lo n))).ob t i≠ .none->¬(h' t i).u b)/\(∀t i,(h' t i).v=(h t i).v)/\
   w.ownsRow 0 e Q (h u j).v M.length zs/\(∀q∈M,q.length=Q)/\zq w (cut zs (lo*Q) (n*Q)) (cut M lo n).flatten al/\(∀v∈zs,v.oneCell'=true):=by
 have ao:σ.ob u j≠ .none:=bv;have h0:=r.obj u j;rw[ho]at h0;obtain⟨e,zs,aw,hz,⟨aa,l,o1,V,o3⟩,hn⟩:=h0;have aJ:M.flatten.length=M.length*Q:=XM M Q hz;have hm:lo*Q+n*Q<=M.length*Q:=fo;let al:Nat->Prop:=fun b=>∃k,lo*Q<=k/\k<lo*Q+n*Q/\l k b
 let m:Hd:=⟨(h u j).v,(h u j).n,fun b=>(h u j).u b/\¬al b⟩
 have A:∀b,al b->(h u j).u b/\blk (h u j).v≠some b:=fun b ⟨k,_,_,hk⟩=>V k b hk;have ac:∀q∈K6 M lo n,q.length=Q:=by
  intro q hq;simp only[K6,List.mem_append,List.mem_map]at hq;rcases hq with(hq|⟨q',hq,rfl⟩)|hq
  ·exact hz q (List.mem_of_mem_take hq)
  ·rw[List.length_map];exact hz q' (List.mem_of_mem_drop (List.mem_of_mem_take hq))
  ·exact hz q (List.mem_of_mem_drop hq)
 have hr:=r.change (w':=w) ao rfl (fun _ _=>rfl) (fun _=>False) (fun _ hh=>hh.elim) (.arr true Q (K6 M lo n)) (by rw[ho];exact⟨rfl,rfl,(ku aF).symm⟩) m rfl (fun b J=>.inl J.1)
  (fun b J=>⟨r.c u j b ao J,fun aj=>(A b aj).2 J⟩) (fun _=>false) (U.kd σ) (.inr rfl) (by
   refine⟨e,zs,by rw[ku aF];exact aw,ac,⟨?_,fun k=>if lo*Q<=k/\k<lo*Q+n*Q then(fun _=>False)else l k,fun k x d O hd=>?_,fun k b J=>?_,fun k k' b J aj=>?_⟩,fun k x d O hd aG=>?_⟩
   ·rw[aa,XM _ Q ac,ku aF,aJ]
   ·rcases Cd hz aF hd with⟨I,X,d',h3,rfl⟩|⟨I,X⟩
    ·exact(o1 k x d' O h3).hol
    ·simp only[I,if_false];exact o1 k x d O X
   ·dsimp only at J;split at J
    ·exact J.elim
    ·rename_i hk;refine⟨⟨(V k b J).1,fun⟨k',I,X,h3⟩=>?_⟩,(V k b J).2⟩;have:=o3 k k' b J h3
     subst this;exact hk ⟨I,X⟩
   ·dsimp only at J aj;split at J
    ·exact J.elim
    ·split at aj
     ·exact aj.elim
     ·exact o3 k k' b J aj
   ·rcases Cd hz aF hd with⟨I,X,d',h3,rfl⟩|⟨I,X⟩
    ·rw[vz]at aG;cases aG
    ·exact hn k x d O X aG)
 have C:(cut M lo n).flatten=cut M.flatten (lo*Q) (n*Q):=IN M Q hz lo n aF;refine⟨_,al,e,zs,hr,fun b J=>?_,fun t i=>?_,aw,hz,?_,fun v hv=>?_⟩
 ·have I:=r.own u j b ao (A b J).1;refine⟨I.1,I.2.1,I.2.2,fun t i W aj=>?_⟩;split at aj
  ·exact aj.2 J
  ·rename_i Z;have aK:σ.ob t i≠ .none:=by rw[U.Kg σ u j _ t i ao,if_neg Z]at W;exact W
   exact Z (r.inj t i u j b aK ao aj (A b J).1)
 ·split
  ·rename_i Z;rw[Z.1,Z.2]
  ·rfl
 ·rw[C];have R:(cut zs (lo*Q) (n*Q)).length=n*Q:=Xh _ _ _ (by rw[aa,aJ];exact hm)
  refine⟨by rw[R,Xh _ _ _ (by rw[aJ];exact hm)],fun k b=>k<n*Q/\l (lo*Q+k) b,fun k x d O hd=>?_,fun k b J=>⟨lo*Q+k,Y,Y,J.2⟩,fun i k b hi hk=>by have:=o3 _ _ b hi.2 hk.2;omega⟩;have hk:k<n*Q:=by rw[<-R];exact(List.getElem?_eq_some_iff.1 O).1
  exact(o1 _ x d (xn _ _ _ _ _ O) (xn _ _ _ _ _ hd)).mono (fun b J=>⟨hk,J⟩)
 ·obtain⟨k,hk⟩:=List.mem_iff_getElem?.1 hv;have ag:k<M.flatten.length:=by rw[<-aa];exact(List.getElem?_eq_some_iff.1 hk).1
  exact(o1 k v _ hk (List.getElem?_eq_getElem ag)).Qe
def l4(σ:U)(x:V)(Q:Nat)(aq:List (List D))(l:List (Nat×Nat)):Prop:=
 match x with
 |.one (.nil _)=>aq=[]/\l=[]
 |.one (.O t j lo ae)=>lo=0/\ae=aq.length/\l=[(t,j)]/\(σ.ob t j= .arr true Q aq\/(σ.ob t j= .lit Q []/\aq=[]))
 |_=>False
theorem tk(r:ar T0 B σ a w ad h){t:TypeId}(A:o.op= .call ⟨.builtin .append,#[x,y],#[t,t]⟩)(hd:o.dst=some d)
  (aZ:am (look P σ t x)=true) (a0:am (look P σ t y)=true) (ht:Xo P t=true) (hz:Qq P (E P t)=true) (aQ:0<P.cellsOf (E P t))
  (l:l4 σ (unc (look P σ t x)) (P.cellsOf (E P t)) aq l1) (hy:unc (look P σ t y)= .one (.O u j lo n)) (ho:σ.ob u j= .arr true (P.cellsOf (E P t)) M) (aF:lo+n<=M.length) (aj:(u,j)∉l1)
  (aw:((σ.Yj u j (.arr true (P.cellsOf (E P t)) (K6 M lo n))).YI l1).fresh d=true)
  (Q:(aq.length+n)*P.bytesOf (E P t)<=140737488355328) (a2:aq.length+n<=9223372036854775807)
  (hK:∀a' w',zh T0 B (((σ.Yj u j (.arr true (P.cellsOf (E P t)) (K6 M lo n))).YI l1).new d (.one (.O d 0 0 (aq.length+n))) [.arr true (P.cellsOf (E P t)) (aq++cut M lo n)]) a' w'->Xl B w w'->K a' w'):o.wp P a w K af:=by
 obtain⟨f,F,hi,a5⟩:=Qc ht;obtain⟨i,z,ac,ap,aW,D,a4,aY,aV,a3⟩:=jW hz;rw[hi]at ap;cases ap;have a8:P.bytesOf (E P t)=f.bytes:=dC
 rw[a8]at Q;rw[<-aV]at ho aQ hK aw l;have m:=r.arg (P:=P) t x rfl aZ
 have ba:=r.arg (P:=P) t y rfl a0;rw[hy]at ba;have az:Ys (ak T0 ad) h σ.ob w (.O u j lo n) (a.eval y):=ba;obtain⟨_,_,_,aA,ah,a6,aX,V,ax,J⟩:=az.2.1 _ _ _ ho;obtain⟨h',al,e0,zs,r0,hM,G,aB,a7,a9,aI⟩:=r.aO ho aF;have ao:σ.ob u j≠ .none:=bv;generalize bg:σ.Yj u j (.arr true f.size (K6 M lo n))=σ1 at*;have aT:∀t' i',¬(t'=u/\i'=j)->σ1.ob t' i'=σ.ob t' i':=fun t' i' W=>by rw[<-bg,U.Kg σ u j _ t' i' ao,if_neg W]
 have an:zs.length=M.length*f.size:=aB.1;have X:lo*f.size+n*f.size<=zs.length:=by rw[an,<-Nat.add_mul];exact Nat.mul_le_mul_right _ aF
 generalize ae:cut zs (lo*f.size) (n*f.size)=ys at*;have aO:ys.length=n*f.size:=by rw[<-ae];exact Xh _ _ _ X
 have R:(cut M lo n).length=n:=Xh _ _ _ aF;have bc:∀q∈cut M lo n,q.length=f.size:=fun q hq=>a7 q (List.mem_of_mem_drop (List.mem_of_mem_take hq));have aM:∃H xs,w.ownsRow 0 H f.size (a.eval x) aq.length xs/\(∀q∈aq,q.length=f.size)/\zq w xs aq.flatten (fun b=>zO σ1 h' l1 b/\blk (a.eval x)≠some b)/\(∀b,blk (a.eval x)=some b->zO σ1 h' l1 b):=by
  unfold l4 at l;split at l
  ·rename_i s heq;obtain⟨rfl,rfl⟩:=l;rw[heq]at m;have he:a.eval x= .slice none 0 0:=m
   rw[he];exact⟨0,[],World.ownsRow_nil w 0 0 _,cN,zq.nil _,(fun b J=>by cases J)⟩
  ·rename_i L j2 bh aC heq;obtain⟨rfl,rfl,rfl,ag⟩:=l;rw[heq]at m;have bb:Ys (ak T0 ad) h σ.ob w (.O L j2 0 aq.length) (a.eval x):=m
   have W:¬(L=u/\j2=j):=fun Z=>aj (by rw[Z.1,Z.2];simp);have h0:=r0.obj L j2;rw[aT L j2 W]at h0;rcases ag with ag|⟨ag,rfl⟩
   ·obtain⟨_,aG,_⟩:=bb.2.1 _ _ _ ag;have he:a.eval x=(h' L j2).v:=by rw[G];exact aG rfl rfl
    rw[ag]at h0;obtain⟨e,xs,av,aH,aa,hn⟩:=h0;have O:σ1.ob L j2≠ .none:=by rw[aT L j2 W,ag];simp
    rw[he];exact⟨e,xs,av,aH,aa.mono (fun b J=>⟨⟨(L,j2),ab,O,J.1⟩,J.2⟩),fun b J=>⟨(L,j2),ab,O,r0.c L j2 b O J⟩⟩
   ·obtain⟨_,aG,_⟩:=bb.2.2 _ _ ag;have he:a.eval x=(h' L j2).v:=by rw[G];exact aG rfl rfl
    rw[ag]at h0;obtain⟨e,xs,av,aH,aa⟩:=h0;have O:σ1.ob L j2≠ .none:=by rw[aT L j2 W,ag];simp
    have bi:xs=[]:=by cases aa;rfl
    subst bi;rw[he];exact⟨e,[],av,cN,zq.nil _,fun b J=>⟨(L,j2),ab,O,r0.c L j2 b O J⟩⟩
  ·exact l.elim
 obtain⟨H,xs,av,bf,be,T⟩:=aM;have aN:∀b,zO σ1 h' l1 b->al b->False:=by rintro b ⟨p,hp,W,aL⟩ J;exact(hM b J).2.2.2 p.1 p.2 W aL
 have aR:=r0.zZ l1;let N:Nat->Prop:=fun b=>zO σ1 h' l1 b\/al b
 have S:∀b,N b->¬B b/\¬ad b/\b<w.heap.size/\∀u' i',(σ1.YI l1).ob u' i'≠ .none->¬(h' u' i').u b:=by
  rintro b (J|J)
  ·exact aR b J
  ·obtain⟨q1,q2,q3,q4⟩:=hM b J;refine⟨q1,q2,q3,fun u' i' W=>q4 u' i' ?_⟩;rw[U.yU]at W;split at W
   ·exact absurd rfl W
   ·exact W
 have aS:∀b,al b->blk (a.eval x)≠some b:=fun b J e=>aN b (T b e) J;refine vX (r0.YI l1) (N:=N) (ys:=ys) A hd F hi aW aY Y aw Q a2 av (fun b J=>.inl (T b J)) S a6 (fun hh=>⟨ax hh,by have:=ax hh;omega⟩) aO (fun C a1 k v hv=>?_) (fun v hv=>aI v (by rw[<-ae]at hv;exact List.mem_of_mem_drop (List.mem_of_mem_take hv))) (by rw[List.length_append,R]) (fun q hq=>(List.mem_append.1 hq).elim (bf q) (bc q)) ?_ hK
 ·have c:0<n:=by
   rcases Nat.eq_zero_or_pos n with h0|h0
   ·have hk:=(List.getElem?_eq_some_iff.1 hv).1;rw[aO,h0]at hk;simp at hk
   ·exact h0
  obtain⟨b,aE,hh,ai⟩:=J c;rw[a1]at ai;cases ai;rcases aB.2 with⟨hn1,_⟩|⟨g,bd,ay,G,_,hgg,au,aP,aK,aU⟩
  ·rw[hh]at hn1;cases hn1
  ·rw[hh]at G;cases G;rw[<-ae]at hv;have I:=xn _ _ _ _ _ hv
   rw[WA];refine xO hgg _ _ ?_;rw[<-aU,List.getElem?_take]at I;split at I
   ·exact I
   ·cases I
 ·rw[List.flatten_append];exact(be.append a9 (fun b aJ aD=>aN b aJ.1 aD)).mono (fun b J=>J.elim (fun J=>⟨.inl J.1,J.2⟩) (fun J=>⟨.inr J,aS b J⟩))
def hR(w:World)(H:List (List D))(e:Ending)(w':World):Prop:=
 ∃(vs:List Value)(E:List (List Value)),e= .returned (wa vs)/\Below w.heap.size w w'/\Yn yg vs E/\Yn (fun(C:List Value)(ac:List D)=>C.length=ac.length) E H/\
  zq w' E.flatten H.flatten (fun b=>w.heap.size<=b/\b<w'.heap.size)
def YJ(P:Program)(f:FuncId)(ax H:List (List D)):Prop:=
 R7 P f=true/\∀(T:CS)(w:World)(au:List Value),(∀b k,T b k->b<w.heap.size)->Yn (fun v ac=>∃C,yg v C/\Yn (Rd T w) C ac) au ax->Calls P f au.toArray w (hR w H)
theorem T9{α β:Type}{R:α->β->Prop}:∀{E:List (List α)}{H:List (List β)},Yn (fun(C:List α)(ac:List β)=>C.length=ac.length) E H->(∀(k:Nat)(x:α)(d:β),E.flatten[k]?=some x->H.flatten[k]?=some d->R x d)->Yn (fun C ac=>Yn R C ac) E H:=by
 intro E H aa;induction aa with
 |nil=>intro _;exact .nil
 |@cons C ac E H hl _ ih=>
  intro hk;refine .cons (Yn.ka hl (fun k x d O hd=>hk k x d ?_ ?_)) (ih (fun k x d O hd=>hk (C.length+k) x d ?_ ?_))
  ·rw[List.flatten_cons,List.getElem?_append_left (List.getElem?_eq_some_iff.1 O).1];exact O
  ·rw[List.flatten_cons,List.getElem?_append_left (List.getElem?_eq_some_iff.1 hd).1];exact hd
  ·rw[List.flatten_cons,List.getElem?_append_right Y];simpa using O
  ·rw[List.flatten_cons,List.getElem?_append_right Y,hl];simpa using hd
theorem YJ.rd{ax:List (List D)}(hs:YJ P f ax H):JT P f false ax H:=by refine⟨hs.1,fun T w au hT ha=>(hs.2 T w au hT ha).mono ?_⟩;rintro e w' ⟨vs,E,he,J,hf,hl,⟨_,l,I,X,h3⟩⟩;refine⟨vs,E,fun b=>w.heap.size<=b/\b<w'.heap.size,he,J,fun b J=>J,hf,T9 hl (fun k x d O hd=>?_),fun hh=>by cases hh⟩;simp only[U6,Bool.false_eq_true,if_false];exact(I k x d O hd).rd (fun b k' J=>.inr (X k b J))
def Yg:List Bool->List D->List Ob
 |_,[]=>[]
 |q::qs,.sl Q M::ds=>.arr q Q M::Yg qs ds
 |[],.sl Q M::ds=>.arr true Q M::Yg [] ds
 |qs,_::ds=>.none::Yg qs.tail ds
def Uz:List Bool->List D->Prop
 |_,[]=>True
 |q::qs,.sl _ M::ds=>(q=false->∀r∈M,∀x∈r,x.scalar=true)/\Uz qs ds
 |[],.sl _ _::ds=>Uz [] ds
 |qs,_::ds=>Uz qs.tail ds
theorem Xu:∀(qs:List Bool)(ds:List D)(k:Nat),Uz qs ds->(∀Q M,ds[k]?=some (.sl Q M)->∃q,XG (Yg qs ds) k= .arr q Q M/\(q=false->∀r∈M,∀x∈r,x.scalar=true))/\(XG (Yg qs ds) k≠ .none->∃Q M,ds[k]?=some (.sl Q M))
 |qs,[],k,_=>⟨fun Q M h=>by simp at h,fun h=>by cases qs<;>simp[Yg,XG]at h⟩
 |q::qs,.sl Q M::ds,0,hf=>⟨fun s r h=>by simp at h;obtain⟨rfl,rfl⟩:=h;exact⟨q,by simp[Yg,XG],hf.1⟩,fun _=>⟨Q,M,ab⟩⟩
 |[],.sl Q M::ds,0,hf=>⟨fun s r h=>by simp at h;obtain⟨rfl,rfl⟩:=h;exact⟨true,by simp[Yg,XG],fun h=>by cases h⟩,fun _=>⟨Q,M,ab⟩⟩
 |qs,.int k n::ds,0,hf=>⟨fun s r h=>by simp at h,fun h=>by cases qs<;>simp[Yg,XG]at h⟩
 |qs,.bool b::ds,0,hf=>⟨fun s r h=>by simp at h,fun h=>by cases qs<;>simp[Yg,XG]at h⟩
 |qs,.str s::ds,0,hf=>⟨fun s r h=>by simp at h,fun h=>by cases qs<;>simp[Yg,XG]at h⟩
 |qs,.unk::ds,0,hf=>⟨fun s r h=>by simp at h,fun h=>by cases qs<;>simp[Yg,XG]at h⟩
 |q::qs,.sl Q M::ds,k+1,hf=>by have:=Xu qs ds k hf.2;simpa[Yg,XG]using this
 |[],.sl Q M::ds,k+1,hf=>by have:=Xu [] ds k hf;simpa[Yg,XG]using this
 |qs,.int _ _::ds,k+1,hf=>by have:=Xu qs.tail ds k e3;cases qs<;>simpa[Yg,XG]using this
 |qs,.bool _::ds,k+1,hf=>by have:=Xu qs.tail ds k e3;cases qs<;>simpa[Yg,XG]using this
 |qs,.str _::ds,k+1,hf=>by have:=Xu qs.tail ds k e3;cases qs<;>simpa[Yg,XG]using this
 |qs,.unk::ds,k+1,hf=>by have:=Xu qs.tail ds k e3;cases qs<;>simpa[Yg,XG]using this
theorem vp(r:ar T0 B σ a w ad h){c:Call}(qs:List Bool)(A:o.op= .call c)(Z:c.callee= .value (.func f))(hd:o.dst=some d)(aw:σ.fresh d=true)
  (al:JD P σ c.args.toList c.argTypes.toList M) (hs:YJ P f M H) (hq:Uz qs H.flatten)
  (hK:∀a' w',zh T0 B (σ.new d (Px d H) (Yg qs H.flatten)) a' w'->Xl B w w'->K a' w'):o.wp P a w K af:=by
 have ag:=U.kh aw;unfold Oper.wp;rw[Tl A Z hs.1,Oper.upon_enter];have D:=r.JD false al (fun hh=>by cases hh);simp only[Bool.false_eq_true,if_false]at D;refine(hs.2 (E6 T0 ad h σ) w _ (fun b k J=>r.mR J) D).mono ?_;rintro e w' ⟨vs,E,rfl,p,aT,aC,⟨_,l,I,X,h3⟩⟩;rw[hd];have V:∀j,∃hd:Hd,(∀c,E.flatten[j]?=some c->hd.v=c)/\(∀Q M,H.flatten[j]?=some (.sl Q M)->(∀b,hd.u b->l j b)/\(∀b,blk hd.v=some b->hd.u b)/\∀T h ai,zR T h ai w' hd (.arr true Q M)/\((∀r∈M,∀x∈r,x.scalar=true)->zR T h ai w' hd (.arr false Q M))):=by
  intro j;have aJ:E.flatten.length=H.flatten.length:=by have:=T9 (R:=fun _ _=>True) aC (fun _ _ _ _ _=>trivial);exact(U5 this).length
  cases hj:H.flatten[j]? with
  |none=>exact⟨Hd.of ((E.flatten[j]?).getD undef),fun c an=>by simp[Hd.of,an],fun Q M hh=>by cases hh⟩
  |some dd=>
   have aB:j<E.flatten.length:=by rw[aJ];exact(List.getElem?_eq_some_iff.1 hj).1
   have g:E.flatten[j]?=some E.flatten[j]:=List.getElem?_eq_getElem aB;cases dd with
   |int k n=>exact⟨Hd.of E.flatten[j],fun c an=>by rw[g]at an;cases an;rfl,fun Q M hh=>by cases hh⟩
   |bool k=>exact⟨Hd.of E.flatten[j],fun c an=>by rw[g]at an;cases an;rfl,fun Q M hh=>by cases hh⟩
   |str k=>exact⟨Hd.of E.flatten[j],fun c an=>by rw[g]at an;cases an;rfl,fun Q M hh=>by cases hh⟩
   |unk=>exact⟨Hd.of E.flatten[j],fun c an=>by rw[g]at an;cases an;rfl,fun Q M hh=>by cases hh⟩
   |sl Q M=>
    have ho:=I j _ _ g hj;generalize hv:E.flatten[j]=v at ho;cases ho with
    |sl v Q M S e xs F ho hz J hl hk N m=>
     refine⟨⟨v,fun k=>(xs[k]?).getD undef,l j⟩,fun c an=>by rw[g,hv]at an;cases an;rfl,fun aN az hh=>?_⟩;cases hh;refine⟨fun b J=>J,J,fun T h ai=>⟨⟨e,xs,ho,hz,⟨hl,F,hk,fun k b J=>N k b J,m⟩,fun k x d O _ _=>by simp[O]⟩,fun aM=>⟨e,xs,ho,hz,Yn.ka hl (fun k x d O hd=>?_)⟩⟩⟩;obtain⟨r0,ah,L⟩:=List.mem_flatten.1 (List.mem_of_getElem? hd);have aG:=aM r0 ah d L
     have:=hk k x d O hd;cases this with
     |int k n=>exact .int _ _
     |bool b=>exact .bool _
     |str s=>exact .str _
     |unk v h=>exact .unk _ h
     |sl=>cases aG
 obtain⟨hf,y⟩:=Classical.axiomOfChoice V;refine hK _ _ ⟨ad,fun t j=>if t=d then hf j else h t j,?_⟩ (Xl.vY p r.d);have ao:∀j,(σ.new d (Px d H) (Yg qs H.flatten)).ob d j=XG (Yg qs H.flatten) j:=fun j=>by rw[U.xG];simp[ag]
 have G:Yn (fun C ac=>Yn (Rb (ak T0 ad) w') C ac) E H:=by
  refine T9 aC (fun k x d O hd=>?_);have ho:=I k x d O hd
  cases ho with
  |int k n=>exact Rd.int _ _
  |bool b=>exact Rd.bool _
  |str s=>exact Rd.str _
  |unk v h=>exact Rd.unk _ h
  |sl v Q M S e xs F ho hz J hl hk N m=>exact⟨e,xs,ho⟩
 refine r.new aw (Below.grownBy p) (fun b J=>J) (fun b J=>.inl J) (Px d H) (wa vs) (Yg qs H.flatten) hf ?_ (fun j=>?_) (fun j b W J=>?_) (fun j b W J=>?_) (fun j j' b W aK J aj=>?_)
 ·exact lA (h:=fun t j=>if t=d then hf j else h t j) (ai:=(σ.new d (Px d H) (Yg qs H.flatten)).ob) (t:=d) aT G (fun i Q M hi=>by
   obtain⟨q,z,_⟩:=(Xu qs H.flatten i hq).1 Q M hi;exact⟨q,by rw[ao];exact z⟩) (fun i c hi=>by simp only[if_true];exact(y i).1 c hi)
 ·by_cases W:XG (Yg qs H.flatten) j= .none
  ·rw[W];trivial
  ·obtain⟨Q,M,hj⟩:=(Xu qs H.flatten j hq).2 W;obtain⟨q,z,Y⟩:=(Xu qs H.flatten j hq).1 Q M hj;rw[z];have:=((y j).2 Q M hj).2.2 (ak T0 ad) (fun t j=>if t=d then hf j else h t j) (σ.new d (Px d H) (Yg qs H.flatten)).ob
   cases q with
   |true=>exact this.1
   |false=>exact this.2 (Y rfl)
 ·obtain⟨Q,M,hj⟩:=(Xu qs H.flatten j hq).2 W;exact((y j).2 Q M hj).2.1 b J
 ·obtain⟨Q,M,hj⟩:=(Xu qs H.flatten j hq).2 W;have:=X j b (((y j).2 Q M hj).1 b J)
  exact⟨this.1,fun O=>by have:=(r.e b O).2;omega,this.2⟩
 ·obtain⟨Q,M,hj⟩:=(Xu qs H.flatten j hq).2 W;obtain⟨aN,az,ay⟩:=(Xu qs H.flatten j' hq).2 aK;exact h3 j j' b (((y j).2 Q M hj).1 b J) (((y j').2 aN az ay).1 b aj)
end Go.Vm
