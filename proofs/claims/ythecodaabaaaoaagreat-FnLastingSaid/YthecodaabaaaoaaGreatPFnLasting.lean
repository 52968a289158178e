/- The plain law of FnLasting: what is valid and covered stays valid as long as all renewals hold. No condition. -/
import Derived.Test.YthecodaabaaaoaaGreatL
namespace Go.Mo
open Go.Vm
set_option linter.unusedSimpArgs false
set_option linter.unusedVariables false
variable{w a0 z w':ZG}{P:ZG×Bool->Prop}{b id n k t iv o q nx a1 a2 ba bb m a4 a5 B:Int}{i len v k0 j:Nat}{a:ZE}{f fr:Zb}{x y:ZR}{s:ZX}{l:List Zh}{L:Nat->Nat->Sum Bool Unit}{ids lS fo sq:List Int}{c:Nat->Bool}{d a3:ZW}{u:List ZU}{T:Nat->Int}{r:Ze}{Q:Nat->List Zm->List Int->Prop}{st:Zs}{p:ZU}{C:Int->Prop}{keys:List Y6}{e:Zt}{ce:List YO}{A:List ZE}
/-- a loop that looks whether one of the places is bad -/
theorem Co{L:Nat->Nat->Sum Bool Unit}{len:Nat}{c:Nat->Bool}(h0:∀v,L 0 v= .inr ())(hs:∀n v,L (n+1) v=(bif decide ((v:Int)<(len:Int))then(bif c v then .inl false else L n (v+1))else .inr ())):
    ∀n v,len<n+v->(L n v= .inr ()/\∀i,v<=i->i<len->c i=false)\/(L n v= .inl false/\∃i,v<=i/\i<len/\c i=true)
  |0,v,h=>.inl ⟨h0 v,fun i h1 h2=>zAD⟩
  |n+1,v,h=>by
    rw[hs];by_cases hv:v<len
    · rw[show decide ((v:Int)<(len:Int))=true by simpa using hv];cases hc:c v with
      |true=>exact .inr ⟨rfl,v,Nat.le_refl _,hv,hc⟩
      |false=>
        rcases Co h0 hs n (v+1) zAD with⟨e,k⟩|⟨e,i,k1,k2,k3⟩
        · grind
        · exact .inr ⟨e,i,zAD,k2,k3⟩
    · grind
/-- a loop that looks for the first place -/
theorem VG{β:Type}{L:Nat->Nat->Sum β Unit}{len:Nat}{c:Nat->Bool}{r:Nat->β}(h0:∀v,L 0 v= .inr ())(hs:∀n v,L (n+1) v=(bif decide ((v:Int)<(len:Int))then(bif c v then .inl (r v)else L n (v+1))else .inr ())):
    ∀n v,len<n+v->(L n v= .inr ()/\∀i,v<=i->i<len->c i=false)\/(∃i,L n v= .inl (r i)/\v<=i/\i<len/\c i=true/\∀k,v<=k->k<i->c k=false)
  |0,v,h=>.inl ⟨h0 v,fun i h1 h2=>zAD⟩
  |n+1,v,h=>by
    rw[hs];by_cases hv:v<len
    · rw[show decide ((v:Int)<(len:Int))=true by simpa using hv];cases hc:c v with
      |true=>exact .inr ⟨v,rfl,Nat.le_refl _,hv,hc,fun k h1 h2=>zAD⟩
      |false=>
        rcases VG h0 hs n (v+1) zAD with⟨e,k⟩|⟨i,e,k1,k2,k3,k4⟩
        · grind
        · grind
    · grind
/-- the same, as a Boolean -/
theorem jZ(h0:∀v,L 0 v= .inr ())(hs:∀n v,L (n+1) v=(bif decide ((v:Int)<(len:Int))then(bif c v then .inl false else L n (v+1))else .inr ()))(n v:Nat)(h:len<n+v)(X:Bool):
    (match L n v with|.inl r=>r|.inr _=>X)=true↔(∀i,v<=i->i<len->c i=false)/\X=true:=by
  rcases Co h0 hs n v h with⟨e,k⟩|⟨e,i,k1,k2,k3⟩
  · grind
  · grind
theorem E8(h0:∀v,L 0 v= .inr ())(hs:∀n v,L (n+1) v=(bif decide ((v:Int)<(len:Int))then(bif c v then .inl true else L n (v+1))else .inr ()))(n v:Nat)(h:len<n+v):
    (match L n v with|.inl r=>r|.inr _=>false)=true↔∃i,v<=i/\i<len/\c i=true:=by
  rcases VG (r:=fun _=>true) h0 hs n v h with⟨e,k⟩|⟨i,e,k1,k2,k3,k4⟩
  · grind
  · rw[e];exact⟨fun _=>⟨i,k1,k2,k3⟩,fun _=>rfl⟩
theorem PQ{α β:Type}[Inhabited α][Inhabited β]{f:α->β}{l:List α}(h:i<l.length):nth (l.map f) i=f (nth l i):=by simp[nth,List.getD_eq_getElem?_getD,List.getElem?_eq_getElem h]
@[simp] theorem Hj (a0 a1 : List Int) : Ub a0 a1 = decide (a0 = a1) := pJ (F := WD a0 a1) (c := fun i => nth a0 i != nth a1 i) (fun i => by simp [bne, Bool.beq_eq_decide_eq]) (fun _ => rfl) (fun _ _ => rfl)
@[simp] theorem Kw (a0 a1 : ZU) : KB a0 a1 = decide (a0 = a1) := by
  obtain⟨t,p,s⟩:=a0;obtain⟨t',p',s'⟩:=a1;by_cases h1:t=t'<;>by_cases h2:p=p'<;>by_cases h3:s=s'<;>simp_all[KB]
theorem CK(a0:List Int)(a1:Int):Qj a0 a1=true↔∃i,0<=i/\i<a0.length/\(nth a0 i==a1)=true:=by
  unfold Qj PZ;rcases VG (L:=US a0 a1) (r:=fun i=>(i:Int)) (fun _=>rfl) (fun _ _=>rfl) (a0.length+1) 0 zAD with⟨e,p⟩|⟨i,e,p1,p2,p3,p4⟩
  · grind
  · grind
theorem NJ(a0:ZG)(k:Nat):∀(n:Nat)(l:List Int)(v:Nat),yY a0 k n l v≠ .inl true:=by
  intro n;induction n with
  |zero=>intro l v h;cases h
  |succ n ih=>
    intro l v h;rw[yY]at h;generalize decide ((v:Int)<((nth a0.ZB k).ZC.length:Int))=c at h;cases c with
    |false=>cases h
    |true=>
      simp only[cond_true]at h;generalize(Qj l (nth (nth a0.ZB k).ZC v).Id||decide ((nth (nth a0.ZB k).ZC v).Id>=a0.Next))=c at h;cases c with
      |true=>cases h
      |false=>exact ih _ _ h
theorem NI(a0:ZG):∀(n:Nat)(l:List Int)(v:Nat),xj a0 n l v≠ .inl true:=by
  intro n;induction n with
  |zero=>intro l v h;cases h
  |succ n ih=>
    intro l v h;rw[xj]at h;generalize decide ((v:Int)<(a0.ZB.length:Int))=c at h;cases c with
    |false=>cases h
    |true=>
      simp only[cond_true]at h;generalize(!Y7 (nth a0.ZB v)||(nth a0.ZB v).Id !=(v:Int))=c at h;cases c with
      |true=>cases h
      |false=>
        simp only[cond_false]at h;cases hh:yY a0 v ((nth a0.ZB v).ZC.length+1) l 0 with
        |inl r=>rw[hh]at h;simp only at h;cases h;exact NJ _ _ _ _ _ hh
        |inr z=>rw[hh]at h;exact ih _ _ h
theorem vE(s:Sum Bool Unit)(X:Bool):s≠ .inl true->((match s with|.inl r=>r|.inr _=>X)=true↔s= .inr ()/\X=true):=by
  intro h;cases s with
  |inl r=>cases r with
    |true=>exact absurd rfl h
    |false=>simp
  |inr u=>simp
theorem wU{α:Type}[Inhabited α](l:List α)(i:Nat):l.set i (nth l i)=l:=by
  rcases Nat.lt_or_ge i l.length with h|h
  · simp[nth,List.getD_eq_getElem?_getD,List.getElem?_eq_getElem h]
  · exact List.set_eq_of_length_le h
def Ml(a0:ZG)(a2:Int)(a3:ZW)(a4:Int)(v:Nat):Zp×Bool:=Xg a0.Frame.Z0 (Zp.mk a2 (nth a0.Zf v).Zc (ZY a0.Frame.Methods a0.Frame.Now) (Yx (ZY a0.Frame.Methods a0.Frame.Now) a3) 1 a4 0 0 0)
def LC(a0:ZG)(a2:Int)(a3:ZW)(a4 a5:Int)(v:Nat):ZR:=ZR.mk a0.Next a5 a3 (Ml a0 a2 a3 a4 v).1 (ZX.mk ([Yo (Ml a0 a2 a3 a4 v).1,Ju (nth a0.Zf v)]:List ZU) ([]:List Ze))
def G4(a0:ZG)(a1:Int)(it:ZR):ZG:=ZG.mk a0.Frame a0.Zf a0.Zy (a0.ZB.set a1.toNat (Yr (nth a0.ZB a1.toNat) it).1) a0.Y9 a0.Yg (W (a0.Next+1)) a0.YN
theorem MQ{a1:List Int}(h:∀i,0<i->i<a1.length->nth a1 (i-1)<nth a1 i):∀d v,0<d->v+d<a1.length->nth a1 v<nth a1 (v+d)
  |0,_,h0,_=>zAD
  |1,v,_,hv=>h (v+1) zAD hv
  |d+2,v,_,hv=>by have h1:=MQ h (d+1) v zAD zAD;grind
def xg(l:List ZE):List Int:=l.flatMap (fun a=>a.ZC.map (·.Id))
def U4(nx:Int)(l m:List Int):Prop:=(∀x∈m,x∉l/\x<nx)/\m.Nodup
theorem Ao(l:List Int)(x:Int):Qj l x=true↔x∈l:=by
  rw[CK];constructor
  · rintro⟨i,_,h,e⟩;rw[beq_iff_eq,XM h]at e;rw[<-e];exact List.getElem_mem h
  · intro h;obtain⟨i,hi,e⟩:=List.mem_iff_getElem.1 h;exact⟨i,Nat.zero_le _,hi,by rw[beq_iff_eq,XM hi,e]⟩
theorem Sf{x:Int}{l m:List Int}:U4 nx l (x::m)↔(x∉l/\x<nx)/\U4 nx (l++[x]) m:=by unfold U4;grind
theorem Rp(nx:Int)(l:List Int):U4 nx l []:=⟨fun x h=>zA7,List.nodup_nil⟩
theorem BI{l m k:List Int}:U4 nx l (m++k)↔U4 nx l m/\U4 nx (l++m) k:=by
  induction m generalizing l with
  |nil=>rw[List.nil_append,List.append_nil];exact⟨fun h=>⟨Rp _ _,h⟩,fun h=>h.2⟩
  |cons x m ih=>rw[List.cons_append,Sf,Sf,ih,List.append_assoc];grind
theorem rH(w:ZG)(k:Nat):∀(n:Nat)(l:List Int)(v:Nat),(nth w.ZB k).ZC.length<n+v->v<=(nth w.ZB k).ZC.length->
    (yY w k n l v= .inr (l++((nth w.ZB k).ZC.drop v).map (·.Id))/\U4 w.Next l (((nth w.ZB k).ZC.drop v).map (·.Id)))\/(yY w k n l v= .inl false/\¬U4 w.Next l (((nth w.ZB k).ZC.drop v).map (·.Id)))
  |0,l,v,h,hv=>zAD
  |n+1,l,v,h,hv=>by
    rw[yY];by_cases nn:v<(nth w.ZB k).ZC.length
    · rw[decide_eq_true (show(v:Int)<((nth w.ZB k).ZC.length:Int)by omega),Xe,List.drop_eq_getElem_cons nn,List.map_cons,XM nn,Sf];generalize hx:((nth w.ZB k).ZC[v]).Id=x;cases hc:(Qj l x||decide (x>=w.Next))with
      |true=>
        rw[Xe];refine .inr ⟨rfl,fun hg=>?_⟩;rcases Bool.or_eq_true _ _▸hc with h1|h1
        · exact hg.1.1 ((Ao _ _).1 h1)
        · have:=of_decide_eq_true h1;have:=hg.1.2;omega
      |false=>
        rw[X8];rw[Bool.or_eq_false_iff]at hc;have hn:x∉l/\x<w.Next:=⟨fun hm=>(by rw[(Ao _ _).2 hm]at hc;cases hc.1),(by have:=of_decide_eq_false hc.2;omega)⟩
        rcases rH w k n (l++[x]) (v+1) zAD nn with⟨e,hg⟩|⟨e,hg⟩
        · exact .inl ⟨by rw[e,List.append_assoc];rfl,hn,hg⟩
        · exact .inr ⟨e,fun h=>hg h.2⟩
    · rw[decide_eq_false (show ¬(v:Int)<((nth w.ZB k).ZC.length:Int)by omega),X8,List.drop_eq_nil_of_le zAD,List.map_nil,List.append_nil];exact .inl ⟨rfl,Rp _ _⟩
theorem rJ(w:ZG):∀(n:Nat)(l:List Int)(v:Nat),w.ZB.length<n+v->v<=w.ZB.length->
    (xj w n l v= .inr ()↔(∀i,v<=i->i<w.ZB.length->Y7 (nth w.ZB i)=true/\(nth w.ZB i).Id=(i:Int))/\U4 w.Next l (xg (w.ZB.drop v)))
  |0,l,v,h,hv=>zAD
  |n+1,l,v,h,hv=>by
    rw[xj];by_cases nn:v<w.ZB.length
    · rw[decide_eq_true (show(v:Int)<(w.ZB.length:Int)by omega),Xe];have e1:xg (w.ZB.drop v)=(nth w.ZB v).ZC.map (·.Id)++xg (w.ZB.drop (v+1)):=by rw[List.drop_eq_getElem_cons nn,XM nn];rfl
      rw[e1,BI];cases hc:(!Y7 (nth w.ZB v)||(nth w.ZB v).Id !=(v:Int))with
      |true=>grind
      |false=>
        rw[X8];simp only[Bool.or_eq_false_iff,Bool.not_eq_false',bne_eq_false_iff_eq]at hc;rcases rH w v ((nth w.ZB v).ZC.length+1) l 0 zAD (Nat.zero_le _)with⟨e,hg⟩|⟨e,hg⟩
        · rw[e];rw[List.drop_zero]at hg⊢;refine(rJ w n _ (v+1) zAD nn).trans ⟨fun h=>⟨fun i h1 h2=>?_,hg,h.2⟩,fun h=>⟨fun i h1 h2=>h.1 i zAD h2,h.2.2⟩⟩;grind
        · grind
    · rw[decide_eq_false (show ¬(v:Int)<(w.ZB.length:Int)by omega),X8,List.drop_eq_nil_of_le zAD];exact⟨fun _=>⟨fun i h1 h2=>zAD,Rp _ _⟩,fun _=>rfl⟩
structure PlW(w:ZG):Prop where
  fr:yR w.Frame=true
  en:w.Zy.length=w.Zf.length
  ar:1<=w.ZB.length/\w.ZB.length<=4
  sl:w.Y9.length=w.Frame.ZD.length
  ll:(w.Yg.length:Int)<=w.Frame.XB
  nx:1<=w.Next
  lr:JV w.Yg=true
  fo:JV w.YN=true
  ce:∀i,i<w.Zf.length->yd w.Frame.Z0 (nth w.Zf i)=true/\jG w.Zf (nth w.Zf i).Zc=(i:Int)/\ZZ (nth w.Zy i) (-1) 10001=true
  ok:∀i,i<w.ZB.length->Y7 (nth w.ZB i)=true/\(nth w.ZB i).Id=(i:Int)
  nd:(xg w.ZB).Nodup
  lt:∀x∈xg w.ZB,x<w.Next
  sq:∀i,i<w.Y9.length->0<=nth w.Y9 i
  lf:∀i,i<w.Yg.length->0<=Zk w.Frame.ZD (nth w.Yg i)
theorem ue(w:ZG):Mr w=true↔PlW w:=by
  unfold Mr;have hi:∀b:Bool,(bif b then false else(match Un w (w.Zf.length+1) 0 with|.inl r1=>r1|.inr _=>(match xj w (w.ZB.length+1) ([]:List Int) 0 with|.inl r2=>r2|.inr _=>(match Ux w (w.Y9.length+1) 0 with|.inl r4=>r4|.inr _=>(match UR w (w.Yg.length+1) 0 with|.inl r5=>r5|.inr _=>true)))))=true↔b=false/\_:=fun b=>by
    cases b
    · exact((jZ (L:=Un w) (fun _=>rfl) (fun _ _=>rfl) (w.Zf.length+1) 0 zAD _).trans (and_congr_right fun _=>(vE _ _ (NI w (w.ZB.length+1) [] 0)).trans (and_congr_right fun _=>(jZ (L:=Ux w) (fun _=>rfl) (fun _ _=>rfl) (w.Y9.length+1) 0 zAD _).trans (and_congr_right fun _=>jZ (L:=UR w) (fun _=>rfl) (fun _ _=>rfl) (w.Yg.length+1) 0 zAD _)))).trans ⟨fun h=>⟨rfl,h⟩,fun h=>h.2⟩
    · exact⟨fun h=>zA7,fun h=>(by cases h.1)⟩
  refine(hi _).trans ?_;rw[rJ w (w.ZB.length+1) [] 0 zAD (Nat.zero_le _),List.drop_zero];simp only[Bool.or_eq_false_iff,Bool.not_eq_false',beq_iff_eq,bne_eq_false_iff_eq,decide_eq_false_iff_not,ZZ,Bool.and_eq_true,decide_eq_true_eq];constructor
  · rintro⟨⟨⟨⟨⟨⟨⟨⟨h1,h2⟩,h3⟩,h4⟩,h5⟩,h6⟩,h7⟩,h8⟩,h9,⟨hR,cN,dn⟩,cz,aE,_⟩;exact⟨h1,zAD,zAD,zAD,zAD,zAD,h7,h8,fun i hi=>⟨(h9 i (Nat.zero_le _) hi).1.1,(h9 i (Nat.zero_le _) hi).1.2,by have:=(h9 i (Nat.zero_le _) hi).2;simpa[ZZ]using this⟩,fun i hi=>hR i (Nat.zero_le _) hi,dn,fun x hx=>(cN x hx).2,fun i hi=>by have:=cz i (Nat.zero_le _) hi;omega,fun i hi=>by have:=aE i (Nat.zero_le _) hi;omega⟩
  · intro h;refine⟨⟨⟨⟨⟨⟨⟨⟨h.fr,by have:=h.en;omega⟩,by have:=h.ar;omega⟩,by have:=h.sl;omega⟩,by have:=h.ll;omega⟩,by have:=h.nx;omega⟩,h.lr⟩,h.fo⟩,fun i _ hi=>⟨⟨(h.ce i hi).1,(h.ce i hi).2.1⟩,by have:=(h.ce i hi).2.2;simpa[ZZ]using this⟩,⟨fun i _ hi=>h.ok i hi,fun x hx=>⟨fun hn=>(by cases hn),h.lt x hx⟩,h.nd⟩,fun i _ hi=>by have:=h.sq i hi;omega,fun i _ hi=>by have:=h.lf i hi;omega,trivial⟩
/- archives -/
theorem Kb{α:Type}[Inhabited α](l:List α)(i j:Nat)(x:α):nth (l.set i x) j=if i=j/\j<l.length then x else nth l j:=by simp only[nth,List.getD_eq_getElem?_getD,List.getElem?_set];grind
structure PlA(a:ZE):Prop where
  it:∀x∈a.ZC,Jy x=true
  as:(a.ZC.map (·.Id)).Pairwise (·<·)
  id:0<=a.Id/\a.Id<=99
  ln:a.ZC.length<=8
theorem W2(a:ZE):Y7 a=true↔PlA a:=by
  unfold Y7;refine(jZ (L:=WA a) (fun _=>rfl) (fun _ _=>rfl) (a.ZC.length+1) 0 zAD _).trans ?_;simp only[Bool.or_eq_false_iff,Bool.not_eq_false',Bool.and_eq_false_imp,decide_eq_true_eq,decide_eq_false_iff_not,ZZ,Bool.and_eq_true];constructor
  · rintro⟨h1,⟨h2,h3⟩,h4⟩;refine⟨fun x hx=>?_,?_,⟨h2,h3⟩,zAD⟩
    · obtain⟨i,hi,e⟩:=List.mem_iff_getElem.1 hx;have:=(h1 i (Nat.zero_le _) hi).1
      rw[XM hi,e]at this;exact this
    · have hc:∀i,0<i->i<(a.ZC.map (·.Id)).length->nth (a.ZC.map (·.Id)) (i-1)<nth (a.ZC.map (·.Id)) i:=fun i h0 hi=>by
        rw[List.length_map]at hi;rw[PQ zAD,PQ hi];have:=(h1 i (Nat.zero_le _) hi).2 zAD
        omega
      rw[List.pairwise_iff_getElem];intro i j hi hj eF;have:=MQ hc (j-i) i zAD zAD
      rw[show i+(j-i)=j by omega,XM hi,XM hj]at this;exact this
  · intro h;refine⟨fun i _ hi=>⟨h.it _ (by rw[XM hi];exact List.getElem_mem hi),fun h0=>?_⟩,h.id,by have:=h.ln;omega⟩;have:=List.pairwise_iff_getElem.1 h.as (i-1) i (by rw[List.length_map];omega) (by rw[List.length_map];exact hi) zAD
    rw[List.getElem_map,List.getElem_map]at this;rw[XM (show i-1<a.ZC.length by omega),XM hi];omega
theorem LP(a:ZE)(l:List ZE):xg (a::l)=a.ZC.map (·.Id)++xg l:=rfl
theorem HH(l m:List ZE):xg (l++m)=xg l++xg m:=List.flatMap_append
theorem Sc(l:List ZE)(i:Nat)(h:i<l.length):∃A B,xg l=A++((nth l i).ZC.map (·.Id)++B)/\∀a,xg (l.set i a)=A++(a.ZC.map (·.Id)++B):=by
  refine⟨xg (l.take i),xg (l.drop (i+1)),?_,fun a=>?_⟩
  · rw[<-LP,<-HH,XM h,<-List.drop_eq_getElem_cons h,List.take_append_drop]
  · rw[<-LP,<-HH,List.set_eq_take_append_cons_drop,if_pos h]
theorem Gh{l:List ZE}(e:(a.ZC.map (·.Id)).Sublist ((nth l i).ZC.map (·.Id))):(xg (l.set i a)).Sublist (xg l):=by
  by_cases h:i<l.length
  · obtain⟨A,B,h1,h2⟩:=Sc l i h;grind
  · rw[List.set_eq_of_length_le zAD];exact List.Sublist.refl _
theorem GX{l:List ZE}{x:Int}(h:i<l.length)(e:(a.ZC.map (·.Id)).Perm (x::(nth l i).ZC.map (·.Id))):(xg (l.set i a)).Perm (x::xg l):=by obtain⟨A,B,h1,h2⟩:=Sc l i h;grind
/- the arrangement of a world stays -/
theorem Rb(h:PlW w)(ha:Y7 a=true)(eE:a.Id=(i:Int)):∀j,j<(w.ZB.set i a).length->Y7 (nth (w.ZB.set i a) j)=true/\(nth (w.ZB.set i a) j).Id=(j:Int):=fun j hj=>by
  rw[List.length_set]at hj;rw[Kb];split
  · rename_i hc;rw[<-hc.1];exact⟨ha,eE⟩
  · exact h.ok j hj
theorem Aq(h:PlW w)(ha:Y7 a=true)(eE:a.Id=(i:Int))(e:(a.ZC.map (·.Id)).Sublist ((nth w.ZB i).ZC.map (·.Id)))(hl:sq.length=w.Y9.length)(hs:∀j,j<sq.length->0<=nth sq j):PlW (ZG.mk w.Frame w.Zf w.Zy (w.ZB.set i a) sq w.Yg w.Next w.YN):=
  ⟨h.fr,h.en,by rw[List.length_set];exact h.ar,hl.trans h.sl,h.ll,h.nx,h.lr,h.fo,h.ce,Rb h ha eE,h.nd.sublist (Gh e),fun x hx=>h.lt x ((Gh e).subset hx),hs,h.lf⟩
theorem tY(h:PlW w)(ha:Y7 a=true)(eE:a.Id=(i:Int))(e:a.ZC.map (·.Id)=(nth w.ZB i).ZC.map (·.Id)):PlW (ZG.mk w.Frame w.Zf w.Zy (w.ZB.set i a) w.Y9 w.Yg w.Next w.YN):=
  Aq h ha eE (by rw[e];exact List.Sublist.refl _) rfl h.sq
/- the steps, case by case -/
theorem WJ(x a b:Int):ZZ x a b=true↔a<=x/\x<=b:=by simp only[ZZ,Bool.and_eq_true,decide_eq_true_eq]
theorem OU(h:yR f=true):0<=f.Now/\f.Now<=10000:=by simp only[yR,Kd,Bool.and_eq_true,WJ]at h;exact h.2
theorem D5(h:yR f=true)(h0:0<=t)(h1:t<=10000):yR (Zb.mk f.Z0 f.ZD f.Methods f.XB t)=true:=by simp only[yR,Kd,Bool.and_eq_true,WJ]at h⊢;exact⟨h.1,h0,h1⟩
theorem yC{i:Int}(h:Yt w i=true)(hl:w.ZB.length<=9223372036854775807):0<=i/\i.toNat<w.ZB.length:=by unfold Yt at h;rw[WJ]at h;simp only[Yw]at h;omega
theorem D7(h0:P (w,false))(h1:0<=n->n<=100->W (w.Frame.Now+n)<=10000->P (ZG.mk (Zb.mk w.Frame.Z0 w.Frame.ZD w.Frame.Methods w.Frame.XB (W (w.Frame.Now+n))) w.Zf w.Zy w.ZB w.Y9 w.Yg w.Next w.YN,true)):P (K4 w n):=by unfold K4;refine Zx (p:=P) (fun _=>h0) (fun h=>?_);simp only[Bool.or_eq_false_iff,Bool.not_eq_false',WJ,decide_eq_false_iff_not]at h;exact h1 h.1.1 h.1.2 zAD
theorem OA{P:ZG×Bool->Prop}{a0:ZG}{a1 a2:Int}{a3:ZW}{a4 a5:Int}(h0:P (a0,false))(h1:∀v,v<a0.Zf.length->(nth a0.Zf v).Key=a2->(Ml a0 a2 a3 a4 v).2=true->(Yr (nth a0.ZB a1.toNat) (LC a0 a2 a3 a4 a5 v)).2=true->P (G4 a0 a1 (LC a0 a2 a3 a4 a5 v),true)):
    ∀(m v:Nat)(r:ZG×Bool),Jh a0 a1 a2 a3 a4 a5 m v= .inl r->P r
  |0,v,r,h=>zA7
  |m+1,v,r,h=>by
    simp only[Jh]at h;by_cases hv:v<a0.Zf.length
    · rw[decide_eq_true (show(v:Int)<(a0.Zf.length:Int)by omega),Xe]at h;cases hk:((nth a0.Zf v).Key !=a2)with
      |true=>rw[hk,Xe]at h;exact OA h0 h1 m (v+1) r h
      |false=>
        rw[hk,X8]at h;have hk:(nth a0.Zf v).Key=a2:=by simpa using hk
        change(bif((!(Ml a0 a2 a3 a4 v).2)||!(Yr (nth a0.ZB a1.toNat) (LC a0 a2 a3 a4 a5 v)).2)then(Sum.inl (a0,false):Sum (ZG×Bool) Unit)else .inl (G4 a0 a1 (LC a0 a2 a3 a4 a5 v),true))= .inl r at h;grind
    · grind
theorem Lh(h0:P (a0,false))(h1:Yt a0 a1=true->0<=YT a0.Frame.Z0 a2->0<=ZY a0.Frame.Methods a0.Frame.Now->∀v,v<a0.Zf.length->(nth a0.Zf v).Key=a2->(Ml a0 a2 a3 a4 v).2=true->(Yr (nth a0.ZB a1.toNat) (LC a0 a2 a3 a4 a5 v)).2=true->P (G4 a0 a1 (LC a0 a2 a3 a4 a5 v),true)):P (Xa a0 a1 a2 a3 a4 a5):=by
  unfold Xa;refine Zx (p:=P) (fun _=>h0) (fun h=>?_);simp only[Bool.or_eq_false_iff,Bool.not_eq_false',decide_eq_false_iff_not]at h;cases e:Jh a0 a1 a2 a3 a4 a5 (a0.Zf.length+1) 0 with
  |inl r=>exact OA h0 (h1 h.1.1 zAD zAD) _ _ r e
  |inr _=>exact h0
theorem DY(h0:P (a0,false))(h1:Yt a0 a1=true->0<=YT a0.Frame.Z0 a2->(nth a0.Frame.Z0 (YT a0.Frame.Z0 a2).toNat).RH<=a0.Frame.Now->0<=ZY a0.Frame.Methods a0.Frame.Now->∀v,v<a0.Zf.length->(nth a0.Zf v).Key=a2->(Ml a0 a2 a3 a4 v).2=true->(Yr (nth a0.ZB a1.toNat) (LC a0 a2 a3 a4 a5 v)).2=true->P (G4 a0 a1 (LC a0 a2 a3 a4 a5 v),true)):P (J2 a0 a1 a2 a3 a4 a5):=by unfold J2;refine Zx (p:=P) (fun _=>h0) (fun h=>?_);simp only[Bool.or_eq_false_iff,decide_eq_false_iff_not]at h;exact Lh (P:=P) h0 (fun k1 k2 k3=>h1 k1 k2 zAD k3)
theorem HU(h0:P (a0,false))(h1:J4 a0.Frame a2=true->Yt a0 a1=true->0<=YT a0.Frame.Z0 a2->0<=ZY a0.Frame.Methods a0.Frame.Now->∀v,v<a0.Zf.length->(nth a0.Zf v).Key=a2->(Ml a0 a2 a3 0 v).2=true->(Yr (nth a0.ZB a1.toNat) (LC a0 a2 a3 0 10000 v)).2=true->P (ZG.mk a0.Frame a0.Zf a0.Zy (a0.ZB.set a1.toNat (Yr (nth a0.ZB a1.toNat) (LC a0 a2 a3 0 10000 v)).1) a0.Y9 a0.Yg (W (a0.Next+1)) (a0.YN++[a0.Next]),true)):P (Jt a0 a1 a2 a3):=by unfold Jt;refine Zx (p:=P) (fun _=>h0) (fun h=>?_);rw[Bool.not_eq_false']at h;exact Lh (P:=fun r=>P (bif r.2 then(ZG.mk r.1.Frame r.1.Zf r.1.Zy r.1.ZB r.1.Y9 r.1.Yg r.1.Next (r.1.YN++([a0.Next]:List Int)),r.2)else(r.1,r.2))) h0 (fun k1 k2 k3 v k4 k5 k6 k7=>h1 h k1 k2 k3 v k4 k5 k6 k7)
theorem VX(h:(Yr a x).2=true):Zg a x.Id<0/\Y7 a=true/\Y7 (Yr a x).1=true/\∃k,(Yr a x).1=ZE.mk a.Id ((a.ZC.take k++[x])++a.ZC.drop k):=by unfold Yr at h⊢;grind
theorem RF(h:(Yr a x).2=true):((Yr a x).1.ZC.map (·.Id)).Perm (x.Id::a.ZC.map (·.Id)):=by
  obtain⟨_,_,_,k,e⟩:=VX h;rw[e];show(((a.ZC.take k++[x])++a.ZC.drop k).map (·.Id)).Perm _
  rw[List.append_assoc,List.map_append,List.singleton_append,List.map_cons];refine List.perm_middle.trans ?_;rw[<-List.map_append,List.take_append_drop]
theorem Rk{i:Int}(h0:P (w,false))(h1:(XS w.Frame.Z0 st).2=true->0<=Zg (nth w.ZB i.toNat) id->(J3 (nth (nth w.ZB i.toNat).ZC (Zg (nth w.ZB i.toNat) id).toNat).ZK (XX (XS w.Frame.Z0 st).1)).2=true->P (ZG.mk w.Frame w.Zf w.Zy (w.ZB.set i.toNat (Jv (nth w.ZB i.toNat) id (XX (XS w.Frame.Z0 st).1)).1) w.Y9 w.Yg w.Next w.YN,true)):P (JI w i id st):=by unfold JI;refine Zx (p:=P) (fun _=>h0) (fun h=>?_);simp only[Bool.or_eq_false_iff,Bool.not_eq_false']at h;obtain⟨h2,h3⟩:=h;unfold Jv at h3;grind
/- renewing -/
def plN(w:ZG)(ids:List Int)(v:Nat):Nat:=(Zk w.Frame.ZD (nth ids v)).toNat
def DW(w:ZG)(i:Int)(ids:List Int)(v:Nat)(t:Int):Zm×Bool:=Xy w.Frame.Z0 w.Frame.ZD (Zm.mk (nth ids v) (nth w.Y9 (plN w ids v)) t (Qt (nth w.ZB i.toNat) (ZY w.Frame.Methods w.Frame.Now)) 0)
def uN(w:ZG)(iv:Int):Int:=if(if W (w.Frame.Now+iv)<10000 then W (w.Frame.Now+iv)else 10000)>0 then(if W (w.Frame.Now+iv)<10000 then W (w.Frame.Now+iv)else 10000)else 0
structure pO(w:ZG)(i:Int)(ids:List Int)(iv:Int)(v:Nat)(t:Int):Prop where
  au:0<=Zk w.Frame.ZD (nth ids v)
  lt:plN w ids v<w.Y9.length
  ky:0<=YT w.Frame.Z0 (nth w.Frame.ZD (plN w ids v)).Key
  bo:(nth w.Frame.Z0 (YT w.Frame.Z0 (nth w.Frame.ZD (plN w ids v)).Key).toNat).RH<=w.Frame.Now
  ok:(DW w i ids v t).2=true
  tm:(Qj w.Yg (nth ids v)=true/\t=uN w iv)\/(Qj w.Yg (nth ids v)=false/\t=w.Frame.Now)
theorem GG{P:Nat->List Zm->List Int->Prop}{w:ZG}{i:Int}{ids:List Int}{iv:Int}(hs:∀v l q t,v<ids.length->pO w i ids iv v t->P v l q->P (v+1) (l++[(DW w i ids v t).1]) (q.set (plN w ids v) (W (nth q (plN w ids v)+1)))):
    ∀(m:Nat)(l:List Zm)(v:Nat)(q:List Int),ids.length<m+v->v<=ids.length->P v l q->(∀r,QH w i ids iv m l v q= .inl r->r=(w,false))/\∀z,QH w i ids iv m l v q= .inr z->P ids.length z.1 z.2
  |0,l,v,q,h,hv,_=>zAD
  |m+1,l,v,q,h,hv,hp=>by
    rw[QH];let p:=fun x:Sum (ZG×Bool) (List Zm×List Int)=>(∀r,x= .inl r->r=(w,false))/\∀z,x= .inr z->P ids.length z.1 z.2
    have bad:p (.inl (w,false)):=⟨fun r h=>zBo,fun z h=>zA7⟩;refine Zx (p:=p) (fun hc=>?_) (fun hc=>⟨fun r h=>zA7,fun z h=>(by cases h;have hc:¬v<ids.length:=(by simpa using hc);have e:v=ids.length:=(by omega);rw[<-e];exact hp)⟩);have hc:v<ids.length:=zBG;refine Zx (p:=p) (fun _=>bad) (fun h1=>?_);refine Zx (p:=p) (fun _=>bad) (fun h2=>?_);simp only[Bool.or_eq_false_iff,decide_eq_false_iff_not]at h1 h2;have go:∀t,((Qj w.Yg (nth ids v)=true/\t=uN w iv)\/(Qj w.Yg (nth ids v)=false/\t=w.Frame.Now))->(DW w i ids v t).2=true->p (QH w i ids iv m (l++[(DW w i ids v t).1]) (v+1) (q.set (plN w ids v) (W (nth q (plN w ids v)+1)))):=fun t ht hk=>
      GG hs m _ (v+1) _ zAD hc (hs v l q t hc ⟨zAD,by unfold plN;omega,by unfold plN;omega,by unfold plN;omega,hk,ht⟩ hp)
    refine Zx (p:=p) (fun h3=>?_) (fun h3=>?_)
    · refine Zx (p:=p) (fun _=>bad) (fun h4=>?_);rw[Bool.not_eq_false']at h4;exact go (uN w iv) (.inl ⟨h3,rfl⟩) h4
    · refine Zx (p:=p) (fun _=>bad) (fun h4=>?_);rw[Bool.not_eq_false']at h4;exact go w.Frame.Now (.inr ⟨h3,rfl⟩) h4
theorem G0{i:Int}(h0:P (w,false))(q0:Q 0 [] w.Y9)(hs:∀v l q t,v<ids.length->pO w i ids iv v t->Q v l q->Q (v+1) (l++[(DW w i ids v t).1]) (q.set (plN w ids v) (W (nth q (plN w ids v)+1))))
    (h1:Yt w i=true->0<=ZY w.Frame.Methods w.Frame.Now->JV ids=true->ids≠[]->∀l q,Q ids.length l q->(XW (nth w.ZB i.toNat) (ZY w.Frame.Methods w.Frame.Now) l).2=true->P (ZG.mk w.Frame w.Zf w.Zy (w.ZB.set i.toNat (XW (nth w.ZB i.toNat) (ZY w.Frame.Methods w.Frame.Now) l).1) q w.Yg w.Next w.YN,true)):P (Q6 w i ids iv):=by
  have k:=GG hs (ids.length+1) [] 0 w.Y9 zAD (Nat.zero_le _) q0;unfold Q6;refine Zx (p:=P) (fun _=>h0) (fun h=>?_);simp only[Bool.or_eq_false_iff,Bool.not_eq_false',decide_eq_false_iff_not,beq_eq_false_iff_ne]at h;obtain⟨⟨⟨⟨k1,k2⟩,k3⟩,k4⟩,k5⟩:=h;generalize QH w i ids iv (ids.length+1) [] 0 w.Y9=s at k⊢;cases s with
  |inl r=>rw[k.1 r rfl];exact h0
  |inr z=>obtain⟨l,q⟩:=z;refine Zx (p:=P) (fun _=>h0) (fun h2=>?_);rw[Bool.not_eq_false']at h2;exact h1 k1 zAD k3 (fun e=>k4 (by rw[e];rfl)) l q (k.2 _ rfl) h2
theorem TW(h:(XK s r).2=true):(XK s r).1=ZX.mk s.ZM (s.ZQ++[r])/\Xv (ZX.mk s.ZM (s.ZQ++[r]))=true:=by unfold XK at h⊢;grind
theorem Lb(h:(J3 s p).2=true):(J3 s p).1=ZX.mk (s.ZM++[p]) s.ZQ/\Xv (ZX.mk (s.ZM++[p]) s.ZQ)=true:=by unfold J3 at h⊢;grind
/- a sealed archive: each item has one renewal more -/
def pH(a:ZE)(m:Int)(l:List Zm)(v:Nat):Ze:=Ze.mk ((nth a.ZC v).ZK.ZM.length:Int) m (Qt a m) (J0 m (QK a m) (v:Int)) l
def Bz(a:ZE)(m:Int)(l:List Zm)(v:Nat):ZR:=ZR.mk (nth a.ZC v).Id (nth a.ZC v).XI (nth a.ZC v).Doc (nth a.ZC v).Sig (ZX.mk (nth a.ZC v).ZK.ZM ((nth a.ZC v).ZK.ZQ++[pH a m l v]))
theorem Ep(a:ZE)(m:Int)(l:List Zm):∀(n v:Nat)(q:List ZR),a.ZC.length<n+v->v<=a.ZC.length->q.length=a.ZC.length->(∀k,k<a.ZC.length->nth q k=if k<v then Bz a m l k else nth a.ZC k)->
    (∀r,Qo a m l n v q= .inl r->r=(a,false))/\∀z,Qo a m l n v q= .inr z->z.length=a.ZC.length/\∀k,k<a.ZC.length->nth z k=Bz a m l k
  |0,v,q,h,hv,_,_=>zAD
  |n+1,v,q,h,hv,hl,hq=>by
    rw[Qo];by_cases nn:v<a.ZC.length
    · rw[decide_eq_true (show(v:Int)<(a.ZC.length:Int)by omega),Xe];cases hc:(XK (nth a.ZC v).ZK (pH a m l v)).2 with
      |false=>rw[show(XK (nth a.ZC v).ZK (Ze.mk ((nth a.ZC v).ZK.ZM.length:Int) m (Qt a m) (J0 m (QK a m) (v:Int)) l)).2=false from hc,Bool.not_false,Xe];grind
      |true=>
        rw[show(XK (nth a.ZC v).ZK (Ze.mk ((nth a.ZC v).ZK.ZM.length:Int) m (Qt a m) (J0 m (QK a m) (v:Int)) l)).2=true from hc,Bool.not_true,X8];refine Ep a m l n (v+1) _ zAD nn zB0 (fun k hk=>?_);rw[Kb];split
        · rename_i he;obtain⟨rfl,_⟩:=he;rw[if_pos (Nat.lt_succ_self _),hq v hk,if_neg (Nat.lt_irrefl _),show(XK (nth a.ZC v).ZK (Ze.mk ((nth a.ZC v).ZK.ZM.length:Int) m (Qt a m) (J0 m (QK a m) (v:Int)) l)).1=_ from(TW hc).1];rfl
        · grind
    · grind
theorem Dj{l:List Zm}(h:(XW a m l).2=true):Y7 a=true/\Y7 (XW a m l).1=true/\(XW a m l).1.Id=a.Id/\(XW a m l).1.ZC.length=a.ZC.length/\∀k,k<a.ZC.length->nth (XW a m l).1.ZC k=Bz a m l k:=by have k:=Ep a m l (a.ZC.length+1) 0 a.ZC zAD (Nat.zero_le _) rfl (fun k _=>by rw[if_neg (Nat.not_lt_zero _)]);unfold XW at h⊢;grind
theorem uw{α:Type}[Inhabited α]{l m:List α}(hl:l.length=m.length)(h:∀i,i<l.length->nth l i=nth m i):l=m:=by
  apply List.ext_getElem hl;intro i h1 h2;have:=h i h1
  rwa[XM h1,XM h2]at this
theorem C4{l:List Zm}(h:(XW a m l).2=true):(XW a m l).1.ZC.map (·.Id)=a.ZC.map (·.Id):=by obtain⟨_,_,_,h1,h2⟩:=Dj h;refine uw (by rw[List.length_map,List.length_map,h1]) (fun i hi=>?_);rw[List.length_map,h1]at hi;rw[PQ (by rw[h1];exact hi),PQ hi,h2 i hi];rfl
/- worlds stay worlds -/
/- what no step changes -/
def plC(w:ZG):List Y6×List Zo×List YJ×Int×List YO×List Int:=(w.Frame.Z0,w.Frame.ZD,w.Frame.Methods,w.Frame.XB,w.Zf,w.Yg)
structure PlI(b:Int)(x:ZG):Prop where
  w:PlW x
  sb:∀i,i<x.Y9.length->nth x.Y9 i<=b
  fo:∀y∈x.YN,y<x.Next
  c:plC x=plC (QG 0)\/plC x=plC (QG 1)
theorem C1(h:PlI b w):w.Zf=jN:=by rcases h.c with h|h<;>exact congrArg (fun x=>x.2.2.2.2.1) h
theorem rE(h:PlI b w):w.Zy.length=3:=by rw[h.w.en,C1 h];rfl
theorem CF{a:Int}(h:PlI a w)(hb:a<=b):PlI b w:=⟨h.w,fun i hi=>Int.le_trans (h.sb i hi) hb,h.fo,h.c⟩
theorem sT(h:PlI b w):PlI b (K4 w n).1:=by have k:=OU h.w.fr;refine D7 (P:=fun r=>PlI b r.1) h (fun h1 h2 h3=>?_);have k2:0<=W (w.Frame.Now+n):=zA3;exact⟨⟨D5 h.w.fr k2 h3,h.w.en,h.w.ar,h.w.sl,h.w.ll,h.w.nx,h.w.lr,h.w.fo,h.w.ce,h.w.ok,h.w.nd,h.w.lt,h.w.sq,h.w.lf⟩,h.sb,h.fo,h.c⟩
theorem Is(h:PlW w)(hi:i<w.ZB.length)(hx:x.Id=w.Next)(ha:(Yr (nth w.ZB i) x).2=true)(hf:JV fo=true):
    W (w.Next+1)=w.Next+1/\PlW (ZG.mk w.Frame w.Zf w.Zy (w.ZB.set i (Yr (nth w.ZB i) x).1) w.Y9 w.Yg (w.Next+1) fo):=by
  obtain⟨_,h2,h3,k,e⟩:=VX ha;have eE:(Yr (nth w.ZB i) x).1.Id=(i:Int):=by rw[e];exact(h.ok i hi).2
  have hm:x∈(Yr (nth w.ZB i) x).1.ZC:=by rw[e];exact List.mem_append.2 (.inl (List.mem_append.2 (.inr (List.mem_singleton.2 rfl))))
  have hit:=((W2 _).1 h3).it x hm;have hn:w.Next<=999:=by unfold Jy at hit;simp only[Bool.and_eq_true,WJ]at hit;omega
  have h0:=h.nx;have hp:=GX hi (RF ha);rw[hx]at hp;refine⟨by simp only[Yw];omega,⟨h.fr,h.en,by rw[List.length_set];exact h.ar,h.sl,h.ll,by show 1<=w.Next+1;omega,h.lr,hf,h.ce,Rb h h3 eE,?_,?_,h.sq,h.lf⟩⟩
  · refine hp.nodup_iff.2 (List.nodup_cons.2 ⟨fun hc=>?_,h.nd⟩);have:=h.lt _ hc;omega
  · intro y hy;show y<w.Next+1
    rcases List.mem_cons.1 (hp.mem_iff.1 hy)with rfl|hy
    · omega
    · have:=h.lt y hy;omega
theorem sU{i:Int}{e:Int}(h:PlI b w):PlI b (J2 w i k d o e).1/\((J2 w i k d o e).2=true->(J2 w i k d o e).1.Next=w.Next+1):=by have hl:=h.w.ar;refine DY (P:=fun r=>PlI b r.1/\(r.2=true->r.1.Next=w.Next+1)) ⟨h,fun k=>(by cases k)⟩ (fun h1 _ _ _ v _ _ _ h7=>?_);obtain⟨h8,h9⟩:=yC h1 zAD;obtain⟨e1,hw⟩:=Is h.w h9 rfl h7 h.w.fo;unfold G4;rw[e1];exact⟨⟨hw,h.sb,fun x hx=>by have:=h.fo x hx;show x<w.Next+1;omega,h.c⟩,fun _=>rfl⟩
theorem zw{α:Type}[Inhabited α](l m:List α)(i:Nat):nth (l++m) i=if i<l.length then nth l i else nth m (i-l.length):=by simp only[nth,List.getD_eq_getElem?_getD,List.getElem?_append];split<;>rfl
theorem Et(a1:List Int):JV a1=true↔∀i,0<i->i<a1.length->nth a1 (i-1)<nth a1 i:=by have:=jZ (L:=kr a1) (len:=a1.length) (c:=fun v=>decide (nth a1 (v-1)>=nth a1 v)) (fun _=>rfl) (fun _ _=>rfl) (a1.length+1) 1 zAD true;unfold JV;grind
theorem Fm{l:List Int}{x:Int}(h:JV l=true)(hx:∀y∈l,y<x):JV (l++[x])=true:=by
  rw[Et]at h⊢;intro i h0 hi;rw[List.length_append,List.length_singleton]at hi;rw[zw,zw];by_cases h1:i<l.length
  · rw[if_pos zAD,if_pos h1];exact h i h0 h1
  · rw[if_pos zAD,if_neg h1,show i-l.length=0 by omega];exact hx _ zBQ
theorem tB{i:Int}(h:PlI b w):PlI b (Jt w i k d).1:=by
  have hl:=h.w.ar;refine HU (P:=fun r=>PlI b r.1) h (fun _ h1 _ _ v _ _ _ h7=>?_);obtain⟨h8,h9⟩:=yC h1 zAD;obtain⟨e1,hw⟩:=Is h.w h9 rfl h7 (Fm h.w.fo h.fo);rw[e1];refine⟨hw,h.sb,fun x hx=>?_,h.c⟩;show x<w.Next+1
  rcases List.mem_append.1 hx with hx|hx
  · have:=h.fo x hx;omega
  · rw[List.mem_singleton.1 hx];omega
/- an item whose strand changes -/
theorem sY(h:Jy x=true)(hs:Xv s=true)(h0:nth s.ZM 0=nth x.ZK.ZM 0):Jy (ZR.mk x.Id x.XI x.Doc x.Sig s)=true:=by unfold Jy at h⊢;grind
theorem vD(h:Jy x=true):0<x.ZK.ZM.length:=by
  unfold Jy Xv at h;simp only[Bool.and_eq_true]at h;have h1:=h.1.2
  cases hc:((!(ZZ (x.ZK.ZM.length:Int) 1 12))||(decide ((x.ZK.ZQ.length:Int)>8)))with
  |true=>rw[hc,Xe]at h1;cases h1
  |false=>simp only[Bool.or_eq_false_iff,Bool.not_eq_false',WJ]at hc;omega
theorem CP{k:Nat}(h:Y7 a=true)(hy:Jy y=true)(eE:y.Id=(nth a.ZC k).Id):Y7 (ZE.mk a.Id (a.ZC.set k y))=true/\(a.ZC.set k y).map (·.Id)=a.ZC.map (·.Id):=by
  have e:(a.ZC.set k y).map (·.Id)=a.ZC.map (·.Id):=by
    refine uw zAG (fun i hi=>?_);rw[List.length_map,List.length_set]at hi;rw[PQ (by rw[List.length_set];exact hi),PQ hi,Kb];split
    · rename_i hc;rw[eE,hc.1]
    · rfl
  have h:=(W2 a).1 h;refine⟨(W2 _).2 ⟨fun x hx=>?_,by rw[e];exact h.as,h.id,by rw[List.length_set];exact h.ln⟩,e⟩;rcases List.mem_or_eq_of_mem_set hx with hx|rfl
  · exact h.it x hx
  · exact hy
theorem Lj(h:PlW w){k:Nat}(hi:i<w.ZB.length)(hk:k<(nth w.ZB i).ZC.length)(hs:Xv s=true)(h0:nth s.ZM 0=nth (nth (nth w.ZB i).ZC k).ZK.ZM 0):
    PlW (ZG.mk w.Frame w.Zf w.Zy (w.ZB.set i (ZE.mk (nth w.ZB i).Id ((nth w.ZB i).ZC.set k (ZR.mk (nth (nth w.ZB i).ZC k).Id (nth (nth w.ZB i).ZC k).XI (nth (nth w.ZB i).ZC k).Doc (nth (nth w.ZB i).ZC k).Sig s)))) w.Y9 w.Yg w.Next w.YN):=by
  have h1:=h.ok i hi;have h2:Jy (nth (nth w.ZB i).ZC k)=true:=((W2 _).1 h1.1).it _ (by rw[XM hk];exact List.getElem_mem hk);obtain⟨h3,h4⟩:=CP (k:=k) h1.1 (sY h2 hs h0) rfl;exact tY h h3 h1.2 h4
theorem jQ{x:Int}(h:0<=Zg a x):(Zg a x).toNat<a.ZC.length/\(nth a.ZC (Zg a x).toNat).Id=x:=by
  unfold Zg at h⊢;rcases VG (L:=kF a x) (r:=fun i=>(i:Int)) (fun _=>rfl) (fun _ _=>rfl) (a.ZC.length+1) 0 zAD with⟨e,p⟩|⟨i,e,p1,p2,p3,p4⟩
  · rw[e]at h;simp at h
  · rw[e];exact⟨by simpa using p2,by simpa using p3⟩
theorem T8(h:PlW w){k:Nat}(hi:i<w.ZB.length)(hk:k<(nth w.ZB i).ZC.length):Jy (nth (nth w.ZB i).ZC k)=true:=
  ((W2 _).1 (h.ok i hi).1).it _ (by rw[XM hk];exact List.getElem_mem hk)
theorem RW{i:Int}(h:PlI b w)(h0:0<=i)(hi:i<(w.ZB.length:Int)):PlI b (JI w i id st).1:=by
  refine Rk (P:=fun r=>PlI b r.1) h (fun _ h2 h3=>?_);obtain⟨e,hs⟩:=Lb h3;obtain⟨hk,_⟩:=jQ h2;have lN:i.toNat<w.ZB.length:=zAD
  have hp:=vD (T8 h.w lN hk);have k:=Lj (s:=_) h.w lN hk hs (by
    show nth (_++[_]) 0=_;rw[zw,if_pos hp])
  rw[<-e]at k;have e2:(Jv (nth w.ZB i.toNat) id (XX (XS w.Frame.Z0 st).1)).1=ZE.mk (nth w.ZB i.toNat).Id ((nth w.ZB i.toNat).ZC.set (Zg (nth w.ZB i.toNat) id).toNat (ZR.mk (nth (nth w.ZB i.toNat).ZC (Zg (nth w.ZB i.toNat) id).toNat).Id (nth (nth w.ZB i.toNat).ZC (Zg (nth w.ZB i.toNat) id).toNat).XI (nth (nth w.ZB i.toNat).ZC (Zg (nth w.ZB i.toNat) id).toNat).Doc (nth (nth w.ZB i.toNat).ZC (Zg (nth w.ZB i.toNat) id).toNat).Sig (J3 (nth (nth w.ZB i.toNat).ZC (Zg (nth w.ZB i.toNat) id).toNat).ZK (XX (XS w.Frame.Z0 st).1)).1)):=by unfold Jv;rw[decide_eq_false zAD,X8]
  rw[e2];exact⟨k,h.sb,h.fo,h.c⟩
theorem vJ(h:PlI b w):PlI b (Qv w id).1:=by
  unfold Qv;refine Zx (p:=fun r:ZG×Bool=>PlI b r.1) (fun _=>h) (fun hc=>?_);refine Zx (p:=fun r:ZG×Bool=>PlI b r.1) (fun _=>h) (fun _=>?_);simp only[Bool.or_eq_false_iff,Bool.not_eq_false']at hc;have k:=Qd w id hc.1
  exact ZP (p:=fun r:ZG×Bool=>PlI b r.1) (RW h k.1 k.2.1) (RW h k.1 k.2.1)
theorem te(h:PlI b w):PlI b (J1 w id t).1:=by
  unfold J1;refine Zx (p:=fun r:ZG×Bool=>PlI b r.1) (fun _=>h) (fun hc=>?_);simp only[Bool.or_eq_false_iff,Bool.not_eq_false']at hc;have k:=Qd w id hc.1
  exact RW h k.1 k.2.1
theorem wq(h:PlI b w):PlI b (QO w k).1/\((QO w k).2=true->0<=k/\k.toNat<w.Zy.length/\nth (QO w k).1.Zy k.toNat=W (w.Frame.Now+1)):=by
  have h0:=OU h.w.fr;have hb:=rE h;unfold QO;refine Zx (p:=fun r:ZG×Bool=>PlI b r.1/\(r.2=true->0<=k/\k.toNat<w.Zy.length/\nth r.1.Zy k.toNat=W (w.Frame.Now+1))) (fun _=>⟨h,fun h=>zA7⟩) (fun hc=>?_);simp only[Bool.or_eq_false_iff,Bool.not_eq_false',WJ]at hc;have e:W ((w.Zy.length:Int)-1)=w.Zy.length-1:=zA3;rw[e]at hc;refine⟨⟨⟨h.w.fr,by rw[List.length_set];exact h.w.en,h.w.ar,h.w.sl,h.w.ll,h.w.nx,h.w.lr,h.w.fo,fun i hi=>?_,h.w.ok,h.w.nd,h.w.lt,h.w.sq,h.w.lf⟩,h.sb,h.fo,h.c⟩,fun _=>⟨hc.1.1,zAD,?_⟩⟩
  · have:=h.w.ce i hi;refine⟨this.1,this.2.1,?_⟩;show ZZ (nth (w.Zy.set k.toNat _) i) (-1) 10001=true
    rw[Kb];split
    · rw[WJ];simp only[Yw];omega
    · exact this.2.2
  · show nth (w.Zy.set k.toNat _) k.toNat=_;rw[Kb,if_pos ⟨rfl,zAD⟩]
theorem uX{i:Int}(h:PlI b w)(hn:(ids.length:Int)<=n)(hb:b+n<=4611686018427387904):PlI (b+n) (Q6 w i ids iv).1/\(Q6 w i ids iv).1.Y9.length=w.Y9.length/\(∀j,j<w.Y9.length->nth w.Y9 j<=nth (Q6 w i ids iv).1.Y9 j):=by
  have hl:=h.w.ar;refine G0 (P:=fun r=>PlI (b+n) r.1/\r.1.Y9.length=w.Y9.length/\(∀j,j<w.Y9.length->nth w.Y9 j<=nth r.1.Y9 j)) (Q:=fun v _ q=>q.length=w.Y9.length/\∀j,j<w.Y9.length->nth w.Y9 j<=nth q j/\nth q j<=nth w.Y9 j+v) ⟨CF h zAD,rfl,fun j _=>Int.le_refl _⟩ ⟨rfl,fun j _=>⟨Int.le_refl _,zAG⟩⟩ (fun v l q t hv _ hq=>⟨by rw[List.length_set];exact hq.1,fun j hj=>?_⟩) (fun h1 _ _ _ l q hq hk=>?_)
  · have z:=hq.2 j hj;rw[Kb];split
    · rename_i hc;have k1:=h.w.sq j hj
      have k2:=h.sb j hj;rw[hc.1];have e:W (nth q j+1)=nth q j+1:=zA3;rw[e];omega
    · omega
  · obtain⟨h8,h9⟩:=yC h1 zAD;obtain⟨_,k1,k2,_,_⟩:=Dj hk;have k3:=C4 hk
    have hs:∀j,j<q.length->0<=nth q j:=fun j hj=>by rw[hq.1]at hj;have:=h.w.sq j hj;have:=hq.2 j hj;omega
    refine⟨⟨Aq h.w k1 (by rw[k2];exact(h.w.ok _ h9).2) (by rw[k3];exact List.Sublist.refl _) hq.1 hs,fun j hj=>?_,h.fo,h.c⟩,hq.1,fun j hj=>(hq.2 j hj).1⟩;change j<q.length at hj;rw[hq.1]at hj;have:=hq.2 j hj;have:=h.sb j hj
    show nth q j<=b+n;omega
theorem LR{l:List ZR}(h:Y7 a=true)(hl:l.Sublist a.ZC):Y7 (ZE.mk a.Id l)=true:=by have h:=(W2 a).1 h;exact(W2 _).2 ⟨fun x hx=>h.it x (hl.subset hx),h.as.sublist (hl.map _),h.id,Nat.le_trans hl.length_le h.ln⟩
theorem AZ{l:List ZE}{x:Int}(h:i<l.length)(e:((nth l i).ZC.map (·.Id)).Perm (x::a.ZC.map (·.Id))):(xg l).Perm (x::xg (l.set i a)):=by obtain⟨A,B,h1,h2⟩:=Sc l i h;grind
theorem FZ{l:List ZR}{k:Nat}{x:Int}(hk:k<l.length)(hx:(nth l k).Id=x):(l.map (·.Id)).Perm (x::(l.eraseIdx k).map (·.Id)):=by
  have e:l.map (·.Id)=(l.take k).map (·.Id)++x::(l.drop (k+1)).map (·.Id):=by rw[<-hx,XM hk,<-List.map_cons (f:=fun x:ZR=>x.Id),<-List.map_append,<-List.drop_eq_getElem_cons hk,List.take_append_drop]
  grind
theorem wJ(hl:a.ZC.length<=1048576)(h:(Qf a id).2=true):0<=Zg a id/\(Qf a id).1=ZE.mk a.Id (a.ZC.eraseIdx (Zg a id).toNat):=by
  unfold Qf at h⊢;cases hc:decide (Zg a id<0)with
  |true=>rw[hc,Xe]at h;cases h
  |false=>have hc:=of_decide_eq_false hc;have k:=jQ (a:=a) (x:=id) zAD;rw[X8];refine⟨zAD,?_⟩;rw[List.eraseIdx_eq_take_drop_succ,show(W (Zg a id+1)).toNat=(Zg a id).toNat+1 by simp only[Yw];omega]
theorem DA{b:ZE}(h:(XZ a b [id] m).2.2=true):0<=Zg a id/\(Qf a id).2=true/\(Yr b (nth a.ZC (Zg a id).toNat)).2=true/\(XZ a b [id] m).1=(Qf a id).1/\(XZ a b [id] m).2.1=(Yr b (nth a.ZC (Zg a id).toNat)).1:=by
  have hmp:Zg a id<0->(Xo a b.Id [id] m).2=false:=fun hc=>by simp[Xo,Jd,hc,nth]
  have hmq:¬Zg a id<0->Xo a b.Id [id] m=(Yk.mk a.Id b.Id [nth a.ZC (Zg a id).toNat] (JF m [nth a.ZC (Zg a id).toNat]),true):=fun hc=>by simp[Xo,Jd,hc,nth]
  by_cases hc:Zg a id<0
  · unfold XZ at h;grind
  · have e:=hmq hc;generalize hx:nth a.ZC (Zg a id).toNat=x at e⊢;unfold XZ at h⊢;rw[e]at h⊢;dsimp only at h⊢;rw[Bool.not_true,Bool.false_or]at h⊢;have eJ:(Xs b (Yk.mk a.Id b.Id [x] (JF m [x])) m).2=true->(Yr b x).2=true/\(Xs b (Yk.mk a.Id b.Id [x] (JF m [x])) m).1=(Yr b x).1:=fun hq=>by
      unfold Xs at hq⊢;cases hd:((!(xE (Yk.mk a.Id b.Id [x] (JF m [x])) m))||(b.Id !=b.Id))with
      |true=>dsimp only at hq;rw[hd,Xe]at hq;cases hq
      |false=>
        dsimp only at hq⊢;rw[hd,X8]at hq;rw[X8];cases hz:(Yr b x).2 with
        |false=>simp[JL,hz,nth]at hq
        |true=>refine⟨rfl,?_⟩;simp[JL,hz,nth]
    cases h2:(Xs b (Yk.mk a.Id b.Id [x] (JF m [x])) m).2 with
    |false=>rw[h2,Bool.not_false,Xe]at h;cases h
    |true=>
      obtain⟨k1,k2⟩:=eJ h2;rw[h2,Bool.not_true,X8]at h;rw[Bool.not_true,X8,k2];cases hz:(Qf a id).2 with
      |false=>simp[Kn,hz,nth]at h
      |true=>refine⟨zAD,rfl,k1,?_,?_⟩<;>simp[Kn,hz,nth]
theorem CA{i:Int}(h0:P (w,false))(h1:Yt w i=true->Yt w k=true->i≠k->0<=Zg (nth w.ZB i.toNat) id->(Qf (nth w.ZB i.toNat) id).2=true->(Yr (nth w.ZB k.toNat) (nth (nth w.ZB i.toNat).ZC (Zg (nth w.ZB i.toNat) id).toNat)).2=true->P (ZG.mk w.Frame w.Zf w.Zy ((w.ZB.set i.toNat (Qf (nth w.ZB i.toNat) id).1).set k.toNat (Yr (nth w.ZB k.toNat) (nth (nth w.ZB i.toNat).ZC (Zg (nth w.ZB i.toNat) id).toNat)).1) w.Y9 w.Yg w.Next w.YN,true)):P (K3 w i k id):=by
  unfold K3;refine Zx (p:=P) (fun _=>h0) (fun h=>?_);simp only[Bool.or_eq_false_iff,Bool.not_eq_false',beq_eq_false_iff_ne]at h;cases hm:(XZ (nth w.ZB i.toNat) (nth w.ZB k.toNat) ([id]:List Int) (ZY w.Frame.Methods w.Frame.Now)).2.2 with
  |false=>rw[X8];exact h0
  |true=>obtain⟨k1,k2,k3,k4,k5⟩:=DA hm;rw[Xe,k4,k5];exact h1 h.1.1.1 h.1.1.2 h.1.2 k1 k2 k3
theorem sf{i:Int}(h:PlI b w):PlI b (K3 w i k id).1:=by
  have hl:=h.w.ar;refine CA (P:=fun r=>PlI b r.1) h (fun h1 h2 h3 h4 h5 h6=>?_);obtain⟨i0,i1⟩:=yC h1 zAD;obtain⟨k0,k1⟩:=yC h2 zAD;have ai:=h.w.ok _ i1;have ak:=h.w.ok _ k1;have hln:=((W2 _).1 ai.1).ln;obtain⟨_,e⟩:=wJ zAD h5;obtain⟨f1,f2⟩:=jQ h4;obtain⟨_,_,g1,_,g2⟩:=VX h6;have g3:=RF h6;rw[f2]at g3;rw[e];have nf:i.toNat≠k.toNat:=zAD;have p1:(xg w.ZB).Perm (id::xg (w.ZB.set i.toNat (ZE.mk (nth w.ZB i.toNat).Id ((nth w.ZB i.toNat).ZC.eraseIdx (Zg (nth w.ZB i.toNat) id).toNat)))):=by refine AZ i1 ?_;exact FZ f1 f2
  have p2:=GX (l:=w.ZB.set i.toNat (ZE.mk (nth w.ZB i.toNat).Id ((nth w.ZB i.toNat).ZC.eraseIdx (Zg (nth w.ZB i.toNat) id).toNat))) (i:=k.toNat) (a:=(Yr (nth w.ZB k.toNat) (nth (nth w.ZB i.toNat).ZC (Zg (nth w.ZB i.toNat) id).toNat)).1) (x:=id) (by rw[List.length_set];exact k1) (by rw[Kb,if_neg (fun hc=>nf hc.1)];exact g3);have p:=p2.trans p1.symm;have hA:∀j,j<(w.ZB.set i.toNat (ZE.mk (nth w.ZB i.toNat).Id ((nth w.ZB i.toNat).ZC.eraseIdx (Zg (nth w.ZB i.toNat) id).toNat))).length->_:=Rb h.w (LR ai.1 (List.eraseIdx_sublist _ _)) ai.2;refine⟨⟨h.w.fr,h.w.en,by rw[List.length_set,List.length_set];exact h.w.ar,h.w.sl,h.w.ll,h.w.nx,h.w.lr,h.w.fo,h.w.ce,fun j hj=>?_,p.nodup_iff.2 h.w.nd,fun x hx=>h.w.lt x (p.mem_iff.1 hx),h.w.sq,h.w.lf⟩,h.sb,h.fo,h.c⟩;rw[List.length_set]at hj;show Y7 (nth (List.set _ k.toNat _:List ZE) j)=true/\(nth (List.set _ k.toNat _:List ZE) j).Id=_
  rw[Kb];grind
theorem Rt(a:ZE)(t:Int):∀(n v:Nat)(l:List ZR),a.ZC.length<n+v->v<=a.ZC.length->Q8 a t n v l=l++(a.ZC.drop v).filter (fun x=>decide (x.XI>=t))
  |0,v,l,h,hv=>zAD
  |n+1,v,l,h,hl=>by
    rw[Q8];by_cases hv:v<a.ZC.length
    · rw[decide_eq_true (show(v:Int)<(a.ZC.length:Int)by omega),Xe,List.drop_eq_getElem_cons hv,List.filter_cons,XM hv];cases hk:decide (a.ZC[v].XI>=t)with
      |true=>rw[Xe,Rt a t n _ _ zAD hv,List.append_assoc];rfl
      |false=>rw[X8,Rt a t n _ _ zAD hv];rfl
    · grind
theorem MG{i:Int}(h0:P (w,false))(h1:Yt w i=true->P (ZG.mk w.Frame w.Zf w.Zy (w.ZB.set i.toNat (ZE.mk (nth w.ZB i.toNat).Id ((nth w.ZB i.toNat).ZC.filter (fun x=>decide (x.XI>=w.Frame.Now))))) w.Y9 w.Yg w.Next w.YN,true)):P (JZ w i):=by unfold JZ;refine Zx (p:=P) (fun _=>h0) (fun h=>?_);rw[Bool.not_eq_false']at h;unfold yj;rw[Rt _ _ _ _ _ zAD (Nat.zero_le _),List.drop_zero,List.nil_append];exact h1 h
theorem vN{i:Int}(h:PlI b w):PlI b (JZ w i).1:=by have hl:=h.w.ar;refine MG (P:=fun r=>PlI b r.1) h (fun h1=>?_);obtain⟨i0,i1⟩:=yC h1 zAD;have ai:=h.w.ok _ i1;exact⟨Aq h.w (LR ai.1 List.filter_sublist) ai.2 (List.filter_sublist.map _) rfl h.w.sq,h.sb,h.fo,h.c⟩
theorem Eu{w:ZG}{id t:Int}:∀(n v:Nat)(l:List Zm)(r:ZG×Bool),Xh w id t n v l= .inl r->r=(w,false)
  |0,v,l,r,h=>zA7
  |n+1,v,l,r,h=>by rw[Xh]at h;revert h;refine ZP (p:=fun x:Sum (ZG×Bool) (List Zm)=>x= .inl r->r=(w,false)) ?_ (fun h=>by cases h);exact ZP (p:=fun x:Sum (ZG×Bool) (List Zm)=>x= .inl r->r=(w,false)) (fun h=>by cases h;rfl) (fun h=>Eu n _ _ r h)
def Bt(w:ZG)(id:Int)(l:List Zm):Ze:=Ze.mk ((nth (nth w.ZB (ZO w id).1.toNat).ZC (ZO w id).2.toNat).ZK.ZM.length:Int) (ZY w.Frame.Methods w.Frame.Now) (KV (nth (nth w.ZB (ZO w id).1.toNat).ZC (ZO w id).2.toNat) (ZY w.Frame.Methods w.Frame.Now)) [] l
theorem CL(h0:P (w,false))(h1:Qj w.YN id=true->0<=(ZO w id).1->0<=ZY w.Frame.Methods w.Frame.Now->Zv w≠[]->∀l,Xh w id t ((Zv w).length+1) 0 []= .inr l->(XK (nth (nth w.ZB (ZO w id).1.toNat).ZC (ZO w id).2.toNat).ZK (Bt w id l)).2=true->P (ZG.mk w.Frame w.Zf w.Zy (w.ZB.set (ZO w id).1.toNat (ZE.mk (nth w.ZB (ZO w id).1.toNat).Id ((nth w.ZB (ZO w id).1.toNat).ZC.set (ZO w id).2.toNat (ZR.mk (nth (nth w.ZB (ZO w id).1.toNat).ZC (ZO w id).2.toNat).Id (nth (nth w.ZB (ZO w id).1.toNat).ZC (ZO w id).2.toNat).XI (nth (nth w.ZB (ZO w id).1.toNat).ZC (ZO w id).2.toNat).Doc (nth (nth w.ZB (ZO w id).1.toNat).ZC (ZO w id).2.toNat).Sig (ZX.mk (nth (nth w.ZB (ZO w id).1.toNat).ZC (ZO w id).2.toNat).ZK.ZM ((nth (nth w.ZB (ZO w id).1.toNat).ZC (ZO w id).2.toNat).ZK.ZQ++[Bt w id l])))))) w.Y9 w.Yg w.Next w.YN,true)):P (QS w id t):=by
  unfold QS;refine Zx (p:=P) (fun _=>h0) (fun h=>?_);simp only[Bool.or_eq_false_iff,Bool.not_eq_false',decide_eq_false_iff_not,beq_eq_false_iff_ne]at h;have e:=fun r=>Eu (w:=w) (id:=id) (t:=t) ((Zv w).length+1) 0 [] r
  have h1:=h1 h.1.1.1 zAD zAD (fun e=>h.2 (by rw[e];rfl));generalize Xh w id t ((Zv w).length+1) 0 []=s at e h1⊢;cases s with
  |inl r=>rw[e r rfl];exact h0
  |inr l=>
    have h1:=h1 l rfl;cases ha:(XK (nth (nth w.ZB (ZO w id).1.toNat).ZC (ZO w id).2.toNat).ZK (Bt w id l)).2 with
    |true=>have h2:=h1 ha;have e1:=(TW ha).1;unfold Bt at ha e1;dsimp only;rw[ha,e1];exact h2
    |false=>
      have e1:(XK (nth (nth w.ZB (ZO w id).1.toNat).ZC (ZO w id).2.toNat).ZK (Bt w id l)).1=(nth (nth w.ZB (ZO w id).1.toNat).ZC (ZO w id).2.toNat).ZK:=by unfold XK at ha⊢;grind
      unfold Bt at ha e1;dsimp only;rw[ha,e1];rw[show ZR.mk (nth (nth w.ZB (ZO w id).1.toNat).ZC (ZO w id).2.toNat).Id (nth (nth w.ZB (ZO w id).1.toNat).ZC (ZO w id).2.toNat).XI (nth (nth w.ZB (ZO w id).1.toNat).ZC (ZO w id).2.toNat).Doc (nth (nth w.ZB (ZO w id).1.toNat).ZC (ZO w id).2.toNat).Sig (nth (nth w.ZB (ZO w id).1.toNat).ZC (ZO w id).2.toNat).ZK=nth (nth w.ZB (ZO w id).1.toNat).ZC (ZO w id).2.toNat from rfl,wU,show ZE.mk (nth w.ZB (ZO w id).1.toNat).Id (nth w.ZB (ZO w id).1.toNat).ZC=nth w.ZB (ZO w id).1.toNat from rfl,wU];exact h0
theorem sQ(h:PlI b w):PlI b (QS w id t).1:=by refine CL (P:=fun r=>PlI b r.1) h (fun _ h2 _ _ l _ h5=>?_);obtain⟨k1,k2,k3⟩:=Ym w id h2;obtain⟨_,k4⟩:=TW h5;exact⟨Lj h.w k1 k3 k4 rfl,h.sb,h.fo,h.c⟩
theorem UD(n:Int):QG n=QG 0\/QG n=QG 1:=by
  have e:Tt 1 (jb 0 n)=Tt 1 (jb 0 0)\/Tt 1 (jb 0 n)=Tt 1 (jb 0 1):=by
    by_cases h:n>0
    · right;have e1:jb 0 n=n:=by unfold jb;simp only[h,decide_true,Xe]
      have e2:¬n<1:=zAD;rw[e1];unfold Tt;simp only[e2,decide_false,X8];rfl
    · left;have e1:jb 0 n=0:=by unfold jb;simp only[h,decide_false,X8]
      rw[e1];rfl
  rcases e with e|e
  · left;unfold QG;rw[e]
  · right;unfold QG;rw[e]
theorem pA(x:Int):PlI 0 (QG x):=by
  have h1:Mr (QG x)=true:=by rcases UD x with h|h<;>rw[h]<;>decide+kernel
  refine⟨(ue _).1 h1,?_,?_,by rcases UD x with h|h<;>rw[h]<;>simp⟩
  · rcases UD x with h|h<;>rw[h]<;>decide+kernel
  · rcases UD x with h|h<;>rw[h]<;>decide+kernel
/- events -/
theorem HG(h0:P (w,false))(h1:e.Kind=1->P (K4 w e.A))(h2:e.Kind=2->P (J2 w e.A e.B e.Doc e.C e.D))(h3:e.Kind=3->P (Qv w e.A))(h4:e.Kind=4->P (QO w e.A))(h5:e.Kind=5->P (Q6 w e.A e.Ids e.B))(h6:e.Kind=6->P (K3 w e.A e.B e.C))(h7:e.Kind=7->P (JZ w e.A))(h8:e.Kind=8->P (Jt w e.A e.B e.Doc))(h9:e.Kind=9->P (QS w e.A e.B))(hR:e.Kind=10->P (J1 w e.A e.B)):P (Y3 w e):=by unfold Y3;refine Zx (p:=P) (fun h=>h1 zBr) (fun _=>?_);grind
theorem Cz(h:PlI b w)(hn:(e.Ids.length:Int)<=n)(hb:b+n<=4611686018427387904):PlI (b+n) (Y3 w e).1:=by have hm:=CF (b:=b+n) h zAD;exact HG (P:=fun r=>PlI (b+n) r.1) hm (fun _=>sT hm) (fun _=>(sU hm).1) (fun _=>vJ hm) (fun _=>(wq hm).1) (fun _=>(uX h hn hb).1) (fun _=>sf hm) (fun _=>vN hm) (fun _=>tB hm) (fun _=>sQ hm) (fun _=>te hm)
def plU(w:ZG):=(w.Frame.Z0,w.Frame.ZD,w.Frame.Methods,w.Frame.XB,w.Frame.Now,w.Zf,w.Zy,w.ZB,w.Y9,w.Yg,w.Next,w.YN)
def Gc(w:ZG)(l:List Zt):ZG:=l.foldl (fun w e=>(Y3 w e).1) w
theorem Bf(l:List Zt):∀(n v:Nat)(w:ZG),l.length<n+v->v<=l.length->zn l n v w.Frame.Z0 w.Frame.ZD w.Frame.Methods w.Frame.XB w.Frame.Now w.Zf w.Zy w.ZB w.Y9 w.Yg w.Next w.YN=plU (Gc w (l.drop v))
  |0,v,w,h,hv=>zAD
  |n+1,v,w,h,hv=>by
    rw[zn];by_cases nn:v<l.length
    · rw[decide_eq_true (show(v:Int)<(l.length:Int)by omega),Xe,List.drop_eq_getElem_cons nn];have k:=Bf l n (v+1) (Y3 w (nth l v)).1 zAD nn
      rw[show Gc w (l[v]::l.drop (v+1))=Gc (Y3 w (nth l v)).1 (l.drop (v+1))by rw[XM nn];rfl,<-k]
    · rw[decide_eq_false (show ¬(v:Int)<(l.length:Int)by omega),X8,List.drop_eq_nil_of_le zAD];rfl
theorem RR(w:ZG)(l:List Zt):ZI w l=Gc w l:=by unfold ZI;rw[Bf l (l.length+1) 0 w zAD (Nat.zero_le _)];rfl
theorem AN{n:Nat}:∀{l:List Zt}{w:ZG}{b:Int},PlI b w->(∀e∈l,e.Ids.length<=n)->b+n*l.length<=4611686018427387904->PlI (b+n*l.length) (Gc w l)
  |[],w,b,h,_,_=>CF h zAG
  |e::l,w,b,h,hl,hb=>by
    rw[List.length_cons]at hb⊢;have e1:b+(n:Int)*((l.length+1:Nat):Int)=b+n+n*l.length:=by rw[Int.natCast_add,Int.mul_add];omega
    rw[e1]at hb⊢;have h0:0<=(n:Int)*(l.length:Int):=Int.mul_nonneg zAD zAD
    exact AN (l:=l) (Cz (e:=e) h (by have:=hl e List.mem_cons_self;omega) zAD) (fun x hx=>hl x (List.mem_cons_of_mem _ hx)) hb
/- drawn worlds -/
theorem je(h:Xv s=true):(1<=s.ZM.length/\s.ZM.length<=12)/\s.ZQ.length<=8/\(∀i,i<s.ZM.length->K8 (s.ZM.take i) (nth s.ZM i)=false)/\∀k,k<s.ZQ.length->(1<=(nth s.ZQ k).Count/\(nth s.ZQ k).Count<=s.ZM.length)/\(0<k->(nth s.ZQ (k-1)).Count<=(nth s.ZQ k).Count):=by
  unfold Xv at h;cases hc:((!(ZZ (s.ZM.length:Int) 1 12))||(decide ((s.ZQ.length:Int)>8)))with
  |true=>rw[hc,Xe]at h;cases h
  |false=>
    rw[hc,X8]at h;have k1:=(jZ (L:=kD s) (fun _=>rfl) (fun _ _=>rfl) (s.ZM.length+1) 0 zAD _).1 h
    have k2:=((jZ (L:=jn s) (fun _=>rfl) (fun _ _=>rfl) (s.ZQ.length+1) 0 zAD true).1 k1.2).1;simp only[Bool.or_eq_false_iff,Bool.not_eq_false',WJ,decide_eq_false_iff_not]at hc;refine⟨⟨zAD,zAD⟩,zAD,fun i hi=>k1.1 i (Nat.zero_le _) hi,fun k hk=>?_⟩;have z:=k2 k (Nat.zero_le _) hk;simp only[Bool.or_eq_false_iff,Bool.not_eq_false',WJ,Bool.and_eq_false_imp,decide_eq_true_eq,decide_eq_false_iff_not]at z;exact⟨z.1,fun h0=>by have:=z.2 zAD;omega⟩
theorem RQ(h:Jy x=true):Xv x.ZK=true:=by unfold Jy at h;simp only[Bool.and_eq_true]at h;exact h.1.2
theorem tq(f:Zb)(x:ZR)(q:ZU):Z4 f (ZV x) (Z7 (ZV x) x.Doc) q=if zX f x.ZK (XR x.ZK x.Doc) q<f.Now then zX f x.ZK (XR x.ZK x.Doc) q else f.Now:=by simp[Z4,zd,ZV,Z7,KT,nth]
theorem wy(f:Zb)(x:ZR)(D:List (List Int)):Zr f (ZV x) D=QU f (ZV x) D 0 (x.ZK.ZM.length+1) [] 0:=by unfold Zr;simp[K0,ZV,nth]
theorem BY(f:Zb)(x:ZR)(u:List ZU)(s:Zp):Xx f (ZV x) u s=(bif(decide (YT f.Z0 s.Key>=0))then(nth f.Z0 (YT f.Z0 s.Key).toNat).RH else 0):=by simp[Xx,xM,xH,ZV]
theorem Pv(h:∀t,JC l t q=false):(Ja l q).2=false:=by
  have key:∀n v x y,(Jj l q n false v x y).1=false:=by
    intro n;induction n with
    |zero=>intro v x y;rfl
    |succ n ih=>intro v x y;rw[Jj];grind
  have:=key 10002 0 0 0;unfold Ja;grind
theorem TI(a:List Zo)(l:List Zm):∀(n:Nat)(acc:List Zh)(v:Nat),l.length<n+v->v<=l.length->
    (∀r,zZ a l n acc v= .inl r->r.2=false)/\∀z,zZ a l n acc v= .inr z->z=acc++(l.drop v).map (fun s=>(Xw a s).1)/\∀j,v<=j->j<l.length->(Xw a (nth l j)).2=true
  |0,acc,v,h,hv=>zAD
  |n+1,acc,v,h,hv=>by
    rw[zZ];by_cases nn:v<l.length
    · rw[decide_eq_true (show(v:Int)<(l.length:Int)by omega),Xe];cases hc:(Xw a (nth l v)).2 with
      |false=>grind
      |true=>
        rw[Bool.not_true,X8];obtain⟨k1,k2⟩:=TI a l n (acc++[(Xw a (nth l v)).1]) (v+1) zAD nn;refine⟨k1,fun z hz=>?_⟩;obtain⟨k3,k4⟩:=k2 z hz;refine⟨?_,fun j h1 h2=>?_⟩
        · rw[k3,List.drop_eq_getElem_cons nn,List.map_cons,XM nn,List.append_assoc];rfl
        · grind
    · grind
theorem D8{a:List Zo}(hl:r.YV.length<=1000)(h:(r.YV.length:Int)<=q):(Yj a r q).2=false:=by
  show(QY a r.YV q).2=false;obtain⟨k1,k2⟩:=TI a r.YV (r.YV.length+1) [] 0 zAD (Nat.zero_le _);unfold QY;generalize zZ a r.YV (r.YV.length+1) [] 0=s at k1 k2⊢;cases s with
  |inl x=>exact k1 x rfl
  |inr z=>
    have hz:=(k2 z rfl).1;refine Pv fun t=>?_;have e:z.length=r.YV.length:=by rw[hz];simp
    unfold JC;have:ZZ q 0 (W ((z.length:Int)-1))=false:=by rw[Bool.eq_false_iff];intro hc;rw[WJ]at hc;rw[e,show W ((r.YV.length:Int)-1)=r.YV.length-1 by simp only[Yw];omega]at hc;omega
    rw[this];rfl
theorem tS{a:List Zo}{m:List YJ}{T:Int}(hT:0<=T)(hj:j<r.YV.length)(h:0<=YT keys (X7 a (nth r.YV j))->yL m (nth keys (YT keys (X7 a (nth r.YV j))).toNat).Method<=T):Jn keys a m r<=T:=by
  have key:∀n b v,r.YV.length<n+v->v<=r.YV.length->(b<=T\/v<=j)->(match yP keys a m r n b v with|.inl r1=>r1|.inr z=>z)<=T:=by
    intro n;induction n with
    |zero=>intro b v h1 h2;omega
    |succ n ih=>intro b v h1 h2 h3;rw[yP];grind
  exact key _ _ _ zAD (Nat.zero_le _) (.inr (Nat.zero_le _))
theorem R4(h:PlI b w):w.Frame.Z0=yD/\w.Frame.ZD=YR/\w.Frame.Methods=kW/\((w.Frame.XB=0/\w.Yg=[])\/(w.Frame.XB=1/\w.Yg=[1])):=by
  rcases h.c with e|e
  · exact⟨congrArg (·.1) e,congrArg (·.2.1) e,congrArg (·.2.2.1) e,.inl ⟨congrArg (·.2.2.2.1) e,congrArg (·.2.2.2.2.2) e⟩⟩
  · exact⟨congrArg (·.1) e,congrArg (·.2.1) e,congrArg (·.2.2.1) e,.inr ⟨congrArg (·.2.2.2.1) e,congrArg (·.2.2.2.2.2) e⟩⟩
theorem Og(w:ZG):∀(n:Nat)(l:List Int)(v:Nat),w.Frame.ZD.length<n+v->v<=w.Frame.ZD.length->Qg w n l v=l++((w.Frame.ZD.drop v).filter (fun a=>Qj w.Yg a.Id||J4 w.Frame a.Key)).map (·.Id)
  |0,l,v,h,hv=>zAD
  |n+1,l,v,h,hv=>by
    rw[Qg];by_cases nn:v<w.Frame.ZD.length
    · rw[decide_eq_true (show(v:Int)<(w.Frame.ZD.length:Int)by omega),Xe,List.drop_eq_getElem_cons nn,List.filter_cons,XM nn];cases hk:(Qj w.Yg (w.Frame.ZD[v]).Id||J4 w.Frame (w.Frame.ZD[v]).Key)with
      |true=>rw[Xe,Og w n _ _ zAD nn,List.append_assoc];rfl
      |false=>rw[X8,Og w n _ _ zAD nn];rfl
    · grind
theorem Bn(w:ZG):Zv w=(w.Frame.ZD.filter (fun a=>Qj w.Yg a.Id||J4 w.Frame a.Key)).map (·.Id):=by have h:=Og w (w.Frame.ZD.length+1) [] 0 zAD (Nat.zero_le _);rw[List.drop_zero,List.nil_append]at h;exact h
theorem O8{k:List Y6}{a:List Zo}{s:Zm}(h:(Xy k a s).2=true):(0<=Zk a s.Authority/\0<=s.Seq/\Kd s.Time=true)/\(Xy k a s).1=Zm.mk s.Authority s.Seq s.Time s.QI (y8 k (nth a (Zk a s.Authority).toNat).Key (KH s)).1:=by revert h;unfold Xy;grind
theorem Ez{w:ZG}{id t:Int}:∀(n v:Nat)(l z:List Zm),(Zv w).length<n+v->v<=(Zv w).length->Xh w id t n v l= .inr z->z.map (·.Authority)=l.map (·.Authority)++(Zv w).drop v
  |0,v,l,z,hn,hv,h=>zAD
  |n+1,v,l,z,hn,hv,h=>by
    rw[Xh]at h;by_cases nn:v<(Zv w).length
    · rw[decide_eq_true (show(v:Int)<((Zv w).length:Int)by omega),Xe]at h;revert h;refine Zx (p:=fun x:Sum (ZG×Bool) (List Zm)=>x= .inr z->z.map (·.Authority)=l.map (·.Authority)++(Zv w).drop v) (fun _ h=>by cases h) (fun hc h=>?_);rw[Bool.not_eq_false']at hc;have k:=Ez n (v+1) _ z zAD nn h
      rw[k,List.map_append,(O8 hc).2,List.drop_eq_getElem_cons nn,List.append_assoc];simp[XM nn]
    · grind
theorem tv:∀a∈YR,0<=Zk YR a.Id/\(nth YR (Zk YR a.Id).toNat).Key=a.Key:=zAE
theorem BK{l:List Zm}(h:PlI b w)(hl:Xh w id t ((Zv w).length+1) 0 []= .inr l)(ls:l.length<=1000):(∀T,w.Frame.Now<=T->Jn w.Frame.Z0 w.Frame.ZD w.Frame.Methods (Bt w id l)<=T)\/(Yj w.Frame.ZD (Bt w id l) w.Frame.XB).2=false:=by
  have e:=Ez _ _ _ _ zAD (Nat.zero_le _) hl;rw[List.drop_zero,List.map_nil,List.nil_append]at e;obtain⟨c1,c2,c3,c4⟩:=R4 h;by_cases mF:∃a∈w.Frame.ZD,J4 w.Frame a.Key=true
  · left;obtain⟨a,ha,hs⟩:=mF;intro T hT;have h0:=OU h.w.fr
    have hm:a.Id∈l.map (·.Authority):=by rw[e,Bn];grind
    obtain⟨s,mj,nt⟩:=List.mem_map.1 hm;obtain⟨j,hj,cO⟩:=List.mem_iff_getElem.1 mj;have hk:X7 w.Frame.ZD (nth l j)=a.Key:=by
      rw[XM hj,cO];unfold X7;rw[nt];rw[c2]at ha⊢;have z:=tv a ha
      rw[decide_eq_true z.1,Xe,z.2]
    refine tS (j:=j) zAD hj ?_;show 0<=YT w.Frame.Z0 (X7 w.Frame.ZD (nth l j))->yL w.Frame.Methods (nth w.Frame.Z0 (YT w.Frame.Z0 (X7 w.Frame.ZD (nth l j))).toNat).Method<=T
    rw[hk];intro hf;unfold J4 YS at hs;grind
  · right;refine D8 (by exact ls) ?_;show(l.length:Int)<=w.Frame.XB
    have el:l.length=(w.Frame.ZD.filter (fun a=>Qj w.Yg a.Id)).length:=by have e2:=congrArg List.length e;rw[List.length_map,Bn,List.length_map]at e2;rw[e2];congr 1;refine List.filter_congr fun a ha=>?_;grind
    rw[el,c2];rcases c4 with⟨c4,c5⟩|⟨c4,c5⟩<;>rw[c4,c5]<;>decide
/- histories: a renewal that was made at time T does not reach below T, or it is broken by then -/
def u4(f:Zb)(r:Ze)(T:Int):Prop:=(Yj f.ZD r f.XB).2=false\/T<=(Yj f.ZD r f.XB).1.To\/Jn f.Z0 f.ZD f.Methods r<=T
theorem EP{f:Zb}{s:ZX}{lS:List Int}(hl:s.ZQ.length<=1000):∀n v,v<n->v<=s.ZQ.length->Kt f s lS n v<=v/\∀k,Kt f s lS n v<=k->k<v->(Yj f.ZD (nth s.ZQ k) f.XB).2=true/\zS f s k=true
  |0,v,h,_=>zAD
  |n+1,v,h,hv=>by
    rw[Kt];by_cases h0:0<v
    · rw[decide_eq_true (show(v:Int)>0 by omega),Xe,show W ((v:Int)-1)=((v-1:Nat):Int)by simp only[Yw];omega];refine Zx (p:=fun z:Nat=>z<=v/\∀k,z<=k->k<v->(Yj f.ZD (nth s.ZQ k) f.XB).2=true/\zS f s k=true) (fun _=>⟨Nat.le_refl _,fun k h1 h2=>zAD⟩) (fun hc=>?_);obtain⟨k1,k2⟩:=EP (f:=f) (lS:=lS) hl n (v-1) zAD zAD;refine⟨zAD,fun k h1 h2=>?_⟩;by_cases hk:k=v-1
      · subst hk;simp only[Bool.or_eq_false_iff,Bool.not_eq_false']at hc;exact⟨hc.1.1,hc.2⟩
      · exact k2 k h1 zAD
    · grind
theorem HQ(f:Zb)(lS:List Int)(hl:s.ZQ.length<=1000):∃k0:Nat,JT f s lS=(k0:Int)/\k0<=s.ZQ.length/\∀k,k0<=k->k<s.ZQ.length->(Yj f.ZD (nth s.ZQ k) f.XB).2=true/\zS f s k=true:=by obtain⟨h1,h2⟩:=EP (f:=f) (lS:=lS) hl (s.ZQ.length+1) s.ZQ.length zAD (Nat.le_refl _);exact⟨_,rfl,h1,h2⟩
theorem wN{k:Nat}(hl:s.ZQ.length<=1000)(hk:k<s.ZQ.length)(h:zS f s k=true):(k+1=s.ZQ.length->f.Now<Jn f.Z0 f.ZD f.Methods (nth s.ZQ k))/\(k+1<s.ZQ.length->(Yj f.ZD (nth s.ZQ (k+1)) f.XB).1.To<Jn f.Z0 f.ZD f.Methods (nth s.ZQ k)):=by
  revert h;unfold zS;have e:W ((s.ZQ.length:Int)-1)=s.ZQ.length-1:=zA3
  have e2:W ((k:Int)+1)=((k+1:Nat):Int):=zA3;rw[e,e2];have hr:ZZ (k) 0 (s.ZQ.length-1)=true:=(WJ _ _ _).2 zAD;rw[hr,Bool.not_true,X8,Int.toNat_natCast,Int.toNat_natCast];by_cases hc:k+1=s.ZQ.length
  · grind
  · rw[show((k:Int)==s.ZQ.length-1)=false by rw[beq_eq_false_iff_ne];omega,X8];intro h;rw[Bool.and_eq_true]at h;exact⟨fun h2=>absurd h2 hc,fun _=>of_decide_eq_true h.2⟩
structure HsT(f:Zb)(C:List Ze)(T:Nat->Int):Prop where
  mo:∀k,k+1<C.length->T k<=T (k+1)
  nw:∀k,k<C.length->T k<=f.Now
  ok:∀k,k<C.length->u4 f (nth C k) (T k)
theorem v7{f:Zb}{s:ZX}{T:Nat->Int}(h:HsT f s.ZQ T)(hl:s.ZQ.length<=1000){k0:Nat}(hk:∀k,k0<=k->k<s.ZQ.length->(Yj f.ZD (nth s.ZQ k) f.XB).2=true/\zS f s k=true):∀d k,k+d+1=s.ZQ.length->k0<=k->T k<=(Yj f.ZD (nth s.ZQ k) f.XB).1.To
  |0,k,hd,h0=>by
    obtain⟨h1,h2⟩:=hk k h0 zAD;have h3:=(wN hl zAD h2).1 zAD
    have h4:=h.nw k zAD;rcases h.ok k zAD with h5|h5|h5
    · rw[h1]at h5;cases h5
    · exact h5
    · omega
  |d+1,k,hd,h0=>by
    obtain⟨h1,h2⟩:=hk k h0 zAD;have h3:=(wN hl zAD h2).2 zAD
    have h4:=v7 h hl hk d (k+1) zAD zAD;have h6:=h.mo k zAD;rcases h.ok k zAD with h5|h5|h5
    · rw[h1]at h5;cases h5
    · exact h5
    · omega
theorem OQ{f:Zb}{s:ZX}{i:Int}(hl:s.ZQ.length<=1000):∀(n:Nat)(b:Int)(k:Nat),s.ZQ.length<n+k->k<=s.ZQ.length->zi f s i n b k<=b/\(∀j,k<=j->j<s.ZQ.length->i<(nth s.ZQ j).Count->zi f s i n b k<=(Yj f.ZD (nth s.ZQ j) f.XB).1.To)/\(zi f s i n b k=b\/∃j,k<=j/\j<s.ZQ.length/\i<(nth s.ZQ j).Count/\zi f s i n b k=(Yj f.ZD (nth s.ZQ j) f.XB).1.To)
  |0,b,k,h,hk=>zAD
  |n+1,b,k,h,hk=>by
    rw[zi];by_cases hc:k<s.ZQ.length
    · rw[decide_eq_true (show(k:Int)<s.ZQ.length by omega),Xe,Int.toNat_natCast,show W ((k:Int)+1)=((k+1:Nat):Int)by simp only[Yw];omega];by_cases hi:i<(nth s.ZQ k).Count
      · rw[decide_eq_true (show(nth s.ZQ k).Count>i by omega),Xe];have e:(Jg f (nth s.ZQ k)).1.To=(Yj f.ZD (nth s.ZQ k) f.XB).1.To:=rfl
        rw[e];generalize hb:(if(Yj f.ZD (nth s.ZQ k) f.XB).1.To<b then(Yj f.ZD (nth s.ZQ k) f.XB).1.To else b)=b';obtain⟨k1,k2,k3⟩:=OQ (f:=f) (i:=i) hl n b' (k+1) zAD hc;grind
      · rw[decide_eq_false (show ¬(nth s.ZQ k).Count>i by omega),X8];obtain⟨k1,k2,k3⟩:=OQ (f:=f) (i:=i) hl n b (k+1) zAD hc;grind
    · grind
theorem Ny{i:Int}(hl:s.ZQ.length<=1000)(h0:JT f s lS=(k0:Int))(hk:k0<=s.ZQ.length):zK f s lS i<=f.Now/\(∀j,k0<=j->j<s.ZQ.length->i<(nth s.ZQ j).Count->zK f s lS i<=(Yj f.ZD (nth s.ZQ j) f.XB).1.To)/\(zK f s lS i=f.Now\/∃j,k0<=j/\j<s.ZQ.length/\i<(nth s.ZQ j).Count/\zK f s lS i=(Yj f.ZD (nth s.ZQ j) f.XB).1.To):=by unfold zK;rw[h0];exact OQ hl _ _ _ zAD hk
theorem AD{l:List ZU}:K8 l p=true↔p∈l:=by
  unfold K8;refine(E8 (L:=Wv l p) (len:=l.length) (c:=fun v=>KB (nth l v) p) (fun _=>rfl) (fun _ _=>rfl) (l.length+1) 0 zAD).trans ?_;constructor
  · rintro⟨i,_,h,e⟩;rw[Kw,decide_eq_true_eq,XM h]at e;rw[<-e];exact List.getElem_mem h
  · intro h;obtain⟨i,hi,e⟩:=List.mem_iff_getElem.1 h;exact⟨i,Nat.zero_le _,hi,by rw[Kw,decide_eq_true_eq,XM hi,e]⟩
theorem sD(h:Xv s=true)(hi:i<s.ZM.length):xZ s (nth s.ZM i)=(i:Int):=by
  have hd:=(je h).2.2.1;unfold xZ;rcases VG (L:=ku s (nth s.ZM i)) (r:=fun i=>(i:Int)) (len:=s.ZM.length) (c:=fun v=>KB (nth s.ZM v) (nth s.ZM i)) (fun _=>rfl) (fun _ _=>rfl) (s.ZM.length+1) 0 zAD with⟨e,k⟩|⟨j,e,_,k2,k3,k4⟩
  · have:=k i (Nat.zero_le _) hi;rw[Kw]at this;simp at this
  · rw[e];have:j=i:=by
      rcases Nat.lt_trichotomy j i with nn|heq|eH
      · have h1:=hd i hi;rw[Kw,decide_eq_true_eq]at k3;have h2:K8 (s.ZM.take i) (nth s.ZM i)=true:=AD.2 (by
          rw[<-k3,XM k2];exact List.mem_take_iff_getElem.2 ⟨j,zAD,rfl⟩)
        rw[h1]at h2;cases h2
      · exact heq
      · have:=k4 i (Nat.zero_le _) eH;rw[Kw]at this;simp at this
    rw[this]
theorem uZ(hs:Xv x.ZK=true)(hi:i<x.ZK.ZM.length):Z4 f (ZV x) (Z7 (ZV x) x.Doc) (nth x.ZK.ZM i)=zK f x.ZK (XR x.ZK x.Doc) i:=by
  rw[tq];have hl:=(je hs).2.1
  obtain⟨k0,h0,h1,_⟩:=HQ f (XR x.ZK x.Doc) (s:=x.ZK) zAD;have hb:=(Ny (i:=(i:Int)) zAD h0 h1).1
  have e:zX f x.ZK (XR x.ZK x.Doc) (nth x.ZK.ZM i)=zK f x.ZK (XR x.ZK x.Doc) i:=by unfold zX;rw[sD hs hi,decide_eq_false zAD,X8]
  rw[e];split<;>omega
/- a status piece that was put there at time t -/
def HsS(w:ZG)(p:ZU)(t:Int):Prop:=∃st:Zs,p=XX st/\(0<=st.xP/\st.xP<=10000/\st.Zy<=10001)/\((st.xP=t/\((st.Zy=-1/\(nth w.Zy (st.Zc-1).toNat=-1\/t+1<=nth w.Zy (st.Zc-1).toNat))\/(0<=st.Zy/\st.Zy=nth w.Zy (st.Zc-1).toNat)))\/(st.Zy=-1/\YS w.Frame st.YA<=t))
structure HsI(w:ZG)(x:ZR)(P T:Nat->Int):Prop where
  t:HsT w.Frame x.ZK.ZQ T
  pn:∀i,i<x.ZK.ZM.length->P i<=w.Frame.Now
  pt:∀(k i:Nat),k<x.ZK.ZQ.length->i<x.ZK.ZM.length->(i:Int)<(nth x.ZK.ZQ k).Count->P i<=T k
  p0:nth x.ZK.ZM 0=Yo x.Sig
  p1:∃c,nth x.ZK.ZM 1=Ju c
  p2:2<=x.ZK.ZM.length
  st:∀i,2<=i->i<x.ZK.ZM.length->HsS w (nth x.ZK.ZM i) (P i)
  fo:x.Id∈w.YN->YS w.Frame x.Sig.Key<=P 0
/- what became of an item since time n -/
structure HsX(n:Int)(x y:ZR)(T:Nat->Int):Prop where
  d:y.Doc=x.Doc
  s:y.Sig=x.Sig
  p:x.ZK.ZM <+: y.ZK.ZM
  c:x.ZK.ZQ <+: y.ZK.ZQ
  t:∀k,x.ZK.ZQ.length<=k->k<y.ZK.ZQ.length->n<=T k
def Ht(w:ZG)(x:ZR):Prop:=∃i,i<w.ZB.length/\x∈(nth w.ZB i).ZC
def HsG(a w:ZG)(y:ZR):Prop:=∃P T,HsI w y P T/\∀x,Ht a x->x.Id=y.Id->HsX a.Frame.Now x y T
structure HsW(a w:ZG):Prop where
  nx:a.Next<=w.Next
  nw:a.Frame.Now<=w.Frame.Now
  li:w.Frame.XB=a.Frame.XB
  al:∀x,Ht a x->x.Id<a.Next
  g:∀y,Ht w y->HsG a w y
structure rm(w w':ZG):Prop where
  k:w'.Frame.Z0=w.Frame.Z0
  a:w'.Frame.ZD=w.Frame.ZD
  m:w'.Frame.Methods=w.Frame.Methods
  l:w'.Frame.XB=w.Frame.XB
  n:w.Frame.Now<=w'.Frame.Now
  e:∀j,nth w'.Zy j=nth w.Zy j\/(nth w.Zy j=-1/\w.Frame.Now+1<=nth w'.Zy j)
theorem E1(w:ZG)(A:List ZE)(q f:List Int)(n:Int):rm w (ZG.mk w.Frame w.Zf w.Zy A q w.Yg n f):=⟨rfl,rfl,rfl,rfl,Int.le_refl _,fun _=>.inl rfl⟩
theorem sS{P:Nat->Int}(h:HsI w x P T)(hl:rm w w')(hf:x.Id∈w'.YN->x.Id∈w.YN):HsI w' x P T:=by
  have hb:∀k,YS w'.Frame k=YS w.Frame k:=fun k=>by unfold YS;rw[hl.k,hl.m]
  refine⟨⟨h.t.mo,fun k hk=>Int.le_trans (h.t.nw k hk) hl.n,fun k hk=>?_⟩,fun i hi=>Int.le_trans (h.pn i hi) hl.n,h.pt,h.p0,h.p1,h.p2,fun i h2 hi=>?_,fun hx=>by rw[hb];exact h.fo (hf hx)⟩
  · have:=h.t.ok k hk;unfold u4 at this⊢;rw[hl.k,hl.a,hl.m,hl.l];exact this
  · obtain⟨st,e,hr,hc⟩:=h.st i h2 hi;have hp:=h.pn i hi
    refine⟨st,e,hr,?_⟩;rw[hb];have he:=hl.e (st.Zc-1).toNat
    grind
theorem UZ{a:ZG}(h:HsW a w)(hl:rm w w')(hn:w.Next<=w'.Next)(hy:∀y,Ht w' y->(HsG a w y/\(y.Id∈w'.YN->y.Id∈w.YN))\/HsG a w' y):HsW a w':=by
  refine⟨Int.le_trans h.nx hn,Int.le_trans h.nw hl.n,hl.l.trans h.li,h.al,fun y k=>?_⟩;rcases hy y k with⟨⟨P,T,h1,h2⟩,h3⟩|h1
  · exact⟨P,T,sS h1 hl h3,h2⟩
  · exact h1
theorem HW{en ly:List Int}{A:ZE}(h:Ht (ZG.mk fr ce en (w.ZB.set i A) sq ly nx fo) y):(i<w.ZB.length/\y∈A.ZC)\/Ht w y:=by
  obtain⟨j,h1,h2⟩:=h;dsimp only at h1 h2;rw[List.length_set]at h1;rw[Kb]at h2;split at h2
  · rename_i hc;left;exact⟨zAD,h2⟩
  · right;exact⟨j,h1,h2⟩
theorem wQ{a:ZG}(h:HsW a w)(hy:HsG a w y)(hr:u4 w.Frame r w.Frame.Now):HsG a w (ZR.mk y.Id y.XI y.Doc y.Sig (ZX.mk y.ZK.ZM (y.ZK.ZQ++[r]))):=by
  obtain⟨P,T,h1,h2⟩:=hy;have hlen:(y.ZK.ZQ++[r]).length=y.ZK.ZQ.length+1:=by rw[List.length_append,List.length_singleton]
  refine⟨P,fun k=>if k<y.ZK.ZQ.length then T k else w.Frame.Now,⟨⟨fun k hk=>?_,fun k hk=>?_,fun k hk=>?_⟩,h1.pn,fun k i hk hi hc=>?_,h1.p0,h1.p1,h1.p2,h1.st,h1.fo⟩,fun x hx he=>?_⟩
  · dsimp only at hk⊢;rw[hlen]at hk;rw[if_pos (show k<y.ZK.ZQ.length by omega)];split
    · exact h1.t.mo k zAD
    · exact h1.t.nw k zAD
  · dsimp only at hk⊢;split
    · exact h1.t.nw k zAD
    · exact Int.le_refl _
  · dsimp only at hk⊢;rw[hlen]at hk;rw[zw];split
    · exact h1.t.ok k zAD
    · rw[show k-y.ZK.ZQ.length=0 by omega];exact hr
  · dsimp only at hk hi hc⊢;rw[hlen]at hk;rw[zw]at hc;split
    · rename_i nn;rw[if_pos nn]at hc;exact h1.pt k i nn hi hc
    · exact h1.pn i hi
  · have k:=h2 x hx he;refine⟨k.d,k.s,k.p,k.c.trans (List.prefix_append _ _),fun j h3 h4=>?_⟩;dsimp only at h4⊢;split
    · exact k.t j h3 zAD
    · exact h.nw
theorem sX{a:ZG}(h:HsW a w)(hy:HsG a w y)(hs:Xv y.ZK=true)(hp:HsS w p w.Frame.Now):HsG a w (ZR.mk y.Id y.XI y.Doc y.Sig (ZX.mk (y.ZK.ZM++[p]) y.ZK.ZQ)):=by
  obtain⟨P,T,h1,h2⟩:=hy;have hlen:(y.ZK.ZM++[p]).length=y.ZK.ZM.length+1:=by rw[List.length_append,List.length_singleton]
  have h3:=h1.p2;have hcnt:=(je hs).2.2.2;refine⟨fun k=>if k<y.ZK.ZM.length then P k else w.Frame.Now,T,⟨h1.t,fun i hi=>?_,fun k i hk hi hc=>?_,?_,?_,?_,fun i hi hj=>?_,fun hx=>?_⟩,fun x hx he=>?_⟩
  · split
    · exact h1.pn i zAD
    · exact Int.le_refl _
  · dsimp only at hk hi hc⊢;have:=(hcnt k hk).1
    rw[if_pos zAD];exact h1.pt k i hk zAD hc
  · show nth (y.ZK.ZM++[p]) 0=_;rw[zw,if_pos zAD];exact h1.p0
  · show ∃c,nth (y.ZK.ZM++[p]) 1=_;rw[zw,if_pos zAD];exact h1.p1
  · show 2<=(y.ZK.ZM++[p]).length;omega
  · dsimp only at hj⊢;rw[hlen]at hj;rw[zw];split
    · exact h1.st i hi zAD
    · rw[show i-y.ZK.ZM.length=0 by omega];exact hp
  · show _<=(if 0<y.ZK.ZM.length then P 0 else w.Frame.Now);rw[if_pos zAD];exact h1.fo hx
  · have k:=h2 x hx he;exact⟨k.d,k.s,k.p.trans (List.prefix_append _ _),k.c,k.t⟩
theorem LB{k:Nat}(hi:i<w.ZB.length)(hk:k<(nth w.ZB i).ZC.length):Ht w (nth (nth w.ZB i).ZC k):=⟨i,hi,by rw[XM hk];exact List.getElem_mem hk⟩
theorem s4(hw:PlI b w)(h:Ht w x):x.Id<w.Next:=by obtain⟨i,hi,hx⟩:=h;refine hw.w.lt _ (List.mem_flatMap.2 ⟨nth w.ZB i,by rw[XM hi];exact List.getElem_mem hi,List.mem_map.2 ⟨x,hx,rfl⟩⟩)
/- the steps -/
theorem tg{a:ZG}(hw:PlI b w)(h:HsW a w):HsW a (K4 w n).1:=by have k:=OU hw.w.fr;refine D7 (P:=fun r=>HsW a r.1) h (fun h1 h2 h3=>?_);have e:W (w.Frame.Now+n)=w.Frame.Now+n:=zA3;refine UZ h ⟨rfl,rfl,rfl,rfl,by show w.Frame.Now<=W (w.Frame.Now+n);omega,fun _=>.inl rfl⟩ (Int.le_refl _) (fun y hy=>.inl ⟨h.g y hy,id⟩)
theorem tI(h:(Ml w k d o v).2=true):(Ml w k d o v).1.Key=k:=by revert h;unfold Ml Xg;grind
theorem pD{a:ZG}{e:Int}(h:HsW a w)(hs:(Ml w k d o v).2=true)(fo:List Int)(A:List ZE)(n:Int)(hf:w.Next∈fo->YS w.Frame k<=w.Frame.Now):HsG a (ZG.mk w.Frame w.Zf w.Zy A w.Y9 w.Yg n fo) (LC w k d o e v):=by
  refine⟨fun _=>w.Frame.Now,fun _=>w.Frame.Now,⟨⟨fun k hk=>(by cases hk),fun k hk=>(by cases hk),fun k hk=>(by cases hk)⟩,fun _ _=>Int.le_refl _,fun k i hk=>(by cases hk),rfl,⟨_,rfl⟩,Nat.le_refl _,fun i h1 h2=>?_,fun hx=>?_⟩,fun x hx he=>?_⟩
  · change i<2 at h2;omega
  · show YS w.Frame (Ml w k d o v).1.Key<=_;rw[tI hs];exact hf hx
  · have h1:=h.al x hx;have h2:=h.nx;change x.Id=w.Next at he;omega
theorem tC{a:ZG}(hw:PlI b w)(h:HsW a w){i:Int}{e:Int}(hs:(Ml w k d o v).2=true)(ha:(Yr (nth w.ZB i.toNat) (LC w k d o e v)).2=true)(hn:w.Next<=n)(hf:∀x∈fo,x∈w.YN\/x=w.Next/\YS w.Frame k<=w.Frame.Now):HsW a (ZG.mk w.Frame w.Zf w.Zy (w.ZB.set i.toNat (Yr (nth w.ZB i.toNat) (LC w k d o e v)).1) w.Y9 w.Yg n fo):=by
  refine UZ h (E1 w _ _ _ _) hn (fun y hy=>?_);have aS:Ht w y->(HsG a w y/\(y.Id∈fo->y.Id∈w.YN)):=fun hy=>⟨h.g y hy,fun hx=>(hf _ hx).elim id (fun hc=>by have:=s4 hw hy;omega)⟩
  rcases HW hy with⟨hi,hy⟩|hy
  · obtain⟨_,_,_,j,e2⟩:=VX ha;rw[e2]at hy;change y∈(List.take j (nth w.ZB i.toNat).ZC++[_])++List.drop j (nth w.ZB i.toNat).ZC at hy;rcases List.mem_append.1 hy with hy|hy
    · rcases List.mem_append.1 hy with hy|hy
      · exact .inl (aS ⟨_,hi,List.mem_of_mem_take hy⟩)
      · rw[List.mem_singleton.1 hy];refine .inr (pD h hs fo _ _ (fun hx=>?_));rcases hf _ hx with h1|h1
        · have:=hw.fo _ h1;omega
        · exact h1.2
    · exact .inl (aS ⟨_,hi,List.mem_of_mem_drop hy⟩)
  · exact .inl (aS hy)
theorem sh{a:ZG}{i:Int}{e:Int}(hw:PlI b w)(h:HsW a w):HsW a (J2 w i k d o e).1:=by have hl:=hw.w.ar;refine DY (P:=fun r=>HsW a r.1) h (fun h1 _ _ _ v _ _ h6 h7=>?_);obtain⟨e1,_⟩:=Is hw.w (yC h1 zAD).2 rfl h7 hw.w.fo;exact tC hw h h6 h7 zAD (fun x hx=>.inl hx)
theorem tL{a:ZG}{i:Int}(hw:PlI b w)(h:HsW a w):HsW a (Jt w i k d).1:=by
  have hl:=hw.w.ar;refine HU (P:=fun r=>HsW a r.1) h (fun h0 h1 _ _ v _ _ h6 h7=>?_);obtain⟨e1,_⟩:=Is hw.w (yC h1 zAD).2 rfl h7 hw.w.fo;refine tC hw h h6 h7 zAD (fun x hx=>?_);rcases List.mem_append.1 hx with hx|hx
  · exact .inl hx
  · right;refine⟨List.mem_singleton.1 hx,?_⟩;unfold J4 at h0;grind
theorem PC{a:ZG}{i:Int}(hw:PlI b w)(h:HsW a w)(hi:i.toNat<w.ZB.length)(hp:(XS w.Frame.Z0 st).2=true->HsS w (XX (XS w.Frame.Z0 st).1) w.Frame.Now):HsW a (JI w i id st).1:=by
  refine Rk (P:=fun r=>HsW a r.1) h (fun h1 h2 h3=>?_);obtain⟨e,hs⟩:=Lb h3;obtain⟨hk,_⟩:=jQ h2;refine UZ h (E1 w _ _ _ _) (Int.le_refl _) (fun y hy=>.inl ⟨?_,fun hx=>hx⟩);rcases HW hy with⟨_,hy⟩|hy
  · unfold Jv at hy;rw[decide_eq_false zAD,X8]at hy;change y∈(nth w.ZB i.toNat).ZC.set _ _ at hy;rcases List.mem_or_eq_of_mem_set hy with hy|rfl
    · exact h.g y ⟨_,hi,hy⟩
    · rw[e];exact sX h (h.g _ (LB hi hk)) (RQ (T8 hw.w hi hk)) (hp h1)
  · exact h.g y hy
theorem Ms(h:(XS keys st).2=true):((XS keys st).1.Zc=st.Zc/\(XS keys st).1.xP=st.xP/\(XS keys st).1.Zy=st.Zy/\(XS keys st).1.YA=st.YA)/\0<=st.xP/\st.xP<=10000/\-1<=st.Zy/\st.Zy<=10001:=by
  revert h;unfold XS;refine Zx (p:=fun r:Zs×Bool=>r.2=true->(r.1.Zc=st.Zc/\r.1.xP=st.xP/\r.1.Zy=st.Zy/\r.1.YA=st.YA)/\0<=st.xP/\st.xP<=10000/\-1<=st.Zy/\st.Zy<=10001) (fun _ h=>by cases h) (fun hc _=>⟨⟨rfl,rfl,rfl,rfl⟩,?_⟩);simp only[Bool.or_eq_false_iff,Bool.not_eq_false',SE,Kd,Bool.and_eq_true,WJ]at hc;have h1:=hc.1.1.1.2
  have h2:=hc.1.1.2;rw[show W (st.xP+1)=st.xP+1 by simp only[Yw];omega]at h2;omega
theorem vR:∀n,n<3->((nth jN n).Zc-1).toNat=n:=by decide+kernel
theorem vV{a:ZG}(hw:PlI b w)(h:HsW a w):HsW a (Qv w id).1:=by
  have hn:=OU hw.w.fr;unfold Qv;refine Zx (p:=fun r:ZG×Bool=>HsW a r.1) (fun _=>h) (fun hc=>?_);refine Zx (p:=fun r:ZG×Bool=>HsW a r.1) (fun _=>h) (fun _=>?_);simp only[Bool.or_eq_false_iff,Bool.not_eq_false']at hc;have k:=Qd w id hc.1;have hl:w.Zf.length=3:=by rw[<-hw.w.en];exact rE hw
  have es:((nth w.Zf (YW w id).2.1.toNat).Zc-1).toNat=(YW w id).2.1.toNat:=by rw[C1 hw];exact vR _ zAD
  have er:=(hw.w.ce (YW w id).2.1.toNat zAD).2.2;rw[WJ]at er;have e1:W (w.Frame.Now+1)=w.Frame.Now+1:=zA3;refine Zx (p:=fun r:ZG×Bool=>HsW a r.1) (fun hg=>?_) (fun hg=>?_)
  · have hg:=of_decide_eq_true hg;refine PC hw h zAD (fun hm=>?_);obtain⟨⟨m1,m2,m3,m4⟩,m5,m6,m7,m8⟩:=Ms hm;refine⟨_,rfl,by rw[m2,m3];exact⟨m5,m6,m8⟩,.inl ⟨m2,.inl ⟨m3,.inr ?_⟩⟩⟩;rw[m1,es];omega
  · have hg:=of_decide_eq_false hg;refine PC hw h zAD (fun hm=>?_);obtain⟨⟨m1,m2,m3,m4⟩,m5,m6,m7,m8⟩:=Ms hm;refine⟨_,rfl,by rw[m2,m3];exact⟨m5,m6,m8⟩,.inl ⟨m2,?_⟩⟩;grind
theorem sV{a:ZG}(hw:PlI b w)(h:HsW a w):HsW a (J1 w id t).1:=by
  unfold J1;refine Zx (p:=fun r:ZG×Bool=>HsW a r.1) (fun _=>h) (fun hc=>?_);simp only[Bool.or_eq_false_iff,Bool.not_eq_false']at hc;have k:=Qd w id hc.1
  have hs:=hc.2;unfold J4 at hs;simp only[Bool.and_eq_true,decide_eq_true_eq]at hs;refine PC hw h zAD (fun hm=>?_);obtain⟨⟨m1,m2,m3,m4⟩,m5,m6,m7,m8⟩:=Ms hm;refine⟨_,rfl,by rw[m2,m3];exact⟨m5,m6,m8⟩,.inr ⟨m3,?_⟩⟩;rw[m4];exact hs.2
theorem w8{a:ZG}(hw:PlI b w)(h:HsW a w):HsW a (QO w k).1:=by
  have hn:=OU hw.w.fr;unfold QO;refine Zx (p:=fun r:ZG×Bool=>HsW a r.1) (fun _=>h) (fun hc=>?_);simp only[Bool.or_eq_false_iff,bne_eq_false_iff_eq]at hc;have e1:W (w.Frame.Now+1)=w.Frame.Now+1:=zA3;refine UZ h ⟨rfl,rfl,rfl,rfl,Int.le_refl _,fun j=>?_⟩ (Int.le_refl _) (fun y hy=>.inl ⟨h.g y hy,fun hx=>hx⟩);show nth (w.Zy.set k.toNat (W (w.Frame.Now+1))) j=_\/_/\_<=nth (w.Zy.set k.toNat (W (w.Frame.Now+1))) j
  rw[Kb];grind
theorem tn{a:ZG}{i:Int}(hw:PlI b w)(h:HsW a w):HsW a (K3 w i k id).1:=by
  have hl:=hw.w.ar;refine CA (P:=fun r=>HsW a r.1) h (fun h1 h2 h3 h4 h5 h6=>?_);obtain⟨i0,i1⟩:=yC h1 zAD;obtain⟨k0,k1⟩:=yC h2 zAD;have hln:=((W2 _).1 (hw.w.ok _ i1).1).ln;obtain⟨_,e⟩:=wJ zAD h5;obtain⟨f1,f2⟩:=jQ h4;obtain⟨_,_,g1,j,g2⟩:=VX h6;have aS:∀y,Ht w y->HsG a w y/\(y.Id∈w.YN->y.Id∈w.YN):=fun y hy=>⟨h.g y hy,fun hx=>hx⟩;refine UZ h (E1 w _ _ _ _) (Int.le_refl _) (fun y hy=>.inl (aS y ?_));obtain⟨n,n1,n2⟩:=hy;change n<((w.ZB.set i.toNat _).set k.toNat _).length at n1;change y∈(nth ((w.ZB.set i.toNat (Qf (nth w.ZB i.toNat) id).1).set k.toNat _) n).ZC at n2;rw[List.length_set,List.length_set]at n1;rw[Kb]at n2;split at n2
  · rw[g2]at n2;change y∈(List.take j (nth w.ZB k.toNat).ZC++[_])++List.drop j (nth w.ZB k.toNat).ZC at n2;rcases List.mem_append.1 n2 with hy|hy
    · rcases List.mem_append.1 hy with hy|hy
      · exact⟨_,k1,List.mem_of_mem_take hy⟩
      · rw[List.mem_singleton.1 hy];exact LB i1 f1
    · exact⟨_,k1,List.mem_of_mem_drop hy⟩
  · rw[Kb]at n2;split at n2
    · rw[e]at n2;exact⟨_,i1,List.mem_of_mem_eraseIdx n2⟩
    · exact⟨n,n1,n2⟩
theorem vA{a:ZG}{i:Int}(hw:PlI b w)(h:HsW a w):HsW a (JZ w i).1:=by
  have hl:=hw.w.ar;refine MG (P:=fun r=>HsW a r.1) h (fun h1=>?_);refine UZ h (E1 w _ _ _ _) (Int.le_refl _) (fun y hy=>.inl ⟨h.g y ?_,fun hx=>hx⟩);rcases HW hy with⟨hi,hy⟩|hy
  · exact⟨_,hi,(List.mem_filter.1 hy).1⟩
  · exact hy
theorem se{a:ZG}(hw:PlI b w)(h:HsW a w):HsW a (QS w id t).1:=by
  refine CL (P:=fun r=>HsW a r.1) h (fun _ h2 _ _ l h5 h6=>?_);obtain⟨k1,k2,k3⟩:=Ym w id h2;have hl:=(qi (a0:=w) (a1:=id) (a2:=t) ((Zv w).length+1) 0 []).2 l h5
  have hf:=Jl w;have ha:w.Frame.ZD.length=4:=by rw[(R4 hw).2.1];rfl
  rw[List.length_nil]at hl;have hb:=BK hw h5 zAD
  refine UZ h (E1 w _ _ _ _) (Int.le_refl _) (fun y hy=>.inl ⟨?_,fun hx=>hx⟩);rcases HW hy with⟨_,hy⟩|hy
  · change y∈(nth w.ZB (ZO w id).1.toNat).ZC.set _ _ at hy;rcases List.mem_or_eq_of_mem_set hy with hy|rfl
    · exact h.g y ⟨_,k1,hy⟩
    · refine wQ h (h.g _ (LB k1 k3)) ?_;rcases hb with hb|hb
      · exact .inr (.inr (hb _ (Int.le_refl _)))
      · exact .inl hb
  · exact h.g y hy
/- honest renewals -/
theorem OS(l:List Zh)(t:Int)(hl:l.length<=1000):∀(n v:Nat)(c:Int),l.length<n+v->v<=l.length->0<=c->c<=v->jV l t n c v=c+((l.drop v).countP (fun s=>Y8 s&&ZZ t s.XF s.To):Nat)
  |0,v,c,h,hv,_,_=>zAD
  |n+1,v,c,h,hv,h0,h1=>by
    rw[jV];by_cases nn:v<l.length
    · rw[decide_eq_true (show(v:Int)<(l.length:Int)by omega),Xe,List.drop_eq_getElem_cons nn,List.countP_cons,XM nn];cases hc:(Y8 l[v]&&ZZ t (l[v]).XF (l[v]).To)with
      |true=>rw[Xe,show W (c+1)=c+1 by simp only[Yw];omega,OS l t hl n (v+1) (c+1) zAD nn zAD zAD,if_pos rfl];omega
      |false=>rw[X8,OS l t hl n (v+1) c zAD nn zAD zAD,if_neg zAE];omega
    · grind
theorem uO(l:List Zh)(t:Int)(hl:l.length<=1000):Pa l t=(l.countP (fun s=>Y8 s&&ZZ t s.XF s.To):Nat):=by have:=OS l t hl (l.length+1) 0 0 zAD (Nat.zero_le _) zAD zAD;rw[List.drop_zero,Int.zero_add]at this;exact this
theorem Od{l:List Zh}{q t:Int}(h0:0<=t)(h1:t<=10000)(h:JC l t q=true):∀(n v:Nat)(f:Bool)(x y:Int),10001<n+v->v<=10001->(t<v->t<=y)->t<=(Jj l q n f v x y).2.2
  |0,v,f,x,y,hn,hv,hy=>zAD
  |n+1,v,f,x,y,hn,hv,hy=>by
    rw[Jj];by_cases nn:v<=10000
    · rw[decide_eq_true (show(v:Int)<=10000 by omega),Xe];cases hc:JC l (v:Int) q with
      |true=>
        rw[Xe];have go:=fun f x=>Od h0 h1 h n (v+1) f x (v:Int) zAD zAD (fun k=>zAD)
        grind
      |false=>rw[X8];refine Od h0 h1 h n (v+1) f x y zAD zAD (fun k=>?_);grind
    · grind
theorem uD(h0:0<=t)(h1:t<=10000)(h:JC l t q=true):t<=(Ja l q).1.To:=by have:=Od h0 h1 h 10002 0 false 0 0 zAD zAD (fun k=>zAD);unfold Ja;grind
theorem ur:∀i:Nat,0<=(nth YR i).Error/\(nth YR i).Error<=100:=by
  intro i;by_cases h:i<4
  · have:∀i,i<4->0<=(nth YR i).Error/\(nth YR i).Error<=100:=by decide+kernel
    exact this i h
  · have e:nth YR i=default:=by
      have hl:YR.length<=i:=by show 4<=i;omega
      simp[nth,List.getD_eq_getElem?_getD,List.getElem?_eq_none hl]
    rw[e];decide
theorem Dh{s:Zm}(h0:0<=n)(h1:n<=10000)(ht:s.Time=n)(h:(Xw YR s).2=true):(Y8 (Xw YR s).1&&ZZ n (Xw YR s).1.XF (Xw YR s).1.To)=true:=by
  revert h;unfold Xw;refine Zx (p:=fun z:Zh×Bool=>z.2=true->(Y8 z.1&&ZZ n z.1.XF z.1.To)=true) (fun _ h=>by cases h) (fun hc=>?_);have he:=ur (Zk YR s.Authority).toNat
  generalize(nth YR (Zk YR s.Authority).toNat).Error=e at he;rw[ht];unfold K5;dsimp only;rw[show W (n-e)=n-e by simp only[Yw];omega,show W (n+e)=n+e by simp only[Yw];omega];refine Zx (p:=fun z:Zh×Bool=>z.2=true->(Y8 z.1&&ZZ n z.1.XF z.1.To)=true) (fun _ h=>by cases h) (fun hc h=>?_);simp only[Bool.or_eq_false_iff,Bool.not_eq_false']at hc;rw[hc.2,Bool.true_and,WJ];grind
theorem sB{l:List Zm}(h:(l.map (·.Authority)).Pairwise (·<·))(p:Zm->Bool)(hp:∀s∈l,p s=true->s.Authority=1):(l.filter p).length<=1:=by
  have h1:((l.filter p).map (·.Authority)).Pairwise (·<·):=h.sublist (List.filter_sublist.map _);have h2:∀s∈l.filter p,s.Authority=1:=fun s hs=>by rw[List.mem_filter]at hs;exact hp s hs.1 hs.2
  generalize l.filter p=m at h1 h2;match m with
  |[]=>simp
  |[x]=>simp
  |x::y::m=>
    exfalso;rw[List.map_cons,List.map_cons,List.pairwise_cons]at h1;have:=h1.1 y.Authority List.mem_cons_self
    grind
theorem w6(hw:PlI b w){l:List Zm}(hl:l.length<=1000)(h:(l.map (·.Authority)).Pairwise (·<·))(ht:∀s∈l,Qj w.Yg s.Authority=true\/s.Time=w.Frame.Now)(hr:r.YV=l):u4 w.Frame r w.Frame.Now:=by
  obtain⟨n0,n1⟩:=OU hw.w.fr;obtain⟨_,c2,_,c4⟩:=R4 hw;obtain⟨k1,k2⟩:=TI w.Frame.ZD l (l.length+1) [] 0 zAD (Nat.zero_le _);have key:(QY w.Frame.ZD l w.Frame.XB).2=false\/w.Frame.Now<=(QY w.Frame.ZD l w.Frame.XB).1.To:=by
    unfold QY;generalize zZ w.Frame.ZD l (l.length+1) [] 0=s at k1 k2⊢;cases s with
    |inl x=>exact .inl (k1 x rfl)
    |inr z=>
      obtain⟨k3,k4⟩:=k2 z rfl;rw[List.drop_zero,List.nil_append]at k3;have hz:z.length=l.length:=by rw[k3,List.length_map]
      show(Ja z w.Frame.XB).2=false\/w.Frame.Now<=(Ja z w.Frame.XB).1.To;by_cases hsup:∀t,JC z t w.Frame.XB=false
      · exact .inl (Pv hsup)
      · right;have hex:∃t,JC z t w.Frame.XB=true:=by grind
        obtain⟨t,hq⟩:=hex;refine uD n0 n1 ?_;unfold JC at hq⊢;rw[Bool.and_eq_true]at hq⊢;refine⟨hq.1,decide_eq_true ?_⟩;have bA:=hq.1
        rw[WJ,hz,show W ((l.length:Int)-1)=l.length-1 by simp only[Yw];omega]at bA;rw[uO z _ zAD,hz,show W ((l.length:Int)-w.Frame.XB)=l.length-w.Frame.XB by simp only[Yw];omega,k3,List.countP_map];have e1:=List.length_eq_countP_add_countP ((fun s=>Y8 s&&ZZ w.Frame.Now s.XF s.To)∘fun s=>(Xw w.Frame.ZD s).1) (l:=l)
        have e2:∀s∈l,¬((fun s=>Y8 s&&ZZ w.Frame.Now s.XF s.To)∘fun s=>(Xw w.Frame.ZD s).1) s=true->Qj w.Yg s.Authority=true:=fun s hs hn=>by
          rcases ht s hs with h1|h1
          · exact h1
          · exfalso;apply hn;obtain⟨j,hj,cO⟩:=List.mem_iff_getElem.1 hs;have hk:=k4 j (Nat.zero_le _) hj
            rw[XM hj,cO,c2]at hk;show(Y8 (Xw w.Frame.ZD s).1&&ZZ w.Frame.Now (Xw w.Frame.ZD s).1.XF (Xw w.Frame.ZD s).1.To)=true
            rw[c2];exact Dh n0 n1 h1 hk
        generalize((fun s=>Y8 s&&ZZ w.Frame.Now s.XF s.To)∘fun s=>(Xw w.Frame.ZD s).1)=p at e1 e2⊢;have e3:(l.countP (fun a=>decide ¬p a=true):Int)<=w.Frame.XB:=by
          rw[List.countP_eq_length_filter];rcases c4 with⟨c4,c5⟩|⟨c4,c5⟩
          · have:l.filter (fun a=>decide ¬p a=true)=[]:=List.filter_eq_nil_iff.2 (fun s hs hn=>by
              have:=e2 s hs (of_decide_eq_true hn);rw[c5]at this;cases this)
            rw[this,c4];decide
          · have:=sB h (fun a=>decide ¬p a=true) (fun s hs hn=>by
              have:=e2 s hs (of_decide_eq_true hn);rw[c5,Ao]at this;exact List.mem_singleton.1 this)
            rw[c4];omega
        omega
  unfold u4;show(QY w.Frame.ZD r.YV w.Frame.XB).2=false\/w.Frame.Now<=(QY w.Frame.ZD r.YV w.Frame.XB).1.To\/_
  grind
theorem uz{a:ZG}{i:Int}(hw:PlI b w)(h:HsW a w)(hi:ids.length<=1000):HsW a (Q6 w i ids iv).1:=by
  have hl:=hw.w.ar;refine G0 (P:=fun r=>HsW a r.1) (Q:=fun v l _=>l.length=v/\l.map (·.Authority)=ids.take v/\∀s∈l,Qj w.Yg s.Authority=true\/s.Time=w.Frame.Now) h ⟨rfl,rfl,fun s hs=>(by cases hs)⟩ (fun v l q t hv hp hq=>?_) (fun h1 _ h3 _ l q hq hk=>?_)
  · obtain⟨q1,q2,q3⟩:=hq;have e:=(O8 hp.ok).2
    have ea:(DW w i ids v t).1.Authority=nth ids v:=by unfold DW;rw[e]
    have et:(DW w i ids v t).1.Time=t:=by unfold DW;rw[e]
    refine⟨by rw[List.length_append,List.length_singleton,q1],?_,fun s hs=>?_⟩
    · rw[List.map_append,List.map_singleton,q2,ea,List.take_succ_eq_append_getElem hv,XM hv]
    · rcases List.mem_append.1 hs with hs|hs
      · exact q3 s hs
      · rw[List.mem_singleton.1 hs,ea,et];rcases hp.tm with h5|h5
        · exact .inl h5.1
        · exact .inr h5.2
  · obtain⟨q1,q2,q3⟩:=hq;obtain⟨h8,h9⟩:=yC h1 zAD;obtain⟨_,_,_,g3,g4⟩:=Dj hk;rw[List.take_length]at q2;have aT:(l.map (·.Authority)).Pairwise (·<·):=by
      rw[q2,List.pairwise_iff_getElem];intro x y hx hy gO;have:=MQ ((Et ids).1 h3) (y-x) x zAD zAD
      rw[show x+(y-x)=y by omega,XM hx,XM hy]at this;exact this
    refine UZ h (E1 w _ _ _ _) (Int.le_refl _) (fun y hy=>.inl ⟨?_,fun hx=>hx⟩);rcases HW hy with⟨_,hy⟩|hy
    · obtain⟨j,hj,e⟩:=List.mem_iff_getElem.1 hy;rw[g3]at hj;have e2:=g4 j hj
      rw[XM (by rw[g3];exact hj),e]at e2;rw[e2];exact wQ h (h.g _ (LB h9 hj)) (w6 hw zAD aT q3 rfl)
    · exact h.g y hy
theorem uU{a:ZG}(hw:PlI b w)(h:HsW a w)(hi:e.Ids.length<=1000):HsW a (Y3 w e).1:=
  HG (P:=fun r=>HsW a r.1) h (fun _=>tg hw h) (fun _=>sh hw h) (fun _=>vV hw h) (fun _=>w8 hw h) (fun _=>uz hw h hi) (fun _=>tn hw h) (fun _=>vA hw h) (fun _=>tL hw h) (fun _=>se hw h) (fun _=>sV hw h)
theorem uQ:∀{l:List ZR}{x y:ZR},(l.map (·.Id)).Nodup->x∈l->y∈l->x.Id=y.Id->x=y
  |[],x,y,_,hx,_,_=>zBn
  |z::l,x,y,h,hx,hy,e=>by
    rw[List.map_cons,List.nodup_cons]at h;rcases List.mem_cons.1 hx with rfl|hx
    · grind
    · rcases List.mem_cons.1 hy with rfl|hy
      · grind
      · exact uQ h.2 hx hy e
theorem sG(hw:PlI b w)(h:HsW z w):HsW w w:=by
  refine⟨Int.le_refl _,Int.le_refl _,rfl,fun x hx=>s4 hw hx,fun y hy=>?_⟩;obtain⟨P,T,h1,_⟩:=h.g y hy;refine⟨P,T,h1,fun x hx he=>?_⟩;have:x=y:=by
    obtain⟨i,hi,hxi⟩:=hx;obtain⟨j,hj,hyj⟩:=hy;have hn:=hw.w.nd
    unfold xg at hn;rw[<-List.map_flatMap]at hn;exact uQ hn (List.mem_flatMap.2 ⟨_,by rw[XM hi];exact List.getElem_mem hi,hxi⟩) (List.mem_flatMap.2 ⟨_,by rw[XM hj];exact List.getElem_mem hj,hyj⟩) he
  subst this;exact⟨rfl,rfl,List.prefix_rfl,List.prefix_rfl,fun k h1 h2=>zAD⟩
theorem th(x:Int):HsW (QG x) (QG x):=by
  have h:∀y,¬Ht (QG x) y:=by
    have h0:∀k,k=0\/k=1->∀i,i<(QG k).ZB.length->(nth (QG k).ZB i).ZC=[]:=by intro k hk;rcases hk with rfl|rfl<;>decide+kernel
    intro y hy;obtain⟨i,h1,h2⟩:=hy;rcases UD x with e|e<;>rw[e]at h1 h2
    · rw[h0 0 (.inl rfl) i h1]at h2;cases h2
    · rw[h0 1 (.inr rfl) i h1]at h2;cases h2
  exact⟨Int.le_refl _,Int.le_refl _,rfl,fun y hy=>absurd hy (h y),fun y hy=>absurd hy (h y)⟩
/- what a piece's bound says -/
theorem rX{P:Nat->Int}(h:HsI w x P T)(hs:Xv x.ZK=true)(hi:i<x.ZK.ZM.length):P i<=Z4 w.Frame (ZV x) (Z7 (ZV x) x.Doc) (nth x.ZK.ZM i):=by
  have hl:=(je hs).2.1;rw[uZ hs hi];obtain⟨k0,h0,h1,h2⟩:=HQ w.Frame (XR x.ZK x.Doc) (s:=x.ZK) zAD;rcases(Ny (i:=(i:Int)) zAD h0 h1).2.2 with hb|⟨j,j1,j2,j3,j4⟩
  · rw[hb];exact h.pn i hi
  · rw[j4];have h3:=v7 h.t zAD h2 (x.ZK.ZQ.length-1-j) j zAD j1
    have h4:=h.pt j i j2 hi j3;omega
theorem E7(h:0<=(ZO w id).1):(ZO w id).1.toNat<w.ZB.length/\(ZO w id).2.toNat<(nth w.ZB (ZO w id).1.toNat).ZC.length/\(nth (nth w.ZB (ZO w id).1.toNat).ZC (ZO w id).2.toNat).Id=id:=by
  obtain⟨k1,k2,k3⟩:=Ym w id h;refine⟨k1,k3,?_⟩;have e:(ZO w id).2=Zg (nth w.ZB (ZO w id).1.toNat) id:=by
    unfold ZO at h⊢;rcases VG (L:=kZ w id) (r:=fun i=>((i:Int),Zg (nth w.ZB i) id)) (len:=w.ZB.length) (c:=fun i=>decide (Zg (nth w.ZB i) id>=0)) (fun _=>rfl) (fun _ _=>rfl) (w.ZB.length+1) 0 zAD with⟨e,k⟩|⟨i,e,_⟩
    · rw[e]at h;simp at h
    · rw[e];simp
  rw[e]at k2⊢;exact(jQ k2).2
theorem OH(w:ZG):∀(n:Nat)(l:List Int)(v:Nat),(∀x∈l,(XP w x).Code=1)->∀x∈KO w n l v,(XP w x).Code=1
  |0,l,v,h=>fun x hx=>zBn
  |n+1,l,v,h=>by rw[KO];refine ZP (p:=fun z:List Int=>∀x∈z,(XP w x).Code=1) (Zx (p:=fun z:List Int=>∀x∈z,(XP w x).Code=1) (fun hc=>?_) (fun _=>OH w n l (v+1) h)) h;refine OH w n _ (v+1) (fun x hx=>?_);grind
theorem Bd(h:id∈Zd w):(XP w id).Code=1:=
  OH w _ [] 0 (fun x hx=>by cases hx) id h
theorem zN(s:Zh):Y8 s=true↔0<=s.XF/\s.XF<=s.To/\s.To<=10000:=by simp only[Y8,Kd,Bool.and_eq_true,WJ,decide_eq_true_eq];omega
def hsC(l:List Zh)(t:Int):Prop:=∃y∈l,Y8 y=true/\y.XF<=t/\t<=y.To
theorem Mc{C:Int->Prop}{l:List Zh}(hl:∀x∈l,Y8 x=true/\∀p,x.XF<=p->p<=x.To->C p):∀(n:Nat)(acc:List Zh)(v:Nat)(f t:Int),l.length<n+v->v<=l.length->(∀x∈acc,x∈l)->0<=f->f<=t->t<=10000->(∀p,f<=p->p<=t->C p)->
    (∀x∈(QX l n acc v f t).1,x∈l)/\0<=(QX l n acc v f t).2.1/\(QX l n acc v f t).2.1<=(QX l n acc v f t).2.2/\(QX l n acc v f t).2.2<=10000/\∀p,(QX l n acc v f t).2.1<=p->p<=(QX l n acc v f t).2.2->C p
  |0,acc,v,f,t,hn,hv,_,_,_,_,_=>zAD
  |n+1,acc,v,f,t,hn,hv,ha,h0,h1,h2,h3=>by
    rw[QX];by_cases nn:v<l.length
    · rw[decide_eq_true (show(v:Int)<(l.length:Int)by omega),Xe];have hm:nth l v∈l:=by rw[XM nn];exact List.getElem_mem nn
      obtain⟨k1,k2⟩:=hl _ hm;rw[zN]at k1;generalize nth l v=z at hm k1 k2;rw[show W (z.To+1)=z.To+1 by simp only[Yw];omega,show W (t+1)=t+1 by simp only[Yw];omega];refine Zx (p:=fun r:List Zh×Int×Int=>(∀x∈r.1,x∈l)/\0<=r.2.1/\r.2.1<=r.2.2/\r.2.2<=10000/\∀p,r.2.1<=p->p<=r.2.2->C p) (fun hc=>?_) (fun hc=>?_)
      · refine Mc hl n _ (v+1) f t zAD nn (fun x hx=>?_) h0 h1 h2 h3;grind
      · simp only[Bool.or_eq_false_iff,decide_eq_false_iff_not]at hc;have hf:∀x:Int,(if z.XF<f then z.XF else f)=x->(x=z.XF/\z.XF<f)\/(x=f/\f<=z.XF):=fun x hx=>by rw[<-hx];split<;>omega
        have ht:∀x:Int,(if z.To>t then z.To else t)=x->(x=z.To/\t<z.To)\/(x=t/\z.To<=t):=fun x hx=>by rw[<-hx];split<;>omega
        have hf:=hf _ rfl;have ht:=ht _ rfl;generalize(if z.XF<f then z.XF else f)=f' at hf;generalize(if z.To>t then z.To else t)=t' at ht;refine Mc hl n acc (v+1) f' t' zAD nn ha zAD zAD zAD (fun p p1 p2=>?_);grind
    · grind
theorem Mm{C:Int->Prop}{a0:List Zh}(hl:∀x∈a0,Y8 x=true->∀p,x.XF<=p->p<=x.To->C p):∀(n:Nat)(acc:List Zh)(v:Nat),a0.length<n+v->v<=a0.length->(∀x∈acc,Y8 x=true/\∀p,x.XF<=p->p<=x.To->C p)->∀x∈zk a0 n acc v,Y8 x=true/\∀p,x.XF<=p->p<=x.To->C p
  |0,acc,v,hn,hv,_=>zAD
  |n+1,acc,v,hn,hv,ha=>by
    rw[zk];by_cases nn:v<a0.length
    · rw[decide_eq_true (show(v:Int)<(a0.length:Int)by omega),Xe];have hm:nth a0 v∈a0:=by rw[XM nn];exact List.getElem_mem nn
      refine Zx (p:=fun r:List Zh=>∀x∈r,Y8 x=true/\∀p,x.XF<=p->p<=x.To->C p) (fun hc=>Mm hl n acc (v+1) zAD nn ha) (fun hc=>?_);rw[Bool.not_eq_false']at hc;have k:=hl _ hm hc
      rw[zN]at hc;obtain⟨j1,j2,j3,j4,j5⟩:=Mc ha (acc.length+1) [] 0 (nth a0 v).XF (nth a0 v).To zAD (Nat.zero_le _) (fun x hx=>by cases hx) hc.1 hc.2.1 hc.2.2 k;generalize QX acc (acc.length+1) [] 0 (nth a0 v).XF (nth a0 v).To=r at j1 j2 j3 j4 j5⊢;obtain⟨r1,r2,r3⟩:=r;dsimp only at j1 j2 j3 j4 j5⊢;refine Mm hl n _ (v+1) zAD nn (fun x hx=>?_);rcases List.mem_append.1 hx with hx|hx
      · rcases List.mem_append.1 hx with hx|hx
        · exact ha x (j1 x (List.mem_of_mem_take hx))
        · rw[List.mem_singleton.1 hx];exact⟨(zN _).2 ⟨j2,j3,j4⟩,j5⟩
      · grind
    · grind
theorem wc:∀x∈Xi l,Y8 x=true/\∀p,x.XF<=p->p<=x.To->hsC l p:=
  Mm (C:=hsC l) (fun x hx hs p p1 p2=>⟨x,hx,hs,p1,p2⟩) (l.length+1) [] 0 zAD (Nat.zero_le _) (fun x hx=>by cases hx)
theorem Ti{p:Int}(h:hsC (Xi l) p):hsC l p:=by obtain⟨y,hy,_,h1,h2⟩:=h;exact(wc y hy).2 p h1 h2
theorem uo(l:List Zh)(s:Zh):zh l s=true↔∃x∈Xi l,jL s x=true:=by
  unfold zh;refine(E8 (L:=jq l s) (len:=(Xi l).length) (c:=fun v=>jL s (nth (Xi l) v)) (fun _=>rfl) (fun _ _=>rfl) ((Xi l).length+1) 0 zAD).trans ?_;constructor
  · rintro⟨i,_,h,e⟩;exact⟨_,by rw[XM h];exact List.getElem_mem h,e⟩
  · rintro⟨x,hx,e⟩;obtain⟨i,hi,rfl⟩:=List.mem_iff_getElem.1 hx;exact⟨i,Nat.zero_le _,hi,by rw[XM hi];exact e⟩
theorem E3(s x:Zh):jL s x=true↔Y8 s=true/\Y8 x=true/\x.XF<=s.XF/\s.To<=x.To:=by simp only[jL,Bool.and_eq_true,decide_eq_true_eq,and_assoc]
theorem wM{s:Zh}(h:zh l s=true):Y8 s=true/\∀p,s.XF<=p->p<=s.To->hsC l p:=by obtain⟨x,hx,hi⟩:=(uo l s).1 h;rw[E3]at hi;exact⟨hi.1,fun p p1 p2=>(wc x hx).2 p zAD zAD⟩
theorem vu{m:Zh}(h:Y8 m=true):Xi [m]=[m]:=by simp[Xi,zk,QX,Um,nth,h]
theorem Ab(x y:Zh):VI [x] [y]=Xi (bif(X1 x y).2 then[(X1 x y).1]else[]):=by unfold VI;simp only[WT,jY,nth];cases h:(X1 x y).2<;>simp[h,WT,jY]
theorem wI(x y:Zh):(X1 x y).2=true↔Y8 x=true/\Y8 y=true/\(X1 x y).2=true/\Y8 (X1 x y).1=true/\∀p,((X1 x y).1.XF<=p↔x.XF<=p/\y.XF<=p)/\(p<=(X1 x y).1.To↔p<=x.To/\p<=y.To):=by refine⟨?_,fun h=>h.2.2.1⟩;unfold X1;grind
theorem LM{c:YO}{l:List Zs}{s:Zh}:qa c l s=true↔Y8 s=true/\Y8 (Jm c)=true/\(0<=JU l c.Zc/\JU l c.Zc<=10000)/\c.XF<=s.XF/\s.To<=c.To/\s.To<=JU l c.Zc:=by
  unfold qa xz;rw[Ab];generalize JU l c.Zc=g;constructor
  · intro h;obtain⟨h1,h2⟩:=wM h;have hs:=(zN s).1 h1
    have k1:=Ti (h2 s.XF zAD zAD);have k2:=Ti (h2 s.To zAD zAD);cases hm:(X1 (Jm c) (Zh.mk 0 g)).2 with
    |false=>rw[hm,X8]at k1;obtain⟨y,hy,_⟩:=k1;cases hy
    |true=>
      rw[hm,Xe]at k1 k2;obtain⟨m1,m2,_,m4,m5⟩:=(wI _ _).1 hm;obtain⟨y,hy,_,y1,y2⟩:=k1;obtain⟨z,hz,_,z1,z2⟩:=k2;rw[List.mem_singleton.1 hy]at y1 y2;rw[List.mem_singleton.1 hz]at z1 z2;have y1:=(m5 s.XF).1.1 y1
      have z2:=(m5 s.To).2.1 z2;have m2:=(zN _).1 m2;exact⟨h1,m1,⟨m2.2.1,m2.2.2⟩,y1.1,z2.1,z2.2⟩
  · rintro⟨h1,h2,h3,h4,h5,h6⟩;have hs:=(zN s).1 h1
    have hc:=(zN _).1 h2;have hm:(X1 (Jm c) (Zh.mk 0 g)).2=true:=by
      unfold X1;rw[h2,(zN (Zh.mk 0 g)).2 ⟨Int.le_refl _,h3.1,h3.2⟩,(zN _).2 (by
        dsimp only;have e1:(Jm c).XF=c.XF:=rfl
        have e2:(Jm c).To=c.To:=rfl;rw[e1,e2]at hc⊢;split<;>split<;>omega)]
      rfl
    obtain⟨m1,m2,_,m4,m5⟩:=(wI _ _).1 hm;rw[hm,Xe,vu m4,uo];rw[vu m4];exact⟨_,List.mem_singleton.2 rfl,(E3 _ _).2 ⟨h1,m4,(m5 _).1.2 ⟨h4,hs.1⟩,(m5 _).2.2 ⟨h5,h6⟩⟩⟩
theorem La{a p:Int}(h:hsC (Zw a b l) p):hsC l p\/(a<=p/\p<=b):=by
  revert h;unfold Zw;refine Zx (p:=fun z:List Zh=>hsC z p->hsC l p\/(a<=p/\p<=b)) (fun hc h=>?_) (fun _ h=>.inl h);obtain⟨y,hy,h1,h2,h3⟩:=h;rcases List.mem_append.1 hy with hy|hy
  · exact .inl ⟨y,hy,h1,h2,h3⟩
  · right;rw[List.mem_singleton.1 hy]at h2 h3;revert hc h2 h3;unfold K5;grind
theorem E9{c:YO}{l:List Zs}{s:Zh}(h1:Y8 (Jm c)=true)(h2:c.XF<=s.XF)(h3:s.To<=c.To)(h4:s.To<QT l c.Zc):UG c l s=false:=by
  rw[Bool.eq_false_iff];intro h;obtain⟨k1,k2⟩:=wM h;rw[zN]at k1;have hc:=(zN _).1 h1
  have e1:(Jm c).XF=c.XF:=rfl;have e2:(Jm c).To=c.To:=rfl;rw[e1,e2]at hc;have k3:=k2 s.To zAD zAD;have no:¬hsC [] s.To:=fun⟨y,hy,_⟩=>by cases hy
  revert k3;unfold jF;rw[show W (c.XF-1)=c.XF-1 by simp only[Yw];omega,show W (c.To+1)=c.To+1 by simp only[Yw];omega];refine ZP (p:=fun z:List Zh=>hsC z s.To->False) (ZP (p:=fun z:List Zh=>hsC z s.To->False) (fun h=>?_) (fun h=>?_)) (ZP (p:=fun z:List Zh=>hsC z s.To->False) (fun h=>?_) (fun h=>?_))
  · rcases La (Ti h)with h|h
    · rcases La h with h|h
      · rcases La h with h|h
        · exact no h
        · omega
      · omega
    · omega
  · rcases La (Ti h)with h|h
    · rcases La h with h|h
      · exact no h
      · omega
    · omega
  · rcases La (Ti h)with h|h
    · rcases La h with h|h
      · exact no h
      · omega
    · omega
  · rcases La (Ti h)with h|h
    · exact no h
    · omega
/- answers -/
structure HsE(n:Int)(m:List Zs)(le mo go:Int):Prop where
  a:(le=-1/\mo=-1/\∀s∈m,s.Zc=n->s.Zy<0)\/(0<=le/\le<=mo/\(∃s∈m,s.Zc=n/\s.Zy=le)/\∀s∈m,s.Zc=n->0<=s.Zy->le<=s.Zy)
  b:∀s∈m,s.Zc=n->s.Zy<0->s.xP<=go
  c:go=-1\/∃s∈m,s.Zc=n/\s.Zy<0/\s.xP=go
theorem Tk{n:Int}{l:List Zs}:∀(k:Nat)(le mo go:Int)(v:Nat),l.length<k+v->v<=l.length->HsE n (l.take v) le mo go->HsE n l (qm l n k le mo go v).1 (qm l n k le mo go v).2.1 (qm l n k le mo go v).2.2
  |0,le,mo,go,v,hk,hv,_=>zAD
  |k+1,le,mo,go,v,hk,hv,h=>by
    rw[qm];by_cases nn:v<l.length
    · rw[decide_eq_true (show(v:Int)<(l.length:Int)by omega),Xe];have e:l.take (v+1)=l.take v++[nth l v]:=by rw[List.take_succ_eq_append_getElem nn,XM nn]
      generalize nth l v=s at e;have hm:∀x,x∈l.take (v+1)↔x∈l.take v\/x=s:=fun x=>by rw[e,List.mem_append,List.mem_singleton]
      refine Zx (p:=fun z:Int×Int×Int=>HsE n l z.1 z.2.1 z.2.2) (fun hc=>?_) (fun hc=>?_)
      · have hc:s.Zc≠n:=zBG;refine Tk k le mo go (v+1) zAD nn ⟨?_,fun x hx hn=>?_,?_⟩
        · rcases h.a with⟨a1,a2,a3⟩|⟨a1,a2,⟨y,y1,y2⟩,a4⟩
          · grind
          · grind
        · rcases(hm x).1 hx with hx|rfl
          · exact h.b x hx hn
          · exact absurd hn hc
        · rcases h.c with h1|⟨y,y1,y2⟩
          · exact .inl h1
          · exact .inr ⟨y,(hm y).2 (.inl y1),y2⟩
      · have hc:s.Zc=n:=zBG;refine Zx (p:=fun z:Int×Int×Int=>HsE n l z.1 z.2.1 z.2.2) (fun hd=>?_) (fun hd=>?_)
        · have hd:=of_decide_eq_true hd;refine Tk k le mo _ (v+1) zAD nn ⟨?_,fun x hx hn he=>?_,?_⟩
          · rcases h.a with⟨a1,a2,a3⟩|⟨a1,a2,⟨y,y1,y2⟩,a4⟩
            · grind
            · grind
          · rcases(hm x).1 hx with hx|rfl
            · have:=h.b x hx hn he;split<;>omega
            · split<;>omega
          · split
            · exact .inr ⟨s,(hm s).2 (.inr rfl),hc,hd,rfl⟩
            · rcases h.c with h1|⟨y,y1,y2⟩
              · exact .inl h1
              · exact .inr ⟨y,(hm y).2 (.inl y1),y2⟩
        · have hd:=of_decide_eq_false hd;have hb:∀x∈l.take (v+1),x.Zc=n->x.Zy<0->x.xP<=go:=fun x hx hn he=>by
            rcases(hm x).1 hx with hx|rfl
            · exact h.b x hx hn he
            · omega
          have hcc:go=-1\/∃y∈l.take (v+1),y.Zc=n/\y.Zy<0/\y.xP=go:=by
            rcases h.c with h1|⟨y,y1,y2⟩
            · exact .inl h1
            · exact .inr ⟨y,(hm y).2 (.inl y1),y2⟩
          refine Zx (p:=fun z:Int×Int×Int=>HsE n l z.1 z.2.1 z.2.2) (fun hf=>?_) (fun hf=>?_)
          · refine Tk k _ _ go (v+1) zAD nn ⟨.inr ⟨zAD,by split<;>omega,⟨s,(hm s).2 (.inr rfl),hc,rfl⟩,fun x hx hn h0=>?_⟩,hb,hcc⟩;simp only[Bool.or_eq_true,decide_eq_true_eq]at hf;rcases(hm x).1 hx with hx|rfl
            · rcases h.a with⟨a1,a2,a3⟩|⟨a1,a2,_,a4⟩
              · have:=a3 x hx hn;omega
              · have:=a4 x hx hn h0;omega
            · exact Int.le_refl _
          · simp only[Bool.or_eq_false_iff,decide_eq_false_iff_not]at hf;refine Tk k _ _ go (v+1) zAD nn ⟨.inr ?_,hb,hcc⟩;rcases h.a with⟨a1,a2,a3⟩|⟨a1,a2,⟨y,y1,y2⟩,a4⟩
            · omega
            · grind
    · grind
theorem wL(l:List Zs)(n:Int):HsE n l (xl l n).1 (xl l n).2.1 (xl l n).2.2:=by have:=Tk (n:=n) (l:=l) (l.length+1) (-1) (-1) (-1) 0 zAD (Nat.zero_le _) ⟨.inl ⟨rfl,rfl,fun s hs=>by cases hs⟩,fun s hs=>(by cases hs),.inl rfl⟩;exact this
def hsB(l:List Zs)(n B:Int):Prop:=(∀s∈l,s.Zc=n->0<=s.Zy->B<=s.Zy-1)/\((∃s∈l,s.Zc=n/\0<=s.Zy)\/∃s∈l,s.Zc=n/\s.Zy<0/\B<=s.xP)
theorem sW{l:List Zs}(hr:∀s∈l,s.Zy<=10001)(h0:0<=B)(h:B<=JU l n):hsB l n B:=by
  have e:=wL l n;revert h;unfold JU;generalize xl l n=r at e;obtain⟨le,mo,go⟩:=r;dsimp only at e⊢;refine Zx (p:=fun z:Int=>B<=z->hsB l n B) (fun hc h=>?_) (fun hc h=>?_)
  · have hc:=of_decide_eq_true hc;rcases e.a with⟨a1,_⟩|⟨a1,a2,⟨y,y1,y2,y3⟩,a4⟩
    · omega
    · have:=hr y y1;rw[show W (le-1)=le-1 by simp only[Yw];omega]at h;exact⟨fun s hs hn h2=>(by have:=a4 s hs hn h2;omega),.inl ⟨y,y1,y2,zAD⟩⟩
  · have hc:=of_decide_eq_false hc;rcases e.a with⟨a1,a2,a3⟩|⟨a1,_⟩
    · refine⟨fun s hs hn h2=>(by have:=a3 s hs hn;omega),.inr ?_⟩;rcases e.c with h1|⟨y,y1,y2,y3,y4⟩
      · omega
      · exact⟨y,y1,y2,y3,zAD⟩
    · omega
theorem vn{l:List Zs}(hr:∀s∈l,s.Zy<=10001/\s.xP<=10000)(h0:0<=B)(h1:B<=10000)(h:hsB l n B):B<=JU l n/\JU l n<=10000/\B<QT l n:=by
  have e:=wL l n;unfold JU QT;generalize xl l n=r at e;obtain⟨le,mo,go⟩:=r;dsimp only at e⊢;have hgo:go<=10000:=by
    rcases e.c with h1|⟨y,y1,y2,y3,y4⟩
    · omega
    · have:=hr y y1;omega
  rcases e.a with⟨a1,a2,a3⟩|⟨a1,a2,⟨y,y1,y2,y3⟩,a4⟩
  · rw[decide_eq_false (show ¬le>=0 by omega),X8,decide_eq_true (show mo<0 by omega),Xe];rcases h.2 with⟨s,hs,hn,h2⟩|⟨s,hs,hn,h2,h3⟩
    · have:=a3 s hs hn;omega
    · have:=e.b s hs hn h2;omega
  · have k1:=hr y y1;have k2:=h.1 y y1 y2 zAD;rw[decide_eq_true (show le>=0 by omega),Xe,decide_eq_false (show ¬mo<0 by omega),X8,show W (le-1)=le-1 by simp only[Yw];omega];refine⟨zAD,zAD,?_⟩;split<;>omega
/- pieces that can be used -/
theorem HO{f:Zb}{x:ZR}{D:List (List Int)}(hs:Xv x.ZK=true):∀(n:Nat)(acc:List ZU)(v:Nat),x.ZK.ZM.length<n+v->v<=x.ZK.ZM.length->acc.Perm ((x.ZK.ZM.take v).filter (fun p=>QP f.Z0 p&&decide (Z4 f (ZV x) D p<YS f p.Key)))->(QU f (ZV x) D 0 n acc v).Perm (x.ZK.ZM.filter (fun p=>QP f.Z0 p&&decide (Z4 f (ZV x) D p<YS f p.Key)))
  |0,acc,v,hn,hv,_=>zAD
  |n+1,acc,v,hn,hv,h=>by
    rw[QU];have hE:nth (ZV x).Z9 0=x.ZK:=rfl
    rw[hE];by_cases nn:v<x.ZK.ZM.length
    · rw[decide_eq_true (show(v:Int)<(x.ZK.ZM.length:Int)by omega),Xe];have e:x.ZK.ZM.take (v+1)=x.ZK.ZM.take v++[nth x.ZK.ZM v]:=by rw[List.take_succ_eq_append_getElem nn,XM nn]
      have hd:=(je hs).2.2.1 v nn;generalize yJ (ZV x) 0 acc v (acc.length+1) 0=z;generalize nth x.ZK.ZM v=p at e hd;have g5:K8 acc p=false:=by
        rw[Bool.eq_false_iff];intro hc;have h1:=h.mem_iff.1 (AD.1 hc)
        rw[AD.2 (List.mem_filter.1 h1).1]at hd;cases hd
      rw[g5,Bool.false_or];refine Zx (p:=fun r:List ZU=>r.Perm (x.ZK.ZM.filter (fun p=>QP f.Z0 p&&decide (Z4 f (ZV x) D p<YS f p.Key)))) (fun hc=>?_) (fun hc=>?_)
      · refine HO hs n acc (v+1) zAD nn ?_;grind
      · refine HO hs n _ (v+1) zAD nn ?_;have hp:(QP f.Z0 p&&decide (Z4 f (ZV x) D p<YS f p.Key))=true:=by grind
        rw[e,List.filter_append,List.filter_cons,hp,if_pos rfl,List.filter_nil,List.take_of_length_le (show(acc.drop z).length<=acc.length-z by rw[List.length_drop];exact Nat.le_refl _),List.append_assoc];refine List.Perm.trans (show(acc.take z++p::acc.drop z).Perm _ from List.perm_middle) ?_;rw[List.take_append_drop];grind
    · grind
theorem vq{D:List (List Int)}(hs:Xv x.ZK=true):(Zr f (ZV x) D).Perm (x.ZK.ZM.filter (fun p=>QP f.Z0 p&&decide (Z4 f (ZV x) D p<YS f p.Key))):=by rw[wy];exact HO hs _ [] 0 zAD (Nat.zero_le _) (List.Perm.refl _)
/- certificates, answers, mandates among them -/
def Pl(f:Zb)(x:Zp)(p:ZU):Bool:=(((YK p).2&&yd f.Z0 (YK p).1)&&((YK p).1.Zc==x.Zc))&&((YK p).1.Key==x.Key)
def oO(c:Int×YO):Int×Int×Int×Int×Int×Int×Int×Int:=(c.1,c.2.Zc,c.2.Key,c.2.qf,c.2.XF,c.2.To,c.2.YA,c.2.Mark)
theorem M4(f:Zb)(u:List ZU)(x:Zp):∀(n v:Nat)(c:Int×YO),u.length<n+v->v<=u.length->jU f u x n c.1 v c.2.Zc c.2.Key c.2.qf c.2.XF c.2.To c.2.YA c.2.Mark=oO (((u.drop v).filter (Pl f x)).foldl (fun c p=>(W (c.1+1),(YK p).1)) c)
  |0,v,c,h,hv=>zAD
  |n+1,v,c,h,hv=>by
    rw[jU];by_cases nn:v<u.length
    · rw[decide_eq_true (show(v:Int)<(u.length:Int)by omega),Xe,List.drop_eq_getElem_cons nn,List.filter_cons,<-XM nn];cases hc:Pl f x (nth u v)with
      |true=>rw[show((((YK (nth u v)).2&&yd f.Z0 (YK (nth u v)).1)&&((YK (nth u v)).1.Zc==x.Zc))&&((YK (nth u v)).1.Key==x.Key))=true from hc,Xe,if_pos rfl,List.foldl_cons];exact M4 f u x n (v+1) (W (c.1+1),(YK (nth u v)).1) zAD nn
      |false=>rw[show((((YK (nth u v)).2&&yd f.Z0 (YK (nth u v)).1)&&((YK (nth u v)).1.Zc==x.Zc))&&((YK (nth u v)).1.Key==x.Key))=false from hc,X8,if_neg zAE];exact M4 f u x n (v+1) c zAD nn
    · rw[decide_eq_false (show ¬(v:Int)<(u.length:Int)by omega),X8,List.drop_eq_nil_of_le zAD];rfl
theorem Az(f:Zb)(u:List ZU)(x:Zp):Qe f u x=(bif(((u.filter (Pl f x)).foldl (fun c p=>(W (c.1+1),(YK p).1)) ((0,YO.mk 0 0 0 0 0 0 0):Int×YO)).1 !=1)then(YO.mk 0 0 0 0 0 0 0,false)else(((u.filter (Pl f x)).foldl (fun c p=>(W (c.1+1),(YK p).1)) ((0,YO.mk 0 0 0 0 0 0 0):Int×YO)).2,true)):=by have h:=M4 f u x (u.length+1) 0 (0,YO.mk 0 0 0 0 0 0 0) zAD (Nat.zero_le _);rw[List.drop_zero]at h;unfold Qe;dsimp only at h;rw[h];rfl
theorem wa:∀(l:List ZU)(c:Int×YO),0<=c.1->c.1+l.length<=1000->(l.foldl (fun c p=>(W (c.1+1),(YK p).1)) c).1=c.1+l.length
  |[],c,_,_=>zAG
  |p::l,c,h0,h1=>by rw[List.length_cons]at h1;rw[List.foldl_cons,wa l _ zA3 zA3,List.length_cons];simp only[Yw];omega
theorem vo{x:Zp}(hl:u.length<=1000)(h:(Qe f u x).2=true):∃p,u.filter (Pl f x)=[p]:=by
  have eu:=List.length_filter_le (Pl f x) u;rw[Az]at h;generalize u.filter (Pl f x)=m at h eu;have hf:=wa m (0,YO.mk 0 0 0 0 0 0 0) (Int.le_refl _) (by dsimp only;omega);rw[hf]at h;match m with
  |[]=>simp at h
  |[p]=>exact⟨p,rfl⟩
  |p::q::m=>grind
theorem Cw{x:Zp}(h:u.filter (Pl f x)=[p]):Qe f u x=((YK p).1,true):=by rw[Az,h];rfl
theorem Mq(u:List ZU)(c:YO):∀(n:Nat)(l:List Zs)(v:Nat),u.length<n+v->v<=u.length->Jw u c n l v=l++((u.drop v).filter (fun p=>((XA p).2&&((XA p).1.Zc==c.Zc))&&((XA p).1.YA==c.YA))).map (fun p=>(XA p).1)
  |0,l,v,h,hv=>zAD
  |n+1,l,v,h,hv=>by
    rw[Jw];by_cases nn:v<u.length
    · rw[decide_eq_true (show(v:Int)<(u.length:Int)by omega),Xe,List.drop_eq_getElem_cons nn,List.filter_cons,XM nn];cases hc:(((XA u[v]).2&&((XA u[v]).1.Zc==c.Zc))&&((XA u[v]).1.YA==c.YA))with
      |true=>rw[Xe,Mq u c n _ (v+1) zAD nn,if_pos rfl,List.map_cons,List.append_assoc];rfl
      |false=>rw[X8,Mq u c n _ (v+1) zAD nn,if_neg zAE]
    · grind
theorem Iw{c:YO}{s:Zs}:s∈X5 u c↔∃p∈u,XA p=(s,true)/\s.Zc=c.Zc/\s.YA=c.YA:=by
  have h:=Mq u c (u.length+1) [] 0 zAD (Nat.zero_le _);rw[List.drop_zero,List.nil_append]at h;show s∈Jw u c (u.length+1) [] 0↔_
  grind
theorem wi(h:∀p∈u,(Je p).2=false):Kl u=[]:=by
  have key:∀n v,K9 u n [] v=[]:=by
    intro n;induction n with
    |zero=>intro v;rfl
    |succ n ih=>
      intro v;rw[K9];refine Zx (p:=fun z:List Xc=>z=[]) (fun hc=>?_) (fun _=>rfl);have hc:=of_decide_eq_true hc
      rw[h (nth u v) zBQ,X8];exact ih _
  exact key _ _
theorem rC(s:Zp):Y0 (Yo s)=104:=by rfl
theorem rN(c:YO):Y0 (Ju c)=101:=by rfl
theorem u5(s:Zs):Y0 (XX s)=102:=by rfl
theorem Cl(s:Zs):XA (XX s)=(s,true):=by unfold XA;rw[u5,show(nth (XX s).YM 4 !=(XX s).Key)=false by show(s.YA !=s.YA)=false;simp];rfl
theorem qy{c:Bool}{x y:JN}(h:x.Code≠1):(bif c then x else y).Code=1↔c=false/\y.Code=1:=by grind
theorem j7(n:Int):(SJ n).Code≠1/\(VH n).Code≠1:=⟨(by show(3:Int)≠1;decide),(by show(2:Int)≠1;decide)⟩
/- when a verdict is 'valid' -/
structure HsJ(f:Zb)(x:ZR)(B r:Int)(u:List ZU)(c:YO):Prop where
  a1:yR f=true
  a2:xL x.Sig=true
  a3:0<=Yx x.Sig.Method x.Doc
  a4:Yx x.Sig.Method x.Doc=x.Sig.QI
  a5:0<=YT f.Z0 x.Sig.Key
  a6:qV f.Z0 x.Sig=true
  a7:B<YS f x.Sig.Key
  a8:B<yL f.Methods x.Sig.Method
  a9:Qe f u x.Sig=(c,true)
  b1:r<=B
  b2:UG c (X5 u c) (Zh.mk r B)=false
  b3:qa c (X5 u c) (Zh.mk r B)=true
  b4:W7 f.Z0 (Kl u) x.Sig.Org c.qf (Zh.mk r B)=true
theorem Bp(f:Zb)(x:ZR):(xp f x).Code=1↔∃c,HsJ f x (Z4 f (ZV x) (Z7 (ZV x) x.Doc) (Yo x.Sig)) (Xx f (ZV x) (Zr f (ZV x) (Z7 (ZV x) x.Doc)) x.Sig) (Zr f (ZV x) (Z7 (ZV x) x.Doc)) c:=by
  unfold xp Ix j8;generalize Z4 f (ZV x) (Z7 (ZV x) x.Doc) (Yo x.Sig)=B;generalize Zr f (ZV x) (Z7 (ZV x) x.Doc)=u;generalize Xx f (ZV x) u x.Sig=r;rw[qy (j7 _).1,qy (j7 _).2,qy (j7 _).1,qy (j7 _).2,qy (j7 _).1,qy (j7 _).2,qy (j7 _).1,qy (j7 _).1,qy (j7 _).1,qy (show(2:Int)≠1 by decide),qy (show(3:Int)≠1 by decide),qy (show(3:Int)≠1 by decide)];simp only[Bool.not_eq_false',decide_eq_false_iff_not,bne_eq_false_iff_eq,Bool.or_eq_false_iff,and_true];constructor
  · rintro⟨h1,h2,h3,h4,h5,h6,⟨h7,h8⟩,h9,k1,k2,k3,k4⟩;exact⟨_,h1,h2,zAD,h4,zAD,h6,zAD,zAD,Prod.ext rfl h9,zAD,k2,k3,k4⟩
  · rintro⟨c,h⟩;have e:=h.a9
    have h3:=h.a3;have h5:=h.a5;have h7:=h.a7;have h8:=h.a8;have k1:=h.b1;rw[e];exact⟨h.a1,h.a2,zAD,h.a4,zAD,h.a6,⟨zAD,zAD⟩,rfl,zAD,h.b2,h.b3,h.b4⟩
/- settled items -/
structure HsQ(f:Zb)(s:ZX)(lS:List Int):Prop where
  p:0<s.ZQ.length
  z:JT f s lS=0
  c:(nth s.ZQ (s.ZQ.length-1)).Count=s.ZM.length
  t:∀k,k<s.ZQ.length->(Yj f.ZD (nth s.ZQ k) f.XB).1.To<=f.Now
theorem AB(h:kY f s lS=true):HsQ f s lS:=by
  unfold kY at h;cases hc:((!(Ki f s lS))||((nth s.ZQ (s.ZQ.length-1)).Count !=(s.ZM.length:Int)))with
  |true=>rw[hc,Xe]at h;cases h
  |false=>
    rw[hc,X8]at h;have k:=((jZ (L:=UM f s) (len:=s.ZQ.length) (c:=fun v=>(!(Yj f.ZD (nth s.ZQ v) f.XB).2)||(decide ((Yj f.ZD (nth s.ZQ v) f.XB).1.To>f.Now))) (fun _=>rfl) (fun _ _=>rfl) (s.ZQ.length+1) 0 zAD true).1 h).1
    simp only[Bool.or_eq_false_iff,Bool.not_eq_false',bne_eq_false_iff_eq,decide_eq_false_iff_not]at hc k;have hu:=hc.1
    unfold Ki at hu;simp only[Bool.and_eq_true,decide_eq_true_eq,beq_iff_eq]at hu;exact⟨zAD,hu.2,hc.2,fun k1 hk=>by have:=(k k1 (Nat.zero_le _) hk).2;omega⟩
theorem sA{a b:ZG}{P:Nat->Int}(hI:HsI b y P T)(hX:HsX a.Frame.Now x y T)(hn:a.Frame.Now<=b.Frame.Now)(ca:b.Frame.ZD=a.Frame.ZD)(cl:b.Frame.XB=a.Frame.XB)(sx:Xv x.ZK=true)(sy:Xv y.ZK=true){dx dy:List Int}(hq:HsQ a.Frame x.ZK dx)(hu:JT b.Frame y.ZK dy=0)(hi:i<x.ZK.ZM.length):zK b.Frame y.ZK dy i=zK a.Frame x.ZK dx i:=by
  have lx:=(je sx).2.1;have ly:=(je sy).2.1;have hlen:x.ZK.ZQ.length<=y.ZK.ZQ.length:=hX.c.length_le;have ev:∀k,k<x.ZK.ZQ.length->nth y.ZK.ZQ k=nth x.ZK.ZQ k:=fun k hk=>by obtain⟨c,hc⟩:=hX.c;rw[<-hc,zw,if_pos hk]
  have hp:=hq.p;obtain⟨a1,a2,a3⟩:=Ny (f:=a.Frame) (s:=x.ZK) (lS:=dx) (i:=(i:Int)) zAD (k0:=0) hq.z (Nat.zero_le _);obtain⟨b1,b2,b3⟩:=Ny (f:=b.Frame) (s:=y.ZK) (lS:=dy) (i:=(i:Int)) zAD (k0:=0) hu (Nat.zero_le _);obtain⟨k0,k1,k2,k3⟩:=HQ b.Frame dy (s:=y.ZK) zAD;rw[hu]at k1;have hk0:k0=0:=zAD;subst hk0;have hto:=fun j (hj:j<y.ZK.ZQ.length)=>v7 hI.t zAD k3 (y.ZK.ZQ.length-1-j) j zAD (Nat.zero_le _);have hc:=hq.c;rw[ca,cl]at b2 b3 hto;apply Int.le_antisymm
  · rcases a3 with h|⟨j,_,j2,j3,j4⟩
    · have h1:=b2 (x.ZK.ZQ.length-1) (Nat.zero_le _) zAD (by rw[ev _ zAD,hc];omega);rw[ev _ zAD]at h1;have h2:=hq.t (x.ZK.ZQ.length-1) zAD;omega
    · grind
  · rcases b3 with h|⟨j,_,j2,j3,j4⟩
    · omega
    · by_cases hj:j<x.ZK.ZQ.length
      · grind
      · have h1:=hX.t j zAD j2;have h2:=hto j j2;omega
theorem Fg{α:Type}[Inhabited α]{l m:List α}(h:l <+: m)(hi:i<l.length):nth m i=nth l i:=by obtain⟨c,hc⟩:=h;rw[<-hc,zw,if_pos hi]
theorem tQ{a b:ZG}{P:Nat->Int}(ha:PlI ba a)(hb:PlI bb b)(hn:a.Frame.Now<=b.Frame.Now)(cl:b.Frame.XB=a.Frame.XB)(hI:HsI b y P T)(hX:HsX a.Frame.Now x y T)(ix:Jy x=true)(iy:Jy y=true)(px:nth x.ZK.ZM 0=Yo x.Sig)(p2:2<=x.ZK.ZM.length)
    (hq:HsQ a.Frame x.ZK (XR x.ZK x.Doc)) (hu:JT b.Frame y.ZK (XR y.ZK y.Doc)=0) (hv:(xp a.Frame x).Code=1):(xp b.Frame y).Code=1:=by
  have sx:=RQ ix;have sy:=RQ iy;obtain⟨ca1,ca2,ca3,_⟩:=R4 ha;obtain⟨cb1,cb2,cb3,_⟩:=R4 hb;have hK:b.Frame.Z0=a.Frame.Z0:=cb1.trans ca1.symm;have hA:b.Frame.ZD=a.Frame.ZD:=cb2.trans ca2.symm;have hM:b.Frame.Methods=a.Frame.Methods:=cb3.trans ca3.symm;have hbk:∀k,YS b.Frame k=YS a.Frame k:=fun k=>by unfold YS;rw[hK,hM]
  have fJ:x.ZK.ZM.length<=y.ZK.ZM.length:=hX.p.length_le;have ev:∀i,i<x.ZK.ZM.length->nth y.ZK.ZM i=nth x.ZK.ZM i:=fun i hi=>Fg hX.p hi;have hbd:∀i,i<x.ZK.ZM.length->Z4 b.Frame (ZV y) (Z7 (ZV y) y.Doc) (nth x.ZK.ZM i)=Z4 a.Frame (ZV x) (Z7 (ZV x) x.Doc) (nth x.ZK.ZM i):=fun i hi=>by rw[uZ sx hi,<-sA hI hX hn hA cl sx sy hq hu hi,<-uZ sy zAD,ev i hi]
  obtain⟨c,h⟩:=(Bp _ _).1 hv;have hB:=hbd 0 zAD
  rw[px]at hB;have fj:(Zr b.Frame (ZV y) (Z7 (ZV y) y.Doc)).Perm (y.ZK.ZM.filter (fun p=>QP b.Frame.Z0 p&&decide (Z4 b.Frame (ZV y) (Z7 (ZV y) y.Doc) p<YS b.Frame p.Key))):=vq sy
  have gn:(Zr a.Frame (ZV x) (Z7 (ZV x) x.Doc)).Perm (x.ZK.ZM.filter (fun p=>QP a.Frame.Z0 p&&decide (Z4 a.Frame (ZV x) (Z7 (ZV x) x.Doc) p<YS a.Frame p.Key))):=vq sx;have hold:∀p∈x.ZK.ZM,(QP b.Frame.Z0 p&&decide (Z4 b.Frame (ZV y) (Z7 (ZV y) y.Doc) p<YS b.Frame p.Key))=(QP a.Frame.Z0 p&&decide (Z4 a.Frame (ZV x) (Z7 (ZV x) x.Doc) p<YS a.Frame p.Key)):=fun p hp=>by
    obtain⟨i,hi,rfl⟩:=List.mem_iff_getElem.1 hp;have:=hbd i hi
    rw[XM hi]at this;rw[this,hK,hbk]
  have cP:∀p∈y.ZK.ZM,(Je p).2=false:=fun p hp=>by
    obtain⟨i,hi,rfl⟩:=List.mem_iff_getElem.1 hp;rw[<-XM hi];have hk:Y0 (nth y.ZK.ZM i)≠105:=by
      by_cases h0:i=0
      · rw[h0,hI.p0,rC];decide
      · by_cases h1:i=1
        · obtain⟨c,hc⟩:=hI.p1;rw[h1,hc,rN];decide
        · obtain⟨st,e,_⟩:=hI.st i zAD hi;rw[e,u5];decide
    unfold Je;grind
  have mf:∀v u,Xx b.Frame (ZV y) v x.Sig=Xx a.Frame (ZV x) u x.Sig:=fun v u=>by rw[BY,BY,hK]
  have hul:(Zr a.Frame (ZV x) (Z7 (ZV x) x.Doc)).length<=1000:=by
    rw[gn.length_eq];have:=(je sx).1
    exact Nat.le_trans (List.length_filter_le _ _) zAD
  have hvm:∀p,p∈Zr b.Frame (ZV y) (Z7 (ZV y) y.Doc)->p∈y.ZK.ZM/\Z4 b.Frame (ZV y) (Z7 (ZV y) y.Doc) p<YS b.Frame p.Key:=fun p hp=>by grind
  have huv:∀p,p∈Zr a.Frame (ZV x) (Z7 (ZV x) x.Doc)->p∈Zr b.Frame (ZV y) (Z7 (ZV y) y.Doc):=fun p hp=>by have:=List.mem_filter.1 (gn.mem_iff.1 hp);exact fj.mem_iff.2 (List.mem_filter.2 ⟨hX.p.subset this.1,by rw[hold p this.1];exact this.2⟩)
  have hvu:∀p,p∈Zr b.Frame (ZV y) (Z7 (ZV y) y.Doc)->p∈Zr a.Frame (ZV x) (Z7 (ZV x) x.Doc)\/∃st,p=XX st:=fun p hp=>by
    have h1:=List.mem_filter.1 (fj.mem_iff.1 hp);obtain⟨i,hi,rfl⟩:=List.mem_iff_getElem.1 h1.1;by_cases aC:i<x.ZK.ZM.length
    · left;have hm:y.ZK.ZM[i]∈x.ZK.ZM:=by rw[<-XM hi,ev i aC,XM aC];exact List.getElem_mem aC
      grind
    · right;obtain⟨st,e,_⟩:=hI.st i zAD hi;exact⟨st,by rw[<-XM hi];exact e⟩
  have bB:(Zr b.Frame (ZV y) (Z7 (ZV y) y.Doc)).Perm (Zr a.Frame (ZV x) (Z7 (ZV x) x.Doc)++(y.ZK.ZM.drop x.ZK.ZM.length).filter (fun p=>QP b.Frame.Z0 p&&decide (Z4 b.Frame (ZV y) (Z7 (ZV y) y.Doc) p<YS b.Frame p.Key))):=by
    refine fj.trans ?_;obtain⟨N,hN⟩:=hX.p;have e:y.ZK.ZM.drop x.ZK.ZM.length=N:=by rw[<-hN,List.drop_left]
    rw[e];rw[show List.filter (fun p=>QP b.Frame.Z0 p&&decide (Z4 b.Frame (ZV y) (Z7 (ZV y) y.Doc) p<YS b.Frame p.Key)) y.ZK.ZM=List.filter (fun p=>QP b.Frame.Z0 p&&decide (Z4 b.Frame (ZV y) (Z7 (ZV y) y.Doc) p<YS b.Frame p.Key)) (x.ZK.ZM++N)by rw[hN],List.filter_append];refine List.Perm.append_right _ ?_;rw[List.filter_congr hold];exact gn.symm
  have gP:∀p∈y.ZK.ZM.drop x.ZK.ZM.length,Pl b.Frame x.Sig p=false:=fun p hp=>by obtain⟨i,hi,rfl⟩:=List.mem_iff_getElem.1 hp;rw[List.getElem_drop];rw[List.length_drop]at hi;obtain⟨st,e,_⟩:=hI.st (x.ZK.ZM.length+i) zAD zAD;rw[XM zAD]at e;rw[e];unfold Pl YK;rw[u5];rfl
  have da:=hX.s;refine(Bp _ _).2 ⟨c,?_⟩;rw[da,hB];generalize Zr b.Frame (ZV y) (Z7 (ZV y) y.Doc)=v at fj hvm huv hvu bB mf⊢;generalize Zr a.Frame (ZV x) (Z7 (ZV x) x.Doc)=u at h gn hul huv hvu bB mf;rw[mf v u];generalize Z4 a.Frame (ZV x) (Z7 (ZV x) x.Doc) (Yo x.Sig)=B at h hB⊢;generalize Xx a.Frame (ZV x) u x.Sig=r at h mf⊢;have mF:∀s p,p∈v->XA p=(s,true)->∃i,P i<YS b.Frame s.YA/\HsS b (XX s) (P i):=fun s p hp e=>by
    obtain⟨h1,h2⟩:=hvm p hp;obtain⟨i,hi,hpi⟩:=List.mem_iff_getElem.1 h1;rw[<-XM hi]at hpi;have hk:Y0 p=102:=by unfold XA at e;grind
    have i2:2<=i:=by
      apply Classical.byContradiction;intro nn;have:i=0\/i=1:=zAD
      rcases this with rfl|rfl
      · rw[<-hpi,hI.p0,rC]at hk;cases hk
      · obtain⟨c,hc⟩:=hI.p1;rw[<-hpi,hc,rN]at hk;cases hk
    have h3:=hI.st i i2 hi;have h4:=rX hI sy hi;rw[hpi]at h3 h4;obtain⟨st,e2,h5⟩:=h3;rw[e2,Cl]at e;have e3:st=s:=congrArg (·.1) e;subst e3;refine⟨i,?_,st,rfl,h5⟩;have e4:p.Key=st.YA:=by rw[e2];rfl
    rw[e4]at h2;omega
  obtain⟨q,bA⟩:=vo hul (by rw[h.a9]);have hcq:c=(YK q).1:=by have:=Cw bA;rw[h.a9]at this;exact congrArg (·.1) this
  have hq2:v.filter (Pl b.Frame x.Sig)=[q]:=by
    have e1:Pl b.Frame x.Sig=Pl a.Frame x.Sig:=by funext p;unfold Pl;rw[hK]
    have k:=bB.filter (Pl b.Frame x.Sig);have e0:∀g:ZU->Bool,List.filter (Pl b.Frame x.Sig) (List.filter g (y.ZK.ZM.drop x.ZK.ZM.length))=[]:=fun g=>List.filter_eq_nil_iff.2 (fun p hp=>by rw[gP p (List.mem_filter.1 hp).1];simp);rw[List.filter_append,e0,List.append_nil,e1,bA]at k;rw[e1];exact List.perm_singleton.1 k
  have dq:=LM.1 h.b3;obtain⟨e1,e2,e3,e4,e5,e6⟩:=dq;have fK:=(zN _).1 e1;dsimp only at fK e4 e5 e6;have mL:∀s,s∈X5 u c->s∈X5 v c:=fun s hs=>by obtain⟨p,hp,k⟩:=Iw.1 hs;exact Iw.2 ⟨p,huv p hp,k⟩
  have aU:∀s∈X5 v c,s.Zy<=10001/\s.xP<=10000:=fun s hs=>by
    obtain⟨p,hp,k,_⟩:=Iw.1 hs;obtain⟨i,_,st,e,hr,_⟩:=mF s p hp k;have:s=st:=by have:=congrArg (fun p=>(XA p).1) e;rw[Cl,Cl]at this;exact this
    rw[this];omega
  have gL:=sW (fun s hs=>(aU s (mL s hs)).1) zAD e6;have aV:∀s∈X5 v c,∃t:Int,t<YS b.Frame s.YA/\s.Zc=c.Zc/\((s.xP=t/\((s.Zy=-1/\(nth b.Zy (c.Zc-1).toNat=-1\/t+1<=nth b.Zy (c.Zc-1).toNat))\/(0<=s.Zy/\s.Zy=nth b.Zy (c.Zc-1).toNat)))\/(s.Zy=-1/\YS b.Frame s.YA<=t)):=fun s hs=>by
    obtain⟨p,hp,k,k2,_⟩:=Iw.1 hs;obtain⟨i,hi,st,e,_,hc⟩:=mF s p hp k;have:s=st:=by have:=congrArg (fun p=>(XA p).1) e;rw[Cl,Cl]at this;exact this
    subst this;rw[k2]at hc;exact⟨P i,hi,k2,hc⟩
  have hB2:hsB (X5 v c) c.Zc B:=by
    refine⟨fun s hs hn h0=>?_,?_⟩
    · obtain⟨t,t1,t2,t3⟩:=aV s hs;rcases gL.2 with⟨s0,z1,z2,z3⟩|⟨s0,z1,z2,z3,z4⟩
      · have z5:=gL.1 s0 z1 z2 z3;grind
      · grind
    · rcases gL.2 with⟨s0,z1,z2⟩|⟨s0,z1,z2⟩
      · exact .inl ⟨s0,mL s0 z1,z2⟩
      · exact .inr ⟨s0,mL s0 z1,z2⟩
  obtain⟨g1,g2,g3⟩:=vn aU zAD zAD hB2;refine⟨hb.w.fr,by rw[da];exact h.a2,by rw[da,hX.d];exact h.a3,by rw[da,hX.d];exact h.a4,by rw[da,hK];exact h.a5,by rw[da,hK];exact h.a6,by rw[da,hbk];exact h.a7,by rw[da,hM];exact h.a8,by rw[da,hcq];exact Cw hq2,h.b1,E9 e2 e4 e5 g3,LM.2 ⟨e1,e2,⟨zAD,g2⟩,e4,e5,g1⟩,?_⟩;have m1:Kl v=[]:=wi (fun p hp=>cP p (hvm p hp).1)
  have m2:Kl u=[]:=wi (fun p hp=>cP p (hvm p (huv p hp)).1);have h4:=h.b4;rw[m2]at h4;rw[m1,da,hK];exact h4
theorem uB{a b:ZG}(ha:PlI ba a)(hb:PlI bb b)(hz:HsW z a)(h:HsW a b)(hv:(XP a id).Code=1)(hs:kY a.Frame (nth (nth a.ZB (ZO a id).1.toNat).ZC (ZO a id).2.toNat).ZK (XR (nth (nth a.ZB (ZO a id).1.toNat).ZC (ZO a id).2.toNat).ZK (nth (nth a.ZB (ZO a id).1.toNat).ZC (ZO a id).2.toNat).Doc)=true)(hu:J7 b id=true):(XP b id).Code=1:=by
  have fa:0<=(ZO a id).1:=by apply Classical.byContradiction;intro hn;unfold XP at hv;rw[decide_eq_true zAD,Xe]at hv;cases hv
  have fb:0<=(ZO b id).1:=by apply Classical.byContradiction;intro hn;unfold J7 at hu;rw[decide_eq_true zAD,Xe]at hu;cases hu
  unfold XP at hv⊢;unfold J7 at hu;rw[decide_eq_false zAD,X8]at hv hu⊢;obtain⟨a1,a2,a3⟩:=E7 fa;obtain⟨b1,b2,b3⟩:=E7 fb;have mx:=LB a1 a2
  have my:=LB b1 b2;have ix:=T8 ha.w a1 a2;have iy:=T8 hb.w b1 b2;generalize nth (nth a.ZB (ZO a id).1.toNat).ZC (ZO a id).2.toNat=x at hv hs a3 mx ix;generalize nth (nth b.ZB (ZO b id).1.toNat).ZC (ZO b id).2.toNat=y at hu b3 my iy⊢;obtain⟨P,T,h1,h2⟩:=h.g y my;obtain⟨_,_,h3,_⟩:=hz.g x mx;unfold Ki at hu;rw[Bool.and_eq_true,beq_iff_eq]at hu;exact tQ ha hb h.nw h.li h1 (h2 x mx (a3.trans b3.symm)) ix iy h3.p0 h3.p2 (AB hs) hu.2 hv
theorem By{z:ZG}{n:Nat}(hn:n<=1000):∀{l:List Zt}{w:ZG}{b:Int},PlI b w->HsW z w->(∀e∈l,e.Ids.length<=n)->b+n*l.length<=4611686018427387904->HsW z (Gc w l)
  |[],w,b,_,h,_,_=>h
  |e::l,w,b,hw,h,hl,hb=>by
    have he:=hl e List.mem_cons_self;rw[List.length_cons]at hb;have e1:b+(n:Int)*((l.length+1:Nat):Int)=b+n+n*l.length:=by rw[Int.natCast_add,Int.mul_add];omega
    rw[e1]at hb;have h0:0<=(n:Int)*(l.length:Int):=Int.mul_nonneg zAD zAD
    exact By hn (l:=l) (Cz (e:=e) hw (n:=n) zAD zAD) (uU hw h zAD) (fun x hx=>hl x (List.mem_cons_of_mem _ hx)) hb
def lnP(w:ZG)(r:ZG×Bool):Prop:=r.1.ZB.length=w.ZB.length
theorem TL{c:List YO}{e s y o:List Int}{x:Int}{b:Bool}(h:A.length=w.ZB.length):lnP w (ZG.mk f c e A s y x o,b):=h
theorem Gt{w:ZG}{i:Int}{ids:List Int}{iv:Int}:∀n l v r,Qn w i ids iv n l v= .inl r->lnP w r
  |0,l,v,r,h=>zA7
  |n+1,l,v,r,h=>by rw[Qn]at h;revert h;exact ZP (p:=fun x:Sum (ZG×Bool) (List Zm)=>x= .inl r->lnP w r) (ZP (p:=fun x:Sum (ZG×Bool) (List Zm)=>x= .inl r->lnP w r) (ZP (p:=fun x:Sum (ZG×Bool) (List Zm)=>x= .inl r->lnP w r) (fun h=>by cases h;rfl) (fun h=>Gt n _ _ r h)) (ZP (p:=fun x:Sum (ZG×Bool) (List Zm)=>x= .inl r->lnP w r) (fun h=>by cases h;rfl) (fun h=>Gt n _ _ r h))) (fun h=>by cases h)
theorem Ax{w:ZG}{id t:Int}:∀n v l r,QC w id t n v l= .inl r->lnP w r
  |0,l,v,r,h=>zA7
  |n+1,l,v,r,h=>by rw[QC]at h;revert h;exact ZP (p:=fun x:Sum (ZG×Bool) (List Zm)=>x= .inl r->lnP w r) (ZP (p:=fun x:Sum (ZG×Bool) (List Zm)=>x= .inl r->lnP w r) (fun h=>by cases h;rfl) (fun h=>Ax n _ _ r h)) (fun h=>by cases h)
theorem ui(w:ZG)(e:Zt):lnP w (Xj w e):=by
  have z:∀b,lnP w (w,b):=fun _=>rfl;have s1:∀{i:Nat}{a:ZE},(w.ZB.set i a).length=w.ZB.length:=List.length_set;have s2:∀{i j:Nat}{a b:ZE},((w.ZB.set i a).set j b).length=w.ZB.length:=zAG;have h1:∀n,lnP w (xm w n):=fun n=>by unfold xm;exact ZP (p:=lnP w) (z _) (TL rfl)
  have h2:∀a b d c k,lnP w (x1 w a b d c k):=fun a b d c k=>by unfold x1;exact ZP (p:=lnP w) (z _) (ZP (p:=lnP w) (z _) (ZP (p:=lnP w) (z _) (TL s1)))
  have h4:∀n,lnP w (ze w n):=fun n=>by unfold ze;exact ZP (p:=lnP w) (z _) (TL rfl)
  have h5:∀i ids l,lnP w (zU w i ids l):=fun i ids l=>by
    unfold zU;refine ZP (p:=lnP w) (z _) ?_;cases hx:Qn w i ids l (ids.length+1) [] 0 with
    |inl r=>exact Gt _ _ _ r hx
    |inr y=>exact ZP (p:=lnP w) (z _) (TL s1)
  have h6:∀a b c,lnP w (xf w a b c):=fun a b c=>by unfold xf;exact ZP (p:=lnP w) (z _) (TL s2)
  have h7:∀a,lnP w (za w a):=fun a=>by unfold za;exact ZP (p:=lnP w) (z _) (TL s1)
  have h8:∀a b d,lnP w (yZ w a b d):=fun a b d=>by unfold yZ;exact ZP (p:=lnP w) (z _) (ZP (p:=lnP w) (z _) (ZP (p:=lnP w) (z _) (TL s1)))
  have h9:∀a b,lnP w (Jb w a b):=fun a b=>by
    unfold Jb;refine ZP (p:=lnP w) (z _) ?_;cases hx:QC w a b ((YP w).length+1) 0 []with
    |inl r=>exact Ax _ _ _ r hx
    |inr y=>exact TL s1
  have h3:∀a,lnP w (zY w a):=fun a=>by
    unfold zY
    repeat' first|exact z _|exact TL s1|refine ZP (p:=lnP w) ?_ ?_
  have hR:∀a b,lnP w (xa w a b):=fun a b=>by
    unfold xa
    repeat' first|exact z _|exact TL s1|refine ZP (p:=lnP w) ?_ ?_
  unfold Xj;exact ZP (p:=lnP w) (h1 _) (ZP (p:=lnP w) (h2 _ _ _ _ _) (ZP (p:=lnP w) (h3 _) (ZP (p:=lnP w) (h4 _) (ZP (p:=lnP w) (h5 _ _ _) (ZP (p:=lnP w) (h6 _ _ _) (ZP (p:=lnP w) (h7 _) (ZP (p:=lnP w) (h8 _ _ _) (ZP (p:=lnP w) (h9 _ _) (ZP (p:=lnP w) (hR _ _) (z _))))))))))
theorem Bq(l:List Zt):∀(n v:Nat)(w:ZG),l.length<n+v->(zy l n v w.Frame.Z0 w.Frame.ZD w.Frame.Methods w.Frame.XB w.Frame.Now w.Zf w.Zy w.ZB w.Y9 w.Yg w.Next w.YN).2.2.2.2.2.2.2.1.length=w.ZB.length\/l.length<v
  |0,v,w,h=>zAD
  |n+1,v,w,h=>by
    rw[zy];by_cases nn:v<l.length
    · rw[decide_eq_true (show(v:Int)<(l.length:Int)by omega),Xe];rcases Bq l n (v+1) (Xj w (nth l v)).1 zAD with k|k
      · exact .inl (Eq.trans k (ui w (nth l v)))
      · omega
    · rw[decide_eq_false (show ¬(v:Int)<(l.length:Int)by omega),X8];exact .inl rfl
theorem ug(w:ZG)(l:List Zt):(Qz w l).ZB.length=w.ZB.length:=by
  rcases Bq l (l.length+1) 0 w zAD with k|k
  · exact k
  · omega
theorem v8(w:ZG)(e:Zt):lnP w (Y3 w e):=by
  have z:lnP w (w,false):=rfl;have s1:∀{i:Nat}{a:ZE},(w.ZB.set i a).length=w.ZB.length:=List.length_set;have s2:∀{i j:Nat}{a b:ZE},((w.ZB.set i a).set j b).length=w.ZB.length:=zAG;have ha:∀i id st,lnP w (JI w i id st):=fun i id st=>Rk (P:=lnP w) z (fun _ _ _=>s1);have h3:lnP w (Qv w e.A):=by unfold Qv;exact ZP (p:=lnP w) z (ZP (p:=lnP w) z (ZP (p:=lnP w) (ha _ _ _) (ha _ _ _)))
  have hR:lnP w (J1 w e.A e.B):=by unfold J1;exact ZP (p:=lnP w) z (ha _ _ _)
  have h4:lnP w (QO w e.A):=by unfold QO;exact ZP (p:=lnP w) z rfl
  exact HG (P:=lnP w) z (fun _=>D7 (P:=lnP w) z (fun _ _ _=>rfl)) (fun _=>DY (P:=lnP w) z (fun _ _ _ _ _ _ _ _ _=>s1)) (fun _=>h3) (fun _=>h4)
    (fun _=>G0 (P:=lnP w) (Q:=fun _ _ _=>True) z trivial (fun _ _ _ _ _ _ _=>trivial) (fun _ _ _ _ _ _ _ _=>s1)) (fun _=>CA (P:=lnP w) z (fun _ _ _ _ _ _=>s2)) (fun _=>MG (P:=lnP w) z (fun _=>s1)) (fun _=>HU (P:=lnP w) z (fun _ _ _ _ _ _ _ _ _=>s1)) (fun _=>CL (P:=lnP w) z (fun _ _ _ _ _ _ _=>s1)) (fun _=>hR)
theorem Ai:∀(l:List Zt)(w:ZG),(Gc w l).ZB.length=w.ZB.length
  |[],w=>rfl
  |e::l,w=>(Ai l (Y3 w e).1).trans (v8 w e)
theorem pg{a0:List UInt8}{z a b:ZG}{ba bb:Int}(ha:PlI ba a)(hb:PlI bb b)(hz:HsW z a)(h:HsW a b)
    (ea:ZI (ZA a0).1 ((ZA a0).2.take (Int.tmod (XO a0 5) ((ZA a0).2.length:Int)).toNat)=a) (eb:ZI a ((ZA a0).2.drop (Int.tmod (XO a0 5) ((ZA a0).2.length:Int)).toNat)=b):∀n v,xD a0 n v= .inr ()
  |0,v=>rfl
  |n+1,v=>by
    rw[xD,ea,eb,pg ha hb hz h ea eb n (v+1)];refine Zx (p:=fun r:Sum Bool Unit=>r= .inr ()) (fun hc=>?_) (fun _=>rfl);refine Zx (p:=fun r:Sum Bool Unit=>r= .inr ()) (fun _=>rfl) (fun hd=>?_);have hc:=of_decide_eq_true hc
    rw[Bool.or_eq_false_iff,Bool.not_eq_false',Bool.not_eq_false']at hd;have hv:=Bd (w:=a) (id:=nth (Zd a) v) zBQ
    rw[uB ha hb hz h hv hd.1 hd.2];rfl
theorem pU{a0:List UInt8}{z a b:ZG}{ba bb:Int}(ha:PlI ba a)(hb:PlI bb b)(hz:HsW z a)(h:HsW a b)
    (ea:ZI (ZA a0).1 []=a) (eb:ZI a (ZA a0).2=b):∀n v,xN a0 n v= .inr ()
  |0,v=>rfl
  |n+1,v=>by
    rw[xN,ea,eb,pU ha hb hz h ea eb n (v+1)];refine Zx (p:=fun r:Sum Bool Unit=>r= .inr ()) (fun hc=>?_) (fun _=>rfl);refine Zx (p:=fun r:Sum Bool Unit=>r= .inr ()) (fun _=>rfl) (fun hd=>?_);have hc:=of_decide_eq_true hc
    rw[Bool.or_eq_false_iff,Bool.not_eq_false',Bool.not_eq_false']at hd;have hv:=Bd (w:=a) (id:=nth (Zd a) v) zBQ
    rw[uB ha hb hz h hv hd.1 hd.2];rfl
theorem LD(a0:List UInt8):WS a0=true:=by
  obtain⟨s1,s2⟩:=ZS (n:=40) (a0:=a0) zAE;have d1:PlI 0 (ZA a0).1:=pA _
  have d2:HsW (ZA a0).1 (ZA a0).1:=th _;have hl:=YX s2;have aW:∀e∈(ZA a0).2,e.Ids.length<=40:=fun e he=>YX (Zt.Au (s2.2 e he));have key:∀k,∃a b ba bb,ZI (ZA a0).1 ((ZA a0).2.take k)=a/\ZI a ((ZA a0).2.drop k)=b/\PlI ba a/\PlI bb b/\HsW (ZA a0).1 a/\HsW a b/\(Qz (Qz (ZA a0).1 ((ZA a0).2.take k)) ((ZA a0).2.drop k)).ZB.length=b.ZB.length:=fun k=>by have t1:((ZA a0).2.take k).length<=40:=Nat.le_trans (List.length_take_le' k _) hl;have t2:((ZA a0).2.drop k).length<=40:=Nat.le_trans (by rw[List.length_drop];exact Nat.sub_le _ _) hl;have u1:∀e∈(ZA a0).2.take k,e.Ids.length<=40:=fun e he=>aW e (List.mem_of_mem_take he);have u2:∀e∈(ZA a0).2.drop k,e.Ids.length<=40:=fun e he=>aW e (List.mem_of_mem_drop he);have n1:=AN (n:=40) d1 u1 zAD;have n2:=By (n:=40) zAD d1 d2 u1 zAD;have n3:=AN (n:=40) n1 u2 zAD;have n4:=By (n:=40) zAD n1 (sG n1 n2) u2 zAD;refine⟨_,_,_,_,rfl,rfl,by rw[RR];exact n1,by rw[RR,RR];exact n3,by rw[RR];exact n2,by rw[RR,RR];exact n4,by rw[ug,ug,RR,RR,Ai,Ai]⟩
  unfold WS;refine ZP (p:=(·=true)) rfl ?_;refine ZP (p:=(·=true)) ?_ ?_
  · obtain⟨a,b,ba,bb,e1,e2,h1,h2,h3,h4,e3⟩:=key (Int.tmod (XO a0 5) ((ZA a0).2.length:Int)).toNat;rw[pg h1 h2 h3 h4 e1 e2,e1,e2,e3];simp
  · obtain⟨a,b,ba,bb,e1,e2,h1,h2,h3,h4,e3⟩:=key 0;rw[List.take_zero]at e1 e3;rw[List.drop_zero]at e2 e3;rw[pU h1 h2 h3 h4 e1 e2,e1,e2,e3];simp
end Go.Mo
