/- Plain lemmas on the models of the helpers. No condition. -/
import Derived.Test.YtifogammcgmjpaaGreatM
namespace Go.Mo
open Go.Vm
set_option linter.unusedSimpArgs false
set_option linter.unusedVariables false
variable{n i K j m ae v:Nat}{C N T a5:Int}{A w:P}{E:List Int}{l:List ByteArray}{F:Nat->Int->Nat->Sum (Int×Bool) Int}{b a s:ByteArray}{x:YE}{c:Nat->Bool}{e:YS}{d:o}{p:ZK}
theorem Xd(A:List YF)(C:Int):Zz A C<(A.length:Int):=Tp (F:=S6 A C) (c:=fun J=>(I A J).b==C) (fun _=>rfl) (fun _ _=>rfl) _ _
theorem qr(A:ZI):CM A=A:=rfl
theorem nN(A:ZO):pR A=A:=rfl
theorem oe(A:ZK):vF A=A:=rfl
theorem T0(A:List ZK):BH A=A:=by have h:=RA (F:=H6 A) (a:=A) (g:=fun x=>x) (fun _=>rfl) (fun _ _ _=>rfl) (A.length+1) [] 0 Y Y;simp only[List.nil_append,List.drop_zero]at h;unfold BH;rw[h]
theorem r1(A:ZZ):w7 A=A:=rfl
theorem LD(A:ZR):En A=A:=by have h:=RA (F:=fun n v i=>M3 A n i v) (a:=A.a) (g:=fun x=>x) (fun _=>rfl) (fun _ _ _=>rfl) (A.a.length+1) [] 0 Y Y;simp only[List.nil_append,List.drop_zero]at h;unfold En;rw[h]
theorem ru(A:ZU):Aw A=A:=rfl
theorem Sk(A:ZD):Ej A=A:=by have h:=RA (F:=fun n v i=>LX A n i v) (a:=A.a) (g:=fun x=>x) (fun _=>rfl) (fun _ _ _=>rfl) (A.a.length+1) [] 0 Y Y;simp only[List.nil_append,List.drop_zero]at h;unfold Ej;rw[h]
theorem pu(A:P):Eh A=A:=by have h:=RA (F:=fun n v i=>La A n i v) (a:=A.a) (g:=fun x=>x) (fun _=>rfl) (fun _ _ _=>rfl) (A.a.length+1) [] 0 Y Y;simp only[List.nil_append,List.drop_zero]at h;unfold Eh;rw[h]
theorem PP(A:P)(C:Int):QL A C<(A.c.length:Int):=Tp (F:=yC A C) (c:=fun J=>(I A.c J).a==C) (fun _=>rfl) (fun _ _=>rfl) _ _
theorem IW(A:ZD)(C:Int):XY A C<(A.a.length:Int):=Tp (F:=Uq A C) (c:=fun J=>(I A.a J).b==C) (fun _=>rfl) (fun _ _=>rfl) _ _
theorem L0(A:List YE)(C:Int):YQ A C<(A.length:Int):=Tp (F:=Uj A C) (c:=fun J=>(I A J).b==C) (fun _=>rfl) (fun _ _=>rfl) _ _
theorem Qv(A:List ZS)(C:Int):Zp A C<(A.length:Int):=Tp (F:=yo A C) (c:=fun J=>(I A J).b==C) (fun _=>rfl) (fun _ _=>rfl) _ _
theorem Tx(A:List Zy)(C:Int):Qf A C<(A.length:Int):=Tp (F:=kQ A C) (c:=fun J=>(I A J).b==C) (fun _=>rfl) (fun _ _=>rfl) _ _
theorem yD(A:List YF)(C:Int):YA A C<(A.length:Int):=Tp (F:=SS A C) (c:=fun J=>(I A J).b==C) (fun _=>rfl) (fun _ _=>rfl) _ _
theorem sY(A:ZI):Ee A=A:=rfl
theorem ot(A:List Int):D5 A=A:=rfl
theorem Bd(A:ZO):Mx A=A:=rfl
theorem I1(A:ZK):Fo A=A:=rfl
theorem Cq(A:List ZK):Nk A=A:=by have h:=RA (F:=R0 A) (a:=A) (g:=fun x=>x) (fun _=>rfl) (fun _ _ _=>rfl) (A.length+1) [] 0 Y Y;simp only[List.nil_append,List.drop_zero]at h;unfold Nk;rw[h]
theorem tZ(A:List ZX):GL A=A:=rfl
theorem Ak(A:ZZ):L1 A=A:=rfl
theorem x0(A:ZR):NR A=A:=by have h:=RA (F:=fun n v i=>RY A n i v) (a:=A.a) (g:=fun x=>x) (fun _=>rfl) (fun _ _ _=>rfl) (A.a.length+1) [] 0 Y Y;simp only[List.nil_append,List.drop_zero]at h;unfold NR;rw[h]
theorem nH(A:ZU):CW A=A:=rfl
theorem H1(A:ZD):Pm A=A:=by have h:=RA (F:=fun n v i=>Tq A n i v) (a:=A.a) (g:=fun x=>x) (fun _=>rfl) (fun _ _ _=>rfl) (A.a.length+1) [] 0 Y Y;simp only[List.nil_append,List.drop_zero]at h;unfold Pm;rw[h]
theorem tc(A:P):Lh A=A:=by have h:=RA (F:=fun n v i=>Po A n i v) (a:=A.a) (g:=fun x=>x) (fun _=>rfl) (fun _ _ _=>rfl) (A.a.length+1) [] 0 Y Y;simp only[List.nil_append,List.drop_zero]at h;unfold Lh;rw[h]
theorem Kv(A:ZD)(C:Int):Z3 A C<(A.a.length:Int):=Tp (F:=WK A C) (c:=fun J=>(I A.a J).b==C) (fun _=>rfl) (fun _ _=>rfl) _ _
theorem od(A:List YE)(C:Int):Jc A C<(A.length:Int):=Tp (F:=WD A C) (c:=fun J=>(I A J).b==C) (fun _=>rfl) (fun _ _=>rfl) _ _
theorem Jk(A:List ZS)(C:Int):Zo A C<(A.length:Int):=Tp (F:=K8 A C) (c:=fun J=>(I A J).b==C) (fun _=>rfl) (fun _ _=>rfl) _ _
theorem BM(A:List Int)(C:Int):Kl A C<(A.length:Int):=Tp (F:=Sc A C) (c:=fun J=>I A J==C) (fun _=>rfl) (fun _ _=>rfl) _ _
theorem Tj(A:List Zy)(C:Int):Qd A C<(A.length:Int):=Tp (F:=kA A C) (c:=fun J=>(I A J).b==C) (fun _=>rfl) (fun _ _=>rfl) _ _
theorem Ey(A:List ByteArray):Sn A A=true:=by unfold Sn;rw[lz (F:=Pr A A) (L:=A.length) (c:=fun J=>!decide (I A J=I A J)) (fun i=>ab) (fun _=>rfl) (fun _ _=>rfl)];simp
def Js(x:ByteArray)(k:Int):ByteArray×Int:=(T4 k,W (k+1))
theorem Iv(A:List ByteArray)(C:Int):Xc A C=bd Js A C:=by have h:=mx (F:=zZ) (f:=Js) (fun _ _ _ _=>rfl) A [] (A.length+1) C Y;unfold Xc;simp only[List.length_nil,List.nil_append]at h;rw[h]
@[simp] theorem zaL (A : List ByteArray) (C : Int) : (Xc A C).1.length = A.length := by rw [Iv, lj]
theorem Gn:∀(x:ByteArray)(k:Int),0<=k->k+(cn x:Nat)<4611686018427387904->(Js x k).2=k+(cn x:Nat):=by
 intro x k h0 h;simp only[Js,hM,h7,hJ,h6]at h⊢;try simp(disch:=omega) only[Wz]
 omega
def O8(x:ByteArray)(k:Int)(r:Int->Sum Int Int):Sum Int Int:=bif(!decide (x=T4 k))then(.inl (-1))else r (W (k+1))
theorem ty:∀(x:ByteArray)(k:Int)(r:Int->Sum Int Int),0<=k->k+(cn x:Nat)<4611686018427387904->O8 (Js x k).1 k r=r (Js x k).2:=by
 intro x k r h0 h;simp only[Js,O8,hM,h7,hJ,h6]at h⊢;try simp(disch:=omega) only[Wz]
 simp
theorem wi(A:List ByteArray)(C:Int)(h0:0<=C)(h:C+(cn A:Nat)<4611686018427387904):C<=(Xc A C).2/\(Xc A C).2<=C+(cn A:Nat)/\xb (Xc A C).1 C=(Xc A C).2:=by
 rw[Iv];have s:=gp Gn A C h0 h
 have hh:=rb (z:=(bd Js A C).1) (H:=Ty (bd Js A C).1) (G:=O8) (fun _ _ _=>rfl) Gn ty A [] ((bd Js A C).1.length+1) C ab (by rw[lj];omega) h0 h;simp only[List.length_nil]at hh;rw[o2]at*;refine⟨Y,Y,?_⟩;unfold xb;rw[hh]
theorem N8:∀(n:Nat)(v:ByteArray)(x:Int),(zz n v x).size<=v.size+n
 |0,v,x=>by show(default:ByteArray).size<=_;exact Nat.zero_le _
 |n+1,v,x=>by
  simp only[zz];cases(x !=0)with
  |false=>simp
  |true=>cases decide (x.tmod 10<0)<;>simp<;>refine Nat.le_trans (N8 n _ _) ?_<;>simp<;>omega
theorem Yn(A:Int):(XK A).size<=24:=by
 unfold XK;have h:=N8 22 (⟨#[]⟩:ByteArray) A
 simp at h;cases(A==0)with
 |true=>simp
 |false=>cases decide (A<0)<;>simp<;>omega
theorem Rm:∀(n:Nat)(x:Int)(l:List UInt8),(JC n x l).length<=l.length+n
 |0,x,l=>by show(default:List UInt8).length<=_;exact Nat.zero_le _
 |n+1,x,l=>by
  simp only[JC];cases decide (x.tmod 10<0)<;>simp<;>cases(W _==0)<;>simp only[cond_true,cond_false]
  ·refine Nat.le_trans (Rm n _ _) ?_;simp;omega
  ·simp
  ·refine Nat.le_trans (Rm n _ _) ?_;simp;omega
  ·simp
theorem Ys(A:Int):(Zu A).size<=24:=by
 unfold Zu;have h:=Rm 21 A []
 simp at h;cases decide (A<0)<;>simp<;>omega
theorem ID(h:7<=n):R n (yw x):=⟨by simp[yw];omega,fun _ _=>trivial⟩
@[simp] theorem ZAu (x : YE) : (yw x).length = 7 := rfl
theorem IJ(h:7<=n):R n (zi x):=⟨by simp[zi];omega,fun _ _=>trivial⟩
@[simp] theorem ZAw (x : YE) : (zi x).length = 7 := rfl
theorem w0{x:ZX}(h:5<=n):R n (yf x):=⟨by simp[yf];omega,fun _ _=>trivial⟩
@[simp] theorem ZAa (x : ZX) : (yf x).length = 5 := rfl
theorem pT{x:ZX}(h:5<=n):R n (zW x):=⟨by simp[zW];omega,fun _ _=>trivial⟩
@[simp] theorem ZAi (x : ZX) : (zW x).length = 5 := rfl
theorem Gw{x:Zn}(h:5<=n):R n (yF x):=⟨by simp[yF];omega,fun _ _=>trivial⟩
@[simp] theorem zaR (x : Zn) : (yF x).length = 5 := rfl
theorem Gk{x:Zn}(h:5<=n):R n (K6 x):=⟨by simp[K6];omega,fun _ _=>trivial⟩
@[simp] theorem ZAY (x : Zn) : (K6 x).length = 5 := rfl
theorem SO{x:G}(h:9<=n):R n (Qg x):=⟨by simp[Qg];omega,fun _ _=>trivial⟩
@[simp] theorem zaw (x : G) : (Qg x).length = 9 := rfl
theorem SG{x:G}(h:9<=n):R n (QH x):=⟨by simp[QH];omega,fun _ _=>trivial⟩
@[simp] theorem zaf (x : G) : (QH x).length = 9 := rfl
theorem wM{x:YV}(h:6<=n):R n (yI x):=⟨by simp[yI];omega,fun _ _=>trivial⟩
@[simp] theorem zaM (x : YV) : (yI x).length = 6 := rfl
theorem To{x:YV}(h:6<=n):R n (z5 x):=⟨by simp[z5];omega,fun _ _=>trivial⟩
@[simp] theorem zaj (x : YV) : (z5 x).length = 6 := rfl
theorem sv{a:ZR}(h:Wd a=true):0<a.b.length:=by
 unfold Wd at h;split at h
 ·rename_i r e;have:∀n v,RV a n v≠ .inl true:=by
   intro n;induction n with
   |zero=>intro v h;cases h
   |succ n ih=>intro v h;rw[RV]at h;grind
  subst h;exact absurd e (this _ _)
 ·split at h
  ·rename_i r e;have:∀n v,RR a n v≠ .inl true:=by
    intro n;induction n with
    |zero=>intro v h;cases h
    |succ n ih=>intro v h;rw[RR]at h;grind
   subst h;exact absurd e (this _ _)
  ·simp only[Z1,Bool.and_eq_true,decide_eq_true_eq]at h;omega
theorem rQ{a:ZR}(h:WR a=true):0<a.b.length:=by
 unfold WR at h;cases hh:ZW _ 1 12 with
 |false=>rw[hh]at h;simp at h
 |true=>simp only[ZW,Bool.and_eq_true,decide_eq_true_eq]at hh;omega
theorem wY{a:ZO}(h:J6 a=true):a.d.length=a.b.length:=by
 unfold J6 at h;split at h
 ·rename_i r e;have:∀n v,yU a n v≠ .inl true:=by
   intro n;induction n with
   |zero=>intro v h;cases h
   |succ n ih=>intro v h;rw[yU]at h;grind
  subst h;exact absurd e (this _ _)
 ·split at h
  ·rename_i r e;have:∀n v,yb a n v≠ .inl true:=by
    intro n;induction n with
    |zero=>intro v h;cases h
    |succ n ih=>intro v h;rw[yb]at h;grind
   subst h;exact absurd e (this _ _)
  ·simp at h;omega
theorem Ar{a:ZO}(h:QC a=true):a.d.length=a.b.length:=by unfold QC at h;grind
theorem Y2(A:P)(C:Int)(h:0<=(u A C).1):(u A C).1.toNat<A.a.length/\0<=(u A C).2/\(u A C).2.toNat<(I A.a (u A C).1.toNat).a.length:=by
 have ag:∀n v r,SH A C n v= .inl r->r.1.toNat<A.a.length/\0<=r.2/\r.2.toNat<(I A.a r.1.toNat).a.length:=by
  intro n;induction n with
  |zero=>intro v r h;cases h
  |succ n ih=>
   intro v r h;rw[SH]at h;cases M:decide ((v:Int)<_)with
   |false=>rw[M]at h;cases h
   |true=>
    rw[M]at h;cases Z:decide (XY (I A.a v) C>=0)with
    |false=>rw[Z]at h;exact ih _ _ h
    |true=>
     simp at M Z;have:=IW (I A.a v) C
     grind
 unfold u at h⊢;grind
theorem Qt(A:P)(C:Int)(h:0<=(S A C).1):(S A C).1.toNat<A.a.length/\0<=(S A C).2/\(S A C).2.toNat<(I A.a (S A C).1.toNat).a.length:=by
 have ag:∀n v r,SQ A C n v= .inl r->r.1.toNat<A.a.length/\0<=r.2/\r.2.toNat<(I A.a r.1.toNat).a.length:=by
  intro n;induction n with
  |zero=>intro v r h;cases h
  |succ n ih=>
   intro v r h;rw[SQ]at h;cases M:decide ((v:Int)<_)with
   |false=>rw[M]at h;cases h
   |true=>
    rw[M]at h;cases Z:decide (Z3 (I A.a v) C>=0)with
    |false=>rw[Z]at h;exact ih _ _ h
    |true=>
     simp at M Z;have:=Kv (I A.a v) C
     grind
 unfold S at h⊢;grind
theorem Ms{a:Int}(hn:n<=9223372036854775807)(h:Z1 a 0 (W ((n:Int)-1))=true):0<=a/\a<n:=by rw[GR n hn]at h;simp only[Z1,Bool.and_eq_true,decide_eq_true_eq]at h;omega
theorem TS{a:Int}(hn:n<=9223372036854775807)(h:ZW a 0 (W ((n:Int)-1))=true):0<=a/\a<n:=by rw[GR n hn]at h;simp only[ZW,Bool.and_eq_true,decide_eq_true_eq]at h;omega
@[simp] theorem ZCn (l : List UInt8) : (N0 l).length = l.length := by
 have ag:∀n (acc:List Int) v,l.length<n+v->v<=l.length->(UH l n acc v).length=acc.length+(l.length-v):=by
  intro n;induction n with
  |zero=>intro acc v M Z;omega
  |succ n ih=>intro acc v M Z;rw[UH];grind
 have:=ag (l.length+1) [] 0 ab ab;simpa[N0]using this
theorem W0{A:ZR}{C:ZO}(h:R n A):R n (J2 A C):=by
 have ag:∀n (acc:List Int) v,A.a.length<n+v->v<=A.a.length->(yN A C n acc v).length=acc.length+(A.a.length-v):=by
  intro n;induction n with
  |zero=>intro acc v M Z;omega
  |succ n ih=>intro acc v M Z;rw[yN];grind
 have h3:=Zx (ZR.QK h);refine⟨?_,fun _ _=>trivial⟩;unfold J2;grind
theorem A1{A:ZR}{C:ZO}(h:R n A):R n (jU A C):=by
 have ag:∀n (acc:List Int) v,A.a.length<n+v->v<=A.a.length->(qN A C n acc v).length=acc.length+(A.a.length-v):=by
  intro n;induction n with
  |zero=>intro acc v M Z;omega
  |succ n ih=>intro acc v M Z;rw[qN];grind
 have h3:=Zx (ZR.QK h);refine⟨?_,fun _ _=>trivial⟩;unfold jU;grind
theorem YW(A:ZK):(QE A=101->A.b.length=7)/\(QE A=102->A.b.length=5)/\(QE A=103->A.b.length=5)/\(QE A=104->A.b.length=9)/\(QE A=105->A.b.length=6):=by
 have ag:∀v:Int,v≠0->QE A=v->I A.b 0=v/\(A.b.length:Int)=I ([7,5,5,9,6]:List Int) (W (v-101)).toNat:=by intro v hv h;unfold QE at h;grind
 refine⟨fun h=>?_,fun h=>?_,fun h=>?_,fun h=>?_,fun h=>?_⟩<;>(have:=(ag _ au h).2;simp[I,Xf]at this;omega)
theorem YU(A:ZK):(YX A=101->A.b.length=7)/\(YX A=102->A.b.length=5)/\(YX A=103->A.b.length=5)/\(YX A=104->A.b.length=9)/\(YX A=105->A.b.length=6):=by
 have ag:∀v:Int,v≠0->YX A=v->I A.b 0=v/\(A.b.length:Int)=I ([7,5,5,9,6]:List Int) (W (v-101)).toNat:=by intro v hv h;unfold YX at h;grind
 refine⟨fun h=>?_,fun h=>?_,fun h=>?_,fun h=>?_,fun h=>?_⟩<;>(have:=(ag _ au h).2;simp[I,Xf]at this;omega)
theorem Ld(A:Int)(C:List Int)(h:C.length<=1048576):2*(Pp A C).length=C.length+C.length%2:=by
 have ag:∀n v i,C.length+1<2*n+i->i<=C.length+1->i%2=0->2*(S7 A C n v i).length=2*v.length+(C.length+C.length%2-i):=by
  intro n;induction n with
  |zero=>intro v i M Z;omega
  |succ n ih=>intro v i M Z h3;unfold S7;grind
 have:=ag (C.length+1) [] 0 ab ab rfl;unfold Pp;grind
theorem Uc(A:Int)(C:List Int)(h:C.length<=1048576):2*(yB A C).length=C.length+C.length%2:=by
 have ag:∀n v i,C.length+1<2*n+i->i<=C.length+1->i%2=0->2*(yP A C n v i).length=2*v.length+(C.length+C.length%2-i):=by
  intro n;induction n with
  |zero=>intro v i M Z;omega
  |succ n ih=>intro v i M Z h3;unfold yP;grind
 have:=ag (C.length+1) [] 0 ab ab rfl;unfold yB;grind
theorem LJ(h:10<=n):R n kI:=⟨h,fun _ _=>trivial⟩
theorem ys(h:10<=n):R n KG:=⟨h,fun _ _=>trivial⟩
theorem RS{A:ZD}(h:R n A):R n (Yl A C):=by
 refine⟨?_,fun _ _=>trivial⟩;have e:=kb (F:=yH A C) (fun _ _=>rfl) (fun _ _ _=>rfl) (A.a.length+1) [] 0
 have:(Yl A C).length<=0+_:=e;have:=Zx (h);omega
theorem Tz(A:ZD)(C:Int):(Yl A C).length=A.a.length:=by
 have ag:∀n v i,i<=A.a.length->A.a.length<n+i->(yH A C n v i).length=v.length+(A.a.length-i):=by
  intro n;induction n with
  |zero=>intro v i h0 h;omega
  |succ n ih=>intro v i h0 h;rw[yH];grind
 have:=ag (A.a.length+1) [] 0 ab ab;exact this.trans ab
theorem Mp{A:ZD}(h:R n A):R n (JU A C):=by
 refine⟨?_,fun _ _=>trivial⟩;have e:=kb (F:=VN A C) (fun _ _=>rfl) (fun _ _ _=>rfl) (A.a.length+1) [] 0
 have:(JU A C).length<=0+_:=e;have:=Zx (h);omega
theorem yG(A:P)(C:Int)(h:(Yr A C).2.2=true):0<=(Yr A C).1/\(Yr A C).1<(A.a.length:Int)/\0<=(Yr A C).2.1/\(Yr A C).2.1<(A.c.length:Int):=
 YY (p:=fun(r:Int×Int×Bool)=>r.2.2=true->0<=r.1/\r.1<_/\0<=r.2.1/\r.2.1<(A.c.length:Int)) (fun _ h=>by simp at h) (fun hc h=>by
  simp at hc;have f:=Qt A C Y
  dsimp only at h⊢;rw[Bool.and_eq_true,decide_eq_true_eq]at h;have Z:=h.2
  exact⟨Y,Y,Y,od _ _⟩) h
theorem S1(h:7<=n):R n (Sy x):=ID h
theorem FN(h:7<=n):R n (yZ x):=IJ h
theorem kY{x:Zn}(h:5<=n):R n (XO x):=Gw h
theorem Ip{x:Zn}(h:5<=n):R n (Q8 x):=Gk h
theorem XL{x:G}(h:9<=n):R n (Xu x):=SO h
theorem XF{x:G}(h:9<=n):R n (XQ x):=SG h
theorem Zm{A:List YF}{C:Zn}(h:(Y8 A C).2=true):0<=Zz A C.e:=by unfold Y8 at h;grind
theorem Up{E:ZO}(h:R n E)(hn:9<=n):R n (QV A C E N T).1:=by
 unfold QV;cases(_||_)with
 |true=>exact⟨⟨Oa,Oa⟩,Oa,Oa⟩
 |false=>
  refine⟨h,⟨by simp;omega,fun y hy=>?_⟩,Oa⟩;rcases List.mem_cons.1 hy with rfl|hy
  ·exact XL Y
  rcases List.mem_cons.1 hy with rfl|hy
  ·exact S1 Y
  ·cases hy
theorem Hx{A:ZD}{C:ZU}(h:R n A)(O:R (n+1) C):R (n+1) (JS A C).1:=by
 have M:=ZJ (Nat.le_succ n) h;unfold JS;cases(_||_)with
 |true=>exact M
 |false=>
  simp only;generalize QJ A C _ 0=z;cases(!(Kj _))with
  |true=>exact M
  |false=>
   refine⟨by have:=ZD.Z8 h;have:=this.1;simp;omega,fun y hy=>?_⟩;have a:y∈A.a.take z\/y=C\/y∈A.a.drop z:=by simpa using hy
   rcases a with hy|rfl|hy
   ·exact M.2 y (List.mem_of_mem_take hy)
   ·exact O
   ·exact M.2 y (List.mem_of_mem_drop hy)
theorem My{n:Nat}{A:ZD}{C:ZU}(h:R n A)(O:R n C):∀(m:Nat)(b:Bool)(i:Nat)(l:List ZU),l.length<=i+(bif b then 1 else 0)->i<=A.a.length->(∀y∈l,R n y)->
  (JY A C m b i l).2.length<=A.a.length+(bif(JY A C m b i l).1 then 1 else 0)/\∀y∈(JY A C m b i l).2,R n y
 |0,b,i,l,_,_,_=>⟨Nat.zero_le _,fun y hy=>by cases hy⟩
 |m+1,b,i,l,hl,hi,U=>by
  unfold JY;cases hc:decide ((i:Int)<_)with
  |false=>grind
  |true=>
   have ac:i<A.a.length:=bE;have hn:R n (I A.a i):=ZY h;cases hd:((!b)&&_)with
   |true=>
    have G:b=false:=by cases b<;>simp_all
    subst G;refine My h O m true (i+1) _ (by simp at hl⊢;omega) ac (fun y hy=>?_);grind
   |false=>refine My h O m b (i+1) _ (by simp at hl⊢;omega) ac (fun y hy=>?_);grind
theorem Na{A:ZD}{C:ZU}(h:R n A)(O:R n C):R (n+1) (J7 A C).1:=by
 have M:R (n+1) A:=ZJ (Nat.le_succ n) h;unfold J7;cases((!(Jg A))||_)with
 |true=>exact M
 |false=>
  have hz:=My h O (A.a.length+1) false 0 [] (Nat.zero_le _) (Nat.zero_le _) (fun y hy=>by cases hy);have az:=(ZD.Z8 h).1;simp only[cond_false];generalize hq:JY A C (A.a.length+1) false 0 []=z at hz⊢;obtain⟨d,o⟩:=z;cases d with
  |false=>
   cases(!(Jg _))with
   |true=>exact M
   |false=>
    refine⟨by have:=hz.1;simp at this⊢;omega,fun y hy=>?_⟩;have a:y∈o\/y=C:=by simpa using hy
    rcases a with hy|rfl
    ·exact ZJ (Nat.le_succ n) (hz.2 y hy)
    ·exact ZJ (Nat.le_succ n) O
  |true=>
   cases(!(Jg (ZD.mk A.b o)))with
   |true=>exact M
   |false=>exact⟨by have:=hz.1;simp at this⊢;omega,fun y hy=>ZJ (Nat.le_succ n) (hz.2 y hy)⟩
theorem FA{n:Nat}{A:P}{C E:Int}{N:ZO}{T a5:Int}(h:R n A)(hd:R n N)(hn:9<=n):∀(m v:Nat)(r:P×Bool),Qu A C E N T a5 m v= .inl r->R (n+1) r.1
 |0,v,r,e=>by cases e
 |m+1,v,r,e=>by
  have M:R (n+1) A:=ZJ (Nat.le_succ n) h;unfold Qu at e;cases hc:decide ((v:Int)<(A.c.length:Int))with
  |false=>rw[hc]at e;cases e
  |true=>
   rw[hc]at e;simp only[cond_true]at e;cases hk:((I A.c v).a !=E)with
   |true=>rw[hk]at e;exact FA h hd hn m (v+1) r e
   |false=>
    rw[hk]at e;generalize hq:(ZU.mk A.h a5 N (Xl A.b.a _).1 _)=a at e;have c:R (n+1) a:=by
     rw[<-hq];refine⟨ZJ (Nat.le_succ n) hd,⟨by simp;omega,fun y hy=>?_⟩,Oa⟩;rcases List.mem_cons.1 hy with rfl|hy
     ·exact XF Y
     rcases List.mem_cons.1 hy with rfl|hy
     ·exact FN Y
     ·cases hy
    clear hq;cases G:(_||_)with
    |true=>rw[G]at e;cases e;exact M
    |false=>rw[G]at e;cases e;exact⟨M.1,M.2.1,M.2.2.1,Vy M.2.2.2.1 (Hx (ZY h.2.2.2.1) c),M.2.2.2.2.1,M.2.2.2.2.2.1,M.2.2.2.2.2.2⟩
theorem xS{E:Int}{N:ZO}(h:R n A)(hd:R n N)(hn:9<=n):R (n+1) (XZ A C E N T a5).1:=by
 have M:=ZJ (Nat.le_succ n) h;unfold XZ;cases(_||_)with
 |true=>exact M
 |false=>
  cases he:Qu A C E N T a5 _ 0 with
  |inl r=>exact FA h hd hn _ _ r he
  |inr _=>exact M
theorem Ux(A:Int):∀(m:Nat)(x:Int)(l:List Xy)(y:List Int),(xE A m x l y).length<=l.length+m
 |0,x,l,y=>Nat.zero_le _
 |m+1,x,l,y=>by
  simp only[xE];cases decide ((y.length:Int)>1)with
  |false=>simp
  |true=>
   cases(Int.tmod x 2==1)with
   |true=>refine Nat.le_trans (Ux A m _ _ _) ?_;simp;omega
   |false=>
    cases decide (W (x+1)<(y.length:Int))with
    |true=>refine Nat.le_trans (Ux A m _ _ _) ?_;simp;omega
    |false=>refine Nat.le_trans (Ux A m _ _ _) ?_;omega
theorem Dn{A:Int}{C:List Int}{E:Int}(h:17<=n):R n (xy A C E):=by
 refine⟨?_,fun _ _=>trivial⟩;unfold xy;cases hc:(_||_)with
 |true=>exact Nat.zero_le _
 |false=>have M:=Ux A (C.length+1) E [] C;grind
theorem Uo(A:Int):∀(m:Nat)(y:List Int)(x:Int)(l:List Xy),(xF A m y x l).length<=l.length+m
 |0,y,x,l=>Nat.zero_le _
 |m+1,y,x,l=>by
  simp only[xF];cases decide ((y.length:Int)>1)with
  |false=>simp
  |true=>
   cases(Int.tmod x 2==1)with
   |true=>refine Nat.le_trans (Uo A m _ _ _) ?_;simp;omega
   |false=>
    cases decide (W (x+1)<(y.length:Int))with
    |true=>refine Nat.le_trans (Uo A m _ _ _) ?_;simp;omega
    |false=>refine Nat.le_trans (Uo A m _ _ _) ?_;omega
theorem DT{A:Int}{C:List Int}{E:Int}(h:17<=n):R n (qG A C E):=by
 refine⟨?_,fun _ _=>trivial⟩;unfold qG;cases hc:(_||_)with
 |true=>exact Nat.zero_le _
 |false=>have M:=Uo A (C.length+1) C E [];grind
theorem Di(A:P)(C:List Int):∀(m v:Nat),C.length<m+v->(match SR A C m v with|.inl r=>r|.inr _=>true)=true->∀j,v<=j->j<C.length->0<=Zp A.b.b (I C j)/\Zp A.b.b (I C j)<(A.e.length:Int)/\0<=Zz A.b.a (I A.b.b (Zp A.b.b (I C j)).toNat).a
 |0,v,h,_=>fun j M Z=>Y
 |m+1,v,h,e=>by
  intro j M Z;unfold SR at e;have hc:decide ((v:Int)<(C.length:Int))=true:=a0
  rw[hc]at e;revert e;cases b:(_||_)with
  |true=>intro e;simp at e
  |false=>
   cases g:(_||_)with
   |true=>intro e;simp at e
   |false=>
    intro e;rcases Nat.eq_or_lt_of_le M with rfl|M
    ·grind
    ·exact Di A C m _ Y e j M Z
theorem zd{C:List Int}(h:kL A C=true)(hj:j<C.length):0<=Zp A.b.b (I C j)/\Zp A.b.b (I C j)<(A.e.length:Int)/\0<=Zz A.b.a (I A.b.b (Zp A.b.b (I C j)).toNat).a:=by refine Di A C (C.length+1) 0 ab ?_ j (Nat.zero_le _) hj;unfold kL at h;grind
def am(l:List ZD):Nat:=af (fun a=>a.a.length) l
theorem OE{l:List ZD}(h:i<l.length):am (l.drop i)=(I l i).a.length+am (l.drop (i+1)):=HC _ h
theorem Vh(A:P):Yv A=A.a.flatMap (·.a):=by
 unfold Yv;have:=qu (as:=A.a) (fun a=>a.a) (F:=fun n i l=>Le A n l i) (fun _ _ _=>rfl) (A.a.length+1) 0 [] ab (Nat.zero_le _)
 simpa using this
theorem TY(A:P):(Yv A).length=am A.a:=by rw[Vh,FZ];rfl
def br(s:ZR):Nat:=af (fun r=>r.a.length) s.a
def CF(e:Q):Nat:=af br e.a+af List.length e.b
theorem Bv{l:List ZR}(h:i<l.length):af br (l.drop i)=br (I l i)+af br (l.drop (i+1)):=HC _ h
theorem OC{l:List ZZ}(h:i<l.length):af (fun r=>r.a.length) (l.drop i)=(I l i).a.length+af (fun r=>r.a.length) (l.drop (i+1)):=HC _ h
theorem It{l:List (List ZX)}(h:i<l.length):af List.length (l.drop i)=(I l i).length+af List.length (l.drop (i+1)):=HC _ h
theorem Mw(C:List ZX):∀(n:Nat)(l:List ZX)(i:Nat),i<=C.length->(zq C n l i).length<=l.length+(C.length-i)
 |0,l,i,_=>Nat.zero_le _
 |n+1,l,i,hi=>by
  simp only[zq];by_cases h:i<C.length
  ·rw[show decide _=true by simpa using h];have M:=Mw C n (l++[I C i]) _ h
   have Z:=Mw C n l (i+1) h;simp only[cond_true];refine g (p:=fun(r:List ZX)=>r.length<=l.length+_) ?_ ?_
   ·simp at M;omega
   ·omega
  ·rw[show decide _=false by simpa using h];simp only[cond_false];omega
theorem GI(A C:List ZX):(P2 A C).length<=A.length+C.length:=Mw C _ A 0 (Nat.zero_le _)
theorem hI(C v:List ZX)(k:Nat):∀n b i,jb C v k n b i=KZ C k v n b i
 |0,_,_=>rfl
 |n+1,b,i=>by simp only[jb,KZ,hI C v k n]
theorem hQ(C:List ZX):∀n l i,zq C n l i=QI C n i l
 |0,_,_=>rfl
 |n+1,l,i=>by simp only[zq,QI,hQ C n,hI]
theorem gV(A C:List ZX):P2 A C=xY C A:=by simp only[P2,xY,hQ]
theorem TD(A:List ZX):∀(n:Nat)(i:Nat)(l:List ZX),i<=A.length->(QI A n i l).length<=l.length+(A.length-i)
 |0,i,l,_=>Nat.zero_le _
 |n+1,i,l,hi=>by
  simp only[QI];by_cases h:i<A.length
  ·rw[show decide _=true by simpa using h];have M:=TD A n _ (l++[I A i]) h
   have Z:=TD A n _ l h;grind
  ·grind
theorem RC(A C:List ZX):(xY A C).length<=C.length+A.length:=TD A _ 0 C (Nat.zero_le _)
def Xk(A:P):List ZR:=(A.a.flatMap (·.a)).map (·.a)
theorem zU(A:P):Th A ((Yv A).length+1) 0 []=Xk A:=by have:=qu (as:=Yv A) (fun a=>[a.a]) (F:=Th A) (fun _ _ _=>rfl) ((Yv A).length+1) 0 [] ab (Nat.zero_le _);rw[this,Xk,<-Vh,PB];rfl
theorem zT(A:P):VK A (A.a.length+1) 0 []=Xk A:=by
 have Z:∀v l,Te A v ((I A.a v).a.length+1) 0 l=l++(I A.a v).a.map (·.a):=by
  intro v l;have:=qu (as:=(I A.a v).a) (fun a=>[a.a]) (F:=Te A v) (fun _ _ _=>rfl) ((I A.a v).a.length+1) 0 l ab (Nat.zero_le _)
  rw[this,PB];rfl
 have:=qu (as:=A.a) (fun a=>a.a.map (·.a)) (F:=VK A) (fun n i l=>by simp only[VK,Z]) (A.a.length+1) 0 [] ab (Nat.zero_le _);rw[this,Xk];simp[List.map_flatMap]
theorem Nc(h:R n A)(ht:am A.a<=1048576)(hk:1048576<=n):R n (Q.mk (Xk A) []):=by
 refine⟨⟨?_,fun x O=>?_⟩,⟨Nat.zero_le _,fun x O=>by cases O⟩⟩
 ·rw[Xk,List.length_map,FZ];exact Nat.le_trans ht hk
 ·simp only[Xk,List.mem_map,List.mem_flatMap]at O;obtain⟨a,⟨b,M,Z⟩,rfl⟩:=O;exact ZU.YM ((ZD.Z8 ((P.Zs h).2 _ M)).2 _ Z)
theorem Iw(A:ZI)(C:ZR)(E:List Int):∀n v,VP A C E n v<=v
 |0,_=>Nat.zero_le _
 |n+1,v=>by exact g (p:=fun r=>r<=v) (Nat.le_trans (Iw A C E n _) (Nat.sub_le _ _)) (Nat.le_refl _)
theorem uH(A:ZI)(C:ZR)(E:List Int):0<=jI A C E/\jI A C E<=(C.a.length:Int):=by have h:=Iw A C E (C.a.length+1) C.a.length;simp only[jI];omega
theorem Hh(A:ZI)(C:ZR)(E:List Int):∀n v,VB A C E n v<=v
 |0,_=>Nat.zero_le _
 |n+1,v=>by exact g (p:=fun r=>r<=v) (g (p:=fun r=>r<=v) (Nat.le_refl _) (Nat.le_trans (Hh A C E n _) (Nat.sub_le _ _))) (Nat.le_refl _)
theorem te(A:ZI)(C:ZR)(E:List Int):0<=ql A C E/\ql A C E<=(C.a.length:Int):=by have h:=Hh A C E (C.a.length+1) C.a.length;simp only[ql];omega
theorem N2(A:Int):(xU A).size<=24:=by exact g (p:=fun r:ByteArray=>r.size<=24) (Nat.zero_le _) (oO au _)
theorem LU(A:Int):(jN A).size<=24:=by exact g (p:=fun r:ByteArray=>r.size<=24) (Nat.zero_le _) (oO au _)
theorem Ua(A:XE):(Ka A).size<=200:=by have M:=N2 A.b;have Z:=LU A.c;have h3:=Yn A.a.d;have h4:=Yn A.a.c;have H:(⟨#[32]⟩:ByteArray).size=1:=rfl;have e2:(⟨#[45]⟩:ByteArray).size=1:=rfl;unfold Ka;grind
theorem SM(A:Int):(xZ A).size<=24:=by exact g (p:=fun r:ByteArray=>r.size<=24) (Nat.zero_le _) (oO au _)
theorem RF(A:Int):(jC A).size<=24:=by exact g (p:=fun r:ByteArray=>r.size<=24) (Nat.zero_le _) (oO au _)
theorem VW(A:XE):(Jr A).size<=200:=by have M:=SM A.b;have Z:=RF A.c;have h3:=Ys A.a.d;have h4:=Ys A.a.c;have H:(⟨#[32]⟩:ByteArray).size=1:=rfl;have e2:(⟨#[45]⟩:ByteArray).size=1:=rfl;unfold Jr;grind
theorem IC(A:List o):∀(n:Nat)(l:List o)(i:Nat)(x y:Int),i<=A.length->(Sx A n l i x y).1.length<=l.length+(A.length-i)
 |0,_,_,_,_,_=>Nat.zero_le _
 |n+1,l,i,x,y,hi=>by
  simp only[Sx];by_cases h:i<A.length
  ·rw[show decide _=true by simpa using h,cond_true];refine g (p:=fun(r:List o×Int×Int)=>r.1.length<=l.length+_) ?_ ?_
   ·have:=IC A n (l++[I A i]) _ x y h;grind
   ·exact Nat.le_trans (IC A n l _ _ _ h) Y
  ·rw[show decide _=false by simpa using h];exact Nat.le_add_right _ _
theorem Fc(A:List o)(C:o):(Hr A C).length<=A.length+1:=by have h:=IC A (A.length+1) [] 0 C.d C.c (Nat.zero_le _);simp only[Hr];simp at h⊢;omega
theorem O7(A:List o):∀(n:Nat)(l:List o)(i:Nat),i<=A.length->(km A n l i).length<=l.length+(A.length-i)
 |0,_,_,_=>Nat.zero_le _
 |n+1,l,i,hi=>by
  simp only[km];by_cases h:i<A.length
  ·rw[show decide _=true by simpa using h,cond_true];refine g (p:=fun(r:List o)=>r.length<=l.length+_) ?_ ?_
   ·have M:=O7 A n (Hr l (I A i)) (i+1) h;have Z:=Fc l (I A i);omega
   ·exact Nat.le_trans (O7 A n l _ h) Y
  ·rw[show decide _=false by simpa using h];exact Nat.le_add_right _ _
theorem U7{A:List o}(h:R n A):R n (JB A):=
 ⟨Nat.le_trans (O7 A _ [] 0 (Nat.zero_le _)) c4,fun _ _=>trivial⟩
theorem Ok(A:List o):∀(n:Nat)(l:List o)(i:Nat)(x y:Int),i<=A.length->(kj A n l i x y).1.length<=l.length+(A.length-i)
 |0,_,_,_,_,_=>Nat.zero_le _
 |n+1,l,i,x,y,hi=>by
  simp only[kj];by_cases h:i<A.length
  ·rw[show decide _=true by simpa using h,cond_true];refine g (p:=fun(r:List o×Int×Int)=>r.1.length<=l.length+_) ?_ ?_
   ·have:=Ok A n (l++[I A i]) _ x y h;grind
   ·exact Nat.le_trans (Ok A n l _ _ _ h) Y
  ·grind
theorem O5(A:List o):∀(n:Nat)(l:List o)(i:Nat),i<=A.length->(ke A n l i).length<=l.length+(A.length-i)
 |0,_,_,_=>Nat.zero_le _
 |n+1,l,i,hi=>by
  simp only[ke];by_cases h:i<A.length
  ·rw[show decide _=true by simpa using h,cond_true];refine g (p:=fun(r:List o)=>r.length<=l.length+_) (Nat.le_trans (O5 A n l _ h) Y) ?_;have Z:=Ok l (l.length+1) [] 0 (I A i).d (I A i).c (Nat.zero_le _)
   refine Nat.le_trans (O5 A n _ _ h) ?_;simp at Z⊢;omega
  ·grind
theorem Ut{A:List o}(h:R n A):R n (Qj A):=
 ⟨Nat.le_trans (O5 A _ [] 0 (Nat.zero_le _)) c4,fun _ _=>trivial⟩
theorem Zd{A:List o}{E:Int}(h:R n A):R (n+1) (X4 A C E):=by
 refine g (ZJ (Nat.le_succ n) h) ⟨?_,fun _ _=>trivial⟩;have:=h.1
 grind
theorem ZN{A:Int}{E:List o}(h:R n E):R (n+1) (Z4 A C E):=by
 refine g ⟨?_,fun _ _=>trivial⟩ (ZJ (Nat.le_succ n) h);have:=h.1
 grind
theorem oS{A:YE}{C:List Zn}(h:3<=n):R n (SJ A C):=by
 have h0:R 0 ([]:List o):=⟨Nat.zero_le _,fun _ _=>trivial⟩;refine g (g ?_ ?_) (g ?_ ?_)
 ·exact U7 (ZJ h (Zd (Zd (Zd h0))))
 ·exact U7 (ZJ Y (Zd (Zd h0)))
 ·exact U7 (ZJ Y (Zd (Zd h0)))
 ·exact U7 (ZJ Y (Zd h0))
theorem YT{A:YE}{C:List Zn}(h:3<=n):R n (SL A C):=by
 have h0:R 0 ([]:List o):=⟨Nat.zero_le _,fun _ _=>trivial⟩;refine g (g ?_ ?_) (g ?_ ?_)
 ·exact Ut (ZJ h (ZN (ZN (ZN h0))))
 ·exact Ut (ZJ Y (ZN (ZN h0)))
 ·exact Ut (ZJ Y (ZN (ZN h0)))
 ·exact Ut (ZJ Y (ZN h0))
theorem A8{c:o}(h:1<=n):R n (Ns [c] [d]):=by show R n (JB (bif(jB c d).2 then[(jB c d).1]else[]));exact U7 (g ⟨h,fun _ _=>trivial⟩ ⟨Nat.zero_le _,fun _ _=>trivial⟩)
theorem x2{A:YE}{C:List Zn}(h:1<=n):R n (UW A C):=by exact g ⟨Nat.zero_le _,fun _ _=>trivial⟩ (A8 h)
theorem BV{A:List YF}{C:List YV}{E:Int}(h:C.length<=n):R n (qL A C E N):=
 U7 ⟨Nat.le_trans (P7 (fun _ _=>rfl) (fun _ _ _=>rfl) _ [] 0) aC,fun _ _=>trivial⟩
theorem ns{c:o}(h:1<=n):R n (Pf [c] [d]):=by show R n (Qj (bif(zY c d).2 then[(zY c d).1]else[]));exact Ut (g ⟨h,fun _ _=>trivial⟩ ⟨Nat.zero_le _,fun _ _=>trivial⟩)
theorem pm{A:YE}{C:List Zn}(h:1<=n):R n (V1 A C):=by exact ns h
theorem Cg{A:List YF}{C:List YV}{E:Int}(h:C.length<=n):R n (qA A C E N):=
 Ut ⟨Nat.le_trans (P7 (fun _ _=>rfl) (fun _ _ _=>rfl) _ [] 0) aC,fun _ _=>trivial⟩
def nJ(e:Q):Nat:=af (fun s=>s.b.length) e.a
theorem sM{l:List ZR}(h:i<l.length):af (fun s:ZR=>s.b.length) (l.drop i)=(I l i).b.length+af (fun s:ZR=>s.b.length) (l.drop (i+1)):=HC _ h
theorem NX(A:List ZK)(C:ZK):(Rw A C).length<=A.length+1:=by refine g (p:=fun r:List ZK=>r.length<=A.length+1) (Nat.le_succ _) ?_;grind
theorem Fb{A:List ZK}{C:ZK}(h:R n A)(M:R n C)(hl:A.length+1<=n):R n (Rw A C):=by
 refine⟨Nat.le_trans (NX A C) hl,?_⟩;refine g (p:=fun r:List ZK=>∀x∈r,R n x) h.2 ?_;intro x O;simp only[List.mem_append,List.mem_singleton]at O;rcases O with(O|rfl)|O
 ·exact h.2 x (List.mem_of_mem_take O)
 ·exact M
 ·exact h.2 x (List.mem_of_mem_drop O)
theorem TH{K:Nat}(A:ZI)(C:Q)(E:List (List Int))(v:Nat)(h:R K C):∀(n:Nat)(l:List ZK)(i:Nat),i<=(I C.a v).b.length->R K l->l.length+((I C.a v).b.length-i)<=K->R K (JE A C E v n l i)/\(JE A C E v n l i).length<=l.length+((I C.a v).b.length-i)
 |0,_,_,_,_,_=>⟨⟨Nat.zero_le _,fun x O=>by cases O⟩,Nat.zero_le _⟩
 |n+1,l,i,hi,hl,hk=>by
  simp only[JE];by_cases hv:i<(I C.a v).b.length
  ·rw[show decide _=true by simpa using hv,cond_true];have hp:R K (I (I C.a v).b i):=ZY (ZR.Yp (ZY (Q.Yo h)))
   have aD:=NX l (I (I C.a v).b i);refine g (p:=fun(r:List ZK)=>R K r/\r.length<=l.length+_) ?_ ?_
   ·obtain⟨r1,r2⟩:=TH A C E v h n _ (i+1) hv (Fb hl hp Y) Y;grind
   ·obtain⟨r1,r2⟩:=TH A C E v h n l (i+1) hv hl Y;grind
  ·rw[show decide _=false by simpa using hv];grind
theorem NL{K:Nat}(A:ZI)(C:Q)(E:List (List Int))(h:R K C):∀(n:Nat)(l:List ZK)(i:Nat),i<=C.a.length->R K l->l.length+af (fun s:ZR=>s.b.length) (C.a.drop i)<=K->R K (zp A C E n l i)
 |0,_,_,_,_,_=>⟨Nat.zero_le _,fun x O=>by cases O⟩
 |n+1,l,i,hi,hl,hk=>by
  simp only[zp];by_cases hv:i<C.a.length
  ·rw[show decide _=true by simpa using hv];have hd:=sM hv
   obtain⟨r1,r2⟩:=TH A C E i h _ l 0 (Nat.zero_le _) hl Y;exact NL A C E h n _ _ hv r1 Y
  ·rw[show decide _=false by simpa using hv];exact hl
theorem Ze{A:ZI}{C:Q}{E:List (List Int)}(h:R K C)(hp:nJ C<=2097152)(hk:2097152<=K):R K (YJ A C E):=
 NL A C E h _ [] 0 (Nat.zero_le _) ⟨Nat.zero_le _,fun x O=>by cases O⟩ gG
theorem Dm{A:ZI}{E:G}(h:((PG A C E).b !=0)=false):0<=Zz A.a E.a:=by
 unfold PG at h;cases hk:decide (Zz A.a E.a<0)with
 |false=>simpa using hk
 |true=>rw[hk]at h;cases M:PO A<;>cases Z:xh E<;>cases h3:decide (C<0)<;>cases h4:(C !=E.e)<;>rw[M,Z,h3,h4]at h<;>cases h
theorem Y4{A:List ZK}{C:YE}(h:R n A):R n (yJ A C):=
 ⟨Nat.le_trans (P7 (F:=yx A C) (fun _ _=>rfl) (fun _ _ _=>rfl) _ [] 0) c4,fun _ _=>trivial⟩
theorem XI{A:List ZK}(h:R n A):R n (Wg A):=
 ⟨Nat.le_trans (P7 (F:=qM A) (fun _ _=>rfl) (fun _ _ _=>rfl) _ [] 0) c4,fun _ _=>trivial⟩
theorem Y5{A:List ZK}{C:YE}(h:R n A):R n (z4 A C):=
 ⟨Nat.le_trans (P7 (F:=y1 A C) (fun _ _=>rfl) (fun _ _ _=>rfl) _ [] 0) c4,fun _ _=>trivial⟩
theorem XJ{A:List ZK}(h:R n A):R n (Wm A):=
 ⟨Nat.le_trans (P7 (F:=qD A) (fun _ _=>rfl) (fun _ _ _=>rfl) _ [] 0) c4,fun _ _=>trivial⟩
theorem OM{n:Nat}(A:Q)(C:ZO)(h:R n A):∀(m:Nat)(l:List (List Int))(i:Nat),i<=A.a.length->R n l->l.length+(A.a.length-i)<=n->R n (zS A C m l i)
 |0,_,_,_,_,_=>⟨Nat.zero_le _,fun x O=>by cases O⟩
 |m+1,l,i,hi,hl,hk=>by
  simp only[zS];by_cases hv:i<A.a.length
  ·rw[show decide _=true by simpa using hv];refine OM A C h m _ _ hv ⟨by simp;omega,fun x O=>?_⟩ aC;rcases List.mem_append.1 O with O|O
   ·exact hl.2 x O
   ·rw[List.mem_singleton.1 O];exact W0 (ZY (Q.Yo h))
  ·rw[show decide _=false by simpa using hv];exact hl
theorem Kd{A:Q}{C:ZO}(h:R n A):R n (yq A C):=
 OM A C h _ [] 0 (Nat.zero_le _) ⟨Nat.zero_le _,fun x O=>by cases O⟩ eg
theorem P3{n:Nat}(A:Q)(C:ZO)(h:R n A):∀(m:Nat)(l:List (List Int))(i:Nat),i<=A.a.length->R n l->l.length+(A.a.length-i)<=n->R n (zE A C m l i)
 |0,_,_,_,_,_=>⟨Nat.zero_le _,fun x O=>by cases O⟩
 |m+1,l,i,hi,hl,hk=>by
  simp only[zE];by_cases hv:i<A.a.length
  ·rw[show decide _=true by simpa using hv];refine P3 A C h m _ _ hv ⟨by simp;omega,fun x O=>?_⟩ aC;rcases List.mem_append.1 O with O|O
   ·exact hl.2 x O
   ·rw[List.mem_singleton.1 O];exact A1 (ZY (Q.Yo h))
  ·grind
theorem Kf{A:Q}{C:ZO}(h:R n A):R n (yr A C):=
 P3 A C h _ [] 0 (Nat.zero_le _) ⟨Nat.zero_le _,fun x O=>by cases O⟩ eg
theorem gX{z:Nat}{l:List ZK}(hl:R K l)(hp:R K p)(hk:l.length+1<=K):R K ((l.take z++[p])++(l.drop z).take (l.length-z))/\((l.take z++[p])++(l.drop z).take (l.length-z)).length<=l.length+1:=by
 have h:((l.take z++[p])++(l.drop z).take (l.length-z)).length<=l.length+1:=a0;refine⟨⟨Nat.le_trans h hk,fun x O=>?_⟩,h⟩;simp only[List.mem_append,List.mem_singleton]at O;rcases O with(O|rfl)|O
 ·exact hl.2 x (List.mem_of_mem_take O)
 ·exact hp
 ·exact hl.2 x (List.mem_of_mem_drop (List.mem_of_mem_take O))
theorem TF{K:Nat}(A:ZI)(C:Q)(E:List (List Int))(v:Nat)(h:R K C):∀(n:Nat)(l:List ZK)(i:Nat),i<=(I C.a v).b.length->R K l->l.length+((I C.a v).b.length-i)<=K->R K (Jz A C E v n l i)/\(Jz A C E v n l i).length<=l.length+((I C.a v).b.length-i)
 |0,_,_,_,_,_=>⟨⟨Nat.zero_le _,fun x O=>by cases O⟩,Nat.zero_le _⟩
 |n+1,l,i,hi,hl,hk=>by
  simp only[Jz];by_cases hv:i<(I C.a v).b.length
  ·rw[show decide _=true by simpa using hv,cond_true];have hp:R K (I (I C.a v).b i):=ZY (ZR.Yp (ZY (Q.Yo h)))
   refine g (p:=fun(r:List ZK)=>R K r/\r.length<=l.length+((I C.a v).b.length-i)) ?_ ?_
   ·obtain⟨r1,r2⟩:=TF A C E v h n l (i+1) hv hl Y;exact⟨r1,Y⟩
   ·obtain⟨q1,q2⟩:=gX hl hp Y;obtain⟨r1,r2⟩:=TF A C E v h n _ (i+1) hv q1 Y;exact⟨r1,Y⟩
  ·grind
theorem NI{K:Nat}(A:ZI)(C:Q)(E:List (List Int))(h:R K C):∀(n:Nat)(l:List ZK)(i:Nat),i<=C.a.length->R K l->l.length+af (fun s:ZR=>s.b.length) (C.a.drop i)<=K->R K (zm A C E n l i)
 |0,_,_,_,_,_=>⟨Nat.zero_le _,fun x O=>by cases O⟩
 |n+1,l,i,hi,hl,hk=>by
  simp only[zm];by_cases hv:i<C.a.length
  ·rw[show decide _=true by simpa using hv];have hd:=sM hv
   obtain⟨r1,r2⟩:=TF A C E i h _ l 0 (Nat.zero_le _) hl Y;exact NI A C E h n _ _ hv r1 Y
  ·grind
theorem Zf{A:ZI}{C:Q}{E:List (List Int)}(h:R K C)(hp:nJ C<=2097152)(hk:2097152<=K):R K (YL A C E):=
 NI A C E h _ [] 0 (Nat.zero_le _) ⟨Nat.zero_le _,fun x O=>by cases O⟩ gG
theorem M7(A:ZI)(C:ZU):(jF A C).size<=400:=by
 have M:=Yn C.b;have Z:=Yn C.d.a;have h3:=Yn (C.a.b.length:Int);have h4:=Yn (C.a.a.length:Int);have h5:=Ua (kn A C);unfold jF;simp only[ByteArray.size_append];show 1+_+2+_+1+_+1+_+1+_<=400
 omega
theorem BZ(A:ZI)(C:ZU):(zx A C).size<=400:=by
 have M:=Ys C.b;have Z:=Ys C.d.a;have h3:=Ys (C.a.b.length:Int);have h4:=Ys (C.a.a.length:Int);have h5:=VW (ky A C);unfold zx;simp only[ByteArray.size_append];show 1+_+2+_+1+_+1+_+1+_<=400
 omega
theorem Og{l:List ByteArray}{b:ByteArray}(G:b.size=1)(h:∀x∈l,x.size<=24):∀(n:Nat)(v:ByteArray)(i:Nat),(KC l b n v i).size<=v.size+25*(l.length-i)
 |0,v,i=>Nat.zero_le _
 |n+1,v,i=>by
  simp only[KC];by_cases hi:i<l.length
  ·have O:=oO h i;have M:=Og G h n (v++b++I l i) (i+1);have Z:=Og G h n (v++I l i) (i+1);simp at M Z;rw[show decide _=true by simpa using hi,XN];grind
  ·rw[show decide _=false by simpa using hi,XA];omega
theorem IA(G:b.size=1)(h:∀x∈l,x.size<=24):(W3 l b).size<=25*l.length:=by have:=Og G h (l.length+1) ⟨#[]⟩ 0;have e:(⟨#[]⟩:ByteArray).size=0:=rfl;unfold W3;simp only;omega
theorem Dr(A:P):qE A=A.a.flatMap (fun a=>a.a.map (·.b)):=by
 have Z:∀v l,MG A v _ l 0=l++(I A.a v).a.map (·.b):=fun v l=>by have:=qu (as:=(I A.a v).a) (fun x=>[x.b]) (F:=fun n i l=>MG A v n l i) (fun _ _ _=>rfl) ((I A.a v).a.length+1) 0 l ab (Nat.zero_le _);rw[this,List.drop_zero,PB]
 have:=qu (as:=A.a) (fun a=>a.a.map (·.b)) (F:=fun n i l=>MS A n l i) (fun n i l=>by simp only[MS,Z]) (A.a.length+1) 0 [] ab (Nat.zero_le _);unfold qE;grind
theorem r5(A:P):(qE A).length=am A.a:=by rw[Dr,FZ];simp;rfl
theorem mW{α β:Type}[Inhabited α]{as:List α}(c:α->Bool)(g:α->β){F:Nat->Nat->List β->List β}(M:∀n i l,F (n+1) i l=bif decide ((i:Int)<(as.length:Int))then(bif c (I as i)then F n (i+1) (l++[g (I as i)])else F n (i+1) l)else l)(n i:Nat)(l:List β)(h:as.length<n+i)(Z:i<=as.length):F n i l=l++(as.drop i).flatMap (fun a=>bif c a then[g a]else[]):=
 qu (fun a=>bif c a then[g a]else[]) (F:=F) (fun n i l=>by rw[M];cases decide ((i:Int)<_)<;>simp;cases c (I as i)<;>simp) n i l h Z
theorem wI{α β:Type}(f:α->List β)(h:∀x,(f x).length<=1):∀l:List α,(l.flatMap f).length<=l.length
 |[]=>Nat.zero_le _
 |x::l=>by have:=wI f h l;have:=h x;simp only[List.flatMap_cons,List.length_append,List.length_cons];omega
theorem gH{α:Type}(c:Bool)(x:α):(bif c then[x]else[]).length<=1:=by cases c<;>simp
theorem M9(A:P):QP A=(Yv A).flatMap (fun x=>bif(KP A x.b).b==1 then[x.b]else[]):=by have:=mW (as:=Yv A) (fun x=>(KP A x.b).b==1) (fun x=>x.b) (F:=fun n i l=>UB A n l i) (fun _ _ _=>rfl) ((Yv A).length+1) 0 [] ab (Nat.zero_le _);unfold QP;grind
theorem BK(A:P):(QP A).length<=am A.a:=by rw[M9,<-TY];exact wI _ (fun x=>gH _ _) _
theorem Lm(A:P):Qe A=A.a.flatMap (fun a=>a.a.flatMap (fun x=>bif(Jq A x.b).b==1 then[x.b]else[])):=by
 have Z:∀v l,j7 A v _ l 0=l++(I A.a v).a.flatMap (fun x=>bif(Jq A x.b).b==1 then[x.b]else[]):=fun v l=>by have:=mW (as:=(I A.a v).a) (fun x=>(Jq A x.b).b==1) (fun x=>x.b) (F:=fun n i l=>j7 A v n l i) (fun _ _ _=>rfl) ((I A.a v).a.length+1) 0 l Y (Nat.zero_le _);rw[this,List.drop_zero]
 have:=qu (as:=A.a) (fun a=>a.a.flatMap (fun x=>bif(Jq A x.b).b==1 then[x.b]else[])) (F:=fun n i l=>UU A n l i) (fun n i l=>by simp only[UU,Z]) (A.a.length+1) 0 [] Y (Nat.zero_le _);unfold Qe;rw[this];rfl
theorem wQ(A:P):(Qe A).length<=am A.a:=by rw[Lm,<-TY,Vh,<-List.flatMap_assoc];exact wI _ (fun x=>gH _ _) _
theorem xA(A:P):(Yi A).length<=A.b.b.length:=by have e:=P7 (F:=JV A) (fun _ _=>rfl) (fun _ _ _=>rfl) (A.b.b.length+1) [] 0;have:(Yi A).length<=0+_:=e;omega
theorem xI(A:P):(Yw A).length<=A.b.b.length:=by have e:=P7 (F:=Je A) (fun _ _=>rfl) (fun _ _ _=>rfl) (A.b.b.length+1) [] 0;have:(Yw A).length<=0+_:=e;omega
theorem LL(A:Y7)(C:Int)(h:Ky A C=true):A.a.length<=8:=by
 unfold Ky at h;have hk:∀n v r,zc A n v= .inl r->r=false:=by
  intro n;induction n with
  |zero=>intro v r h;cases h
  |succ n ih=>intro v r h;rw[zc]at h;grind
 cases hh:zc A _ 0 with
 |inl r=>rw[hh]at h;have:=hk _ _ _ hh;subst this;cases h
 |inr u=>rw[hh]at h;simp only[ZW,Bool.and_eq_true,decide_eq_true_eq]at h;omega
theorem Rr{n:Nat}{A:ZD}{E:List Int}(h:R n A):∀(m v:Nat)(l:List ZU),(∀x∈l,R n x)->l.length<=v->v<=E.length->
  (∀r,yV A E m v l= .inl r->r=(Y7.mk 0 0 [] 0,false))/\∀z,yV A E m v l= .inr z->z.length<=E.length/\∀x∈z,R n x
 |0,v,l,_,_,_=>⟨fun r h=>aY,fun z h=>ff⟩
 |m+1,v,l,U,hl,hv=>by
  let p:=fun w:Sum _ (List ZU)=>(∀r,w= .inl r->r=(Y7.mk 0 0 [] 0,false))/\∀z,w= .inr z->z.length<=E.length/\∀x∈z,R n x
  refine YY (p:=p) (fun hc=>?_) (fun _=>⟨fun r h=>aY,fun z h=>gd⟩);have hc:v<E.length:=bE
  refine g ⟨fun r h=>cz,fun z h=>aY⟩ ?_;refine Rr h m _ _ (fun x O=>?_) aC hc;rcases List.mem_append.1 O with O|O
  ·exact U x O
  ·have e:=List.mem_singleton.1 O;subst e;simp_all
theorem Oh{A:ZD}(h:R n A)(Z:R n E):R n (Xo A C E N).1:=by
 unfold Xo;obtain⟨k1,k2⟩:=Rr h _ 0 [] (fun x O=>bL) (Nat.zero_le _) (Nat.zero_le _);have h0:R n (Y7.mk 0 0 [] 0):=ab
 cases hh:yV A E _ 0 []with
 |inl r=>rw[k1 r hh];exact h0
 |inr z=>
  obtain⟨q1,q2⟩:=k2 z hh;have hz:R n z:=⟨by have:=Zx Z;omega,q2⟩
  refine g (p:=fun w:Y7×Bool=>R n w.1) h0 ?_;omega
theorem IM{A:ZD}(G:n<=9223372036854775807)(h:R n A):R n (qO A C).1:=by
 unfold qO;by_cases hk:Z3 A C<0
 ·rw[decide_eq_true hk];exact h
 ·rw[decide_eq_false hk];have hi:=ZD.Z8 h
  have hf:=Kv A C;have hl:=Zx hi;refine⟨?_,fun y hy=>?_⟩
  ·have hm:(A.a.take (Z3 A C).toNat++A.a.drop (W (Z3 A C+1)).toNat).length<=n:=by have w:W _=Z3 A C+1:=YB Y Y;rw[w];simp;omega
   exact hm
  ·have a:=List.mem_append.1 hy;rcases a with hy|hy
   ·exact hi.2 y (List.mem_of_mem_take hy)
   ·exact hi.2 y (List.mem_of_mem_drop hy)
theorem B6(A:Y7)(C:Int)(h:yA A C=true):A.a.length<=8:=by
 unfold yA at h;have hk:∀n v r,za A n v= .inl r->r=false:=by
  intro n;induction n with
  |zero=>intro v r h;cases h
  |succ n ih=>intro v r h;rw[za]at h;grind
 cases hh:za A _ 0 with
 |inl r=>rw[hh]at h;have:=hk _ _ _ hh;subst this;cases h
 |inr u=>rw[hh]at h;simp only[Z1,Bool.and_eq_true,decide_eq_true_eq]at h;omega
theorem RZ{n:Nat}{A:ZD}{E:List Int}(h:R n A):∀(m v:Nat)(l:List ZU),(∀x∈l,R n x)->l.length<=v->v<=E.length->
  (∀r,yg A E m v l= .inl r->r=(Y7.mk 0 0 [] 0,false))/\∀z,yg A E m v l= .inr z->z.length<=E.length/\∀x∈z,R n x
 |0,v,l,_,_,_=>⟨fun r h=>aY,fun z h=>ff⟩
 |m+1,v,l,U,hl,hv=>by
  let p:=fun w:Sum _ (List ZU)=>(∀r,w= .inl r->r=(Y7.mk 0 0 [] 0,false))/\∀z,w= .inr z->z.length<=E.length/\∀x∈z,R n x
  refine YY (p:=p) (fun hc=>?_) (fun _=>⟨fun r h=>aY,fun z h=>gd⟩);have hc:v<E.length:=bE
  refine g ⟨fun r h=>cz,fun z h=>aY⟩ ?_;refine RZ h m _ _ (fun x O=>?_) aC hc;rcases List.mem_append.1 O with O|O
  ·exact U x O
  ·have e:=List.mem_singleton.1 O;subst e;simp_all
theorem O6{A:ZD}(h:R n A)(Z:R n E):R n (Xm A C E N).1:=by
 unfold Xm;obtain⟨k1,k2⟩:=RZ h _ 0 [] (fun x O=>bL) (Nat.zero_le _) (Nat.zero_le _);have h0:R n (Y7.mk 0 0 [] 0):=ab
 cases hh:yg A E _ 0 []with
 |inl r=>rw[k1 r hh];exact h0
 |inr z=>
  obtain⟨q1,q2⟩:=k2 z hh;have hz:R n z:=⟨by have:=Zx Z;omega,q2⟩
  refine g (p:=fun w:Y7×Bool=>R n w.1) h0 ?_;omega
theorem Dx{A:ZD}(h:R n A):R n (WO A C).1:=by
 have hi:=ZD.Z8 h;have hl:=Zx hi;have ag:∀m v l,(∀x∈l,R n x)->l.length<=v->v<=A.a.length->(qm A C m v l).length<=A.a.length/\∀x∈qm A C m v l,R n x:=by
  intro m;induction m with
  |zero=>intro v l _ _ _;exact⟨Nat.zero_le _,fun x O=>bL⟩
  |succ m ih=>
   intro v l U hl hv;let p:=fun w:List ZU=>w.length<=A.a.length/\∀x∈w,R n x
   refine YY (p:=p) (fun hc=>?_) (fun _=>⟨Y,U⟩);have hc:v<A.a.length:=bE
   refine g (ih _ _ (fun x O=>?_) aC hc) (ih _ _ U Y hc);rcases List.mem_append.1 O with O|O
   ·exact U x O
   ·have e:=List.mem_singleton.1 O;subst e;simp_all
 obtain⟨k1,k2⟩:=ag _ 0 [] (fun x O=>bL) (Nat.zero_le _) (Nat.zero_le _);refine g (p:=fun w:ZD×Bool=>R n w.1) h ?_;exact⟨by dsimp only;omega,k2⟩
theorem FSz(h:R n A):R n (WE A C).1:=by refine g (p:=fun w:P×Bool=>R n w.1) h ?_;omega
theorem uu(h:R n A):R n (xB A C).1:=by refine g (p:=fun w:P×Bool=>R n w.1) h ?_;exact⟨h.1,h.2.1,Vy h.2.2.1 trivial,h.2.2.2⟩
theorem zP{E:Int}{N:ZO}(h:R n A)(hd:R n N)(hn:9<=n):R (n+1) (qQ A C E N T a5).1:=
 g (p:=fun w:P×Bool=>R _ w.1) (ZJ (Nat.le_succ n) h) (xS h hd hn)
theorem Bp(A:P)(C E:Int)(N:ZO)(T a5:Int):(XZ A C E N T a5).1.g=A.g:=by
 have ag:∀m v r,Qu A C E N T a5 m v= .inl r->r.1.g=A.g:=by
  intro m;induction m with
  |zero=>intro v r h;cases h
  |succ m ih=>intro v r h;unfold Qu at h;grind
 unfold XZ;grind
theorem r8{E:Int}{N:ZO}(h:R n A)(hd:R n N)(hn:9<=n):R (n+1) (yW A C E N).1:=by have U:R _ (XZ A C E N 0 10000).1:=xS h hd hn;refine g (p:=fun w:P×Bool=>R _ w.1) (ZJ (Nat.le_succ n) h) (g (p:=fun w:P×Bool=>R _ w.1) ?_ U);refine⟨U.1,U.2.1,U.2.2.1,U.2.2.2.1,U.2.2.2.2.1,U.2.2.2.2.2.1,⟨?_,fun _ _=>trivial⟩⟩;rw[Bp];have:=Zx (P.Eg h);grind
theorem wV{A:ZR}{C:ZK}(h:R n A)(hp:R (n+1) C):R (n+1) (qJ A C).1:=by
 have M:=ZJ (Nat.le_succ n) h;refine g (p:=fun w:ZR×Bool=>R _ w.1) M ?_;refine⟨⟨?_,fun x O=>?_⟩,M.2⟩
 ·have:=h.1.1;simp;omega
 ·rcases List.mem_append.1 O with O|O
  ·exact M.1.2 x O
  ·have e:=List.mem_singleton.1 O;subst e;exact hp
theorem Gu{A:ZR}{C:ZZ}(h:R n A)(hp:R (n+1) C):R (n+1) (Qr A C).1:=by
 have M:=ZJ (Nat.le_succ n) h;refine g (p:=fun w:ZR×Bool=>R _ w.1) M ?_;refine⟨M.1,⟨?_,fun x O=>?_⟩⟩
 ·have:=h.2.1;simp;omega
 ·rcases List.mem_append.1 O with O|O
  ·exact M.2.2 x O
  ·have e:=List.mem_singleton.1 O;subst e;exact hp
theorem rK{A:ZD}{E:ZK}(h:R n A)(hp:R (n+1) E):R (n+1) (Qp A C E).1:=by have M:=ZJ (Nat.le_succ n) h;refine g (p:=fun w:ZD×Bool=>R _ w.1) M ?_;refine Vy (ZD.Z8 M) ?_;have hi:R n (I A.a (Z3 A C).toNat):=ZY (ZD.Z8 h);exact⟨(ZJ (Nat.le_succ n) hi).1,wV hi.2 hp⟩
theorem CC{x:ZD}(h:R n A)(O:R n x):R n (P.mk A.b A.c A.d (A.a.set i x) A.e A.f A.h A.g):=
 ⟨h.1,h.2.1,h.2.2.1,Vy h.2.2.2.1 O,h.2.2.2.2⟩
theorem IV{E:Int}{N:Zn}(h:R n A)(hn:5<=n):R (n+1) (KE A C E N).1:=by have M:=ZJ (Nat.le_succ n) h;refine g (p:=fun w:P×Bool=>R _ w.1) M ?_;exact CC M (rK (ZY (P.Zs h)) (Ip Y))
theorem uZ(h:R n A)(hn:5<=n):R (n+1) (xD A C).1:=by
 have M:=ZJ (Nat.le_succ n) h;let p:=fun w:P×Bool=>R (n+1) w.1
 exact g (p:=p) M (g M (g (IV h hn) (IV h hn)))
theorem wk{E:Int}(h:R n A)(hn:5<=n):R (n+1) (WZ A C E).1:=by have M:=ZJ (Nat.le_succ n) h;exact g (p:=fun w:P×Bool=>R _ w.1) M (IV h hn)
theorem uP{A:ZD}(h:R n A):R n (jE A C).1:=by
 have hi:=ZD.Z8 h;have ag:∀m v l,(∀x∈l,R n x)->l.length<=v->v<=A.a.length->(zQ A C m v l).length<=A.a.length/\∀x∈zQ A C m v l,R n x:=by
  intro m;induction m with
  |zero=>intro v l _ _ _;exact⟨Nat.zero_le _,fun x O=>bL⟩
  |succ m ih=>
   intro v l U hl hv;let p:=fun w:List ZU=>w.length<=A.a.length/\∀x∈w,R n x
   refine YY (p:=p) (fun hc=>?_) (fun _=>⟨Y,U⟩);have hc:v<A.a.length:=bE
   refine g (ih _ _ (fun x O=>?_) aC hc) (ih _ _ U Y hc);rcases List.mem_append.1 O with O|O
   ·exact U x O
   ·have e:=List.mem_singleton.1 O;subst e;simp_all
 obtain⟨k1,k2⟩:=ag _ 0 [] (fun x O=>bL) (Nat.zero_le _) (Nat.zero_le _);have:=Zx hi
 exact⟨by show(zQ A C _ 0 []).length<=n;omega,k2⟩
theorem Xa(h:R n A):R n (xO A C).1:=
 g (p:=fun w:P×Bool=>R n w.1) h (CC h (uP (ZY (P.Zs h))))
theorem Al{A:ZD}{E:List ZX}(h:R n A)(hp:R n E)(hn:17<=n):R (n+1) (Kz A C E).1:=by
 have M:R (n+1) A:=ZJ (Nat.le_succ n) h;have hi:=ZD.Z8 h;have ag:∀m v l,l.length=A.a.length->(∀x∈l,R (n+1) x)->(∀r,KW A C E m v l= .inl r->r=(A,false))/\∀z,KW A C E m v l= .inr z->z.length<=A.a.length/\∀x∈z,R (n+1) x:=by
  intro m;induction m with
  |zero=>intro v l _ _;exact⟨fun r h=>aY,fun z h=>ff⟩
  |succ m ih=>
   intro v l hl U;let p:=fun w:Sum (ZD×Bool) (List ZU)=>(∀r,w= .inl r->r=(A,false))/\∀z,w= .inr z->z.length<=A.a.length/\∀x∈z,R (n+1) x
   refine g (p:=p) (g (p:=p) ⟨fun r h=>cz,fun z h=>aY⟩ (ih _ _ aC (fun x O=>?_))) ⟨fun r h=>aY,fun z h=>gd⟩;rcases List.mem_or_eq_of_mem_set O with O|rfl
   ·exact U x O
   ·have a:R (n+1) (I l v):=by
     by_cases hv:v<l.length
     ·have:I l v=l[v]:=by simp[I,List.getElem?_eq_getElem hv]
      grind
     ·have:I l v=default:=by simp[I,List.getElem?_eq_none (Nat.le_of_not_lt hv)]
      rw[this];exact X.zero _
    have hv:R n (I A.a v):=ZY hi;refine⟨a.1,Gu hv.2 ?_⟩;exact⟨DT Y,ZJ (Nat.le_succ n) hp⟩
 refine g (p:=fun w:ZD×Bool=>R (n+1) w.1) M ?_;obtain⟨k1,k2⟩:=ag _ 0 A.a rfl (fun x O=>ZJ (Nat.le_succ n) (hi.2 x O));cases hh:KW A C E (A.a.length+1) 0 A.a with
 |inl r=>rw[k1 r hh];exact M
 |inr z=>
  obtain⟨q1,q2⟩:=k2 z hh;have:=Zx hi
  exact g (p:=fun w:ZD×Bool=>R (n+1) w.1) M ⟨by show z.length<=n+1;omega,q2⟩
theorem Pb{n:Nat}{A:P}{C:Int}{E:List Int}{N:Int}:∀(m:Nat)(l:List ZX)(v:Nat)(q:List Int),l.length<=v->v<=E.length->
  (∀r,Ju A C E N m l v q= .inl r->r=(A,false))/\∀z,Ju A C E N m l v q= .inr z->z.1.length<=E.length/\z.2.length<=q.length
 |0,_,_,_,_,_=>⟨fun r h=>aY,fun z h=>(by cases h;exact⟨Nat.zero_le _,Nat.zero_le _⟩)⟩
 |m+1,l,v,q,hl,hv=>by
  let p:=fun w:Sum _ (List ZX×List Int)=>(∀r,w= .inl r->r=(A,false))/\∀z,w= .inr z->z.1.length<=E.length/\z.2.length<=q.length
  refine YY (p:=p) (fun hc=>?_) (fun _=>⟨fun r h=>aY,fun z h=>(by cases h;exact⟨Nat.le_trans hl hv,Nat.le_refl _⟩)⟩);have hc:v<E.length:=bE
  have step:∀x i y,p (Ju A C E N m (l++[x]) (v+1) (q.set i y)):=fun x i y=>by obtain⟨k1,k2⟩:=Pb (n:=n) (A:=A) (C:=C) (N:=N) m (l++[x]) _ (q.set i y) aC hc;grind
  grind
theorem rY(h:R n A)(Z:R n E)(hn:17<=n):R (n+1) (jA A C E N).1:=by
 have M:=ZJ (Nat.le_succ n) h;refine g (p:=fun w:P×Bool=>R _ w.1) M ?_;obtain⟨k1,k2⟩:=Pb (n:=n) _ [] 0 A.e (Nat.zero_le _) (Nat.zero_le _);cases hh:Ju A C E N _ [] 0 A.e with
 |inl r=>rw[k1 r hh];exact M
 |inr z=>
  obtain⟨q1,q2⟩:=k2 z hh;obtain⟨d,o⟩:=z;have e2:=Zx Z
  have e3:=Zx (P.gJ h);have U:R n d:=⟨by simp only at q1;omega,fun _ _=>trivial⟩;refine g (p:=fun w:P×Bool=>R _ w.1) M ?_;exact⟨M.1,M.2.1,M.2.2.1,Vy M.2.2.2.1 (Al (ZY (P.Zs h)) U hn),⟨by simp only at q2⊢;omega,fun _ _=>trivial⟩,M.2.2.2.2.2⟩
theorem Bh{A:ZD}{C:Y7}{E:Int}(h:R n A)(hp:R n C):R (n+C.a.length) (QO A C E).1:=by
 have M:R (n+C.a.length) A:=ZJ (Nat.le_add_right _ _) h;have ag:∀m v d l,R (n+v) (ZD.mk d l)->v<=C.a.length->(∀r,Kp A C m v d l= .inl r->r=(A,false))/\∀z,Kp A C m v d l= .inr z->R (n+C.a.length) (ZD.mk z.1 z.2):=by
  intro m;induction m with
  |zero=>intro v d l _ _;exact⟨fun r h=>aY,fun z h=>(by cases h;exact Oa)⟩
  |succ m ih=>
   intro v d l U hv;let p:=fun w:Sum (ZD×Bool) (Int×List ZU)=>(∀r,w= .inl r->r=(A,false))/\∀z,w= .inr z->R (n+C.a.length) (ZD.mk z.1 z.2)
   refine YY (p:=p) (fun hc=>?_) (fun _=>⟨fun r h=>aY,fun z h=>(by cases h;exact ZJ (Nat.add_le_add_left hv n) U)⟩);have hc:v<C.a.length:=bE
   exact g (p:=p) ⟨fun r h=>cz,fun z h=>aY⟩ (ih _ _ _ (Hx U (ZJ (Nat.le_succ_of_le (Nat.le_add_right n v)) (ZY (Y7.Z8 hp)))) hc)
 unfold QO;obtain⟨k1,k2⟩:=ag (C.a.length+1) 0 A.b A.a h (Nat.zero_le _);grind
theorem vE{A:ZD}(h:R n A):(Xo A C E N).1.a.length<=E.length:=by unfold Xo;obtain⟨k1,k2⟩:=Rr (E:=E) h (E.length+1) 0 [] (fun x O=>bL) (Nat.zero_le _) (Nat.zero_le _);grind
theorem p9{A C:ZD}(G:n<=9223372036854775807)(h0:R n A)(M:R n C)(Z:R n E):R n (X3 A C E N).1/\R (n+E.length) (X3 A C E N).2.1:=by
 have c:R (n+E.length) (QO C (Xo A C.b E N).1 N).1:=
  ZJ (Nat.add_le_add_left (vE h0) n) (Bh M (Oh h0 Z))
 have a:R n A/\R (n+E.length) C:=⟨h0,ZJ (Nat.le_add_right _ _) M⟩;have ag:∀m v d l,R n (ZD.mk d l)->(∀r,Kx A C E m v d l= .inl r->r=(A,C,false))/\∀z,Kx A C E m v d l= .inr z->R n (ZD.mk z.1 z.2):=by
  intro m;induction m with
  |zero=>intro v d l _;exact⟨fun r h=>aY,fun z h=>(by cases h;exact Oa)⟩
  |succ m ih=>
   intro v d l U;let p:=fun w:Sum _ (Int×List ZU)=>(∀r,w= .inl r->r=(A,C,false))/\∀z,w= .inr z->R n (ZD.mk z.1 z.2)
   exact g (p:=p) (g (p:=p) ⟨fun r h=>cz,fun z h=>aY⟩ (ih _ _ _ (IM G U))) ⟨fun r h=>aY,fun z h=>(by cases h;exact U)⟩
 unfold X3;let p:=fun w:ZD×ZD×Bool=>R n w.1/\R (n+E.length) w.2.1
 obtain⟨k1,k2⟩:=ag (E.length+1) 0 A.b A.a h0;grind
theorem JQ{E:Int}(G:n<=9223372036854775807)(h:R n A)(hn:1<=n):R (n+1) (Wa A C E N).1:=by
 have M:=ZJ (Nat.le_succ n) h;have hm:=p9 (A:=I A.a C.toNat) (C:=I A.a E.toNat) (E:=[N]) (N:=Zj A.b.c A.b.d) G (ZY (P.Zs h)) (ZY (P.Zs h)) ⟨hn,fun _ _=>trivial⟩;let p:=fun w:P×Bool=>R (n+1) w.1
 exact g (p:=p) M (g ⟨M.1,M.2.1,M.2.2.1,Vy (Vy M.2.2.2.1 (ZJ (Nat.le_succ n) hm.1)) hm.2,M.2.2.2.2⟩ M)
theorem TE{A:P}{C E:Int}:∀(m v:Nat)(l:List ZX),(∀r,Ko A C E m v l= .inl r->r=(A,false))/\∀z,Ko A C E m v l= .inr z->z.length<=l.length+((Yi A).length-v)
 |0,v,l=>⟨fun r h=>aY,fun z h=>(by cases h;exact Nat.zero_le _)⟩
 |m+1,v,l=>by
  let p:=fun w:Sum _ (List ZX)=>(∀r,w= .inl r->r=(A,false))/\∀z,w= .inr z->z.length<=l.length+((Yi A).length-v)
  refine YY (p:=p) (fun hc=>?_) (fun _=>⟨fun r h=>aY,fun z h=>(by cases h;exact Nat.le_add_right _ _)⟩);obtain⟨k1,k2⟩:=TE (A:=A) (C:=C) (E:=E) m (v+1) (l++[(QX A.b.a A.b.b (ZX.mk (I (Yi A) v) 0 E (KM (I (I A.a (S A C).1.toNat).a (S A C).2.toNat) (Zj A.b.c A.b.d)) 0)).1]);grind
theorem BT{E:Int}(h:R n A):R (n+1) (zG A C E).1:=by
 have M:=ZJ (Nat.le_succ n) h;refine g (p:=fun w:P×Bool=>R _ w.1) M ?_;obtain⟨k1,k2⟩:=TE _ 0 [];cases hh:Ko A C E _ 0 []with
 |inl r=>rw[k1 r hh];exact M
 |inr z=>have hz:=k2 z hh;have hf:=xA A;have ha:=Zx (ZI.Yh (P.Yc h));rw[List.length_nil]at hz;have b:R n (I A.a (S A C).1.toNat):=ZY (P.Zs h);have v:R n (I (I A.a (S A C).1.toNat).a (S A C).2.toNat):=ZY (ZD.Z8 b);refine CC M (Vy (ZD.Z8 (ZJ (Nat.le_succ n) b)) ⟨(ZJ (Nat.le_succ n) v).1,Gu v.2 ?_⟩);exact⟨Oa,⟨by show z.length<=n+1;omega,fun _ _=>trivial⟩⟩
theorem Gg{C:YS}(G:n<=9223372036854775807)(h:R n A)(he:R n C)(hn:17<=n):R (n+1) (QN A C).1:=by
 have M:=ZJ (Nat.le_succ n) h;have a:∀w:P,R n w->R _ w:=fun w hw=>ZJ (Nat.le_succ n) hw;let p:=fun w:P×Bool=>R (n+1) w.1
 exact g (p:=p) (a _ (FSz h)) (g (zP h he.1 Y) (g (uZ h Y) (g (a _ (uu h)) (g (rY h he.2 hn) (g (JQ G h Y) (g (a _ (Xa h))
  (g (r8 h he.1 Y) (g (BT h) (g (wk h Y) M)))))))))
theorem UV(h:4<=n):R n zh:=⟨h,fun _ _=>trivial⟩
theorem v7(h:4<=n):R n Pg:=⟨h,fun _ _=>trivial⟩
theorem sa(h:3<=n):R n PJ:=⟨h,fun _ _=>trivial⟩
theorem OX(A:Int)(C:List ByteArray)(E:Int):∀(m v:Nat)(l:List Int),(zn A C E m v l).length<=l.length+m
 |0,_,_=>Nat.zero_le _
 |m+1,v,l=>by
  rw[zn];have:=OX A C E m (v+1) (l++[zX 1 (ki E [A,v])])
  grind
theorem qy{A:Int}{C:List ByteArray}{E:Int}(h:R n C)(hn:C.length+1<=n):R n (QM A C E).1:=by have:=OX A C E (C.length+1) 0 [];refine g (p:=fun r:ZO×Bool=>R n r.1) ⟨X.zero n,X.zero n⟩ ⟨h,Nat.le_trans this aC,fun _ _=>trivial⟩
theorem un{A:ZR}{C:ZK}(hn:n+1<=m)(h:R n A)(O:R m C):R m (Wp A C).1:=by
 have M:R m A:=ZJ Y h;refine g (p:=fun r:ZR×Bool=>R m r.1) M ⟨⟨?_,fun y hy=>?_⟩,M.2⟩
 ·have:=h.1.1;grind
 ·rcases List.mem_append.1 hy with hy|hy
  ·exact M.1.2 y hy
  ·rw[List.mem_singleton.1 hy];exact O
theorem Ga{A:ZR}{C:ZZ}(hn:n+1<=m)(h:R n A)(O:R m C):R m (JP A C).1:=by
 have M:R m A:=ZJ Y h;refine g (p:=fun r:ZR×Bool=>R m r.1) M ⟨M.1,⟨?_,fun y hy=>?_⟩⟩
 ·have:=h.2.1;grind
 ·rcases List.mem_append.1 hy with hy|hy
  ·exact M.2.2 y hy
  ·rw[List.mem_singleton.1 hy];exact O
theorem DW{A:Int}(h:20<=n):R n (Yj A):=by
 have hw:∀(k:Int)(l:List Int),l.length<=1->R n (P.mk (ZI.mk kI zh Pg k 0) PJ ([-1,-1,-1]:List Int) ([ZD.mk 0 ([]:List ZU),ZD.mk 1 ([]:List ZU)]:List ZD) ([0,0,0,0]:List Int) l 1 ([]:List Int)):=fun k l hl=>by
  have M:=LJ (n:=n) Y;have Z:=UV (n:=n) Y;have h3:=v7 (n:=n) Y;have h4:=sa (n:=n) Y;have h5:R n ([ZD.mk 0 ([]:List ZU),ZD.mk 1 ([]:List ZU)]:List ZD):=⟨by simp;omega,fun y hy=>by
   rcases List.mem_cons.1 hy with rfl|hy
   ·exact X.zero _
   ·rw[List.mem_singleton.1 hy];exact X.zero (α:=List ZU) _⟩
  have h6:∀l:List Int,l.length<=20->R n l:=fun l hl=>⟨Y,fun _ _=>trivial⟩;simp;grind
 unfold Yj;grind
theorem L3(A:Int)(h:20<=n):R n (YK A):=by
 have M:R n KG:=⟨Nat.le_trans (show KG.length<=20 by decide) h,fun _ _=>trivial⟩;have Z:R n (U3 5 0 ([]:List ZS)):=⟨Nat.le_trans (show(U3 5 0 ([]:List ZS)).length<=20 by decide+kernel) h,fun _ _=>trivial⟩;have h3:R n Jf:=⟨Nat.le_trans (show Jf.length<=20 by decide) h,fun _ _=>trivial⟩;have h4:R n (Ud 4 0 ([]:List YE)):=⟨Nat.le_trans (show(Ud 4 0 ([]:List YE)).length<=20 by decide+kernel) h,fun _ _=>trivial⟩;have h5:R n ([ZD.mk 0 ([]:List ZU),ZD.mk 1 ([]:List ZU)]:List ZD):=⟨by simp;omega,fun y hy=>by
   rcases List.mem_cons.1 hy with rfl|hy
   ·exact X.zero (α:=List ZU) _
   ·rw[List.mem_singleton.1 hy];exact X.zero (α:=List ZU) _⟩
 have h6:∀l:List Int,l.length<=20->R n l:=fun l hl=>⟨Y,fun _ _=>trivial⟩;unfold YK;refine g ?_ ?_;all_goals
  simp only[P.LC,ZI.LC];grind
theorem Ni{x:ZD}(h:R n A)(O:R n x):R n (P.mk A.b A.c A.d (A.a.set i x) A.e A.f A.h A.g):=
 ⟨h.1,h.2.1,h.2.2.1,Vy h.2.2.2.1 O,h.2.2.2.2⟩
theorem sq(h:R n A):R n (V5 A C).1:=by refine g (p:=fun w:P×Bool=>R n w.1) h ?_;omega
theorem tx(h:R n A):R n (qz A C).1:=by refine g (p:=fun w:P×Bool=>R n w.1) h ?_;exact⟨h.1,h.2.1,Vy h.2.2.1 trivial,h.2.2.2⟩
theorem St{E:Int}{N:ZO}(h:R n A)(hd:R n N)(hn:9<=n):R (n+1) (UY A C E N T a5).1:=by have M:=ZJ (Nat.le_succ n) h;have ha:R _ (J7 (I A.a C.toNat) (QV A E N T a5).1).1:=Na (ZY (P.Zs h)) (Up hd hn);refine g (p:=fun w:P×Bool=>R _ w.1) M (g (p:=fun w:P×Bool=>R _ w.1) M (g (p:=fun w:P×Bool=>R _ w.1) M ?_));exact⟨M.1,M.2.1,M.2.2.1,Vy M.2.2.2.1 ha,M.2.2.2.2⟩
theorem Io{E:Int}{N:ZO}(h:R n A)(hd:R n N)(hn:9<=n):R (n+1) (kh A C E N).1:=by have M:=ZJ (Nat.le_succ n) h;have ha:R _ (J7 (I A.a C.toNat) (QV A E N 0 10000).1).1:=Na (ZY (P.Zs h)) (Up hd hn);refine g (p:=fun w:P×Bool=>R _ w.1) M (g (p:=fun w:P×Bool=>R _ w.1) M (g (p:=fun w:P×Bool=>R _ w.1) M ?_));have:=Zx (P.Eg h);exact⟨M.1,M.2.1,M.2.2.1,Vy M.2.2.2.1 ha,M.2.2.2.2.1,M.2.2.2.2.2.1,⟨by simp;omega,fun _ _=>trivial⟩⟩
theorem EB{A:ZD}{E:ZK}(h:R n A)(hp:R (n+1) E):R (n+1) (QD A C E).1:=by have M:=ZJ (Nat.le_succ n) h;refine g (p:=fun w:ZD×Bool=>R _ w.1) M ?_;refine Vy (ZD.Z8 M) ?_;have hi:R n (I A.a (XY A C).toNat):=ZY (ZD.Z8 h);exact⟨(ZJ (Nat.le_succ n) hi).1,un (Nat.le_refl _) hi.2 hp⟩
theorem v3(h:R n A)(hn:5<=n):R (n+1) (jX A C).1:=by
 have M:=ZJ (Nat.le_succ n) h;let p:=fun w:P×Bool=>R (n+1) w.1
 have k:∀i x,R _ (P.mk A.b A.c A.d (A.a.set i (QD (I A.a i) C (XO x)).1) A.e A.f A.h A.g):=fun i x=>
  Ni M (EB (ZY (P.Zs h)) (kY Y))
 exact g (p:=p) M (g M (g (g M (k _ _)) (g M (k _ _))))
theorem qs{E:Int}(h:R n A)(hn:5<=n):R (n+1) (V0 A C E).1:=by
 have M:=ZJ (Nat.le_succ n) h;let p:=fun w:P×Bool=>R (n+1) w.1
 have k:∀i x,R _ (P.mk A.b A.c A.d (A.a.set i (QD (I A.a i) C (XO x)).1) A.e A.f A.h A.g):=fun i x=>
  Ni M (EB (ZY (P.Zs h)) (kY Y))
 exact g (p:=p) M (g M (g M (k _ _)))
theorem ux{A:ZD}(h:R n A):R n (jV A C).1:=by
 have hi:=ZD.Z8 h;have ag:∀m c v l,(∀x∈l,R n x)->l.length<=v->v<=A.a.length->(K3 A C m c v l).2.length<=A.a.length/\∀x∈(K3 A C m c v l).2,R n x:=by
  intro m;induction m with
  |zero=>intro c v l _ _ _;exact⟨Nat.zero_le _,fun x O=>bL⟩
  |succ m ih=>
   intro c v l U hl hv;let p:=fun w:Int×List ZU=>w.2.length<=A.a.length/\∀x∈w.2,R n x
   refine YY (p:=p) (fun hc=>?_) (fun _=>⟨by show l.length<=_;omega,U⟩);have hc:v<A.a.length:=bE
   refine g (ih _ _ _ U Y hc) (ih _ _ _ (fun x O=>?_) aC hc);rcases List.mem_append.1 O with O|O
   ·exact U x O
   ·have e:=List.mem_singleton.1 O;subst e;simp_all
 have hk:=ag (A.a.length+1) 0 0 [] (fun x O=>bL) (Nat.zero_le _) (Nat.zero_le _);have:=Zx hi;unfold jV;cases hh:K3 A C _ 0 0 []with
 |mk d o=>rw[hh]at hk;exact⟨by show o.length<=n;have:=hk.1;simp only at this;omega,hk.2⟩
theorem uE(h:R n A):R n (qk A C).1:=
 g (p:=fun w:P×Bool=>R n w.1) h (Ni h (ux (ZY (P.Zs h))))
theorem w8{A:ZD}{E:List ZX}(h:R n A)(hp:R n E)(hn:17<=n):R (n+1) (Qn A C E).1:=by
 have M:=ZJ (Nat.le_succ n) h;have hi:=ZD.Z8 h;have ag:∀m b v l,l.length=A.a.length->(∀x∈l,R (n+1) x)->(Qx A C E m b v l).2.length<=A.a.length/\∀x∈(Qx A C E m b v l).2,R (n+1) x:=by
  intro m;induction m with
  |zero=>intro b v l _ _;exact⟨Nat.zero_le _,fun x O=>bL⟩
  |succ m ih=>
   intro b v l hl U;let p:=fun w:Bool×List ZU=>w.2.length<=A.a.length/\∀x∈w.2,R (n+1) x
   refine g (p:=p) (ih _ _ _ aC (fun x O=>?_)) ⟨by show l.length<=_;omega,U⟩;rcases List.mem_or_eq_of_mem_set O with O|rfl
   ·exact U x O
   ·have a:R (n+1) (I l v):=by
     by_cases hv:v<l.length
     ·have:I l v=l[v]:=by simp[I,List.getElem?_eq_getElem hv]
      grind
     ·have:I l v=default:=by simp[I,List.getElem?_eq_none (Nat.le_of_not_lt hv)]
      rw[this];exact X.zero _
    have hv:R n (I A.a v):=ZY hi;refine⟨a.1,Ga (Nat.le_refl _) hv.2 ?_⟩;exact⟨Dn Y,ZJ (Nat.le_succ n) hp⟩
 have hk:=ag (A.a.length+1) (Jg A&&(decide ((A.a.length:Int)>0))) 0 A.a rfl (fun x O=>ZJ (Nat.le_succ n) (hi.2 x O));have:=Zx hi;unfold Qn;cases hh:Qx A C E _ _ 0 A.a with
 |mk d o=>rw[hh]at hk;exact g (p:=fun w:ZD×Bool=>R _ w.1) M ⟨by show o.length<=n+1;have:=hk.1;simp only at this;omega,hk.2⟩
theorem Lj{A:P}{E:List Int}:∀(m v:Nat)(q:List Int),(VF A E m v q).length<=q.length
 |0,_,_=>Nat.zero_le _
 |m+1,v,q=>by refine g (p:=fun w:List Int=>w.length<=q.length) ?_ (Nat.le_refl _);exact Nat.le_trans (Lj m _ _) ab
theorem Iy{A:P}{C:Int}{E:List Int}{N:Int}:∀(m:Nat)(l:List ZX)(v:Nat),l.length<=v->v<=E.length->
  (∀r,KQ A C E N m l v= .inl r->r=(A,false))/\∀z,KQ A C E N m l v= .inr z->z.length<=E.length
 |0,_,_,_,_=>⟨fun r h=>aY,fun z h=>(by cases h;exact Nat.zero_le _)⟩
 |m+1,l,v,hl,hv=>by
  let p:=fun w:Sum _ (List ZX)=>(∀r,w= .inl r->r=(A,false))/\∀z,w= .inr z->z.length<=E.length
  refine YY (p:=p) (fun hc=>?_) (fun _=>⟨fun r h=>aY,fun z h=>(by cases h;exact Nat.le_trans hl hv)⟩);have hc:v<E.length:=bE
  have step:∀x,p (KQ A C E N m _ (v+1)):=fun x=>
   Iy m (l++[x]) (v+1) a0 hc
  grind
theorem pI(h:R n A)(Z:R n E)(hn:17<=n):R (n+1) (WB A C E N).1:=by
 have M:=ZJ (Nat.le_succ n) h;refine g (p:=fun w:P×Bool=>R _ w.1) M ?_;obtain⟨k1,k2⟩:=Iy _ [] 0 (Nat.zero_le _) (Nat.zero_le _);cases hh:KQ A C E N _ [] 0 with
 |inl r=>rw[k1 r hh];exact M
 |inr z=>have q1:=k2 z hh;have q2:=Lj (A:=A) (E:=E) (E.length+1) 0 A.e;have e2:=Zx Z;have e3:=Zx (P.gJ h);have U:R n z:=⟨Y,fun _ _=>trivial⟩;refine g (p:=fun w:P×Bool=>R _ w.1) M ?_;exact⟨M.1,M.2.1,M.2.2.1,Vy M.2.2.2.1 (w8 (ZY (P.Zs h)) U hn),⟨Nat.le_trans q2 (Nat.le_succ_of_le e3),fun _ _=>trivial⟩,M.2.2.2.2.2⟩
theorem AD{A:ZD}{C:Y7}{E:Int}(h:R n A)(hp:R n C):R (n+C.a.length) (X7 A C E).1:=by
 have M:R (n+C.a.length) A:=ZJ (Nat.le_add_right _ _) h;have ag:∀m b v d l,R (n+v) (ZD.mk d l)->v<=C.a.length->R (n+C.a.length) (ZD.mk (JD C m b v d l).2.1 (JD C m b v d l).2.2):=by
  intro m;induction m with
  |zero=>intro b v d l _ _;exact Oa
  |succ m ih=>
   intro b v d l U hv;let p:=fun w:Bool×Int×List ZU=>R (n+C.a.length) (ZD.mk w.2.1 w.2.2)
   refine YY (p:=p) (fun hc=>?_) (fun _=>ZJ (Nat.add_le_add_left hv n) U);have hc:v<C.a.length:=by rw[Bool.and_eq_true]at hc;simpa using hc.1
   exact ih _ _ _ _ (Na U (ZJ (Nat.le_add_right n v) (ZY (Y7.Z8 hp)))) hc
 have hk:=ag (C.a.length+1) (yA C E&&(C.c==A.b)) 0 A.b A.a h (Nat.zero_le _);unfold X7;grind
theorem Ax{A:ZD}(h:R n A):(Xm A C E N).1.a.length<=E.length:=by unfold Xm;obtain⟨k1,k2⟩:=RZ (E:=E) h (E.length+1) 0 [] (fun x O=>bL) (Nat.zero_le _) (Nat.zero_le _);grind
theorem o4{A C:ZD}(h0:R n A)(M:R n C)(Z:R n E):R n (Jm A C E N).1/\R (n+E.length) (Jm A C E N).2.1:=by
 have c:R _ (X7 C (Xm A C.b E N).1 N).1:=
  ZJ (Nat.add_le_add_left (Ax h0) n) (AD M (O6 h0 Z))
 have a:R n A/\R (n+E.length) C:=⟨h0,ZJ (Nat.le_add_right _ _) M⟩;have ag:∀m b v d l,R n (ZD.mk d l)->R n (ZD.mk (Kw A C E N m b v d l).2.1 (Kw A C E N m b v d l).2.2):=by
  intro m;induction m with
  |zero=>intro b v d l _;exact Oa
  |succ m ih=>intro b v d l U;exact g (p:=fun w:Bool×Int×List ZU=>R n (ZD.mk w.2.1 w.2.2)) (ih _ _ _ _ (Dx U)) U
 have hk:=ag (E.length+1) (X7 C (Xm A C.b E N).1 N).2 0 A.b A.a h0;unfold Jm;grind
theorem zo{E:Int}(h:R n A)(hn:1<=n):R (n+1) (UQ A C E N).1:=by
 have M:=ZJ (Nat.le_succ n) h;have hm:=o4 (A:=I A.a C.toNat) (C:=I A.a E.toNat) (E:=[N]) (N:=Zv A.b.c A.b.d) (ZY (P.Zs h)) (ZY (P.Zs h)) ⟨hn,fun _ _=>trivial⟩;let p:=fun w:P×Bool=>R (n+1) w.1
 exact g (p:=p) M ⟨M.1,M.2.1,M.2.2.1,Vy (Vy M.2.2.2.1 (ZJ (Nat.le_succ n) hm.1)) hm.2,M.2.2.2.2⟩
theorem NJ{A:P}{C E:Int}:∀(m v:Nat)(l:List ZX),(∀r,Jy A C E m v l= .inl r->r=(A,false))/\∀z,Jy A C E m v l= .inr z->z.length<=l.length+((Yw A).length-v)
 |0,v,l=>⟨fun r h=>aY,fun z h=>(by cases h;exact Nat.zero_le _)⟩
 |m+1,v,l=>by
  let p:=fun w:Sum _ (List ZX)=>(∀r,w= .inl r->r=(A,false))/\∀z,w= .inr z->z.length<=l.length+((Yw A).length-v)
  refine YY (p:=p) (fun hc=>?_) (fun _=>⟨fun r h=>aY,fun z h=>(by cases h;exact Nat.le_add_right _ _)⟩);have step:∀x,p (Jy A C E m (v+1) (l++[x])):=fun x=>by obtain⟨k1,k2⟩:=NJ (A:=A) (C:=C) (E:=E) m (v+1) (l++[x]);grind
  grind
theorem B3{E:Int}(h:R n A):R (n+1) (yL A C E).1:=by
 have M:=ZJ (Nat.le_succ n) h;refine g (p:=fun w:P×Bool=>R _ w.1) M ?_;obtain⟨k1,k2⟩:=NJ _ 0 [];cases hh:Jy A C E _ 0 []with
 |inl r=>rw[k1 r hh];exact M
 |inr z=>have hz:=k2 z hh;have hf:=xI A;have ha:=Zx (ZI.Yh (P.Yc h));rw[List.length_nil]at hz;have b:R n (I A.a (u A C).1.toNat):=ZY (P.Zs h);have v:R n (I (I A.a (u A C).1.toNat).a (u A C).2.toNat):=ZY (ZD.Z8 b);refine Ni M (Vy (ZD.Z8 (ZJ (Nat.le_succ n) b)) ⟨(ZJ (Nat.le_succ n) v).1,Ga (Nat.le_refl _) v.2 ?_⟩);exact⟨Oa,⟨by show z.length<=n+1;omega,fun _ _=>trivial⟩⟩
theorem Ix{C:YS}(h:R n A)(he:R n C)(hn:17<=n):R (n+1) (KV A C).1:=by
 have M:=ZJ (Nat.le_succ n) h;have a:∀w:P,R n w->R _ w:=fun w hw=>ZJ (Nat.le_succ n) hw;let p:=fun w:P×Bool=>R (n+1) w.1
 exact g (p:=p) (a _ (sq h)) (g (St h he.1 Y) (g (v3 h Y) (g (a _ (tx h)) (g (pI h he.2 hn) (g (zo h Y) (g (a _ (uE h))
  (g (Io h he.1 Y) (g (B3 h) (g (qs h Y) M)))))))))
theorem MV{A:ZO}(h:J6 A=true):A.d.length=A.b.length:=by
 have k1:∀n v r,yU A n v= .inl r->r=false:=by
  intro n;induction n with
  |zero=>intro v r h;cases h
  |succ n ih=>intro v r;rw[yU];grind
 have k2:∀n v r,yb A n v= .inl r->r=false:=by
  intro n;induction n with
  |zero=>intro v r h;cases h
  |succ n ih=>intro v r;rw[yb];grind
 unfold J6 at h;grind
theorem S9(A:t){n:Nat}(hp:R n A):∀(m:Nat)(b:ByteArray)(v:Nat),A.a.length<m+v->v<=A.a.length->(QS A m b v).size<=b.size+(n+3)*(A.a.length-v)
 |0,b,v,h,hv=>Y
 |m+1,b,v,h,hv=>by
  rw[QS];by_cases ac:v<A.a.length
  ·rw[decide_eq_true (show _<_ by omega),XN];have e:A.a.length-v=(A.a.length-(v+1))+1:=Y
   have O:(I A.b v).size<=n:=ZY (t.qo hp);rw[e];have a:∀x:ByteArray,x.size<=n+3->(QS A m (b++x) (v+1)).size<=b.size+((n+3)*(A.a.length-(v+1))+(n+3)):=fun x O=>by have:=S9 A hp m (b++x) (v+1) Y ac;rw[ByteArray.size_append]at this;omega
   let p:=fun z:ByteArray=>z.size<=b.size+((n+3)*(A.a.length-(v+1))+(n+3))
   refine g (p:=p) (a _ (show 2<=n+3 by omega)) (g (a _ ?_) (a _ (show 3<=n+3 by omega)));rw[ByteArray.size_append,ByteArray.size_append];show 2+_+1<=_
   omega
  ·rw[decide_eq_false (show ¬_<_ by omega),XA];omega
theorem FG{A:t}(hp:R n A):(xr A).size<=24+(n+3)*n:=by have h:=S9 A hp (A.a.length+1) (Zu A.e) 0 ab (Nat.zero_le _);have Z:=Ys A.e;have h3:=Nat.mul_le_mul_left (n+3) (Zx (t.fj hp));exact Nat.le_trans h (Nat.add_le_add Z h3)
theorem kN(A:ZI):∀(m:Nat)(l:List Int)(v:Nat),A.b.length<m+v->v<=A.b.length->l.length<=v->(JJ A m l v).length<=A.b.length
 |0,_,v,h,hv,_=>Y
 |m+1,l,v,h,hv,hl=>by
  rw[JJ];by_cases ac:v<A.b.length
  ·rw[decide_eq_true (show _<_ by omega),XN];refine g (p:=fun z:List Int=>z.length<=A.b.length) (kN A m _ _ Y ac ?_) (kN A m _ _ Y ac Y);grind
  ·grind
theorem P4{A:ZI}(h:R n A):R n (jL A):=by have k:=kN A (A.b.length+1) [] 0 ab (Nat.zero_le _) (Nat.zero_le _);have k2:=Zx (ZI.Yh h);exact⟨Nat.le_trans k k2,fun _ _=>trivial⟩
theorem gS{α:Type}{c:α->Nat}{b:Nat}:∀l:List α,(∀x∈l,c x<=b)->af c l<=l.length*b
 |[],_=>Nat.zero_le _
 |x::l,h=>by have M:=h x List.mem_cons_self;have Z:=gS l (fun y hy=>h y (List.mem_cons_of_mem _ hy));simp only[af,List.length_cons,Nat.succ_mul];omega
theorem hs(h:R n w):am w.a<=w.a.length*n:=
 gS w.a (fun x O=>Zx (ZD.Z8 ((P.Zs h).2 x O)))
theorem ov(h:R n w):CF (Q.mk (Xk w) [])<=w.a.length*n*(n*n):=by
 have M:af br (Xk w)<=(Xk w).length*(n*n):=by
  refine gS _ (fun s U=>?_);simp only[Xk,List.mem_map,List.mem_flatMap]at U;obtain⟨a,⟨b,M,Z⟩,rfl⟩:=U;have k:=ZU.YM ((ZD.Z8 ((P.Zs h).2 _ M)).2 _ Z)
  have k1:=ZR.QK k;refine Nat.le_trans (gS a.a.a (fun r hr=>Zx (ZZ.Nz (k1.2 r hr)))) (Nat.mul_le_mul_right n (Zx k1))
 have Z:(Xk w).length<=w.a.length*n:=by rw[Xk,List.length_map,FZ];exact hs h
 exact Nat.le_trans M (Nat.mul_le_mul_right _ Z)
theorem Dv(w:P)(e:YS):(QN w e).1.a.length=w.a.length:=by
 let p:=fun r:P×Bool=>r.1.a.length=w.a.length
 have h0:p (w,false):=rfl;have ha:∀i id l,p (KE w i id l):=fun i id l=>by unfold KE;exact g (p:=p) h0 (List.length_set ..)
 have U:∀i k d o t,p (XZ w i k d o t):=fun i k d o t=>by
  unfold XZ;have ag:∀m v r,Qu w i k d o t m v= .inl r->p r:=by
   intro m;induction m with
   |zero=>intro v r h;cases h
   |succ m ih=>intro v r h;rw[Qu]at h;grind
  grind
 unfold QN;refine g (p:=p) (by unfold WE;exact g (p:=p) h0 rfl) ?_;refine g (p:=p) (by unfold qQ;exact g (p:=p) h0 (U _ _ _ _ _)) ?_;refine g (p:=p) (by unfold xD;exact g (p:=p) h0 (g (p:=p) h0 (g (p:=p) (ha _ _ _) (ha _ _ _)))) ?_;refine g (p:=p) (by unfold xB;exact g (p:=p) h0 rfl) ?_;refine g (p:=p) ?_ ?_
 ·unfold jA;obtain⟨k1,_⟩:=Pb (n:=0) (A:=w) (C:=e.A) (E:=e.a) (N:=e.B) (e.a.length+1) [] 0 w.e (Nat.zero_le _) (Nat.zero_le _);grind
 refine g (p:=p) (by unfold Wa;exact g (p:=p) h0 (g (p:=p) (by show(List.set _ _ _).length=_;rw[List.length_set,List.length_set]) rfl)) ?_;refine g (p:=p) (by unfold xO;exact g (p:=p) h0 (List.length_set ..)) ?_;refine g (p:=p) ?_ ?_
 ·unfold yW;grind
 refine g (p:=p) ?_ (g (p:=p) (by unfold WZ;exact g (p:=p) h0 (ha _ _ _)) h0);unfold zG;obtain⟨k1,_⟩:=TE (A:=w) (C:=e.A) (E:=e.B) ((Yi w).length+1) 0 [];grind
theorem Ii(x:Int):(Yj x).a.length=2:=by unfold Yj;grind
theorem Ho(e:Q)(k:Nat):∀(m v:Nat)(l:List ZX),v<=(I e.a k).a.length->(qj e k m v l).length<=l.length+af (fun r=>r.a.length) ((I e.a k).a.drop v)
 |0,v,l,_=>Nat.zero_le _
 |m+1,v,l,hv=>by
  rw[qj];by_cases h:v<(I e.a k).a.length
  ·rw[decide_eq_true (show _<_ by omega),XN];have M:=Ho e k m (v+1) (xY (I (I e.a k).a v).a l) h
   have Z:=RC (I (I e.a k).a v).a l;have h3:=OC h;omega
  ·grind
theorem HV(e:Q):∀(m v:Nat)(l:List ZX),v<=e.a.length->(jT e m v l).length<=l.length+af br (e.a.drop v)
 |0,v,l,_=>Nat.zero_le _
 |m+1,v,l,hv=>by
  rw[jT];by_cases h:v<e.a.length
  ·rw[decide_eq_true (show _<_ by omega)];have h0:=Ho e v ((I e.a v).a.length+1) 0 l (Nat.zero_le _)
   have M:=HV e m _ (qj e v ((I e.a v).a.length+1) 0 l) h;have h3:=Bv h;have h4:br _=af (fun r=>r.a.length) (I e.a v).a:=rfl;grind
  ·grind
theorem O2(w:P):(WA w).length<=CF (Q.mk (Xk w) []):=by
 show(UO _).length<=_;rw[zU];have h:=HV (Q.mk (Xk w) []) ((Xk w).length+1) 0 [] (Nat.zero_le _)
 rw[List.drop_zero,List.length_nil]at h;dsimp only at h;have e3:∀l:List ZX,Wb (Q.mk (Xk w) []) (([]:List (List ZX)).length+1) 0 l=l:=fun l=>by rw[Wb];rfl
 unfold UO;dsimp only;show(jT _ _ 0 []).length<=af br (Xk w)+0
 omega
theorem yn(A:ZI):∀(m:Nat)(l:List Int)(v:Nat),A.b.length<m+v->v<=A.b.length->l.length<=v->(JI A m l v).length<=A.b.length
 |0,l,v,h,hv,hl=>Y
 |m+1,l,v,h,hv,hl=>by
  refine YY (p:=fun z:List Int=>z.length<=A.b.length) (fun hc=>?_) (fun _=>Y);have ac:v<A.b.length:=bE
  refine g (p:=fun z:List Int=>z.length<=A.b.length) (yn A m _ _ Y ac Y) ?_;refine g (p:=fun z:List Int=>z.length<=A.b.length) (yn A m _ _ Y ac aC) (yn A m _ _ Y ac Y)
theorem FH(A:ZI):(KI A).length<=A.b.length:=
 yn A _ [] 0 ab (Nat.zero_le _) (Nat.zero_le _)
theorem UP{A:ZI}(h:R n A):R n (KI A):=by have k:=FH A;have k2:=Zx (ZI.Yh h);exact⟨Y,fun _ _=>trivial⟩
theorem Rv:∀(n:Nat)(x:Int)(l:List UInt8),(∀d∈l,45<=d.toNat/\d.toNat<58)->∀d∈JC n x l,45<=d.toNat/\d.toNat<58
 |0,x,l,h=>fun d hd=>by cases hd
 |n+1,x,l,h=>by
  have O:∀y:Int,48<=y->y<=57->∀d∈([UInt8.ofInt (W y)]:List UInt8)++l,45<=d.toNat/\d.toNat<58:=fun y M Z d hd=>by
   rcases List.mem_append.1 hd with hd|hd
   ·rw[List.mem_singleton.1 hd];have e:=oi (W y)
    have e2:W y=y:=by rw[Xf];omega
    rw[e2]at e⊢;have e3:IntKind.u8.wrap y=y:=by rw[IntKind.wrap_u8];omega
    omega
   ·exact h d hd
  refine YY (p:=fun r:List UInt8=>∀d∈r,45<=d.toNat/\d.toNat<58) (fun M=>?_) (fun M=>?_)
  ·have M:=of_decide_eq_true M;have G:=Int.tmod_lt_of_pos (-x) (show _<10 by decide);rw[Int.neg_tmod]at G;have hw:48<=48+W (-Int.tmod x 10)/\48+W (-Int.tmod x 10)<=57:=by simp only[Xf];omega
   exact g (p:=fun r:List UInt8=>∀d∈r,45<=d.toNat/\d.toNat<58) (O _ hw.1 hw.2) (Rv n _ _ (O _ hw.1 hw.2))
  ·have M:=of_decide_eq_false M;have G:=Int.tmod_lt_of_pos x (show _<10 by decide);exact g (p:=fun r:List UInt8=>∀d∈r,45<=d.toNat/\d.toNat<58) (O _ Y Y) (Rv n _ _ (O _ Y Y))
theorem FB(x:Int):∀d∈(Zu x).data.toList,45<=d.toNat/\d.toNat<58:=by
 unfold Zu;have h:=Rv 21 x [] (fun d hd=>by cases hd)
 refine g (p:=fun r:ByteArray=>∀d∈r.data.toList,45<=d.toNat/\d.toNat<58) (fun d hd=>?_) h;simp at hd;rcases hd with rfl|hd
 ·decide
 ·exact h d hd
def nz(lit:ByteArray)(i:Nat):Bool:=(List.range (i+1)).all (fun j=>(Zu (j:Int)).data.toList !=(lit.data.toList.reverse.takeWhile (·!=32)).reverse)
theorem qU{w lit:ByteArray}{l:List Int}(h:(decide (((w++(⟨#[32]⟩:ByteArray))++(Zu (l.length:Int)))=lit))=true)(k:nz lit i=true):i<l.length:=by
 refine Nat.lt_of_not_le fun hc=>?_;have h:=of_decide_eq_true h
 have k:=List.all_eq_true.1 k l.length (List.mem_range.2 Y);have hd:=FB (l.length:Int);subst h;generalize Zu _=f at k hd;have e:(((w++(⟨#[32]⟩:ByteArray))++f).data.toList.reverse.takeWhile (·!=32))=f.data.toList.reverse:=by
  simp;rw[List.takeWhile_append_of_pos (fun d hh=>by
   have:=hd d (List.mem_reverse.1 hh);simp;rintro rfl;exact absurd this.1 au)]
  simp
 rw[e]at k;grind
theorem Ow(A:List ByteArray):∀(n:Nat)(acc:List Int)(v:Nat),A.length<n+v->v<=A.length->∀l,Jj A n acc v= .inr l->l.length=acc.length+(A.length-v)
 |0,acc,v,M,Z=>Y
 |n+1,acc,v,M,Z=>by
  refine YY (p:=fun r:Sum _ (List Int)=>∀l,r= .inr l->l.length=acc.length+_) (fun hc=>?_) (fun hc l h=>?_)
  ·have hc:=of_decide_eq_true hc;refine g (p:=fun r:Sum _ (List Int)=>∀l,r= .inr l->l.length=acc.length+_) (fun l h=>by cases h) (fun l h=>?_);rw[Ow A n _ _ Y Y l h,List.length_append,List.length_singleton];omega
  ·have hc:=of_decide_eq_false hc;cases h;omega
theorem jk(A:List ByteArray)(h:(Zb A).2=true):(Zb A).1.length=A.length:=by
 have hk:∀n acc v r,Jj A n acc v= .inl r->r.2=false:=by
  intro n;induction n with
  |zero=>intro acc v r h;cases h
  |succ n ih=>intro acc v r;refine g (p:=fun q:Sum _ _=>q= .inl r->r.2=false) ?_ (fun h=>by cases h);grind
 have hl:=Ow A (A.length+1) [] 0 ab (Nat.zero_le _);unfold Zb at h⊢;cases e:Jj A _ [] 0 with
 |inl r=>rw[e]at h;exact absurd (hk _ _ _ _ e) aC
 |inr l=>simpa using hl l e
theorem S3(A:ByteArray):∀x∈Zt A,0<x.size:=by
 have ag:∀n (acc:List ByteArray) v,(∀x∈acc,0<x.size)->∀x∈xR A n acc v,0<x.size:=by
  intro n;induction n with
  |zero=>intro acc v _ x O;cases O
  |succ n ih=>
   intro acc v ha;refine g (p:=fun r:List ByteArray=>∀x∈r,0<x.size) (YY (p:=fun r:List ByteArray=>∀x∈r,0<x.size) (fun hc=>ih _ _ fun x O=>?_) (fun _=>ih _ _ ha)) ha;rcases List.mem_append.1 O with O|O
   ·exact ha x O
   ·rw[List.mem_singleton.1 O];refine Nat.pos_of_ne_zero fun e=>?_;rw[show I _ v=_ from ByteArray.ext (Array.eq_empty_of_size_eq_zero e)]at hc;cases hc
 exact ag _ _ _ (fun x O=>by cases O)
theorem R3:∀(n:Nat)(x:Int)(l:List UInt8),(n=21\/x.natAbs<10^n)->0<n->∃d t,JC n x l=d::t++l
 |0,x,l,h,hn=>Y
 |n+1,x,l,h,_=>by
  have hr:∀c,_=false->∃d t,JC n (W (Int.tdiv x 10)) ([c]++l)=d::t++l:=fun c Z=>by obtain⟨d,t,e⟩:=R3 n _ ([c]++l) (dW h Z).2 (dW h Z).1;grind
  refine g (p:=fun r:List UInt8=>∃d t,r=d::t++l) ?_ ?_<;>exact YY (p:=fun r:List UInt8=>∃d t,r=d::t++l) (fun _=>⟨_,[],rfl⟩) (hr _)
theorem us(x:Int):0<(Zu x).size:=by
 obtain⟨d,t,e⟩:=R3 21 x [] (.inl rfl) au;unfold Zu;rw[e];refine g (p:=fun r:ByteArray=>0<r.size) ?_ ?_
 ·rw[ByteArray.size_append];exact Nat.add_pos_left au _
 ·exact Nat.zero_lt_succ _
theorem EH{l:List ByteArray}{b:ByteArray}(h:∀x∈l,0<x.size):∀(n:Nat)(v:ByteArray)(i:Nat),l.length<n+i->i<=l.length->(i<l.length\/0<v.size)->0<(KC l b n v i).size
 |0,v,i,hn,hv,hi=>Y
 |n+1,v,i,hn,hv,hi=>by
  rw[KC];by_cases ac:i<l.length
  ·have M:0<(I l i).size:=h _ (by rw[WY ac];exact List.getElem_mem ac);rw[decide_eq_true (show(i:Int)<_ by omega),XN];refine g (p:=fun r:ByteArray=>0<r.size) ?_ ?_<;>exact EH h n _ _ Y ac (.inr aC)
  ·rw[decide_eq_false (show ¬(i:Int)<(l.length:Int)by omega),XA];omega
theorem vD{F:Nat->Int->Nat->Sum (Int×Bool) Int}{ae:Nat}{c:Nat->Bool}{b:Nat->Int}(h0:∀x v,F 0 x v= .inr default)(U:∀n x v,F (n+1) x v=(bif(decide ((v:Int)<(ae:Int)))then(bif c v then(.inl (0,false))else F n (W ((W (10*x))+(W (IntKind.u8.wrap (b v-48))))) (v+1))else(.inr x)))(hc:∀v,c v=false->48<=b v/\b v<=57)(hl:ae<=13):∀n x v,0<=x->x<10^v->v<=ae->∀r,F n x v= .inr r->0<=r
 |0,x,v,O,a,hv=>fun r h=>by rw[h0]at h;cases h;exact Int.le_refl _
 |n+1,x,v,O,a,hv=>by
  rw[U];refine YY (p:=fun q:Sum _ Int=>∀r,q= .inr r->0<=r) (fun ac=>?_) (fun _ r h=>by cases h;exact O);have ac:=of_decide_eq_true ac
  refine YY (p:=fun q:Sum _ Int=>∀r,q= .inr r->0<=r) (fun _ r h=>by cases h) (fun G=>?_);have G:=hc v G
  have hp:(10:Int)^v<=1000000000000:=by have:_^v<=10^12:=Nat.pow_le_pow_right au Y;have Z:=Int.ofNat_le.2 this;rwa[Int.natCast_pow]at Z
  have hw:IntKind.u8.wrap (b v-48)=b v-48:=by rw[IntKind.wrap_u8];omega
  have he:W (W (10*x)+W (IntKind.u8.wrap (b v-48)))=10*x+(b v-48):=by rw[hw];simp only[Xf];omega
  exact vD h0 U hc hl n _ _ Y Y Y
theorem C5(A:ByteArray):0<=(XS A).1:=by
 unfold XS;refine YY (p:=fun r:Int×Bool=>0<=r.1) (fun _=>Int.le_refl _) (fun hc=>?_);have hl:A.size<=13:=by have:=(Bool.or_eq_false_iff.1 hc).2;have:=of_decide_eq_false this;omega
 have hk:∀n x v r,xL A n x v= .inl r->r.1=0:=by
  intro n;induction n with
  |zero=>intro x v r h;cases h
  |succ n ih=>intro x v r;rw[xL];grind
 have hp:=vD (F:=xL A) (ae:=A.size) (b:=fun v=>((a7 A v):Int)) (fun _ _=>rfl) (fun _ _ _=>rfl) (fun v h=>by
  have M:=of_decide_eq_false (Bool.or_eq_false_iff.1 h).1;have Z:=of_decide_eq_false (Bool.or_eq_false_iff.1 h).2;omega) hl (A.size+1) 0 0 (Int.le_refl _) au (Nat.zero_le _)
 cases e:xL A (A.size+1) 0 0 with
 |inl r=>show 0<=r.1;rw[hk _ _ _ _ e];exact Int.le_refl _
 |inr z=>exact g (p:=fun r:Int×Bool=>0<=r.1) (Int.le_refl _) (hp z e)
theorem wN(A:List ByteArray):∀x∈(Zb A).1,0<=x:=by
 have ag:∀n (acc:List Int) v,(∀x∈acc,0<=x)->(∀r,Jj A n acc v= .inl r->r.1=[])/\(∀l,Jj A n acc v= .inr l->∀x∈l,0<=x):=by
  intro n;induction n with
  |zero=>intro acc v _;exact⟨fun r h=>aY,fun l h=>(by cases h;intro x O;cases O)⟩
  |succ n ih=>
   intro acc v ha;let p:=fun q:Sum (List Int×Bool) (List Int)=>(∀r,q= .inl r->r.1=[])/\(∀l,q= .inr l->∀x∈l,0<=x)
   refine g (p:=p) (g (p:=p) ⟨fun r h=>cz,fun l h=>aY⟩ (ih _ _ fun x O=>?_)) ⟨fun r h=>aY,fun l h=>(by cases h;exact ha)⟩;rcases List.mem_append.1 O with O|O
   ·exact ha x O
   ·rw[List.mem_singleton.1 O];exact C5 _
 obtain⟨k1,k2⟩:=ag _ [] 0 (fun x O=>by cases O);unfold Zb;cases e:Jj A _ [] 0 with
 |inl r=>intro x O;have O:x∈r.1:=O;rw[k1 r e]at O;cases O
 |inr l=>exact k2 l e
theorem B1(A:ByteArray):0<=(Xh A).1:=by
 unfold Xh;refine YY (p:=fun r:Int×Bool=>0<=r.1) (fun _=>Int.le_refl _) (fun hc=>?_);have hl:A.size<=13:=by simp only[Z1,Bool.not_eq_false',Bool.and_eq_true,decide_eq_true_eq]at hc;omega
 have hk:∀n x v r,xP A n x v= .inl r->r.1=0:=by
  intro n;induction n with
  |zero=>intro x v r h;cases h
  |succ n ih=>intro x v r;rw[xP];grind
 have hp:=vD (F:=xP A) (ae:=A.size) (b:=fun v=>((a7 A v):Int)) (fun _ _=>rfl) (fun _ _ _=>rfl) (fun v h=>by
  have G:a7 A v<256:=UInt8.toNat_lt _;simp only[Z1,Bool.not_eq_false',Bool.and_eq_true,decide_eq_true_eq,Xf]at h;omega) hl (A.size+1) 0 0 (Int.le_refl _) au (Nat.zero_le _)
 cases e:xP A (A.size+1) 0 0 with
 |inl r=>show 0<=r.1;rw[hk _ _ _ _ e];exact Int.le_refl _
 |inr z=>exact g (p:=fun r:Int×Bool=>0<=r.1) (Int.le_refl _) (hp z e)
theorem J0(A:List ByteArray):∀x∈(Z2 A).1,0<=x:=by
 have ag:∀n (acc:List Int) v,(∀x∈acc,0<=x)->(∀r,Jp A n acc v= .inl r->∀x∈r.1,0<=x)/\(∀l,Jp A n acc v= .inr l->∀x∈l,0<=x):=by
  intro n;induction n with
  |zero=>intro acc v _;exact⟨fun r h=>aY,fun l h=>(by cases h;intro x O;cases O)⟩
  |succ n ih=>
   intro acc v ha;let p:=fun q:Sum (List Int×Bool) (List Int)=>(∀r,q= .inl r->∀x∈r.1,0<=x)/\(∀l,q= .inr l->∀x∈l,0<=x)
   refine g (p:=p) (g (p:=p) ⟨fun r h=>(by cases h;exact ha),fun l h=>aY⟩ (ih _ _ fun x O=>?_)) ⟨fun r h=>aY,fun l h=>(by cases h;exact ha)⟩;rcases List.mem_append.1 O with O|O
   ·exact ha x O
   ·rw[List.mem_singleton.1 O];exact B1 _
 obtain⟨k1,k2⟩:=ag _ [] 0 (fun x O=>by cases O);unfold Z2;cases e:Jp A (A.length+1) [] 0 with
 |inl r=>exact k1 r e
 |inr l=>exact k2 l e
theorem Od(A:List ByteArray):∀(n:Nat)(acc:List Int)(v:Nat),A.length<n+v->v<=A.length->(∀r,Jp A n acc v= .inl r->r.2=false)/\∀l,Jp A n acc v= .inr l->l.length=acc.length+(A.length-v)
 |0,acc,v,M,Z=>Y
 |n+1,acc,v,M,Z=>by
  let p:=fun r:Sum (List Int×Bool) (List Int)=>(∀q,r= .inl q->q.2=false)/\∀l,r= .inr l->l.length=acc.length+(A.length-v)
  refine YY (p:=p) (fun hc=>?_) (fun hc=>⟨fun q h=>aY,fun l h=>?_⟩)
  ·have hc:=of_decide_eq_true hc;refine g ⟨fun q h=>cz,fun l h=>aY⟩ ?_;obtain⟨k1,k2⟩:=Od A n _ (v+1) Y Y;refine⟨k1,fun l h=>?_⟩;rw[k2 l h,List.length_append,List.length_singleton];omega
  ·have hc:=of_decide_eq_false hc;cases h;omega
theorem VL(A:List ByteArray)(h:(Z2 A).2=true):(Z2 A).1.length=A.length:=by
 obtain⟨k1,k2⟩:=Od A (A.length+1) [] 0 ab (Nat.zero_le _);unfold Z2 at h⊢;cases e:Jp A _ [] 0 with
 |inl r=>rw[e]at h;exact absurd (k1 r e) aC
 |inr l=>simpa using k2 l e
theorem R1(A:ByteArray)(C:Int):∀(n:Nat)(acc:List ByteArray)(f:Int)(v:Nat),A.size+1<n+v->v<=A.size+1->(∀x∈acc,x.size<=A.size)->(JH A C n acc f v).length<=acc.length+(A.size+1-v)/\∀x∈JH A C n acc f v,x.size<=A.size
 |0,acc,f,v,h,hv,ha=>Y
 |n+1,acc,f,v,h,hv,ha=>by
  let p:=fun r:List ByteArray=>r.length<=acc.length+(A.size+1-v)/\∀x∈r,x.size<=A.size
  refine YY (p:=p) (fun hc=>?_) (fun _=>⟨Nat.le_add_right _ _,ha⟩);have hc:=of_decide_eq_true hc
  refine g ?_ ?_
  ·obtain⟨M,Z⟩:=R1 A C n (acc++[A.extract f.toNat v]) _ (v+1) Y Y (fun x O=>by
    rcases List.mem_append.1 O with O|O
    ·exact ha x O
    ·rw[List.mem_singleton.1 O,ByteArray.size_extract];omega)
   refine⟨?_,Z⟩;rw[List.length_append,List.length_singleton]at M;omega
  ·obtain⟨M,Z⟩:=R1 A C n acc f (v+1) Y Y ha;grind
theorem Nh{A:ByteArray}(h:A.size+1<=n):R n (Zk A C):=by obtain⟨M,Z⟩:=R1 A C (A.size+2) [] 0 0 Y (Nat.zero_le _) (fun x O=>by cases O);exact⟨Nat.le_trans M a0,fun x O=>Nat.le_trans (Z x O) Y⟩
theorem QZ{A:ByteArray}(h:A.size+1<=n):R n (Zt A):=by
 obtain⟨g1,g2⟩:=Nh (C:=32) h;have ag:∀m (acc:List ByteArray) v,(Zk A 32).length<m+v->v<=(Zk A 32).length->(∀x∈acc,x.size<=n)->(xR A m acc v).length<=acc.length+((Zk A 32).length-v)/\∀x∈xR A m acc v,x.size<=n:=by
  intro m;induction m with
  |zero=>intro acc v M Z _;omega
  |succ m ih=>
   intro acc v M Z ha;rw[xR];let p:=fun r:List ByteArray=>r.length<=acc.length+((Zk A 32).length-v)/\∀x∈r,x.size<=n
   refine YY (p:=p) (fun hc=>?_) (fun _=>⟨Nat.le_add_right _ _,ha⟩);have hc:=of_decide_eq_true hc
   refine g (p:=p) ?_ ?_
   ·obtain⟨k1,k2⟩:=ih (acc++[I (Zk A 32) v]) (v+1) Y Y (fun x O=>by
     rcases List.mem_append.1 O with O|O
     ·exact ha x O
     ·rw[List.mem_singleton.1 O];exact ZY (n:=n) ⟨g1,g2⟩)
    refine⟨?_,k2⟩;rw[List.length_append,List.length_singleton]at k1;omega
   ·obtain⟨k1,k2⟩:=ih acc (v+1) Y Y ha;exact⟨Y,k2⟩
 obtain⟨k1,k2⟩:=ag ((Zk A 32).length+1) [] 0 Y (Nat.zero_le _) (fun x O=>by cases O);exact⟨Nat.le_trans k1 (by simp;exact g1),k2⟩
theorem Gy(A:List ByteArray):∀(n:Nat)(acc:List Int)(v:Nat)(r:(List Int)×Bool),Jj A n acc v= .inl r->r.1=[]
 |0,acc,v,r=>fun h=>aY
 |n+1,acc,v,r=>by
  rw[Jj];let p:=fun q:Sum (List Int×Bool) (List Int)=>q= .inl r->r.1=[]
  exact g (p:=p) (g (p:=p) (fun h=>by cases h;rfl) (Gy A n _ _ _)) (fun h=>by cases h)
theorem jM{A:List ByteArray}(h:A.length<=n):R n (Zb A).1:=by
 refine⟨?_,fun _ _=>trivial⟩;have hl:=Ow A (A.length+1) [] 0 Y (Nat.zero_le _)
 unfold Zb;cases e:Jj A (A.length+1) [] 0 with
 |inl r=>show r.1.length<=n;rw[Gy _ _ _ _ _ e];exact Nat.zero_le _
 |inr l=>show l.length<=n;rw[hl l e];simp;exact h
theorem OS(A:Int)(C:List ByteArray)(E:Int):∀(m v:Nat)(l:List Int),(zl A C E m v l).length<=l.length+m
 |0,_,_=>Nat.zero_le _
 |m+1,v,l=>by
  rw[zl];refine g (p:=fun r:List Int=>r.length<=l.length+(m+1)) ?_ Y;have:=OS A C E m (v+1) (l++[pB 1 (kx E [A,v])])
  grind
theorem jS{A:Int}{C:List ByteArray}{E:Int}(h:R n C)(hn:C.length+1<=n):R n (Xn A C E).1:=by
 unfold Xn;have:=OS A C E (C.length+1) 0 []
 refine g (p:=fun r:ZO×Bool=>R n r.1) ⟨X.zero n,X.zero n⟩ (g (p:=fun r:ZO×Bool=>R n r.1) ⟨X.zero n,X.zero n⟩ ⟨h,Nat.le_trans this (by simpa using hn),fun _ _=>trivial⟩)
theorem Fa(G:n<=9223372036854775807)(h:R n w)(he:R n e)(hn:17<=n):R (n+1) (YO w e).1:=
 g (p:=fun r:P×ByteArray=>R (n+1) r.1) (ZJ (Nat.le_succ n) h) (Gg G h he hn)
theorem B9(G:n<=9223372036854775807)(h:R n w)(hn:a.size<=200->a.size+5<=n)(q:17<=n):R (n+1) (qd w a).1:=by
 have M:R (n+1) w:=ZJ (Nat.le_succ n) h;unfold qd;let p:=fun r:P×ByteArray=>R (n+1) r.1
 refine YY (p:=p) (fun _=>M) (fun hc=>?_);have U:a.size<=200:=by have:=of_decide_eq_false (Bool.or_eq_false_iff.1 hc).1;omega
 have hn:=hn U;have hw:R (a.size+1) (Zt a):=QZ (Nat.le_refl _);generalize Zt a=b at hw;have hN:∀l:List ByteArray,l.length<=a.size+1->R n (Zb l).1:=fun l hl=>jM Y;have hl:=Zx hw;have hd:R n (ZO.mk 0 [] []):=⟨X.zero n,X.zero n⟩;have hm:∀(t:Int)(k:Nat),R n (Xn t (b.drop k) 11).1:=fun t k=>by
  have c:(b.drop k).length<=a.size+1:=by rw[List.length_drop];omega
  exact jS ⟨Y,fun x O=>Nat.le_trans (hw.2 x (List.mem_of_mem_drop O)) Y⟩ Y
 have hg:∀k,p (yu w b k):=fun k=>by unfold yu;refine g (p:=p) M (g (p:=p) M (g (p:=p) ?_ ?_))<;>exact g (p:=p) M (Gg G h ⟨hm _ _,X.zero n⟩ Y)
 have hr:p (xT w b):=by
  unfold xT;have hi:R n (Zb (b.drop 3)).1:=hN _ (by rw[List.length_drop];omega)
  refine g (p:=p) M (g (p:=p) ?_ ?_)<;>exact g (p:=p) M (Fa G h ⟨hd,hi⟩ Y)
 have he:∀k x y z u,p (YO w (YS.mk k x y z u (ZO.mk 0 [] []) [])):=fun k x y z u=>Fa G h ⟨hd,X.zero n⟩ Y;refine g (p:=p) (hg 4) (g (p:=p) (hg 3) (g (p:=p) hr (g (p:=p) M ?_)));exact g (p:=p) (he _ _ _ _ _) (g (p:=p) (he _ _ _ _ _) (g (p:=p) (he _ _ _ _ _) (g (p:=p) (he _ _ _ _ _) (g (p:=p) (he _ _ _ _ _) (g (p:=p) (he _ _ _ _ _) (g (p:=p) (he _ _ _ _ _) M))))))
theorem Tm(A:ByteArray):∀(n:Nat)(acc:List ByteArray)(w:ByteArray)(v:Nat),A.size+1<n+v->v<=A.size+1->w.size<=v->(∀x∈acc,x.size<=A.size)->(zL A n acc w v).length<=acc.length+(A.size+1-v)/\∀x∈zL A n acc w v,x.size<=A.size
 |0,acc,w,v,h,hv,hw,ha=>Y
 |n+1,acc,w,v,h,hv,hw,ha=>by
  rw[zL];let p:=fun r:List ByteArray=>r.length<=acc.length+(A.size+1-v)/\∀x∈r,x.size<=A.size
  have h0:(⟨#[]⟩:ByteArray).size<=v+1:=Nat.zero_le _;refine YY (p:=p) (fun hc=>?_) (fun _=>⟨Nat.le_add_right _ _,ha⟩);have hc:=of_decide_eq_true hc;refine YY (p:=p) (fun hd=>?_) (fun _=>g (p:=p) ?_ ?_)
  ·have hd:=of_decide_eq_true (Bool.and_eq_true_iff.1 hd).1;obtain⟨M,Z⟩:=Tm A n acc (w++A.extract v (W ((v:Int)+1)).toNat) (v+1) Y Y (by
    have:(W ((v:Int)+1)).toNat<=v+1:=by rw[Xf];omega
    rw[ByteArray.size_append,ByteArray.size_extract];omega) ha
   exact⟨Y,Z⟩
  ·obtain⟨M,Z⟩:=Tm A n (acc++[w]) ⟨#[]⟩ (v+1) Y Y h0 (fun x O=>by
    rcases List.mem_append.1 O with O|O
    ·exact ha x O
    ·rw[List.mem_singleton.1 O];omega)
   refine⟨?_,Z⟩;rw[List.length_append,List.length_singleton]at M;omega
  ·obtain⟨M,Z⟩:=Tm A n acc ⟨#[]⟩ (v+1) Y Y h0 ha;exact⟨Y,Z⟩
theorem Xq{A:ByteArray}(h:A.size+1<=n):R n (QF A):=by obtain⟨M,Z⟩:=Tm A (A.size+2) [] ⟨#[]⟩ 0 Y (Nat.zero_le _) (Nat.zero_le _) (fun x O=>by cases O);exact⟨Nat.le_trans M a0,fun x O=>Nat.le_trans (Z x O) Y⟩
theorem FO(A:List ByteArray):∀(n:Nat)(acc:List Int)(v:Nat),A.length<n+v->v<=A.length->∀r,Jp A n acc v= .inl r->r.1.length<=acc.length+(A.length-v)
 |0,acc,v,h,hv=>Y
 |n+1,acc,v,h,hv=>by
  rw[Jp];let p:=fun q:Sum (List Int×Bool) (List Int)=>∀r,q= .inl r->r.1.length<=acc.length+(A.length-v)
  refine YY (p:=p) (fun hc=>?_) (fun _ r h=>by cases h);have hc:=of_decide_eq_true hc
  refine g (p:=p) (fun r h=>by cases h;exact Nat.le_add_right _ _) (fun r hr=>?_);have:=FO A n _ (v+1) Y Y r hr
  rw[List.length_append,List.length_singleton]at this;omega
theorem xJ{A:List ByteArray}(h:A.length<=n):R n (Z2 A).1:=by
 refine⟨?_,fun _ _=>trivial⟩;have hl:=(Od A (A.length+1) [] 0 Y (Nat.zero_le _)).2
 have hr:=FO A (A.length+1) [] 0 Y (Nat.zero_le _);unfold Z2;cases e:Jp A (A.length+1) [] 0 with
 |inl r=>exact Nat.le_trans (hr r e) (by simp;exact h)
 |inr l=>show l.length<=n;rw[hl l e];simp;exact h
theorem pb(h:R n w)(he:R n e)(hn:17<=n):R (n+1) (Ts w e).1:=
 g (p:=fun r:P×ByteArray=>R (n+1) r.1) (ZJ (Nat.le_succ n) h) (Ix h he hn)
theorem HO(h:R n w)(hn:210<=n):R (n+1) (XX w a).1:=by
 have M:R (n+1) w:=ZJ (Nat.le_succ n) h;unfold XX;let p:=fun r:P×ByteArray=>R (n+1) r.1
 refine YY (p:=p) (fun _=>M) (fun hc=>?_);have U:a.size<=200:=by have:=of_decide_eq_false (Bool.or_eq_false_iff.1 hc).2;omega
 have hw:R 205 (QF a):=Xq Y;generalize QF a=b at hw;have hN:∀l:List ByteArray,l.length<=205->R n (Z2 l).1:=fun l hl=>xJ Y;have hl:=Zx hw;have hd:R n (ZO.mk 0 [] []):=⟨X.zero n,X.zero n⟩;have hm:∀(t:Int)(k:Nat),R n (QM t (b.drop k) 11).1:=fun t k=>by
  have c:(b.drop k).length<=205:=by rw[List.length_drop];omega
  exact qy ⟨Y,fun x O=>Nat.le_trans (hw.2 x (List.mem_of_mem_drop O)) Y⟩ Y
 have hg:∀k,p (kH w b k):=fun k=>by unfold kH;refine g (p:=p) M (g (p:=p) M (g (p:=p) M (g (p:=p) ?_ ?_)))<;>exact g (p:=p) M (Ix h ⟨hm _ _,X.zero n⟩ Y)
 have hr:p (Wj w b):=by
  unfold Wj;have hi:R n (Z2 (b.drop 3)).1:=hN _ (by rw[List.length_drop];omega)
  refine g (p:=p) M (g (p:=p) ?_ ?_)<;>exact g (p:=p) M (pb h ⟨hd,hi⟩ Y)
 have hp:R (n+1) (K7 w b).1:=by
  have ag:∀m v r,z8 w b m v= .inl r->R (n+1) r.1:=by
   intro m;induction m with
   |zero=>intro v r h;cases h
   |succ m ih=>
    intro v r;rw[z8];let q:=fun x:Sum (P×ByteArray×Bool) Unit=>x= .inl r->R (n+1) r.1
    refine g (p:=q) (g (p:=q) (ih _ _) (g (p:=q) (fun e=>?_) (fun e=>?_))) (fun e=>by cases e)
    ·cases e;exact M
    ·cases e;exact pb h ⟨hd,X.zero n⟩ Y
  unfold K7;cases e:z8 w b 8 0 with
  |inl r=>exact ag _ _ _ e
  |inr u=>exact M
 exact g (p:=p) (hg 4) (g (p:=p) (hg 3) (g (p:=p) hr (g (p:=p) hp M)))
theorem PX(G:n<=9223372036854775807)(h:R n w)(hn:210<=n):R (n+1) (Z9 w a).1:=B9 G h (fun _=>Y) Y
theorem PQ(A:ByteArray)(C:Int):∀(n:Nat)(acc:List ByteArray)(f:Int)(v:Nat),0<acc.length->v<=A.size+1->A.size+1<n+v->0<(JH A C n acc f v).length
 |0,acc,f,v,h,hv,hn=>Y
 |n+1,acc,f,v,h,hv,hn=>by
  rw[JH];refine YY (p:=fun r:List ByteArray=>0<r.length) (fun hc=>?_) (fun _=>h);have hc:=of_decide_eq_true hc
  exact g (p:=fun r:List ByteArray=>0<r.length) (PQ A C n _ _ _ (by rw[List.length_append];omega) Y Y) (PQ A C n _ _ _ h Y Y)
theorem G1(A:ByteArray)(C:Int):∀(n:Nat)(acc:List ByteArray)(f:Int)(v:Nat),v<=A.size->A.size+1<n+v->0<(JH A C n acc f v).length
 |0,acc,f,v,hv,hn=>Y
 |n+1,acc,f,v,hv,hn=>by
  rw[JH,decide_eq_true (show(v:Int)<=(A.size:Int)by omega),XN];refine YY (p:=fun r:List ByteArray=>0<r.length) (fun _=>PQ A C n _ _ _ (by rw[List.length_append];exact Nat.lt_add_left _ (Nat.zero_lt_succ _)) Y Y) (fun hc=>?_);have:¬v=A.size:=fun e=>by have:=(Bool.or_eq_false_iff.1 hc).1;simp at this;omega
  exact G1 A C n _ _ _ Y Y
theorem DQ(A:ByteArray)(C:Int):0<(Zk A C).length:=G1 A C (A.size+2) [] 0 0 (Nat.zero_le _) Y
theorem Cj(w:P)(e:YS):(YO w e).1.a.length=w.a.length:=
 g (p:=fun r:P×ByteArray=>r.1.a.length=w.a.length) rfl (Dv w e)
theorem TG(w:P)(a:ByteArray):(Z9 w a).1.a.length=w.a.length:=by
 show(qd w a).1.a.length=_;unfold qd yu xT;let p:=fun r:P×ByteArray=>r.1.a.length=w.a.length
 have M:∀s,p (w,s):=fun _=>rfl;have Z:∀e,p (YO w e):=Cj w;have h3:∀e s,p ((QN w e).1,s):=fun e _=>Dv w e;refine g (p:=p) (M _) (g (p:=p) ?_ (g (p:=p) ?_ (g (p:=p) ?_ (g (p:=p) (M _) ?_))))
 ·exact g (p:=p) (M _) (g (p:=p) (M _) (g (p:=p) (g (p:=p) (M _) (h3 _ _)) (g (p:=p) (M _) (h3 _ _))))
 ·exact g (p:=p) (M _) (g (p:=p) (M _) (g (p:=p) (g (p:=p) (M _) (h3 _ _)) (g (p:=p) (M _) (h3 _ _))))
 ·exact g (p:=p) (M _) (g (p:=p) (g (p:=p) (M _) (Z _)) (g (p:=p) (M _) (Z _)))
 ·exact g (p:=p) (Z _) (g (p:=p) (Z _) (g (p:=p) (Z _) (g (p:=p) (Z _) (g (p:=p) (Z _) (g (p:=p) (Z _) (g (p:=p) (Z _) (M _)))))))
theorem X5(hn:n<=275)(h:R n w)(ha:w.a.length=2):am w.a<=1048576/\CF (Q.mk (Xk w) [])<=67108900:=by have M:=hs h;have Z:=ov h;rw[ha]at M Z;have h3:n*n<=275*275:=Nat.mul_le_mul hn hn;have h4:2*n*(n*n)<=2*275*(275*275):=Nat.mul_le_mul Y h3;exact⟨Y,Y⟩
theorem HL(x:Int):(YK x).a.length=2:=by unfold YK;grind
theorem L7(h:R n s):R n (s.extract i j):=by
 have h:=XR h;show(s.extract i j).size<=n
 rw[ByteArray.size_extract];omega
theorem By{α:Type}[Inhabited α][X α]{l:List α}(h:R n l):R n l.tail:=by rw[<-List.drop_one];exact jr h
theorem EN{A:ZR}{C:t}(h:R n A):R n (zA A C):=by
 have ag:∀n (acc:List Int) v,A.a.length<n+v->v<=A.a.length->(J9 A C n acc v).length=acc.length+(A.a.length-v):=by
  intro n;induction n with
  |zero=>intro acc v M Z;omega
  |succ n ih=>intro acc v M Z;rw[J9];grind
 have Z:=ag (A.a.length+1) [] 0 Y Y;have h3:=Zx (ZR.QK h);refine⟨?_,fun _ _=>trivial⟩;unfold zA;grind
theorem R2{A:ZR}{C:t}(h:R n A):R n (KL A C):=by
 have ag:∀n (acc:List Int) v,A.a.length<n+v->v<=A.a.length->(KD A C n acc v).length=acc.length+(A.a.length-v):=by
  intro n;induction n with
  |zero=>intro acc v M Z;omega
  |succ n ih=>intro acc v M Z;rw[KD];grind
 have Z:=ag (A.a.length+1) [] 0 Y Y;have h3:=Zx (ZR.QK h);refine⟨?_,fun _ _=>trivial⟩;unfold KL;grind
theorem TA{n:Nat}(A:Q)(C:t)(h:R n A):∀(m:Nat)(l:List (List Int))(i:Nat),i<=A.a.length->R n l->l.length+(A.a.length-i)<=n->R n (Qw A C m l i)
 |0,_,_,_,_,_=>⟨Nat.zero_le _,fun x O=>by cases O⟩
 |m+1,l,i,hi,hl,hk=>by
  simp only[Qw];by_cases hv:i<A.a.length
  ·rw[show decide ((i:Int)<(A.a.length:Int))=true by simpa using hv,cond_true];refine TA A C h m _ (i+1) hv ⟨by simp;omega,fun x O=>?_⟩ a0;rcases List.mem_append.1 O with O|O
   ·exact hl.2 x O
   ·rw[List.mem_singleton.1 O];exact EN (ZY (Q.Yo h))
  ·rw[show decide ((i:Int)<(A.a.length:Int))=false by simpa using hv,cond_false];exact hl
theorem Qm{A:Q}{C:t}(h:R n A):R n (Jh A C):=
 TA A C h _ [] 0 (Nat.zero_le _) ⟨Nat.zero_le _,fun x O=>by cases O⟩ eg
theorem U9{n:Nat}(A:Q)(C:t)(h:R n A):∀(m:Nat)(l:List (List Int))(i:Nat),i<=A.a.length->R n l->l.length+(A.a.length-i)<=n->R n (Qs A C m l i)
 |0,_,_,_,_,_=>⟨Nat.zero_le _,fun x O=>by cases O⟩
 |m+1,l,i,hi,hl,hk=>by
  simp only[Qs];by_cases hv:i<A.a.length
  ·rw[show decide ((i:Int)<(A.a.length:Int))=true by simpa using hv,cond_true];refine U9 A C h m _ (i+1) hv ⟨by simp;omega,fun x O=>?_⟩ a0;rcases List.mem_append.1 O with O|O
   ·exact hl.2 x O
   ·rw[List.mem_singleton.1 O];exact R2 (ZY (Q.Yo h))
  ·grind
theorem Qh{A:Q}{C:t}(h:R n A):R n (JW A C):=
 U9 A C h _ [] 0 (Nat.zero_le _) ⟨Nat.zero_le _,fun x O=>by cases O⟩ eg
theorem Gh(l:List Int)(x:Int):(yR l x).length<=l.length+1:=by unfold yR;refine g (p:=fun r:List Int=>r.length<=l.length+1) (Nat.le_succ _) ?_;simp;omega
theorem Ll(A:ZU):∀(n:Nat)(l:List Int)(v:Nat),v<=A.a.a.length->(jf A n l v).length<=l.length+(A.a.a.length-v)
 |0,l,v,hv=>Nat.zero_le _
 |n+1,l,v,hv=>by
  rw[jf];refine YY (p:=fun r:List Int=>r.length<=l.length+(A.a.a.length-v)) (fun hc=>?_) (fun _=>Nat.le_add_right _ _);have hc:=of_decide_eq_true hc
  have M:=Ll A n (yR l (I A.a.a v).c) (v+1) Y;have Z:=Gh l (I A.a.a v).c;omega
theorem Rl{A:ZU}(h:R n A):R (n+1) (Vi A):=by
 refine⟨?_,fun _ _=>trivial⟩;have M:=Ll A (A.a.a.length+1) [A.d.c] 0 (Nat.zero_le _)
 have Z:=Zx (ZR.QK (ZU.YM h));exact Nat.le_trans M a0
theorem BD(C:t):∀n (x:Int) v,C.a.length<n+v->v<=C.a.length->0<=x->x+(C.a.length-v:Nat)<=1000->Ja C n x v<=x+(C.a.length-v:Nat)/\(Ja C n x v=x+(C.a.length-v:Nat)↔∀i,v<=i->i<C.a.length->I C.a i=true)
 |0,x,v,h,hv,_,_=>Y
 |n+1,x,v,h,hv,O,G=>by
  rw[Ja];by_cases ac:v<C.a.length
  ·rw[decide_eq_true (show(v:Int)<(C.a.length:Int)by omega),XN];cases U:I C.a v with
   |false=>
    rw[XA];have hh:=BD C n x (v+1) Y ac O Y
    refine⟨Y,fun e=>Y,fun e=>?_⟩;rw[e v (Nat.le_refl _) ac]at U;cases U
   |true=>
    rw[XN,show W (x+1)=x+1 by rw[Xf];omega];have hh:=BD C n (x+1) (v+1) Y ac Y Y
    refine⟨Y,fun e i M Z=>?_,fun e=>?_⟩
    ·rcases Nat.eq_or_lt_of_le M with rfl|h3
     ·exact U
     ·exact hh.2.1 Y i h3 Z
    ·have:=hh.2.2 (fun i M Z=>e i Y Z);omega
  ·rw[decide_eq_false (show ¬(v:Int)<(C.a.length:Int)by omega),XA];exact⟨Y,fun _ i M Z=>Y,fun _=>Y⟩
theorem Qa{a:t}(h:z3 a=true):(a.a.length<=6/\a.b.length=a.a.length/\a.d.length=a.a.length/\a.f.length=a.a.length)/\∀i,i<a.a.length->I a.a i=false->(I a.f i).length=a.c.length:=by
 have ag:∀n v p q r,Jb a n v p q= .inr r->a.a.length<n+v->∀i,v<=i->i<a.a.length->I a.a i=false->(I a.f i).length=a.c.length:=by
  intro n;induction n with
  |zero=>intro v p q r _ hn i M Z;omega
  |succ n ih=>
   intro v p q r hr hn i M Z h3;rw[Jb]at hr;have ac:v<a.a.length:=Y
   rw[decide_eq_true (show(v:Int)<(a.a.length:Int)by omega),XN]at hr;rcases Nat.eq_or_lt_of_le M with rfl|h4
   ·rw[h3,XA]at hr;cases hc:(((!decide (I a.b v=(⟨#[]⟩:ByteArray)))||(I a.d v !=0))||(((I a.f v).length:Int)!=(a.c.length:Int)))with
    |true=>rw[hc]at hr;cases hr
    |false=>have:=(Bool.or_eq_false_iff.1 hc).2;simp at this;omega
   ·cases U:I a.a v with
    |true=>
     rw[U,XN]at hr;cases hc:decide (((I a.f v).length:Int)>0)with
     |true=>rw[hc]at hr;cases hr
     |false=>rw[hc,XA]at hr;exact ih _ _ _ _ hr Y i h4 Z h3
    |false=>
     rw[U,XA]at hr;cases hc:(((!decide (I a.b v=(⟨#[]⟩:ByteArray)))||(I a.d v !=0))||(((I a.f v).length:Int)!=(a.c.length:Int)))with
     |true=>rw[hc]at hr;cases hr
     |false=>rw[hc,XA]at hr;exact ih _ _ _ _ hr Y i h4 Z h3
 have G:∀n v p q r,Jb a n v p q= .inl r->r=false:=by
  intro n;induction n with
  |zero=>intro v p q r h;cases h
  |succ n ih=>
   intro v p q r;rw[Jb];let P:=fun z:Sum Bool (List ByteArray×List Int)=>z= .inl r->r=false
   exact g (p:=P) (g (p:=P) (g (p:=P) (fun h=>by cases h;rfl) (ih _ _ _ _)) (g (p:=P) (fun h=>by cases h;rfl) (ih _ _ _ _))) (fun h=>by cases h)
 unfold z3 at h;cases hc:((((!(ZW (a.a.length:Int) 1 6))||((a.b.length:Int)!=(a.a.length:Int)))||((a.d.length:Int)!=(a.a.length:Int)))||((a.f.length:Int)!=(a.a.length:Int)))with
 |true=>rw[hc]at h;cases h
 |false=>
  rw[hc,XA]at h;simp only[ZW,Bool.or_eq_false_iff,Bool.not_eq_false',Bool.and_eq_true,decide_eq_true_eq,bne_eq_false_iff_eq]at hc;refine⟨⟨Y,Y,Y,Y⟩,fun i hi U=>?_⟩;cases e:Jb a (a.a.length+1) 0 [] []with
  |inl r=>rw[e,G _ _ _ _ _ e]at h;cases h
  |inr r=>exact ag _ _ _ _ _ e Y i (Nat.zero_le _) hi U
theorem Cs{A:Int}{C:t}(h:((!(z3 C))||((decide ((Kl C.c A)<0))&&(decide ((jG C)<(C.a.length:Int)))))=false)(hv:v<C.a.length):v<C.b.length/\v<C.d.length/\v<C.f.length/\(I C.a v=false->0<=Kl C.c A/\(Kl C.c A).toNat<(I C.f v).length):=by
 obtain⟨M,Z⟩:=Bool.or_eq_false_iff.1 h;obtain⟨_,k4⟩:=Qa cw;refine⟨Y,Y,Y,fun U=>?_⟩;have hc:=BD C (C.a.length+1) 0 0 ab (Nat.zero_le _) (Int.le_refl _) Y
 have hn:¬Ja C _ 0 0=0+_:=fun e=>by have:=hc.2.1 e v (Nat.zero_le _) hv;grind
 have hd:jG C<(C.a.length:Int):=by have e:jG C=Ja C _ 0 0:=rfl;omega
 rw[decide_eq_true hd,Bool.and_true]at Z;have h3:=of_decide_eq_false Z
 have h4:=BM C.c A;rw[k4 v hv U];grind
theorem RQ(A:List Int)(C:ZO)(i:Nat):∀(n:Nat)(l:List Int)(v:Nat),v<=A.length->(zk A C i n l v).length<=l.length+(A.length-v)
 |0,l,v,hv=>Nat.zero_le _
 |n+1,l,v,hv=>by
  refine YY (p:=fun r:List Int=>r.length<=l.length+_) (fun hc=>?_) (fun _=>Nat.le_add_right _ _);have hc:=of_decide_eq_true hc
  have:=RQ A C i n (l++[WJ (I A v) (I C.b i) (I C.d i)]) (v+1) Y;rw[List.length_append,List.length_singleton]at this;omega
theorem VR{n:Nat}(A:List Int)(C:ZO)(E:List Int)(h0:R n A)(M:R n C):∀(m v:Nat)(s:List Bool)(p:List ByteArray)(q:List Int)(d:List (List Int)),v<=C.b.length->s.length<=v->p.length<=v->q.length<=v->d.length<=v->(∀x∈p,x.size<=n)->(∀x∈d,x.length<=n)->(QT A C E m v s p q d).1.length<=n/\R n (QT A C E m v s p q d).2.1/\(QT A C E m v s p q d).2.2.1.length<=n/\R n (QT A C E m v s p q d).2.2.2
 |0,v,s,p,q,d,hv,_,_,_,_,_,_=>⟨Nat.zero_le _,X.zero n,Nat.zero_le _,X.zero n⟩
 |m+1,v,s,p,q,d,hv,k1,k2,k3,k4,k5,b=>by
  have hp:=Zx (ZO.qo M);let P:=fun r:(List Bool)×List ByteArray×List Int×(List (List Int))=>r.1.length<=n/\R n r.2.1/\r.2.2.1.length<=n/\R n r.2.2.2
  refine YY (p:=P) (fun hc=>?_) (fun _=>⟨by show s.length<=n;omega,⟨by show p.length<=n;omega,k5⟩,by show q.length<=n;omega,⟨by show d.length<=n;omega,fun x O=>⟨b x O,fun _ _=>trivial⟩⟩⟩);have hc:=of_decide_eq_true hc
  have hl:=RQ A C v (A.length+1) [] 0 (Nat.zero_le _);have Z:=Zx h0;refine g ?_ ?_
  ·refine VR A C E h0 M m _ _ _ _ _ Y aC aC aC aC (fun x O=>?_) (fun x O=>?_)
   ·rcases List.mem_append.1 O with O|O
    ·exact k5 x O
    ·rw[List.mem_singleton.1 O];exact Nat.zero_le _
   ·rcases List.mem_append.1 O with O|O
    ·exact b x O
    ·rw[List.mem_singleton.1 O];exact Nat.le_trans hl aC
  ·refine VR A C E h0 M m _ _ _ _ _ Y aC aC aC aC (fun x O=>?_) (fun x O=>?_)
   ·rcases List.mem_append.1 O with O|O
    ·exact k5 x O
    ·rw[List.mem_singleton.1 O];exact ZY (ZO.qo M)
   ·rcases List.mem_append.1 O with O|O
    ·exact b x O
    ·rw[List.mem_singleton.1 O];exact Nat.zero_le _
theorem DF{A:List Int}{C:ZO}(h0:R n A)(M:R n C):R n (Kq A C E).1:=by obtain⟨k1,k2,k3,k4⟩:=VR A C E h0 M _ 0 [] [] [] [] (Nat.zero_le _) (Nat.le_refl _) (Nat.le_refl _) (Nat.le_refl _) (Nat.le_refl _) (fun x O=>by cases O) (fun x O=>by cases O);refine g (p:=fun r:t×Bool=>R n r.1) ⟨X.zero n,X.zero n,X.zero n,X.zero n,X.zero n⟩ ⟨h0,⟨k1,fun _ _=>trivial⟩,k2,⟨k3,fun _ _=>trivial⟩,k4⟩
theorem W9{A:ZU}{C:List Int}(h:R n A):R (n+1) (J3 A C).1:=
 DF (Rl h) (ZJ (Nat.le_succ n) (ZU.JM h))
theorem Km(h:∀x∈l,x.size<=n)(i:Nat):(I l i).size<=n:=by
 unfold I;rw[List.getD_eq_getElem?_getD];cases e:l[i]? with
 |none=>exact Nat.zero_le _
 |some x=>exact h x (List.mem_of_getElem? e)
theorem Xx{A:ByteArray}(C:Int)(h:R n A):(∀i,R n (I (Zk A C) i))/\∀k i,R n (I ((Zk A C).take k) i):=by have U:=(R1 A C (A.size+2) [] 0 0 ab (Nat.zero_le _) (fun x O=>by cases O)).2;have U:=fun x O=>Nat.le_trans (U x O) h;exact⟨fun i=>Km U i,fun k i=>Km (fun x O=>U x (List.mem_of_mem_take O)) i⟩
theorem Oj(z:List Bool):∀(n:Nat)(l:List Int)(v:Nat),(Vq z n l v).length<=l.length+n
 |0,l,v=>Nat.zero_le _
 |n+1,l,v=>by refine g (p:=fun z:List Int=>z.length<=l.length+_) (g (p:=fun z:List Int=>z.length<=l.length+_) ?_ (Nat.le_trans (Oj z n l _) ab)) (Nat.le_add_right _ _);exact Nat.le_trans (Oj z n _ _) aC
theorem Hy(A:List YF)(C:List ZS)(E:List ZX):R 101 (Sv A C E):=
 ⟨Nat.le_trans (Oj _ 101 [] 0) (Nat.le_of_ble_eq_true rfl),fun _ _=>trivial⟩
theorem PU(A:ZI)(C:ZD)(E:Int):∀(n:Nat)(l:List Int)(v:Nat),(Wq A C E n l v).length<=l.length+n
 |0,l,v=>Nat.zero_le _
 |n+1,l,v=>by refine g (p:=fun z:List Int=>z.length<=l.length+_) (g (p:=fun z:List Int=>z.length<=l.length+_) ?_ (Nat.le_trans (PU A C E n l _) ab)) (Nat.le_add_right _ _);exact Nat.le_trans (PU A C E n _ _) aC
theorem L2{A:ZI}{C:ZD}{E:Int}(h:R n C):R (n+1) (UM A C E):=
 ⟨Nat.le_trans (PU A C E _ [] 0) (by have:=Zx (ZD.Z8 h);simp;omega),fun _ _=>trivial⟩
theorem LW(A:ZU):∀(n:Nat)(l:List Int)(v:Nat),(jj A n l v).length<=l.length+n
 |0,l,v=>Nat.zero_le _
 |n+1,l,v=>by refine g (p:=fun z:List Int=>z.length<=l.length+_) ?_ (Nat.le_add_right _ _);exact Nat.le_trans (LW A n _ _) aC
theorem RG(z:List Int):∀(n:Nat)(l:List Int)(v:Nat),z.length<n+v->v<=z.length->l.length<=v->(z7 z n l v).length<=z.length
 |0,l,v,h,hv,hl=>Y
 |n+1,l,v,h,hv,hl=>by
  refine YY (p:=fun q:List Int=>q.length<=z.length) (fun hc=>?_) (fun _=>Y);have ac:v<z.length:=bE
  refine g (p:=fun q:List Int=>q.length<=z.length) (RG z n l _ Y ac Y) ?_;exact RG z n _ _ Y ac aC
theorem FW{A:ZU}(h:R n A):R (n+2) (UZ A):=by have M:=LW A (A.a.a.length+1) [A.d.c] 0;have Z:=Zx (ZR.QK (ZU.YM h));have h3:=RG (jj A (A.a.a.length+1) [A.d.c] 0) _ [] 0 (Nat.lt_succ_self _) (Nat.zero_le _) (Nat.zero_le _);refine⟨Nat.le_trans h3 ?_,fun _ _=>trivial⟩;grind
theorem RL{a:t}(h:WL a=true):(a.a.length<=6/\a.b.length=a.a.length/\a.d.length=a.a.length/\a.f.length=a.a.length)/\∀i,i<a.a.length->I a.a i=false->(I a.f i).length=a.c.length:=by
 have ag:∀n v p q r,Jd a n v p q= .inr r->a.a.length<n+v->∀i,v<=i->i<a.a.length->I a.a i=false->(I a.f i).length=a.c.length:=by
  intro n;induction n with
  |zero=>intro v p q r _ hn i M Z;omega
  |succ n ih=>
   intro v p q r hr hn i M Z h3;rw[Jd]at hr;have ac:v<a.a.length:=Y
   rw[decide_eq_true (show(v:Int)<(a.a.length:Int)by omega),XN]at hr;rcases Nat.eq_or_lt_of_le M with rfl|h4
   ·rw[h3,XA]at hr;by_cases hd:(I a.f v).length=a.c.length
    ·exact hd
    ·rw[show(((I a.f v).length:Int)!=(a.c.length:Int))=true by simp;omega]at hr;simp at hr
   ·generalize(_||_)=c at hr;cases U:I a.a v<;>rw[U]at hr<;>cases c
    ·exact ih _ _ _ _ hr Y i h4 Z h3
    ·cases hr
    ·exact ih _ _ _ _ hr Y i h4 Z h3
    ·cases hr
 have G:∀n v p q r,Jd a n v p q= .inl r->r=false:=by
  intro n;induction n with
  |zero=>intro v p q r h;cases h
  |succ n ih=>
   intro v p q r;rw[Jd];let P:=fun z:Sum Bool (List ByteArray×List Int)=>z= .inl r->r=false
   grind
 unfold WL at h;cases hc:(_||((a.f.length:Int)!=(a.a.length:Int)))with
 |true=>rw[hc]at h;cases h
 |false=>
  rw[hc,XA]at h;simp only[Z1,Bool.or_eq_false_iff,Bool.not_eq_false',Bool.and_eq_true,decide_eq_true_eq,bne_eq_false_iff_eq]at hc;refine⟨⟨Y,Y,Y,Y⟩,fun i hi U=>?_⟩;cases e:Jd a (a.a.length+1) 0 [] []with
  |inl r=>rw[e,G _ _ _ _ _ e]at h;cases h
  |inr r=>exact ag _ _ _ _ _ e Y i (Nat.zero_le _) hi U
theorem iO{x:Int}(h0:0<=x)(h:decide (x>=(A.a.length:Int))=false):x.toNat<A.a.length:=by have h:=of_decide_eq_false h;omega
theorem Ph(A:ZI)(C:ZD)(E:Int):∀(n:Nat)(l:List Int)(v:Nat),(WN A C E n l v).length<=l.length+n
 |0,l,v=>Nat.zero_le _
 |n+1,l,v=>by refine g (p:=fun z:List Int=>z.length<=l.length+_) (g (p:=fun z:List Int=>z.length<=l.length+_) ?_ (Nat.le_trans (Ph A C E n l _) ab)) (Nat.le_add_right _ _);exact Nat.le_trans (Ph A C E n _ _) aC
theorem nv{A:ZI}{C:ZD}{E:Int}(h:R n C):R (n+1) (T7 A C E):=
 ⟨Nat.le_trans (Ph A C E _ [] 0) (by have:=Zx (ZD.Z8 h);simp;omega),fun _ _=>trivial⟩
theorem Si(A:t){n:Nat}(hp:R n A):∀(m:Nat)(b:ByteArray)(v:Nat),A.a.length<m+v->v<=A.a.length->(QU A m b v).size<=b.size+(n+3)*(A.a.length-v)
 |0,b,v,h,hv=>Y
 |m+1,b,v,h,hv=>by
  rw[QU];by_cases ac:v<A.a.length
  ·rw[decide_eq_true (show _<_ by omega),XN];have e:A.a.length-v=(A.a.length-(v+1))+1:=Y
   have O:(I A.b v).size<=n:=ZY (t.qo hp);rw[e];have a:∀c:ByteArray,c.size<=b.size+(n+3)->(QU A m c (v+1)).size<=b.size+((n+3)*(A.a.length-(v+1))+(n+3)):=fun c hc=>by have:=Si A hp m c (v+1) Y ac;omega
   let p:=fun z:ByteArray=>z.size<=b.size+((n+3)*(A.a.length-(v+1))+(n+3))
   refine g (p:=p) (a _ ab) (g (a _ ?_) (a _ ab));rw[ByteArray.size_append,ByteArray.size_append,ByteArray.size_append];show _+2+_+1<=_
   omega
  ·rw[decide_eq_false (show ¬_<_ by omega),XA];omega
theorem FM{A:t}(hp:R n A):(xo A).size<=24+(n+3)*n:=by have h:=Si A hp (A.a.length+1) (XK A.e) 0 ab (Nat.zero_le _);have Z:=Yn A.e;have h3:=Nat.mul_le_mul_left (n+3) (Zx (t.fj hp));exact Nat.le_trans h (Nat.add_le_add Z h3)
theorem Rk(A:List Int)(C:ZO)(i:Nat):∀(n:Nat)(l:List Int)(v:Nat),v<=A.length->(zg A C i n l v).length<=l.length+(A.length-v)
 |0,l,v,hv=>Nat.zero_le _
 |n+1,l,v,hv=>by
  refine YY (p:=fun r:List Int=>r.length<=l.length+_) (fun hc=>?_) (fun _=>Nat.le_add_right _ _);have hc:=of_decide_eq_true hc
  have:=Rk A C i n (l++[jQ (I A v) (I C.b i) (I C.d i)]) (v+1) Y;rw[List.length_append,List.length_singleton]at this;omega
theorem VS{n:Nat}(A:List Int)(C:ZO)(E:List Int)(h0:R n A)(M:R n C):∀(m v:Nat)(s:List Bool)(p:List ByteArray)(q:List Int)(d:List (List Int)),v<=C.b.length->s.length<=v->p.length<=v->q.length<=v->d.length<=v->(∀x∈p,x.size<=n)->(∀x∈d,x.length<=n)->(QR A C E m v s p q d).1.length<=n/\R n (QR A C E m v s p q d).2.1/\(QR A C E m v s p q d).2.2.1.length<=n/\R n (QR A C E m v s p q d).2.2.2
 |0,v,s,p,q,d,hv,_,_,_,_,_,_=>⟨Nat.zero_le _,X.zero n,Nat.zero_le _,X.zero n⟩
 |m+1,v,s,p,q,d,hv,k1,k2,k3,k4,k5,b=>by
  have hp:=Zx (ZO.qo M);let P:=fun r:(List Bool)×List ByteArray×List Int×(List (List Int))=>r.1.length<=n/\R n r.2.1/\r.2.2.1.length<=n/\R n r.2.2.2
  refine YY (p:=P) (fun hc=>?_) (fun _=>⟨by show s.length<=n;omega,⟨by show p.length<=n;omega,k5⟩,by show q.length<=n;omega,⟨by show d.length<=n;omega,fun x O=>⟨b x O,fun _ _=>trivial⟩⟩⟩);have hc:=of_decide_eq_true hc
  have hl:=Rk A C v (A.length+1) [] 0 (Nat.zero_le _);have Z:=Zx h0;refine g ?_ ?_
  ·refine VS A C E h0 M m _ _ _ _ _ Y aC aC aC aC (fun x O=>?_) (fun x O=>?_)
   ·rcases List.mem_append.1 O with O|O
    ·exact k5 x O
    ·rw[List.mem_singleton.1 O];exact Nat.zero_le _
   ·rcases List.mem_append.1 O with O|O
    ·exact b x O
    ·rw[List.mem_singleton.1 O];exact Nat.le_trans hl aC
  ·refine VS A C E h0 M m _ _ _ _ _ Y aC aC aC aC (fun x O=>?_) (fun x O=>?_)
   ·rcases List.mem_append.1 O with O|O
    ·exact k5 x O
    ·rw[List.mem_singleton.1 O];exact ZY (ZO.qo M)
   ·rcases List.mem_append.1 O with O|O
    ·exact b x O
    ·rw[List.mem_singleton.1 O];exact Nat.zero_le _
theorem E7{A:List Int}{C:ZO}(h0:R n A)(M:R n C):R n (Kn A C E).1:=by obtain⟨k1,k2,k3,k4⟩:=VS A C E h0 M _ 0 [] [] [] [] (Nat.zero_le _) (Nat.le_refl _) (Nat.le_refl _) (Nat.le_refl _) (Nat.le_refl _) (fun x O=>by cases O) (fun x O=>by cases O);refine g (p:=fun r:t×Bool=>R n r.1) ⟨X.zero n,X.zero n,X.zero n,X.zero n,X.zero n⟩ ⟨h0,⟨k1,fun _ _=>trivial⟩,k2,⟨k3,fun _ _=>trivial⟩,k4⟩
theorem Wt{A:ZU}{C:List Int}(h:R n A):R (n+2) (J1 A C).1:=
 E7 (FW h) (ZJ (Nat.le_add_right n 2) (ZU.JM h))
theorem O1(A:List YF)(C:List ZS)(E:List ZX):∀(n:Nat)(l:List Int)(v:Nat),(UL A C E n l v).length<=l.length+n
 |0,l,v=>Nat.zero_le _
 |n+1,l,v=>by refine g (p:=fun z:List Int=>z.length<=l.length+_) (g (p:=fun z:List Int=>z.length<=l.length+_) ?_ (Nat.le_trans (O1 A C E n l _) ab)) (Nat.le_add_right _ _);exact Nat.le_trans (O1 A C E n _ _) aC
theorem Co(A:List YF)(C:List ZS)(E:List ZX):R 101 (PM A C E):=
 ⟨Nat.le_trans (O1 A C E 101 [] 0) (Nat.le_of_ble_eq_true rfl),fun _ _=>trivial⟩
theorem GS{l:List Int}(h:∀x∈l,0<=x)(i:Nat):0<=I l i:=by
 unfold I;rw[List.getD_eq_getElem?_getD];cases e:l[i]? with
 |none=>exact Int.le_refl _
 |some x=>exact h x (List.mem_of_getElem? e)
theorem CD{A:ZO}(h:QC A=true):A.d.length=A.b.length:=by
 unfold QC at h;cases hc:(_||_)with
 |true=>rw[hc]at h;cases h
 |false=>have Z:=(Bool.or_eq_false_iff.1 hc).2;rw[bne_eq_false_iff_eq]at Z;omega
theorem G3(e:Q)(k:Nat):∀(m:Nat)(l:List ZX)(v:Nat),v<=(I e.a k).a.length->(jH e k m l v).length<=l.length+af (fun r=>r.a.length) ((I e.a k).a.drop v)
 |0,l,v,_=>Nat.zero_le _
 |m+1,l,v,hv=>by
  rw[jH];by_cases h:v<(I e.a k).a.length
  ·rw[decide_eq_true (show _<_ by omega),XN];have M:=G3 e k m (P2 l (I (I e.a k).a v).a) (v+1) h
   have Z:=GI l (I (I e.a k).a v).a;have h3:=OC h;omega
  ·grind
theorem G9(e:Q):∀(m:Nat)(l:List ZX)(v:Nat),v<=e.a.length->(jJ e m l v).length<=l.length+af br (e.a.drop v)
 |0,l,v,_=>Nat.zero_le _
 |m+1,l,v,hv=>by
  rw[jJ];by_cases h:v<e.a.length
  ·rw[decide_eq_true (show _<_ by omega)];have h0:=G3 e v ((I e.a v).a.length+1) l 0 (Nat.zero_le _)
   have M:=G9 e m (jH e v ((I e.a v).a.length+1) l 0) _ h;have h3:=Bv h;have h4:br _=af (fun r=>r.a.length) (I e.a v).a:=rfl;grind
  ·grind
theorem OY(w:P):(Sw w).length<=CF (Q.mk (Xk w) []):=by
 show(UT _).length<=_;rw[zT];have h:=G9 (Q.mk (Xk w) []) ((Xk w).length+1) [] 0 (Nat.zero_le _)
 rw[List.drop_zero,List.length_nil]at h;dsimp only at h;have e3:∀l:List ZX,Wr (Q.mk (Xk w) []) (([]:List (List ZX)).length+1) l 0=l:=fun l=>by rw[Wr];rfl
 unfold UT;dsimp only;show(jJ _ _ [] 0).length<=af br (Xk w)+0
 omega
theorem MI(A:ByteArray):∀x∈QF A,0<x.size:=by
 have ag:∀n (acc:List ByteArray) w v,(∀x∈acc,0<x.size)->∀x∈zL A n acc w v,0<x.size:=by
  intro n;induction n with
  |zero=>intro acc w v _ x O;cases O
  |succ n ih=>
   intro acc w v ha;let p:=fun r:List ByteArray=>∀x∈r,0<x.size
   refine g (p:=p) (g (p:=p) (ih _ _ _ ha) (YY (p:=p) (fun hc=>ih _ _ _ fun x O=>?_) (fun _=>ih _ _ _ ha))) ha;rcases List.mem_append.1 O with O|O
   ·exact ha x O
   ·rw[List.mem_singleton.1 O];refine Nat.pos_of_ne_zero fun e=>?_;rw[show w=_ from ByteArray.ext (Array.eq_empty_of_size_eq_zero e)]at hc;cases hc
 exact ag _ _ _ _ (fun x O=>by cases O)
end Go.Mo
