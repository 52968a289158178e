/- Plain lemmas on the models of the helpers. No condition. -/
import Derived.Test.YtipadonicggnbaaGreatM
namespace Go.Mo
open Go.Vm
set_option linter.unusedSimpArgs false
set_option linter.unusedVariables false
variable{n i K j ae v:Nat}{E G V a4 a5:Int}{A w:ZF}{F:Nat->Int->Nat->Sum (Int×Bool) Int}{b a s:ByteArray}{x:Yv}{c:Nat->Bool}{p:ZS}{e:YT}
theorem og:bc Ug 0:=zf
theorem JS:bc xA 0:=zf
theorem r6:bc SR 0:=zf
theorem C9:bc QD 2:=zS fun a n m=>(z1 og (ZP.Yb m) _).q ((z1 JS (ZP.Yi m) _).q ((z1 r6 (ZP.Yt m) _).l))
theorem Cx:bc Qp 0:=zf
theorem Vz:bc Xp 0:=zf
theorem sb:bc WG 0:=zl zt Tt
theorem uP:bc jR 1:=zS fun a n m=>(z1 sb (ZV.xy m) _).q ((z1 Vz (ZV.L3 m) _).l)
theorem st:bc NV 2:=zS fun a n m=>(z1 Vz (ZS.T5 m) _).l
theorem uC:bc Vs 0:=zl st RU
theorem q4:bc TQ 0:=zf
theorem oQ:bc Pu 0:=zf
theorem tw:bc SZ 3:=zS fun a n m=>(z1 q4 (Zc.eN m) _).q ((z1 oQ (Zc.Tk m) _).l)
theorem wT:bc Ux 0:=zl tw U8
theorem p1:bc PZ 0:=zS fun a n m=>(z1 uC (ZY.Yw m) _).q ((z1 wT (ZY.Qf m) _).l)
theorem Gq:bc Po 12:=zS fun a n m=>(z1 uP (ZU.Q6 m) _).q ((z1 p1 (ZU.YU m) _).l)
theorem lr:bc Wr 0:=zl Gq SS
theorem Ai:bc jB 1:=zS fun a n m=>(z1 lr (ZE.YO m) _).l
theorem A1:bc Qv 0:=zl Ai WO
theorem Cs:bc Rp 3:=zS fun a n m=>(z1 C9 (ZF.YW m) _).q ((z1 Cx (ZF.iX m) _).q ((z1 Vz (ZF.vz m) _).q ((z1 A1 (ZF.Zz m) _).q ((z1 Vz (ZF.Aq m) _).q ((z1 Vz (ZF.w7 m) _).q ((z1 Vz (ZF.NR m) _).l))))))
theorem I4(A:ZP):SF A=A:=rfl
theorem tQ(A:List Int):GV A=A:=rfl
theorem P5(A:ZV):WH A=A:=rfl
theorem Lx(A:ZS):SM A=A:=rfl
theorem Lj(A:List ZS):We A=A:=by have h:=HJ (F:=kg A) (a:=A) (g:=fun x=>x) (fun _=>rfl) (fun _ _ _=>rfl) (A.length+1) [] 0 Y Y;simp only[List.nil_append,List.drop_zero]at h;unfold We;rw[h]
theorem Aa(A:List ZW):Mt A=A:=rfl
theorem NZ(A:Zc):VI A=A:=rfl
theorem LS(A:ZY):Wu A=A:=by have h:=HJ (F:=fun n v i=>kj A n i v) (a:=A.b) (g:=fun x=>x) (fun _=>rfl) (fun _ _ _=>rfl) (A.b.length+1) [] 0 Y Y;simp only[List.nil_append,List.drop_zero]at h;unfold Wu;rw[h]
theorem H7(A:ZU):PI A=A:=rfl
theorem NX(A:ZE):kN A=A:=by have h:=HJ (F:=fun n v i=>jv A n i v) (a:=A.a) (g:=fun x=>x) (fun _=>rfl) (fun _ _ _=>rfl) (A.a.length+1) [] 0 Y Y;simp only[List.nil_append,List.drop_zero]at h;unfold kN;rw[h]
theorem L6(A:ZF):V4 A=A:=by have h:=HJ (F:=fun n v i=>W6 A n i v) (a:=A.a) (g:=fun x=>x) (fun _=>rfl) (fun _ _ _=>rfl) (A.a.length+1) [] 0 Y Y;simp only[List.nil_append,List.drop_zero]at h;unfold V4;rw[h]
theorem Yy(A:List YZ)(E:Int):Zi A E<(A.length:Int):=M1 (F:=Sf A E) (c:=fun J=>(C A J).c==E) (fun _=>rfl) (fun _ _=>rfl) _ _
theorem JM(A:ZE)(E:Int):B A E<(A.a.length:Int):=M1 (F:=WZ A E) (c:=fun J=>(C A.a J).b==E) (fun _=>rfl) (fun _ _=>rfl) _ _
theorem zx(A:List Yv)(E:Int):Zj A E<(A.length:Int):=M1 (F:=Wm A E) (c:=fun J=>(C A J).a==E) (fun _=>rfl) (fun _ _=>rfl) _ _
theorem Ym(A:List ZX)(E:Int):ZN A E<(A.length:Int):=M1 (F:=yN A E) (c:=fun J=>(C A J).b==E) (fun _=>rfl) (fun _ _=>rfl) _ _
theorem Fw(A:List Int)(E:Int):Kf A E<(A.length:Int):=M1 (F:=UJ A E) (c:=fun J=>C A J==E) (fun _=>rfl) (fun _ _=>rfl) _ _
theorem zM(A:List Z8)(E:Int):XL A E<(A.length:Int):=M1 (F:=kv A E) (c:=fun J=>(C A J).b==E) (fun _=>rfl) (fun _ _=>rfl) _ _
theorem Up:∀(n:Nat)(x:Int)(l:List UInt8),(JE n x l).length<=l.length+n
 |0,x,l=>by show(default:List UInt8).length<=_;exact Nat.zero_le _
 |n+1,x,l=>by
  simp only[JE];cases decide (x.tmod 10<0)<;>simp<;>cases(W _==0)<;>simp only[cond_true,cond_false]
  ·refine Nat.le_trans (Up n _ _) ?_;simp;omega
  ·simp
  ·refine Nat.le_trans (Up n _ _) ?_;simp;omega
  ·simp
theorem Z2(A:Int):(Zr A).size<=24:=by
 unfold Zr;have h:=Up 21 A []
 simp at h;cases decide (A<0)<;>simp<;>omega
theorem O9(h:7<=n):R n (yT x):=⟨by simp[yT];omega,fun _ _=>trivial⟩
@[simp] theorem zac (x : Yv) : (yT x).length = 7 := rfl
theorem Ih{x:ZW}(h:5<=n):R n (Jd x):=⟨by simp[Jd];omega,fun _ _=>trivial⟩
@[simp] theorem Zf (x : ZW) : (Jd x).length = 5 := rfl
theorem Sl{x:O}(h:5<=n):R n (J0 x):=⟨by simp[J0];omega,fun _ _=>trivial⟩
@[simp] theorem XZ (x : O) : (J0 x).length = 5 := rfl
theorem xI{x:Zu}(h:9<=n):R n (Xk x):=⟨by simp[Xk];omega,fun _ _=>trivial⟩
@[simp] theorem Zt (x : Zu) : (Xk x).length = 9 := rfl
theorem NP{x:XD}(h:6<=n):R n (Kv x):=⟨by simp[Kv];omega,fun _ _=>trivial⟩
@[simp] theorem YI (x : XD) : (Kv x).length = 6 := rfl
theorem IK{a:ZY}(h:qF a=true):0<a.a.length:=by
 unfold qF at h;cases hh:ZJ _ 1 12 with
 |false=>rw[hh]at h;simp at h
 |true=>simp only[ZJ,Bool.and_eq_true,decide_eq_true_eq]at hh;omega
theorem NQ{a:ZV}(h:Xm a=true):a.d.length=a.a.length:=by unfold Xm at h;grind
theorem YA(A:ZF)(E:Int)(h:0<=(u A E).1):(u A E).1.toNat<A.a.length/\0<=(u A E).2/\(u A E).2.toNat<(C A.a (u A E).1.toNat).a.length:=by
 have ai:∀n v r,TO A E n v= .inl r->r.1.toNat<A.a.length/\0<=r.2/\r.2.toNat<(C A.a r.1.toNat).a.length:=by
  intro n;induction n with
  |zero=>intro v r h;cases h
  |succ n ih=>
   intro v r h;rw[TO]at h;cases I:decide ((v:Int)<_)with
   |false=>rw[I]at h;cases h
   |true=>
    rw[I]at h;cases X:decide (B (C A.a v) E>=0)with
    |false=>rw[X]at h;exact ih _ _ h
    |true=>
     simp at I X;have:=JM (C A.a v) E
     grind
 unfold u at h⊢;grind
theorem Ks{a:Int}(hn:n<=9223372036854775807)(h:ZJ a 0 (W ((n:Int)-1))=true):0<=a/\a<n:=by rw[IZ n hn]at h;simp only[ZJ,Bool.and_eq_true,decide_eq_true_eq]at h;omega
@[simp] theorem zad (l : List UInt8) : (Rw l).length = l.length := by
 have ai:∀n (acc:List Int) v,l.length<n+v->v<=l.length->(WJ l n acc v).length=acc.length+(l.length-v):=by
  intro n;induction n with
  |zero=>intro acc v I X;omega
  |succ n ih=>intro acc v I X;rw[WJ];grind
 have:=ai (l.length+1) [] 0 ab ab;simpa[Rw]using this
theorem jq{A:ZY}{E:ZV}(h:R n A):R n (JP A E):=by
 have ai:∀n (acc:List Int) v,A.b.length<n+v->v<=A.b.length->(y5 A E n acc v).length=acc.length+(A.b.length-v):=by
  intro n;induction n with
  |zero=>intro acc v I X;omega
  |succ n ih=>intro acc v I X;rw[y5];grind
 have h3:=Z7 (ZY.Qf h);refine⟨?_,fun _ _=>trivial⟩;unfold JP;grind
theorem ZO(A:ZS):(Yc A=101->A.a.length=7)/\(Yc A=102->A.a.length=5)/\(Yc A=103->A.a.length=5)/\(Yc A=104->A.a.length=9)/\(Yc A=105->A.a.length=6):=by
 have ai:∀v:Int,v≠0->Yc A=v->C A.a 0=v/\(A.a.length:Int)=C ([7,5,5,9,6]:List Int) (W (v-101)).toNat:=by intro v hv h;unfold Yc at h;grind
 refine⟨fun h=>?_,fun h=>?_,fun h=>?_,fun h=>?_,fun h=>?_⟩<;>(have:=(ai _ aq h).2;simp[C,X8]at this;omega)
theorem Kp(A:Int)(E:List Int)(h:E.length<=1048576):2*(Jw A E).length=E.length+E.length%2:=by
 have ai:∀n v i,E.length+1<2*n+i->i<=E.length+1->i%2=0->2*(y8 A E n v i).length=2*v.length+(E.length+E.length%2-i):=by
  intro n;induction n with
  |zero=>intro v i I X;omega
  |succ n ih=>intro v i I X h3;unfold y8;grind
 have:=ai (E.length+1) [] 0 ab ab rfl;unfold Jw;grind
theorem PW{A:ZE}(h:R n A):R n (QZ A E):=by
 refine⟨?_,fun _ _=>trivial⟩;have e:=iE (F:=kA A E) (fun _ _=>rfl) (fun _ _ _=>rfl) (A.a.length+1) [] 0
 have:(QZ A E).length<=0+_:=e;have:=Z7 (h);omega
theorem Qr(A:ZF)(E:Int)(h:(Ye A E).2.2=true):0<=(Ye A E).1/\(Ye A E).1<(A.a.length:Int)/\0<=(Ye A E).2.1/\(Ye A E).2.1<(A.c.length:Int):=
 Y2 (p:=fun(r:Int×Int×Bool)=>r.2.2=true->0<=r.1/\r.1<_/\0<=r.2.1/\r.2.1<(A.c.length:Int)) (fun _ h=>by simp at h) (fun Z h=>by
  simp at Z;have f:=YA A E Y
  dsimp only at h⊢;rw[Bool.and_eq_true,decide_eq_true_eq]at h;have X:=h.2
  exact⟨Y,Y,Y,zx _ _⟩) h
theorem PO(h:7<=n):R n (Kk x):=O9 h
theorem Xr{x:O}(h:5<=n):R n (Z1 x):=Sl h
theorem YH{x:Zu}(h:9<=n):R n (Yf x):=xI h
theorem RP{A:ZE}{E:ZU}(h:R n A)(O:R (n+1) E):R (n+1) (XE A E).1:=by
 have I:=ZT (Nat.le_succ n) h;unfold XE;cases(_||_)with
 |true=>exact I
 |false=>
  simp only;generalize X3 A E _ 0=z;cases(!(QC _))with
  |true=>exact I
  |false=>
   refine⟨by have:=ZE.YO h;have:=this.1;simp;omega,fun y hy=>?_⟩;have a:y∈A.a.take z\/y=E\/y∈A.a.drop z:=by simpa using hy
   rcases a with hy|rfl|hy
   ·exact I.2 y (List.mem_of_mem_take hy)
   ·exact O
   ·exact I.2 y (List.mem_of_mem_drop hy)
theorem LO{n:Nat}{A:ZF}{E G:Int}{V:ZV}{a4 a5:Int}(h:R n A)(hd:R n V)(hn:9<=n):∀(m v:Nat)(r:ZF×Bool),J5 A E G V a4 a5 m v= .inl r->R (n+1) r.1
 |0,v,r,e=>by cases e
 |m+1,v,r,e=>by
  have I:R (n+1) A:=ZT (Nat.le_succ n) h;unfold J5 at e;cases Z:decide ((v:Int)<(A.c.length:Int))with
  |false=>rw[Z]at e;cases e
  |true=>
   rw[Z]at e;simp only[cond_true]at e;cases hk:((C A.c v).c !=G)with
   |true=>rw[hk]at e;exact LO h hd hn m (v+1) r e
   |false=>
    rw[hk]at e;generalize hq:(ZU.mk A.h a5 V (XJ A.b.a _).1 _)=a at e;have c:R (n+1) a:=by
     rw[<-hq];refine⟨ZT (Nat.le_succ n) hd,⟨by simp;omega,fun y hy=>?_⟩,MP⟩;rcases List.mem_cons.1 hy with rfl|hy
     ·exact YH Y
     rcases List.mem_cons.1 hy with rfl|hy
     ·exact PO Y
     ·cases hy
    clear hq;cases J:(_||_)with
    |true=>rw[J]at e;cases e;exact I
    |false=>rw[J]at e;cases e;exact⟨I.1,I.2.1,I.2.2.1,Lr I.2.2.2.1 (RP (Zh h.2.2.2.1) c),I.2.2.2.2.1,I.2.2.2.2.2.1,I.2.2.2.2.2.2⟩
theorem zy{V:ZV}(h:R n A)(hd:R n V)(hn:9<=n):R (n+1) (Xc A E G V a4 a5).1:=by
 have I:=ZT (Nat.le_succ n) h;unfold Xc;cases(_||_)with
 |true=>exact I
 |false=>
  cases he:J5 A E G V a4 a5 _ 0 with
  |inl r=>exact LO h hd hn _ _ r he
  |inr _=>exact I
theorem Wd(A:Int):∀(m:Nat)(y:List Int)(x:Int)(l:List Y9),(zI A m y x l).length<=l.length+m
 |0,y,x,l=>Nat.zero_le _
 |m+1,y,x,l=>by
  simp only[zI];cases decide ((y.length:Int)>1)with
  |false=>simp
  |true=>
   cases(Int.tmod x 2==1)with
   |true=>refine Nat.le_trans (Wd A m _ _ _) ?_;simp;omega
   |false=>
    cases decide (W (x+1)<(y.length:Int))with
    |true=>refine Nat.le_trans (Wd A m _ _ _) ?_;simp;omega
    |false=>refine Nat.le_trans (Wd A m _ _ _) ?_;omega
theorem NI{A:Int}{E:List Int}(h:17<=n):R n (QU A E G):=by
 refine⟨?_,fun _ _=>trivial⟩;unfold QU;cases Z:(_||_)with
 |true=>exact Nat.zero_le _
 |false=>have I:=Wd A (E.length+1) E G [];grind
def aB(l:List ZE):Nat:=af (fun a=>a.a.length) l
theorem Sb{l:List ZE}(h:i<l.length):aB (l.drop i)=(C l i).a.length+aB (l.drop (i+1)):=UH _ h
theorem kV(A:ZF):Y3 A=A.a.flatMap (·.a):=by
 unfold Y3;have:=xk (as:=A.a) (fun a=>a.a) (F:=fun n i l=>OY A n l i) (fun _ _ _=>rfl) (A.a.length+1) 0 [] ab (Nat.zero_le _)
 simpa using this
theorem W7(A:ZF):(Y3 A).length=aB A.a:=by rw[kV,Fm];rfl
theorem zv(hm:R maxLen A)(h0:0<=E)(hn:E<=1048576)(h:¬Rp A E<0):aB A.a<=1048576:=by
 have v:@sS ZU _ _ ⟨fun _=>32⟩ Po 32:=fun a n hm h0 hn h=>⟨by have:=(Gq.2 a n hm h0 hn h).2;show((32:Nat):Int)<=_;omega,(Gq.2 a n hm h0 hn h).2⟩;have b:@sS (List ZU) _ _ (@instCnList ZU ⟨fun _=>32⟩) Wr 0:=@oq ZU _ _ ⟨fun _=>32⟩ Po 32 v aq Wr SS (fun _ _ _ _=>rfl) (fun _ _=>rfl);have f:@sS ZE _ _ ⟨fun a=>32*a.a.length⟩ jB 0:=by
  intro a n hm h0 hn h;unfold jB at h⊢;by_cases c0:(Wr a.a n)<0
  ·simp[c0]at h
  obtain⟨C,t0⟩:=b a.a n (by simp[hm]) Y Y c0;simp only[c0,decide_false,cond_false]at h⊢;refine⟨?_,t0⟩;have e:af (fun _:ZU=>32) a.a=32*a.a.length:=Pg (fun _=>rfl) _
  have c:((af (fun _:ZU=>32) a.a:Nat):Int)<=32*(n-Wr a.a n)+(0:Nat):=C;rw[e]at c;exact c
 have d:@sS (List ZE) _ _ (@instCnList ZE ⟨fun a=>32*a.a.length⟩) Qv 0:=@oq ZE _ _ ⟨fun a=>32*a.a.length⟩ jB 0 f aq Qv WO (fun _ _ _ _=>rfl) (fun _ _=>rfl);unfold Rp at h;by_cases c0:(QD A.b E)<0
 ·simp[c0]at h
 obtain⟨_,t0⟩:=C9.2 A.b E (by simp[hm]) Y Y c0;by_cases c1:(Qp A.c (QD A.b E))<0
 ·simp[c1,c0]at h
 obtain⟨_,t1⟩:=Cx.2 A.c (QD A.b E) (by simp[hm]) Y Y c1;by_cases c2:(Xp A.d (Qp A.c (QD A.b E)))<0
 ·simp[c2,c0,c1]at h
 obtain⟨_,t2⟩:=Vz.2 A.d (Qp A.c (QD A.b E)) (by simp[hm]) Y Y c2;by_cases c3:(Qv A.a (Xp A.d (Qp A.c (QD A.b E))))<0
 ·simp[c3,c0,c1,c2]at h
 obtain⟨j,t3⟩:=d A.a (Xp A.d (Qp A.c (QD A.b E))) (by simp[hm]) Y Y c3;have g:((af (fun a:ZE=>32*a.a.length) A.a:Nat):Int)<=32*(Xp A.d (Qp A.c (QD A.b E))-Qv A.a (Xp A.d (Qp A.c (QD A.b E))))+(0:Nat):=j
 have e:∀l:List ZE,af (fun a:ZE=>32*a.a.length) l=32*aB l:=by
  intro l;induction l with
  |nil=>rfl
  |cons x l ih=>show 32*x.a.length+af _ l=32*(x.a.length+aB l);rw[ih];omega
 rw[e]at g;omega
def bw(s:ZY):Nat:=af (fun r=>r.a.length) s.b
def Dx(e:M):Nat:=af bw e.a+af List.length e.b
theorem tG{l:List ZY}(h:i<l.length):af bw (l.drop i)=bw (C l i)+af bw (l.drop (i+1)):=UH _ h
theorem Pl{l:List Zc}(h:i<l.length):af (fun r=>r.a.length) (l.drop i)=(C l i).a.length+af (fun r=>r.a.length) (l.drop (i+1)):=UH _ h
theorem Nd{l:List (List ZW)}(h:i<l.length):af List.length (l.drop i)=(C l i).length+af List.length (l.drop (i+1)):=UH _ h
theorem ic(E v:List ZW)(k:Nat):∀n b i,qB E v k n b i=KU E k v n b i
 |0,_,_=>rfl
 |n+1,b,i=>by simp only[qB,KU,ic E v k n]
theorem i2(E:List ZW):∀n l i,zW E n l i=QG E n i l
 |0,_,_=>rfl
 |n+1,l,i=>by simp only[zW,QG,i2 E n,ic]
theorem hW(A E:List ZW):R6 A E=Kw E A:=by simp only[R6,Kw,i2]
theorem Wz(A:List ZW):∀(n:Nat)(i:Nat)(l:List ZW),i<=A.length->(QG A n i l).length<=l.length+(A.length-i)
 |0,i,l,_=>Nat.zero_le _
 |n+1,i,l,hi=>by
  simp only[QG];by_cases h:i<A.length
  ·rw[show decide _=true by simpa using h];have I:=Wz A n _ (l++[C A i]) h
   have X:=Wz A n _ l h;grind
  ·grind
theorem U1(A E:List ZW):(Kw A E).length<=E.length+A.length:=Wz A _ 0 E (Nat.zero_le _)
theorem oz(s:ZY):bw s<=cn s:=by
 have h:bw s<=af (cn:Zc->Nat) s.b:=Ep (fun r=>by
  have:=Dd (c:=(cn:ZW->Nat)) (fun x=>by rw[ZW.XI];simp only[Tb];omega) r.a;rw[Zc.XI,QV (x:=r.a)];omega) _
 rw[ZY.XI,QV (x:=s.b)];omega
def Qi(A:ZF):List ZY:=(A.a.flatMap (·.a)).map (·.a)
theorem zL(A:ZF):VQ A ((Y3 A).length+1) 0 []=Qi A:=by have:=xk (as:=Y3 A) (fun a=>[a.a]) (F:=VQ A) (fun _ _ _=>rfl) ((Y3 A).length+1) 0 [] ab (Nat.zero_le _);rw[this,Qi,<-kV,Us];rfl
theorem Rf(h:R n A)(ht:aB A.a<=1048576)(hk:1048576<=n):R n (M.mk (Qi A) []):=by
 refine⟨⟨?_,fun x O=>?_⟩,⟨Nat.zero_le _,fun x O=>by cases O⟩⟩
 ·rw[Qi,List.length_map,Fm];exact Nat.le_trans ht hk
 ·simp only[Qi,List.mem_map,List.mem_flatMap]at O;obtain⟨a,⟨b,I,X⟩,rfl⟩:=O;exact ZU.YU ((ZE.YO ((ZF.Zz h).2 _ I)).2 _ X)
theorem wS(A:ZF):Dx (M.mk (Qi A) [])<=cn A:=by
 have h:af bw (Qi A)<=af (cn:ZE->Nat) A.a:=by
  rw[Qi,ip,lU];refine Ep (fun b=>Nat.le_trans (Ep (d:=(cn:ZU->Nat)) (fun a=>?_) _) ?_) _
  ·have:=oz a.a;rw[ZU.XI];omega
  ·rw[ZE.XI,QV];omega
 show af bw (Qi A)+0<=_;rw[ZF.XI,QV (x:=A.a)];omega
theorem NK(A:ZP)(E:ZY)(G:List Int):∀n v,j9 A E G n v<=v
 |0,_=>Nat.zero_le _
 |n+1,v=>by exact g (p:=fun r=>r<=v) (g (p:=fun r=>r<=v) (Nat.le_refl _) (Nat.le_trans (NK A E G n _) (Nat.sub_le _ _))) (Nat.le_refl _)
theorem AI(A:ZP)(E:ZY)(G:List Int):0<=xa A E G/\xa A E G<=(E.b.length:Int):=by have h:=NK A E G (E.b.length+1) E.b.length;simp only[xa];omega
theorem jd(A:Int):(KP A).size<=24:=by exact g (p:=fun r:ByteArray=>r.size<=24) (Nat.zero_le _) (gu aq _)
theorem kR(A:Int):(K0 A).size<=24:=by exact g (p:=fun r:ByteArray=>r.size<=24) (Nat.zero_le _) (gu aq _)
theorem Kn(A:XR):(X6 A).size<=200:=by have I:=jd A.a;have X:=kR A.c;have h3:=Z2 A.b.d;have h4:=Z2 A.b.b;have H:(⟨#[32]⟩:ByteArray).size=1:=rfl;have e2:(⟨#[45]⟩:ByteArray).size=1:=rfl;unfold X6;grind
theorem Si(A:List o):∀(n:Nat)(l:List o)(i:Nat)(x y:Int),i<=A.length->(jO A n l i x y).1.length<=l.length+(A.length-i)
 |0,_,_,_,_,_=>Nat.zero_le _
 |n+1,l,i,x,y,hi=>by
  simp only[jO];by_cases h:i<A.length
  ·rw[show decide _=true by simpa using h,cond_true];refine g (p:=fun(r:List o×Int×Int)=>r.1.length<=l.length+_) ?_ ?_
   ·have:=Si A n (l++[C A i]) _ x y h;grind
   ·exact Nat.le_trans (Si A n l _ _ _ h) Y
  ·grind
theorem Sj(A:List o):∀(n:Nat)(l:List o)(i:Nat),i<=A.length->(jL A n l i).length<=l.length+(A.length-i)
 |0,_,_,_=>Nat.zero_le _
 |n+1,l,i,hi=>by
  simp only[jL];by_cases h:i<A.length
  ·rw[show decide _=true by simpa using h,cond_true];refine g (p:=fun(r:List o)=>r.length<=l.length+_) (Nat.le_trans (Sj A n l _ h) Y) ?_;have X:=Si l (l.length+1) [] 0 (C A i).d (C A i).b (Nat.zero_le _)
   refine Nat.le_trans (Sj A n _ _ h) ?_;simp at X⊢;omega
  ·grind
theorem WU{A:List o}(h:R n A):R n (XX A):=
 ⟨Nat.le_trans (Sj A _ [] 0 (Nat.zero_le _)) (by have:=h.1;simp;omega),fun _ _=>trivial⟩
theorem ZQ{A:Int}{G:List o}(h:R n G):R (n+1) (YE A E G):=by
 refine g ⟨?_,fun _ _=>trivial⟩ (ZT (Nat.le_succ n) h);have:=h.1
 grind
theorem Hw{A:Yv}{E:List O}(h:3<=n):R n (ja A E):=by
 have h0:R 0 ([]:List o):=⟨Nat.zero_le _,fun _ _=>trivial⟩;refine g (g ?_ ?_) (g ?_ ?_)
 ·exact WU (ZT h (ZQ (ZQ (ZQ h0))))
 ·exact WU (ZT Y (ZQ (ZQ h0)))
 ·exact WU (ZT Y (ZQ (ZQ h0)))
 ·exact WU (ZT Y (ZQ h0))
theorem mc{c d:o}(h:1<=n):R n (UF [c] [d]):=by show R n (XX (bif(KA c d).2 then[(KA c d).1]else[]));exact WU (g ⟨h,fun _ _=>trivial⟩ ⟨Nat.zero_le _,fun _ _=>trivial⟩)
theorem IB{A:Yv}{E:List O}(h:1<=n):R n (xx A E):=by exact mc h
theorem OZ{A:List YZ}{E:List XD}(h:E.length<=n):R n (K5 A E G V):=
 WU ⟨Nat.le_trans (Iv (fun _ _=>rfl) (fun _ _ _=>rfl) _ [] 0) aD,fun _ _=>trivial⟩
def rl(e:M):Nat:=af (fun s=>s.a.length) e.a
theorem A9{l:List ZY}(h:i<l.length):af (fun s:ZY=>s.a.length) (l.drop i)=(C l i).a.length+af (fun s:ZY=>s.a.length) (l.drop (i+1)):=UH _ h
theorem YC{A:List ZS}{E:Yv}(h:R n A):R n (JF A E):=
 ⟨Nat.le_trans (Iv (F:=xR A E) (fun _ _=>rfl) (fun _ _ _=>rfl) _ [] 0) (by have:=h.1;simp;omega),fun _ _=>trivial⟩
theorem YG{A:List ZS}(h:R n A):R n (ye A):=
 ⟨Nat.le_trans (Iv (F:=qZ A) (fun _ _=>rfl) (fun _ _ _=>rfl) _ [] 0) (by have:=h.1;simp;omega),fun _ _=>trivial⟩
theorem SQ{n:Nat}(A:M)(E:ZV)(h:R n A):∀(m:Nat)(l:List (List Int))(i:Nat),i<=A.a.length->R n l->l.length+(A.a.length-i)<=n->R n (yG A E m l i)
 |0,_,_,_,_,_=>⟨Nat.zero_le _,fun x O=>by cases O⟩
 |m+1,l,i,hi,hl,hk=>by
  simp only[yG];by_cases hv:i<A.a.length
  ·rw[show decide _=true by simpa using hv];refine SQ A E h m _ _ hv ⟨by simp;omega,fun x O=>?_⟩ aD;rcases List.mem_append.1 O with O|O
   ·exact hl.2 x O
   ·rw[List.mem_singleton.1 O];exact jq (Zh (M.Y8 h))
  ·grind
theorem Xb{A:M}{E:ZV}(h:R n A):R n (KX A E):=
 SQ A E h _ [] 0 (Nat.zero_le _) ⟨Nat.zero_le _,fun x O=>by cases O⟩ (by have z:=Z7 (M.Y8 h);simp;omega)
theorem mu{z:Nat}{l:List ZS}(hl:R K l)(hp:R K p)(hk:l.length+1<=K):R K ((l.take z++[p])++(l.drop z).take (l.length-z))/\((l.take z++[p])++(l.drop z).take (l.length-z)).length<=l.length+1:=by
 have h:((l.take z++[p])++(l.drop z).take (l.length-z)).length<=l.length+1:=a0;refine⟨⟨Nat.le_trans h hk,fun x O=>?_⟩,h⟩;simp only[List.mem_append,List.mem_singleton]at O;rcases O with(O|rfl)|O
 ·exact hl.2 x (List.mem_of_mem_take O)
 ·exact hp
 ·exact hl.2 x (List.mem_of_mem_drop (List.mem_of_mem_take O))
theorem W1{K:Nat}(A:ZP)(E:M)(G:List (List Int))(v:Nat)(h:R K E):∀(n:Nat)(l:List ZS)(i:Nat),i<=(C E.a v).a.length->R K l->l.length+((C E.a v).a.length-i)<=K->R K (Js A E G v n l i)/\(Js A E G v n l i).length<=l.length+((C E.a v).a.length-i)
 |0,_,_,_,_,_=>⟨⟨Nat.zero_le _,fun x O=>by cases O⟩,Nat.zero_le _⟩
 |n+1,l,i,hi,hl,hk=>by
  simp only[Js];by_cases hv:i<(C E.a v).a.length
  ·rw[show decide _=true by simpa using hv,cond_true];have hp:R K (C (C E.a v).a i):=Zh (ZY.Yw (Zh (M.Y8 h)))
   refine g (p:=fun(r:List ZS)=>R K r/\r.length<=l.length+((C E.a v).a.length-i)) ?_ ?_
   ·obtain⟨r1,r2⟩:=W1 A E G v h n l (i+1) hv hl Y;exact⟨r1,Y⟩
   ·obtain⟨q1,q2⟩:=mu hl hp Y;obtain⟨r1,r2⟩:=W1 A E G v h n _ (i+1) hv q1 Y;exact⟨r1,Y⟩
  ·grind
theorem RI{K:Nat}(A:ZP)(E:M)(G:List (List Int))(h:R K E):∀(n:Nat)(l:List ZS)(i:Nat),i<=E.a.length->R K l->l.length+af (fun s:ZY=>s.a.length) (E.a.drop i)<=K->R K (zd A E G n l i)
 |0,_,_,_,_,_=>⟨Nat.zero_le _,fun x O=>by cases O⟩
 |n+1,l,i,hi,hl,hk=>by
  simp only[zd];by_cases hv:i<E.a.length
  ·rw[show decide _=true by simpa using hv];have hd:=A9 hv
   obtain⟨r1,r2⟩:=W1 A E G i h _ l 0 (Nat.zero_le _) hl Y;exact RI A E G h n _ _ hv r1 Y
  ·grind
theorem Zo{A:ZP}{E:M}{G:List (List Int)}(h:R K E)(hp:rl E<=2097152)(hk:2097152<=K):R K (YR A E G):=
 RI A E G h _ [] 0 (Nat.zero_le _) ⟨Nat.zero_le _,fun x O=>by cases O⟩ gV
theorem FD(A:ZP)(E:ZU):(zp A E).size<=400:=by
 have I:=Z2 E.b;have X:=Z2 E.d.c;have h3:=Z2 (E.a.a.length:Int);have h4:=Z2 (E.a.b.length:Int);have h5:=Kn (jH A E);unfold zp;simp only[ByteArray.size_append];show 1+_+2+_+1+_+1+_+1+_<=400
 omega
theorem S8{l:List ByteArray}{b:ByteArray}(J:b.size=1)(h:∀x∈l,x.size<=24):∀(n:Nat)(v:ByteArray)(i:Nat),(J9 l b n v i).size<=v.size+25*(l.length-i)
 |0,v,i=>Nat.zero_le _
 |n+1,v,i=>by
  simp only[J9];by_cases hi:i<l.length
  ·have O:=gu h i;have I:=S8 J h n (v++b++C l i) (i+1);have X:=S8 J h n (v++C l i) (i+1);simp at I X;rw[show decide _=true by simpa using hi,Xe];grind
  ·rw[show decide _=false by simpa using hi,XK];omega
theorem O4{l:List ByteArray}(J:b.size=1)(h:∀x∈l,x.size<=24):(js l b).size<=25*l.length:=by have:=S8 J h (l.length+1) ⟨#[]⟩ 0;have e:(⟨#[]⟩:ByteArray).size=0:=rfl;unfold js;simp only;omega
theorem oB{α β:Type}[Inhabited α]{as:List α}(c:α->Bool)(g:α->β){F:Nat->Nat->List β->List β}(I:∀n i l,F (n+1) i l=bif decide ((i:Int)<(as.length:Int))then(bif c (C as i)then F n (i+1) (l++[g (C as i)])else F n (i+1) l)else l)(n i:Nat)(l:List β)(h:as.length<n+i)(X:i<=as.length):F n i l=l++(as.drop i).flatMap (fun a=>bif c a then[g a]else[]):=
 xk (fun a=>bif c a then[g a]else[]) (F:=F) (fun n i l=>by rw[I];cases decide ((i:Int)<_)<;>simp;cases c (C as i)<;>simp) n i l h X
theorem D6{α β:Type}(f:α->List β)(h:∀x,(f x).length<=1):∀l:List α,(l.flatMap f).length<=l.length
 |[]=>Nat.zero_le _
 |x::l=>by have:=D6 f h l;have:=h x;simp only[List.flatMap_cons,List.length_append,List.length_cons];omega
theorem iH{α:Type}(c:Bool)(x:α):(bif c then[x]else[]).length<=1:=by cases c<;>simp
theorem P4(A:ZF):QR A=(Y3 A).flatMap (fun x=>bif(KO A x.b).a==1 then[x.b]else[]):=by have:=oB (as:=Y3 A) (fun x=>(KO A x.b).a==1) (fun x=>x.b) (F:=fun n i l=>WN A n l i) (fun _ _ _=>rfl) ((Y3 A).length+1) 0 [] ab (Nat.zero_le _);unfold QR;grind
theorem DR(A:ZF):(QR A).length<=aB A.a:=by rw[P4,<-W7];exact D6 _ (fun x=>iH _ _) _
theorem QN(A:ZF):(YB A).length<=A.b.b.length:=by have e:=Iv (F:=JW A) (fun _ _=>rfl) (fun _ _ _=>rfl) (A.b.b.length+1) [] 0;have:(YB A).length<=0+_:=e;omega
theorem Uy(A:XY)(E:Int)(h:Jj A E=true):A.a.length<=8:=by
 unfold Jj at h;have hk:∀n v r,yQ A n v= .inl r->r=false:=by
  intro n;induction n with
  |zero=>intro v r h;cases h
  |succ n ih=>intro v r h;rw[yQ]at h;grind
 cases hh:yQ A _ 0 with
 |inl r=>rw[hh]at h;have:=hk _ _ _ hh;subst this;cases h
 |inr u=>rw[hh]at h;simp only[ZJ,Bool.and_eq_true,decide_eq_true_eq]at h;omega
theorem UZ{n:Nat}{A:ZE}{G:List Int}(h:R n A):∀(m v:Nat)(l:List ZU),(∀x∈l,R n x)->l.length<=v->v<=G.length->
  (∀r,KK A G m v l= .inl r->r=(XY.mk 0 0 [] 0,false))/\∀z,KK A G m v l= .inr z->z.length<=G.length/\∀x∈z,R n x
 |0,v,l,_,_,_=>⟨fun r h=>aX,fun z h=>hO⟩
 |m+1,v,l,hs,hl,hv=>by
  let p:=fun w:Sum _ (List ZU)=>(∀r,w= .inl r->r=(XY.mk 0 0 [] 0,false))/\∀z,w= .inr z->z.length<=G.length/\∀x∈z,R n x
  refine Y2 (p:=p) (fun Z=>?_) (fun _=>⟨fun r h=>aX,fun z h=>(by cases h;exact⟨Y,hs⟩)⟩);have Z:v<G.length:=bU
  refine g ⟨fun r h=>cA,fun z h=>aX⟩ ?_;refine UZ h m _ _ (fun x O=>?_) aD Z;rcases List.mem_append.1 O with O|O
  ·exact hs x O
  ·have e:=List.mem_singleton.1 O;subst e;simp_all
theorem jw{A:ZE}{G:List Int}(h:R n A)(X:R n G):R n (Yx A E G V).1:=by
 unfold Yx;obtain⟨k1,k2⟩:=UZ h _ 0 [] (fun x O=>cW) (Nat.zero_le _) (Nat.zero_le _);have h0:R n (XY.mk 0 0 [] 0):=ab
 cases hh:KK A G _ 0 []with
 |inl r=>rw[k1 r hh];exact h0
 |inr z=>
  obtain⟨q1,q2⟩:=k2 z hh;have hz:R n z:=⟨by have:=Z7 X;omega,q2⟩
  refine g (p:=fun w:XY×Bool=>R n w.1) h0 ?_;omega
theorem NF{A:ZE}(J:n<=9223372036854775807)(h:R n A):R n (KZ A E).1:=by
 unfold KZ;by_cases hk:B A E<0
 ·rw[decide_eq_true hk];exact h
 ·rw[decide_eq_false hk];have hi:=ZE.YO h
  have hf:=JM A E;have hl:=Z7 hi;refine⟨?_,fun y hy=>?_⟩
  ·have hm:(A.a.take (B A E).toNat++A.a.drop (W (B A E+1)).toNat).length<=n:=by have w:W _=B A E+1:=YF Y Y;rw[w];simp;omega
   exact hm
  ·have a:=List.mem_append.1 hy;rcases a with hy|hy
   ·exact hi.2 y (List.mem_of_mem_take hy)
   ·exact hi.2 y (List.mem_of_mem_drop hy)
theorem sP(h:R n A):R n (zV A E).1:=by refine g (p:=fun w:ZF×Bool=>R n w.1) h ?_;omega
theorem AX(h:R n A):R n (J3 A E).1:=by refine g (p:=fun w:ZF×Bool=>R n w.1) h ?_;exact⟨h.1,h.2.1,Lr h.2.2.1 trivial,h.2.2.2⟩
theorem tB{V:ZV}(h:R n A)(hd:R n V)(hn:9<=n):R (n+1) (Kc A E G V a4 a5).1:=
 g (p:=fun w:ZF×Bool=>R _ w.1) (ZT (Nat.le_succ n) h) (zy h hd hn)
theorem P7(A:ZF)(E G:Int)(V:ZV)(a4 a5:Int):(Xc A E G V a4 a5).1.g=A.g:=by
 have ai:∀m v r,J5 A E G V a4 a5 m v= .inl r->r.1.g=A.g:=by
  intro m;induction m with
  |zero=>intro v r h;cases h
  |succ m ih=>intro v r h;unfold J5 at h;grind
 unfold Xc;grind
theorem vR{V:ZV}(h:R n A)(hd:R n V)(hn:9<=n):R (n+1) (JU A E G V).1:=by have hs:R _ (Xc A E G V 0 10000).1:=zy h hd hn;refine g (p:=fun w:ZF×Bool=>R _ w.1) (ZT (Nat.le_succ n) h) (g (p:=fun w:ZF×Bool=>R _ w.1) ?_ hs);refine⟨hs.1,hs.2.1,hs.2.2.1,hs.2.2.2.1,hs.2.2.2.2.1,hs.2.2.2.2.2.1,⟨?_,fun _ _=>trivial⟩⟩;rw[P7];have:=Z7 (ZF.NR h);grind
theorem wK{A:ZY}{E:ZS}(h:R n A)(hp:R (n+1) E):R (n+1) (Jb A E).1:=by
 have I:=ZT (Nat.le_succ n) h;refine g (p:=fun w:ZY×Bool=>R _ w.1) I ?_;refine⟨⟨?_,fun x O=>?_⟩,I.2⟩
 ·have:=h.1.1;simp;omega
 ·rcases List.mem_append.1 O with O|O
  ·exact I.1.2 x O
  ·have e:=List.mem_singleton.1 O;subst e;exact hp
theorem LV{A:ZY}{E:Zc}(h:R n A)(hp:R (n+1) E):R (n+1) (XH A E).1:=by
 have I:=ZT (Nat.le_succ n) h;refine g (p:=fun w:ZY×Bool=>R _ w.1) I ?_;refine⟨I.1,⟨?_,fun x O=>?_⟩⟩
 ·have:=h.2.1;simp;omega
 ·rcases List.mem_append.1 O with O|O
  ·exact I.2.2 x O
  ·have e:=List.mem_singleton.1 O;subst e;exact hp
theorem wO{A:ZE}{G:ZS}(h:R n A)(hp:R (n+1) G):R (n+1) (YP A E G).1:=by have I:=ZT (Nat.le_succ n) h;refine g (p:=fun w:ZE×Bool=>R _ w.1) I ?_;refine Lr (ZE.YO I) ?_;have hi:R n (C A.a (B A E).toNat):=Zh (ZE.YO h);exact⟨(ZT (Nat.le_succ n) hi).1,wK hi.2 hp⟩
theorem Gg{x:ZE}(h:R n A)(O:R n x):R n (ZF.mk A.b A.c A.d (A.a.set i x) A.e A.f A.h A.g):=
 ⟨h.1,h.2.1,h.2.2.1,Lr h.2.2.2.1 O,h.2.2.2.2⟩
theorem Ot{V:O}(h:R n A)(hn:5<=n):R (n+1) (Kd A E G V).1:=by have I:=ZT (Nat.le_succ n) h;refine g (p:=fun w:ZF×Bool=>R _ w.1) I ?_;exact Gg I (wO (Zh (ZF.Zz h)) (Xr Y))
theorem Ao(h:R n A)(hn:5<=n):R (n+1) (Jy A E).1:=by
 have I:=ZT (Nat.le_succ n) h;let p:=fun w:ZF×Bool=>R (n+1) w.1
 exact g (p:=p) I (g I (g (Ot h hn) (Ot h hn)))
theorem s8(h:R n A)(hn:5<=n):R (n+1) (zY A E G).1:=by have I:=ZT (Nat.le_succ n) h;exact g (p:=fun w:ZF×Bool=>R _ w.1) I (Ot h hn)
theorem A0{A:ZE}(h:R n A):R n (zA A E).1:=by
 have hi:=ZE.YO h;have ai:∀m v l,(∀x∈l,R n x)->l.length<=v->v<=A.a.length->(Q0 A E m v l).length<=A.a.length/\∀x∈Q0 A E m v l,R n x:=by
  intro m;induction m with
  |zero=>intro v l _ _ _;exact⟨Nat.zero_le _,fun x O=>cW⟩
  |succ m ih=>
   intro v l hs hl hv;let p:=fun w:List ZU=>w.length<=A.a.length/\∀x∈w,R n x
   refine Y2 (p:=p) (fun Z=>?_) (fun _=>⟨Y,hs⟩);have Z:v<A.a.length:=bU
   refine g (ih _ _ (fun x O=>?_) aD Z) (ih _ _ hs Y Z);rcases List.mem_append.1 O with O|O
   ·exact hs x O
   ·have e:=List.mem_singleton.1 O;subst e;simp_all
 obtain⟨k1,k2⟩:=ai _ 0 [] (fun x O=>cW) (Nat.zero_le _) (Nat.zero_le _);have:=Z7 hi
 exact⟨by show(Q0 A E _ 0 []).length<=n;omega,k2⟩
theorem Be(h:R n A):R n (Jz A E).1:=
 g (p:=fun w:ZF×Bool=>R n w.1) h (Gg h (A0 (Zh (ZF.Zz h))))
theorem DP{A:ZE}{G:List ZW}(h:R n A)(hp:R n G)(hn:17<=n):R (n+1) (Jl A E G).1:=by
 have I:R (n+1) A:=ZT (Nat.le_succ n) h;have hi:=ZE.YO h;have ai:∀m v l,l.length=A.a.length->(∀x∈l,R (n+1) x)->(∀r,QL A E G m v l= .inl r->r=(A,false))/\∀z,QL A E G m v l= .inr z->z.length<=A.a.length/\∀x∈z,R (n+1) x:=by
  intro m;induction m with
  |zero=>intro v l _ _;exact⟨fun r h=>aX,fun z h=>hO⟩
  |succ m ih=>
   intro v l hl hs;let p:=fun w:Sum (ZE×Bool) (List ZU)=>(∀r,w= .inl r->r=(A,false))/\∀z,w= .inr z->z.length<=A.a.length/\∀x∈z,R (n+1) x
   refine g (p:=p) (g (p:=p) ⟨fun r h=>cA,fun z h=>aX⟩ (ih _ _ aD (fun x O=>?_))) ⟨fun r h=>aX,fun z h=>(by cases h;exact⟨Y,hs⟩)⟩;rcases List.mem_or_eq_of_mem_set O with O|rfl
   ·exact hs x O
   ·have a:R (n+1) (C l v):=by
     by_cases hv:v<l.length
     ·have:C l v=l[v]:=by simp[C,List.getElem?_eq_getElem hv]
      grind
     ·have:C l v=default:=by simp[C,List.getElem?_eq_none (Nat.le_of_not_lt hv)]
      rw[this];exact Sz.zero _
    have hv:R n (C A.a v):=Zh hi;refine⟨a.1,LV hv.2 ?_⟩;exact⟨NI Y,ZT (Nat.le_succ n) hp⟩
 refine g (p:=fun w:ZE×Bool=>R (n+1) w.1) I ?_;obtain⟨k1,k2⟩:=ai _ 0 A.a rfl (fun x O=>ZT (Nat.le_succ n) (hi.2 x O));cases hh:QL A E G (A.a.length+1) 0 A.a with
 |inl r=>rw[k1 r hh];exact I
 |inr z=>
  obtain⟨q1,q2⟩:=k2 z hh;have:=Z7 hi
  exact g (p:=fun w:ZE×Bool=>R (n+1) w.1) I ⟨by show z.length<=n+1;omega,q2⟩
theorem Nv{n:Nat}{A:ZF}{E:Int}{G:List Int}{V:Int}:∀(m:Nat)(l:List ZW)(v:Nat)(q:List Int),l.length<=v->v<=G.length->
  (∀r,QE A E G V m l v q= .inl r->r=(A,false))/\∀z,QE A E G V m l v q= .inr z->z.1.length<=G.length/\z.2.length<=q.length
 |0,_,_,_,_,_=>⟨fun r h=>aX,fun z h=>(by cases h;exact⟨Nat.zero_le _,Nat.zero_le _⟩)⟩
 |m+1,l,v,q,hl,hv=>by
  let p:=fun w:Sum _ (List ZW×List Int)=>(∀r,w= .inl r->r=(A,false))/\∀z,w= .inr z->z.1.length<=G.length/\z.2.length<=q.length
  refine Y2 (p:=p) (fun Z=>?_) (fun _=>⟨fun r h=>aX,fun z h=>(by cases h;exact⟨Nat.le_trans hl hv,Nat.le_refl _⟩)⟩);have Z:v<G.length:=bU
  have step:∀x i y,p (QE A E G V m (l++[x]) (v+1) (q.set i y)):=fun x i y=>by obtain⟨k1,k2⟩:=Nv (n:=n) (A:=A) (E:=E) (V:=V) m (l++[x]) _ (q.set i y) aD Z;grind
  grind
theorem vi{G:List Int}(h:R n A)(X:R n G)(hn:17<=n):R (n+1) (xd A E G V).1:=by
 have I:=ZT (Nat.le_succ n) h;refine g (p:=fun w:ZF×Bool=>R _ w.1) I ?_;obtain⟨k1,k2⟩:=Nv (n:=n) _ [] 0 A.e (Nat.zero_le _) (Nat.zero_le _);cases hh:QE A E G V _ [] 0 A.e with
 |inl r=>rw[k1 r hh];exact I
 |inr z=>
  obtain⟨q1,q2⟩:=k2 z hh;obtain⟨d,z1⟩:=z;have e2:=Z7 X
  have e3:=Z7 (ZF.Aq h);have hs:R n d:=⟨by simp only at q1;omega,fun _ _=>trivial⟩;refine g (p:=fun w:ZF×Bool=>R _ w.1) I ?_;exact⟨I.1,I.2.1,I.2.2.1,Lr I.2.2.2.1 (DP (Zh (ZF.Zz h)) hs hn),⟨by simp only at q2⊢;omega,fun _ _=>trivial⟩,I.2.2.2.2.2⟩
theorem EE{A:ZE}{E:XY}(h:R n A)(hp:R n E):R (n+E.a.length) (XC A E G).1:=by
 have I:R (n+E.a.length) A:=ZT (Nat.le_add_right _ _) h;have ai:∀m v d l,R (n+v) (ZE.mk d l)->v<=E.a.length->(∀r,Qh A E m v d l= .inl r->r=(A,false))/\∀z,Qh A E m v d l= .inr z->R (n+E.a.length) (ZE.mk z.1 z.2):=by
  intro m;induction m with
  |zero=>intro v d l _ _;exact⟨fun r h=>aX,fun z h=>(by cases h;exact MP)⟩
  |succ m ih=>
   intro v d l hs hv;let p:=fun w:Sum (ZE×Bool) (Int×List ZU)=>(∀r,w= .inl r->r=(A,false))/\∀z,w= .inr z->R (n+E.a.length) (ZE.mk z.1 z.2)
   refine Y2 (p:=p) (fun Z=>?_) (fun _=>⟨fun r h=>aX,fun z h=>(by cases h;exact ZT (Nat.add_le_add_left hv n) hs)⟩);have Z:v<E.a.length:=bU
   exact g (p:=p) ⟨fun r h=>cA,fun z h=>aX⟩ (ih _ _ _ (RP hs (ZT (Nat.le_succ_of_le (Nat.le_add_right n v)) (Zh (XY.YO hp)))) Z)
 unfold XC;obtain⟨k1,k2⟩:=ai (E.a.length+1) 0 A.b A.a h (Nat.zero_le _);grind
theorem De{A:ZE}{G:List Int}(h:R n A):(Yx A E G V).1.a.length<=G.length:=by unfold Yx;obtain⟨k1,k2⟩:=UZ (G:=G) h (G.length+1) 0 [] (fun x O=>cW) (Nat.zero_le _) (Nat.zero_le _);grind
theorem wV{A E:ZE}{G:List Int}(J:n<=9223372036854775807)(h0:R n A)(I:R n E)(X:R n G):R n (XT A E G V).1/\R (n+G.length) (XT A E G V).2.1:=by
 have a:R (n+G.length) (XC E (Yx A E.b G V).1 V).1:=
  ZT (Nat.add_le_add_left (De h0) n) (EE I (jw h0 X))
 have b:R n A/\R (n+G.length) E:=⟨h0,ZT (Nat.le_add_right _ _) I⟩;have ai:∀m v d l,R n (ZE.mk d l)->(∀r,JH A E G m v d l= .inl r->r=(A,E,false))/\∀z,JH A E G m v d l= .inr z->R n (ZE.mk z.1 z.2):=by
  intro m;induction m with
  |zero=>intro v d l _;exact⟨fun r h=>aX,fun z h=>(by cases h;exact MP)⟩
  |succ m ih=>
   intro v d l hs;let p:=fun w:Sum _ (Int×List ZU)=>(∀r,w= .inl r->r=(A,E,false))/\∀z,w= .inr z->R n (ZE.mk z.1 z.2)
   exact g (p:=p) (g (p:=p) ⟨fun r h=>cA,fun z h=>aX⟩ (ih _ _ _ (NF J hs))) ⟨fun r h=>aX,fun z h=>(by cases h;exact hs)⟩
 unfold XT;let p:=fun w:ZE×ZE×Bool=>R n w.1/\R (n+G.length) w.2.1
 obtain⟨k1,k2⟩:=ai (G.length+1) 0 A.b A.a h0;grind
theorem sj(J:n<=9223372036854775807)(h:R n A)(hn:1<=n):R (n+1) (je A E G V).1:=by
 have I:=ZT (Nat.le_succ n) h;have hm:=wV (A:=C A.a E.toNat) (E:=C A.a G.toNat) (G:=[V]) (V:=ZL A.b.c A.b.d) J (Zh (ZF.Zz h)) (Zh (ZF.Zz h)) ⟨hn,fun _ _=>trivial⟩;let p:=fun w:ZF×Bool=>R (n+1) w.1
 exact g (p:=p) I (g ⟨I.1,I.2.1,I.2.2.1,Lr (Lr I.2.2.2.1 (ZT (Nat.le_succ n) hm.1)) hm.2,I.2.2.2.2⟩ I)
theorem RK{A:ZF}{E G:Int}:∀(m v:Nat)(l:List ZW),(∀r,QH A E G m v l= .inl r->r=(A,false))/\∀z,QH A E G m v l= .inr z->z.length<=l.length+((YB A).length-v)
 |0,v,l=>⟨fun r h=>aX,fun z h=>dQ⟩
 |m+1,v,l=>by
  let p:=fun w:Sum _ (List ZW)=>(∀r,w= .inl r->r=(A,false))/\∀z,w= .inr z->z.length<=l.length+((YB A).length-v)
  refine Y2 (p:=p) (fun Z=>?_) (fun _=>⟨fun r h=>aX,fun z h=>ft⟩);obtain⟨k1,k2⟩:=RK (A:=A) (E:=E) (G:=G) m (v+1) (l++[(XU A.b.a A.b.b (ZW.mk (C (YB A) v) 0 G (JR (C (C A.a (u A E).1.toNat).a (u A E).2.toNat) (ZL A.b.c A.b.d)) 0)).1]);grind
theorem EZ(h:R n A):R (n+1) (KI A E G).1:=by
 have I:=ZT (Nat.le_succ n) h;refine g (p:=fun w:ZF×Bool=>R _ w.1) I ?_;obtain⟨k1,k2⟩:=RK _ 0 [];cases hh:QH A E G _ 0 []with
 |inl r=>rw[k1 r hh];exact I
 |inr z=>have hz:=k2 z hh;have hf:=QN A;have ha:=Z7 (ZP.Yi (ZF.YW h));rw[List.length_nil]at hz;have f:R n (C A.a (u A E).1.toNat):=Zh (ZF.Zz h);have v:R n (C (C A.a (u A E).1.toNat).a (u A E).2.toNat):=Zh (ZE.YO f);refine Gg I (Lr (ZE.YO (ZT (Nat.le_succ n) f)) ⟨(ZT (Nat.le_succ n) v).1,LV v.2 ?_⟩);exact⟨MP,⟨by show z.length<=n+1;omega,fun _ _=>trivial⟩⟩
theorem Le{E:YT}(J:n<=9223372036854775807)(h:R n A)(he:R n E)(hn:17<=n):R (n+1) (Qw A E).1:=by
 have I:=ZT (Nat.le_succ n) h;have a:∀w:ZF,R n w->R _ w:=fun w hw=>ZT (Nat.le_succ n) hw;let p:=fun w:ZF×Bool=>R (n+1) w.1
 exact g (p:=p) (a _ (sP h)) (g (tB h he.1 Y) (g (Ao h Y) (g (a _ (AX h)) (g (vi h he.2 hn) (g (sj J h Y) (g (a _ (Be h))
  (g (vR h he.1 Y) (g (EZ h) (g (s8 h Y) I)))))))))
theorem UL(A:t){n:Nat}(hp:R n A):∀(m:Nat)(b:ByteArray)(v:Nat),A.b.length<m+v->v<=A.b.length->(QT A m b v).size<=b.size+(n+3)*(A.b.length-v)
 |0,b,v,h,hv=>Y
 |m+1,b,v,h,hv=>by
  rw[QT];by_cases ag:v<A.b.length
  ·rw[decide_eq_true (show _<_ by omega),Xe];have e:A.b.length-v=(A.b.length-(v+1))+1:=Y
   have O:(C A.a v).size<=n:=Zh (t.xy hp);rw[e];have c:∀x:ByteArray,x.size<=n+3->(QT A m (b++x) (v+1)).size<=b.size+((n+3)*(A.b.length-(v+1))+(n+3)):=fun x O=>by have:=UL A hp m (b++x) (v+1) Y ag;rw[ByteArray.size_append]at this;omega
   let p:=fun z:ByteArray=>z.size<=b.size+((n+3)*(A.b.length-(v+1))+(n+3))
   refine g (p:=p) (c _ (show 2<=n+3 by omega)) (g (c _ ?_) (c _ (show 3<=n+3 by omega)));rw[ByteArray.size_append,ByteArray.size_append];show 2+_+1<=_
   omega
  ·rw[decide_eq_false (show ¬_<_ by omega),XK];omega
theorem TI{A:t}(hp:R n A):(Kl A).size<=24+(n+3)*n:=by have h:=UL A hp (A.b.length+1) (Zr A.e) 0 ab (Nat.zero_le _);have X:=Z2 A.e;have h3:=Nat.mul_le_mul_left (n+3) (Z7 (t.aC hp));exact Nat.le_trans h (Nat.add_le_add X h3)
theorem NW(e:M)(k:Nat):∀(m v:Nat)(l:List ZW),v<=(C e.a k).b.length->(xv e k m v l).length<=l.length+af (fun r=>r.a.length) ((C e.a k).b.drop v)
 |0,v,l,_=>Nat.zero_le _
 |m+1,v,l,hv=>by
  rw[xv];by_cases h:v<(C e.a k).b.length
  ·rw[decide_eq_true (show _<_ by omega),Xe];have I:=NW e k m (v+1) (Kw (C (C e.a k).b v).a l) h
   have X:=U1 (C (C e.a k).b v).a l;have h3:=Pl h;omega
  ·grind
theorem N6(e:M):∀(m v:Nat)(l:List ZW),v<=e.a.length->(xt e m v l).length<=l.length+af bw (e.a.drop v)
 |0,v,l,_=>Nat.zero_le _
 |m+1,v,l,hv=>by
  rw[xt];by_cases h:v<e.a.length
  ·rw[decide_eq_true (show _<_ by omega)];have h0:=NW e v ((C e.a v).b.length+1) 0 l (Nat.zero_le _)
   have I:=N6 e m _ (xv e v ((C e.a v).b.length+1) 0 l) h;have h3:=tG h;have h4:bw _=af (fun r=>r.a.length) (C e.a v).b:=rfl;grind
  ·grind
theorem xQ(w:ZF):(z6 w).length<=Dx (M.mk (Qi w) []):=by
 show(y7 _).length<=_;rw[zL];have h:=N6 (M.mk (Qi w) []) ((Qi w).length+1) 0 [] (Nat.zero_le _)
 rw[List.drop_zero,List.length_nil]at h;dsimp only at h;have e3:∀l:List ZW,jh (M.mk (Qi w) []) (([]:List (List ZW)).length+1) 0 l=l:=fun l=>by rw[jh];rfl
 unfold y7;dsimp only;show(xt _ _ 0 []).length<=af bw (Qi w)+0
 omega
theorem yK(A:ZP):∀(m:Nat)(l:List Int)(v:Nat),A.b.length<m+v->v<=A.b.length->l.length<=v->(JO A m l v).length<=A.b.length
 |0,l,v,h,hv,hl=>Y
 |m+1,l,v,h,hv,hl=>by
  refine Y2 (p:=fun z:List Int=>z.length<=A.b.length) (fun Z=>?_) (fun _=>Y);have ag:v<A.b.length:=bU
  refine g (p:=fun z:List Int=>z.length<=A.b.length) (yK A m _ _ Y ag Y) ?_;refine g (p:=fun z:List Int=>z.length<=A.b.length) (yK A m _ _ Y ag aD) (yK A m _ _ Y ag Y)
theorem Ll(A:ZP):(Qk A).length<=A.b.length:=
 yK A _ [] 0 ab (Nat.zero_le _) (Nat.zero_le _)
theorem yE{A:ZP}(h:R n A):R n (Qk A):=by have k:=Ll A;have k2:=Z7 (ZP.Yi h);exact⟨Y,fun _ _=>trivial⟩
theorem Uc:∀(n:Nat)(x:Int)(l:List UInt8),(∀d∈l,45<=d.toNat/\d.toNat<58)->∀d∈JE n x l,45<=d.toNat/\d.toNat<58
 |0,x,l,h=>fun d hd=>by cases hd
 |n+1,x,l,h=>by
  have O:∀y:Int,48<=y->y<=57->∀d∈([UInt8.ofInt (W y)]:List UInt8)++l,45<=d.toNat/\d.toNat<58:=fun y I X d hd=>by
   rcases List.mem_append.1 hd with hd|hd
   ·rw[List.mem_singleton.1 hd];have e:=oZ (W y)
    have e2:W y=y:=by rw[X8];omega
    rw[e2]at e⊢;have e3:IntKind.u8.wrap y=y:=by rw[IntKind.wrap_u8];omega
    omega
   ·exact h d hd
  refine Y2 (p:=fun r:List UInt8=>∀d∈r,45<=d.toNat/\d.toNat<58) (fun I=>?_) (fun I=>?_)
  ·have I:=of_decide_eq_true I;have J:=Int.tmod_lt_of_pos (-x) (show _<10 by decide);rw[Int.neg_tmod]at J;have hw:48<=48+W (-Int.tmod x 10)/\48+W (-Int.tmod x 10)<=57:=by simp only[X8];omega
   exact g (p:=fun r:List UInt8=>∀d∈r,45<=d.toNat/\d.toNat<58) (O _ hw.1 hw.2) (Uc n _ _ (O _ hw.1 hw.2))
  ·have I:=of_decide_eq_false I;have J:=Int.tmod_lt_of_pos x (show _<10 by decide);exact g (p:=fun r:List UInt8=>∀d∈r,45<=d.toNat/\d.toNat<58) (O _ Y Y) (Uc n _ _ (O _ Y Y))
theorem LN(x:Int):∀d∈(Zr x).data.toList,45<=d.toNat/\d.toNat<58:=by
 unfold Zr;have h:=Uc 21 x [] (fun d hd=>by cases hd)
 refine g (p:=fun r:ByteArray=>∀d∈r.data.toList,45<=d.toNat/\d.toNat<58) (fun d hd=>?_) h;simp at hd;rcases hd with rfl|hd
 ·decide
 ·exact h d hd
def q1(lit:ByteArray)(i:Nat):Bool:=(List.range (i+1)).all (fun j=>(Zr (j:Int)).data.toList !=(lit.data.toList.reverse.takeWhile (·!=32)).reverse)
theorem xL{w lit:ByteArray}{l:List Int}(h:(decide (((w++(⟨#[32]⟩:ByteArray))++(Zr (l.length:Int)))=lit))=true)(k:q1 lit i=true):i<l.length:=by
 refine Nat.lt_of_not_le fun Z=>?_;have h:=of_decide_eq_true h
 have k:=List.all_eq_true.1 k l.length (List.mem_range.2 Y);have hd:=LN (l.length:Int);subst h;generalize Zr _=f at k hd;have e:(((w++(⟨#[32]⟩:ByteArray))++f).data.toList.reverse.takeWhile (·!=32))=f.data.toList.reverse:=by
  simp;rw[List.takeWhile_append_of_pos (fun d hh=>by
   have:=hd d (List.mem_reverse.1 hh);simp;rintro rfl;exact absurd this.1 aq)]
  simp
 rw[e]at k;grind
theorem S7(A:List ByteArray):∀(n:Nat)(acc:List Int)(v:Nat),A.length<n+v->v<=A.length->∀l,JV A n acc v= .inr l->l.length=acc.length+(A.length-v)
 |0,acc,v,I,X=>Y
 |n+1,acc,v,I,X=>by
  refine Y2 (p:=fun r:Sum _ (List Int)=>∀l,r= .inr l->l.length=acc.length+_) (fun Z=>?_) (fun Z l h=>?_)
  ·have Z:=of_decide_eq_true Z;refine g (p:=fun r:Sum _ (List Int)=>∀l,r= .inr l->l.length=acc.length+_) (fun l h=>by cases h) (fun l h=>?_);rw[S7 A n _ _ Y Y l h,List.length_append,List.length_singleton];omega
  ·have Z:=of_decide_eq_false Z;cases h;omega
theorem qI(A:List ByteArray)(h:(Zl A).2=true):(Zl A).1.length=A.length:=by
 have hk:∀n acc v r,JV A n acc v= .inl r->r.2=false:=by
  intro n;induction n with
  |zero=>intro acc v r h;cases h
  |succ n ih=>intro acc v r;refine g (p:=fun q:Sum _ _=>q= .inl r->r.2=false) ?_ (fun h=>by cases h);grind
 have hl:=S7 A (A.length+1) [] 0 ab (Nat.zero_le _);unfold Zl at h⊢;cases e:JV A _ [] 0 with
 |inl r=>rw[e]at h;exact absurd (hk _ _ _ _ e) aD
 |inr l=>simpa using hl l e
theorem O5(A:ByteArray):∀x∈Z0 A,0<x.size:=by
 have ai:∀n (acc:List ByteArray) v,(∀x∈acc,0<x.size)->∀x∈yy A n acc v,0<x.size:=by
  intro n;induction n with
  |zero=>intro acc v _ x O;cases O
  |succ n ih=>
   intro acc v ha;refine g (p:=fun r:List ByteArray=>∀x∈r,0<x.size) (Y2 (p:=fun r:List ByteArray=>∀x∈r,0<x.size) (fun Z=>ih _ _ fun x O=>?_) (fun _=>ih _ _ ha)) ha;rcases List.mem_append.1 O with O|O
   ·exact ha x O
   ·rw[List.mem_singleton.1 O];refine Nat.pos_of_ne_zero fun e=>?_;rw[show C _ v=_ from ByteArray.ext (Array.eq_empty_of_size_eq_zero e)]at Z;cases Z
 exact ai _ _ _ (fun x O=>by cases O)
theorem UR:∀(n:Nat)(x:Int)(l:List UInt8),(n=21\/x.natAbs<10^n)->0<n->∃d t,JE n x l=d::t++l
 |0,x,l,h,hn=>Y
 |n+1,x,l,h,_=>by
  have hr:∀c,_=false->∃d t,JE n (W (Int.tdiv x 10)) ([c]++l)=d::t++l:=fun c X=>by obtain⟨d,t,e⟩:=UR n _ ([c]++l) (fx h X).2 (fx h X).1;grind
  refine g (p:=fun r:List UInt8=>∃d t,r=d::t++l) ?_ ?_<;>exact Y2 (p:=fun r:List UInt8=>∃d t,r=d::t++l) (fun _=>⟨_,[],rfl⟩) (hr _)
theorem Bc(x:Int):0<(Zr x).size:=by
 obtain⟨d,t,e⟩:=UR 21 x [] (.inl rfl) aq;unfold Zr;rw[e];refine g (p:=fun r:ByteArray=>0<r.size) ?_ ?_
 ·rw[ByteArray.size_append];exact Nat.add_pos_left aq _
 ·exact Nat.zero_lt_succ _
theorem Ie{l:List ByteArray}{b:ByteArray}(h:∀x∈l,0<x.size):∀(n:Nat)(v:ByteArray)(i:Nat),l.length<n+i->i<=l.length->(i<l.length\/0<v.size)->0<(J9 l b n v i).size
 |0,v,i,hn,hv,hi=>Y
 |n+1,v,i,hn,hv,hi=>by
  rw[J9];by_cases ag:i<l.length
  ·have I:0<(C l i).size:=h _ (by rw[qU ag];exact List.getElem_mem ag);rw[decide_eq_true (show(i:Int)<_ by omega),Xe];refine g (p:=fun r:ByteArray=>0<r.size) ?_ ?_<;>exact Ie h n _ _ Y ag (.inr aD)
  ·rw[decide_eq_false (show ¬(i:Int)<(l.length:Int)by omega),XK];omega
theorem pd{F:Nat->Int->Nat->Sum (Int×Bool) Int}{ae:Nat}{c:Nat->Bool}{b:Nat->Int}(h0:∀x v,F 0 x v= .inr default)(hs:∀n x v,F (n+1) x v=(bif(decide ((v:Int)<(ae:Int)))then(bif c v then(.inl (0,false))else F n (W ((W (10*x))+(W (IntKind.u8.wrap (b v-48))))) (v+1))else(.inr x)))(Z:∀v,c v=false->48<=b v/\b v<=57)(hl:ae<=13):∀n x v,0<=x->x<10^v->v<=ae->∀r,F n x v= .inr r->0<=r
 |0,x,v,O,a,hv=>fun r h=>by rw[h0]at h;cases h;exact Int.le_refl _
 |n+1,x,v,O,a,hv=>by
  rw[hs];refine Y2 (p:=fun q:Sum _ Int=>∀r,q= .inr r->0<=r) (fun ag=>?_) (fun _ r h=>by cases h;exact O);have ag:=of_decide_eq_true ag
  refine Y2 (p:=fun q:Sum _ Int=>∀r,q= .inr r->0<=r) (fun _ r h=>by cases h) (fun J=>?_);have J:=Z v J
  have hp:(10:Int)^v<=1000000000000:=by have:_^v<=10^12:=Nat.pow_le_pow_right aq Y;have X:=Int.ofNat_le.2 this;rwa[Int.natCast_pow]at X
  have hw:IntKind.u8.wrap (b v-48)=b v-48:=by rw[IntKind.wrap_u8];omega
  have he:W (W (10*x)+W (IntKind.u8.wrap (b v-48)))=10*x+(b v-48):=by rw[hw];simp only[X8];omega
  exact pd h0 hs Z hl n _ _ Y Y Y
theorem OK(A:ByteArray):0<=(YY A).1:=by
 unfold YY;refine Y2 (p:=fun r:Int×Bool=>0<=r.1) (fun _=>Int.le_refl _) (fun Z=>?_);have hl:A.size<=13:=by have:=(Bool.or_eq_false_iff.1 Z).2;have:=of_decide_eq_false this;omega
 have hk:∀n x v r,yd A n x v= .inl r->r.1=0:=by
  intro n;induction n with
  |zero=>intro x v r h;cases h
  |succ n ih=>intro x v r;rw[yd];grind
 have hp:=pd (F:=yd A) (ae:=A.size) (b:=fun v=>((bk A v):Int)) (fun _ _=>rfl) (fun _ _ _=>rfl) (fun v h=>by
  have I:=of_decide_eq_false (Bool.or_eq_false_iff.1 h).1;have X:=of_decide_eq_false (Bool.or_eq_false_iff.1 h).2;omega) hl (A.size+1) 0 0 (Int.le_refl _) aq (Nat.zero_le _)
 cases e:yd A (A.size+1) 0 0 with
 |inl r=>show 0<=r.1;rw[hk _ _ _ _ e];exact Int.le_refl _
 |inr z=>exact g (p:=fun r:Int×Bool=>0<=r.1) (Int.le_refl _) (hp z e)
theorem Dl(A:List ByteArray):∀x∈(Zl A).1,0<=x:=by
 have ai:∀n (acc:List Int) v,(∀x∈acc,0<=x)->(∀r,JV A n acc v= .inl r->r.1=[])/\(∀l,JV A n acc v= .inr l->∀x∈l,0<=x):=by
  intro n;induction n with
  |zero=>intro acc v _;exact⟨fun r h=>aX,fun l h=>(by cases h;intro x O;cases O)⟩
  |succ n ih=>
   intro acc v ha;let p:=fun q:Sum (List Int×Bool) (List Int)=>(∀r,q= .inl r->r.1=[])/\(∀l,q= .inr l->∀x∈l,0<=x)
   refine g (p:=p) (g (p:=p) ⟨fun r h=>cA,fun l h=>aX⟩ (ih _ _ fun x O=>?_)) ⟨fun r h=>aX,fun l h=>(by cases h;exact ha)⟩;rcases List.mem_append.1 O with O|O
   ·exact ha x O
   ·rw[List.mem_singleton.1 O];exact OK _
 obtain⟨k1,k2⟩:=ai _ [] 0 (fun x O=>by cases O);unfold Zl;cases e:JV A _ [] 0 with
 |inl r=>intro x O;have O:x∈r.1:=O;rw[k1 r e]at O;cases O
 |inr l=>exact k2 l e
theorem PE(A:ByteArray)(E:Int):∀(n:Nat)(acc:List ByteArray)(f:Int)(v:Nat),A.size+1<n+v->v<=A.size+1->(∀x∈acc,x.size<=A.size)->(jA A E n acc f v).length<=acc.length+(A.size+1-v)/\∀x∈jA A E n acc f v,x.size<=A.size
 |0,acc,f,v,h,hv,ha=>Y
 |n+1,acc,f,v,h,hv,ha=>by
  let p:=fun r:List ByteArray=>r.length<=acc.length+(A.size+1-v)/\∀x∈r,x.size<=A.size
  refine Y2 (p:=p) (fun Z=>?_) (fun _=>⟨Nat.le_add_right _ _,ha⟩);have Z:=of_decide_eq_true Z
  refine g ?_ ?_
  ·obtain⟨I,X⟩:=PE A E n (acc++[A.extract f.toNat v]) _ (v+1) Y Y (fun x O=>by
    rcases List.mem_append.1 O with O|O
    ·exact ha x O
    ·rw[List.mem_singleton.1 O,ByteArray.size_extract];omega)
   refine⟨?_,X⟩;rw[List.length_append,List.length_singleton]at I;omega
  ·obtain⟨I,X⟩:=PE A E n acc f (v+1) Y Y ha;grind
theorem Ea{A:ByteArray}(h:A.size+1<=n):R n (QJ A E):=by obtain⟨I,X⟩:=PE A E (A.size+2) [] 0 0 Y (Nat.zero_le _) (fun x O=>by cases O);exact⟨Nat.le_trans I a0,fun x O=>Nat.le_trans (X x O) Y⟩
theorem Qd{A:ByteArray}(h:A.size+1<=n):R n (Z0 A):=by
 obtain⟨g1,V⟩:=Ea (E:=32) h;have ai:∀m (acc:List ByteArray) v,(QJ A 32).length<m+v->v<=(QJ A 32).length->(∀x∈acc,x.size<=n)->(yy A m acc v).length<=acc.length+((QJ A 32).length-v)/\∀x∈yy A m acc v,x.size<=n:=by
  intro m;induction m with
  |zero=>intro acc v I X _;omega
  |succ m ih=>
   intro acc v I X ha;rw[yy];let p:=fun r:List ByteArray=>r.length<=acc.length+((QJ A 32).length-v)/\∀x∈r,x.size<=n
   refine Y2 (p:=p) (fun Z=>?_) (fun _=>⟨Nat.le_add_right _ _,ha⟩);have Z:=of_decide_eq_true Z
   refine g (p:=p) ?_ ?_
   ·obtain⟨k1,k2⟩:=ih (acc++[C (QJ A 32) v]) (v+1) Y Y (fun x O=>by
     rcases List.mem_append.1 O with O|O
     ·exact ha x O
     ·rw[List.mem_singleton.1 O];exact Zh (n:=n) ⟨g1,V⟩)
    refine⟨?_,k2⟩;rw[List.length_append,List.length_singleton]at k1;omega
   ·obtain⟨k1,k2⟩:=ih acc (v+1) Y Y ha;exact⟨Y,k2⟩
 obtain⟨k1,k2⟩:=ai ((QJ A 32).length+1) [] 0 Y (Nat.zero_le _) (fun x O=>by cases O);exact⟨Nat.le_trans k1 (by simp;exact g1),k2⟩
theorem Lc(A:List ByteArray):∀(n:Nat)(acc:List Int)(v:Nat)(r:(List Int)×Bool),JV A n acc v= .inl r->r.1=[]
 |0,acc,v,r=>fun h=>aX
 |n+1,acc,v,r=>by
  rw[JV];let p:=fun q:Sum (List Int×Bool) (List Int)=>q= .inl r->r.1=[]
  exact g (p:=p) (g (p:=p) (fun h=>by cases h;rfl) (Lc A n _ _ _)) (fun h=>by cases h)
theorem xi{A:List ByteArray}(h:A.length<=n):R n (Zl A).1:=by
 refine⟨?_,fun _ _=>trivial⟩;have hl:=S7 A (A.length+1) [] 0 Y (Nat.zero_le _)
 unfold Zl;cases e:JV A (A.length+1) [] 0 with
 |inl r=>show r.1.length<=n;rw[Lc _ _ _ _ _ e];exact Nat.zero_le _
 |inr l=>show l.length<=n;rw[hl l e];simp;exact h
theorem Sg(A:Int)(E:List ByteArray)(G:Int):∀(m v:Nat)(l:List Int),(zc A E G m v l).length<=l.length+m
 |0,_,_=>Nat.zero_le _
 |m+1,v,l=>by
  rw[zc];refine g (p:=fun r:List Int=>r.length<=l.length+(m+1)) ?_ Y;have:=Sg A E G m (v+1) (l++[we 1 (yp G [A,v])])
  grind
theorem Qm{A:Int}{E:List ByteArray}(h:R n E)(hn:E.length+1<=n):R n (Y0 A E G).1:=by
 unfold Y0;have:=Sg A E G (E.length+1) 0 []
 refine g (p:=fun r:ZV×Bool=>R n r.1) ⟨Sz.zero n,Sz.zero n⟩ (g (p:=fun r:ZV×Bool=>R n r.1) ⟨Sz.zero n,Sz.zero n⟩ ⟨h,Nat.le_trans this (by simpa using hn),fun _ _=>trivial⟩)
theorem Ix(J:n<=9223372036854775807)(h:R n w)(he:R n e)(hn:17<=n):R (n+1) (YV w e).1:=
 g (p:=fun r:ZF×ByteArray=>R (n+1) r.1) (ZT (Nat.le_succ n) h) (Le J h he hn)
theorem oX(J:n<=9223372036854775807)(h:R n w)(hn:a.size<=200->a.size+5<=n)(d:17<=n):R (n+1) (xW w a).1:=by
 have I:R (n+1) w:=ZT (Nat.le_succ n) h;unfold xW;let p:=fun r:ZF×ByteArray=>R (n+1) r.1
 refine Y2 (p:=p) (fun _=>I) (fun Z=>?_);have hs:a.size<=200:=by have:=of_decide_eq_false (Bool.or_eq_false_iff.1 Z).1;omega
 have hn:=hn hs;have hw:R (a.size+1) (Z0 a):=Qd (Nat.le_refl _);generalize Z0 a=b at hw;have S:∀l:List ByteArray,l.length<=a.size+1->R n (Zl l).1:=fun l hl=>xi Y;have hl:=Z7 hw;have hd:R n (ZV.mk 0 [] []):=⟨Sz.zero n,Sz.zero n⟩;have hm:∀(t:Int)(k:Nat),R n (Y0 t (b.drop k) 11).1:=fun t k=>by
  have s:(b.drop k).length<=a.size+1:=by rw[List.length_drop];omega
  exact Qm ⟨Y,fun x O=>Nat.le_trans (hw.2 x (List.mem_of_mem_drop O)) Y⟩ Y
 have hg:∀k,p (zb w b k):=fun k=>by unfold zb;refine g (p:=p) I (g (p:=p) I (g (p:=p) ?_ ?_))<;>exact g (p:=p) I (Le J h ⟨hm _ _,Sz.zero n⟩ Y)
 have hr:p (z9 w b):=by
  unfold z9;have hi:R n (Zl (b.drop 3)).1:=S _ (by rw[List.length_drop];omega)
  refine g (p:=p) I (g (p:=p) ?_ ?_)<;>exact g (p:=p) I (Ix J h ⟨hd,hi⟩ Y)
 have he:∀k x y z u,p (YV w (YT.mk k x y z u (ZV.mk 0 [] []) [])):=fun k x y z u=>Ix J h ⟨hd,Sz.zero n⟩ Y;refine g (p:=p) (hg 4) (g (p:=p) (hg 3) (g (p:=p) hr (g (p:=p) I ?_)));exact g (p:=p) (he _ _ _ _ _) (g (p:=p) (he _ _ _ _ _) (g (p:=p) (he _ _ _ _ _) (g (p:=p) (he _ _ _ _ _) (g (p:=p) (he _ _ _ _ _) (g (p:=p) (he _ _ _ _ _) (g (p:=p) (he _ _ _ _ _) I))))))
theorem S0(h:R n s):R n (s.extract i j):=by
 have h:=Xw h;show(s.extract i j).size<=n
 rw[ByteArray.size_extract];omega
theorem Eb{α:Type}[Inhabited α][Sz α]{l:List α}(h:R n l):R n l.tail:=by rw[<-List.drop_one];exact xb h
theorem I3{A:ZY}{E:t}(h:R n A):R n (KC A E):=by
 have ai:∀n (acc:List Int) v,A.b.length<n+v->v<=A.b.length->(zJ A E n acc v).length=acc.length+(A.b.length-v):=by
  intro n;induction n with
  |zero=>intro acc v I X;omega
  |succ n ih=>intro acc v I X;rw[zJ];grind
 have X:=ai (A.b.length+1) [] 0 Y Y;have h3:=Z7 (ZY.Qf h);refine⟨?_,fun _ _=>trivial⟩;unfold KC;grind
theorem Wy{n:Nat}(A:M)(E:t)(h:R n A):∀(m:Nat)(l:List (List Int))(i:Nat),i<=A.a.length->R n l->l.length+(A.a.length-i)<=n->R n (Jx A E m l i)
 |0,_,_,_,_,_=>⟨Nat.zero_le _,fun x O=>by cases O⟩
 |m+1,l,i,hi,hl,hk=>by
  simp only[Jx];by_cases hv:i<A.a.length
  ·rw[show decide ((i:Int)<(A.a.length:Int))=true by simpa using hv,cond_true];refine Wy A E h m _ (i+1) hv ⟨by simp;omega,fun x O=>?_⟩ a0;rcases List.mem_append.1 O with O|O
   ·exact hl.2 x O
   ·rw[List.mem_singleton.1 O];exact I3 (Zh (M.Y8 h))
  ·grind
theorem Y5{A:M}{E:t}(h:R n A):R n (QP A E):=
 Wy A E h _ [] 0 (Nat.zero_le _) ⟨Nat.zero_le _,fun x O=>by cases O⟩ (by have z:=Z7 (M.Y8 h);simp;omega)
theorem Lf(l:List Int)(x:Int):(yD l x).length<=l.length+1:=by unfold yD;refine g (p:=fun r:List Int=>r.length<=l.length+1) (Nat.le_succ _) ?_;simp;omega
theorem OW(A:ZU):∀(n:Nat)(l:List Int)(v:Nat),v<=A.a.b.length->(qL A n l v).length<=l.length+(A.a.b.length-v)
 |0,l,v,hv=>Nat.zero_le _
 |n+1,l,v,hv=>by
  rw[qL];refine Y2 (p:=fun r:List Int=>r.length<=l.length+(A.a.b.length-v)) (fun Z=>?_) (fun _=>Nat.le_add_right _ _);have Z:=of_decide_eq_true Z
  have I:=OW A n (yD l (C A.a.b v).b) (v+1) Y;have X:=Lf l (C A.a.b v).b;omega
theorem kZ{A:ZU}(h:R n A):R (n+1) (z8 A):=by
 refine⟨?_,fun _ _=>trivial⟩;have I:=OW A (A.a.b.length+1) [A.d.b] 0 (Nat.zero_le _)
 have X:=Z7 (ZY.Qf (ZU.YU h));exact Nat.le_trans I a0
theorem F8(E:t):∀n (x:Int) v,E.b.length<n+v->v<=E.b.length->0<=x->x+(E.b.length-v:Nat)<=1000->JY E n x v<=x+(E.b.length-v:Nat)/\(JY E n x v=x+(E.b.length-v:Nat)↔∀i,v<=i->i<E.b.length->C E.b i=true)
 |0,x,v,h,hv,_,_=>Y
 |n+1,x,v,h,hv,O,J=>by
  rw[JY];by_cases ag:v<E.b.length
  ·rw[decide_eq_true (show(v:Int)<(E.b.length:Int)by omega),Xe];cases hs:C E.b v with
   |false=>
    rw[XK];have hh:=F8 E n x (v+1) Y ag O Y
    refine⟨Y,fun e=>Y,fun e=>?_⟩;rw[e v (Nat.le_refl _) ag]at hs;cases hs
   |true=>
    rw[Xe,show W (x+1)=x+1 by rw[X8];omega];have hh:=F8 E n (x+1) (v+1) Y ag Y Y
    refine⟨Y,fun e i I X=>?_,fun e=>?_⟩
    ·rcases Nat.eq_or_lt_of_le I with rfl|h3
     ·exact hs
     ·exact hh.2.1 Y i h3 X
    ·have:=hh.2.2 (fun i I X=>e i Y X);omega
  ·rw[decide_eq_false (show ¬(v:Int)<(E.b.length:Int)by omega),XK];exact⟨Y,fun _ i I X=>Y,fun _=>Y⟩
theorem O1{a:t}(h:KW a=true):(a.b.length<=6/\a.a.length=a.b.length/\a.d.length=a.b.length/\a.f.length=a.b.length)/\∀i,i<a.b.length->C a.b i=false->(C a.f i).length=a.c.length:=by
 have ai:∀n v p q r,JX a n v p q= .inr r->a.b.length<n+v->∀i,v<=i->i<a.b.length->C a.b i=false->(C a.f i).length=a.c.length:=by
  intro n;induction n with
  |zero=>intro v p q r _ hn i I X;omega
  |succ n ih=>
   intro v p q r hr hn i I X h3;rw[JX]at hr;have ag:v<a.b.length:=Y
   rw[decide_eq_true (show(v:Int)<(a.b.length:Int)by omega),Xe]at hr;rcases Nat.eq_or_lt_of_le I with rfl|h4
   ·rw[h3,XK]at hr;cases Z:(((!decide (C a.a v=(⟨#[]⟩:ByteArray)))||(C a.d v !=0))||(((C a.f v).length:Int)!=(a.c.length:Int)))with
    |true=>rw[Z]at hr;cases hr
    |false=>have:=(Bool.or_eq_false_iff.1 Z).2;simp at this;omega
   ·cases hs:C a.b v with
    |true=>
     rw[hs,Xe]at hr;cases Z:decide (((C a.f v).length:Int)>0)with
     |true=>rw[Z]at hr;cases hr
     |false=>rw[Z,XK]at hr;exact ih _ _ _ _ hr Y i h4 X h3
    |false=>
     rw[hs,XK]at hr;cases Z:(((!decide (C a.a v=(⟨#[]⟩:ByteArray)))||(C a.d v !=0))||(((C a.f v).length:Int)!=(a.c.length:Int)))with
     |true=>rw[Z]at hr;cases hr
     |false=>rw[Z,XK]at hr;exact ih _ _ _ _ hr Y i h4 X h3
 have J:∀n v p q r,JX a n v p q= .inl r->r=false:=by
  intro n;induction n with
  |zero=>intro v p q r h;cases h
  |succ n ih=>
   intro v p q r;rw[JX];let P:=fun z:Sum Bool (List ByteArray×List Int)=>z= .inl r->r=false
   exact g (p:=P) (g (p:=P) (g (p:=P) (fun h=>by cases h;rfl) (ih _ _ _ _)) (g (p:=P) (fun h=>by cases h;rfl) (ih _ _ _ _))) (fun h=>by cases h)
 unfold KW at h;cases Z:((((!(ZJ (a.b.length:Int) 1 6))||((a.a.length:Int)!=(a.b.length:Int)))||((a.d.length:Int)!=(a.b.length:Int)))||((a.f.length:Int)!=(a.b.length:Int)))with
 |true=>rw[Z]at h;cases h
 |false=>
  rw[Z,XK]at h;simp only[ZJ,Bool.or_eq_false_iff,Bool.not_eq_false',Bool.and_eq_true,decide_eq_true_eq,bne_eq_false_iff_eq]at Z;refine⟨⟨Y,Y,Y,Y⟩,fun i hi hs=>?_⟩;cases e:JX a (a.b.length+1) 0 [] []with
  |inl r=>rw[e,J _ _ _ _ _ e]at h;cases h
  |inr r=>exact ai _ _ _ _ _ e Y i (Nat.zero_le _) hi hs
theorem Ef{A:Int}{E:t}(h:((!(KW E))||((decide ((Kf E.c A)<0))&&(decide ((xq E)<(E.b.length:Int)))))=false)(hv:v<E.b.length):v<E.a.length/\v<E.d.length/\v<E.f.length/\(C E.b v=false->0<=Kf E.c A/\(Kf E.c A).toNat<(C E.f v).length):=by
 obtain⟨I,X⟩:=Bool.or_eq_false_iff.1 h;obtain⟨_,k4⟩:=O1 e8;refine⟨Y,Y,Y,fun hs=>?_⟩;have Z:=F8 E (E.b.length+1) 0 0 ab (Nat.zero_le _) (Int.le_refl _) Y
 have hn:¬JY E _ 0 0=0+_:=fun e=>by have:=Z.2.1 e v (Nat.zero_le _) hv;grind
 have hd:xq E<(E.b.length:Int):=by have e:xq E=JY E _ 0 0:=rfl;omega
 rw[decide_eq_true hd,Bool.and_true]at X;have h3:=of_decide_eq_false X
 have h4:=Fw E.c A;rw[k4 v hv hs];grind
theorem Ui(A:List Int)(E:ZV)(i:Nat):∀(n:Nat)(l:List Int)(v:Nat),v<=A.length->(xE A E i n l v).length<=l.length+(A.length-v)
 |0,l,v,hv=>Nat.zero_le _
 |n+1,l,v,hv=>by
  refine Y2 (p:=fun r:List Int=>r.length<=l.length+_) (fun Z=>?_) (fun _=>Nat.le_add_right _ _);have Z:=of_decide_eq_true Z
  have:=Ui A E i n (l++[yb (C A v) (C E.a i) (C E.d i)]) (v+1) Y;rw[List.length_append,List.length_singleton]at this;omega
theorem kP{n:Nat}(A:List Int)(E:ZV)(G:List Int)(h0:R n A)(I:R n E):∀(m v:Nat)(s:List Bool)(p:List ByteArray)(q:List Int)(d:List (List Int)),v<=E.a.length->s.length<=v->p.length<=v->q.length<=v->d.length<=v->(∀x∈p,x.size<=n)->(∀x∈d,x.length<=n)->(Qx A E G m v s p q d).1.length<=n/\R n (Qx A E G m v s p q d).2.1/\(Qx A E G m v s p q d).2.2.1.length<=n/\R n (Qx A E G m v s p q d).2.2.2
 |0,v,s,p,q,d,hv,_,_,_,_,_,_=>⟨Nat.zero_le _,Sz.zero n,Nat.zero_le _,Sz.zero n⟩
 |m+1,v,s,p,q,d,hv,k1,k2,k3,k4,k5,k6=>by
  have hp:=Z7 (ZV.xy I);let P:=fun r:(List Bool)×List ByteArray×List Int×(List (List Int))=>r.1.length<=n/\R n r.2.1/\r.2.2.1.length<=n/\R n r.2.2.2
  refine Y2 (p:=P) (fun Z=>?_) (fun _=>⟨by show s.length<=n;omega,⟨by show p.length<=n;omega,k5⟩,by show q.length<=n;omega,⟨by show d.length<=n;omega,fun x O=>⟨k6 x O,fun _ _=>trivial⟩⟩⟩);have Z:=of_decide_eq_true Z
  have hl:=Ui A E v (A.length+1) [] 0 (Nat.zero_le _);have X:=Z7 h0;refine g ?_ ?_
  ·refine kP A E G h0 I m _ _ _ _ _ Y aD aD aD aD (fun x O=>?_) (fun x O=>?_)
   ·rcases List.mem_append.1 O with O|O
    ·exact k5 x O
    ·rw[List.mem_singleton.1 O];exact Nat.zero_le _
   ·rcases List.mem_append.1 O with O|O
    ·exact k6 x O
    ·rw[List.mem_singleton.1 O];exact Nat.le_trans hl aD
  ·refine kP A E G h0 I m _ _ _ _ _ Y aD aD aD aD (fun x O=>?_) (fun x O=>?_)
   ·rcases List.mem_append.1 O with O|O
    ·exact k5 x O
    ·rw[List.mem_singleton.1 O];exact Zh (ZV.xy I)
   ·rcases List.mem_append.1 O with O|O
    ·exact k6 x O
    ·rw[List.mem_singleton.1 O];exact Nat.zero_le _
theorem Hf{A:List Int}{E:ZV}{G:List Int}(h0:R n A)(I:R n E):R n (J1 A E G).1:=by obtain⟨k1,k2,k3,k4⟩:=kP A E G h0 I _ 0 [] [] [] [] (Nat.zero_le _) (Nat.le_refl _) (Nat.le_refl _) (Nat.le_refl _) (Nat.le_refl _) (fun x O=>by cases O) (fun x O=>by cases O);refine g (p:=fun r:t×Bool=>R n r.1) ⟨Sz.zero n,Sz.zero n,Sz.zero n,Sz.zero n,Sz.zero n⟩ ⟨h0,⟨k1,fun _ _=>trivial⟩,k2,⟨k3,fun _ _=>trivial⟩,k4⟩
theorem xP{A:ZU}{E:List Int}(h:R n A):R (n+1) (Xf A E).1:=
 Hf (kZ h) (ZT (Nat.le_succ n) (ZU.Q6 h))
theorem S4(z:List Bool):∀(n:Nat)(l:List Int)(v:Nat),(ko z n l v).length<=l.length+n
 |0,l,v=>Nat.zero_le _
 |n+1,l,v=>by refine g (p:=fun z:List Int=>z.length<=l.length+_) (g (p:=fun z:List Int=>z.length<=l.length+_) ?_ (Nat.le_trans (S4 z n l _) ab)) (Nat.le_add_right _ _);exact Nat.le_trans (S4 z n _ _) aD
theorem TD(A:List YZ)(E:List ZX)(G:List ZW):R 101 (qg A E G):=
 ⟨Nat.le_trans (S4 _ 101 [] 0) (Nat.le_of_ble_eq_true rfl),fun _ _=>trivial⟩
theorem Td(A:ZP)(E:ZE)(G:Int):∀(n:Nat)(l:List Int)(v:Nat),(Wa A E G n l v).length<=l.length+n
 |0,l,v=>Nat.zero_le _
 |n+1,l,v=>by refine g (p:=fun z:List Int=>z.length<=l.length+_) (g (p:=fun z:List Int=>z.length<=l.length+_) ?_ (Nat.le_trans (Td A E G n l _) ab)) (Nat.le_add_right _ _);exact Nat.le_trans (Td A E G n _ _) aD
theorem Ty{A:ZP}{E:ZE}(h:R n E):R (n+1) (qC A E G):=
 ⟨Nat.le_trans (Td A E G _ [] 0) (by have:=Z7 (ZE.YO h);simp;omega),fun _ _=>trivial⟩
theorem he{x:Int}(h0:0<=x)(h:decide (x>=(A.a.length:Int))=false):x.toNat<A.a.length:=by have h:=of_decide_eq_false h;omega
theorem MJ{l:List Int}(h:∀x∈l,0<=x)(i:Nat):0<=C l i:=by
 unfold C;rw[List.getD_eq_getElem?_getD];cases e:l[i]? with
 |none=>exact Int.le_refl _
 |some x=>exact h x (List.mem_of_getElem? e)
theorem Vq{A:ZV}(h:Xm A=true):A.d.length=A.a.length:=by
 unfold Xm at h;cases Z:(_||_)with
 |true=>rw[Z]at h;cases h
 |false=>have X:=(Bool.or_eq_false_iff.1 Z).2;rw[bne_eq_false_iff_eq]at X;omega
theorem tL(A:ZF)(E:Int):QQ A E<(A.c.length:Int):=M1 (F:=zk A E) (c:=fun J=>(C A.c J).c==E) (fun _=>rfl) (fun _ _=>rfl) _ _
theorem Ur{A:ZE}(h:R n A):R n (Yu A E):=by
 refine⟨?_,fun _ _=>trivial⟩;have e:=iE (F:=zn A E) (fun _ _=>rfl) (fun _ _ _=>rfl) (A.a.length+1) [] 0
 have:(Yu A E).length<=0+_:=e;have:=Z7 (h);omega
theorem Vh(A:ZE)(E:Int):(Yu A E).length=A.a.length:=by
 have ai:∀n v i,i<=A.a.length->A.a.length<n+i->(zn A E n v i).length=v.length+(A.a.length-i):=by
  intro n;induction n with
  |zero=>intro v i h0 h;omega
  |succ n ih=>intro v i h0 h;rw[zn];grind
 have:=ai (A.a.length+1) [] 0 ab ab;exact this.trans ab
theorem NL{A:List YZ}{E:O}(h:(Uj A E).2=true):0<=Zi A E.e:=by unfold Uj at h;grind
theorem Wb{G:ZV}(h:R n G)(hn:9<=n):R n (Xq A E G V a4).1:=by
 unfold Xq;cases(_||_)with
 |true=>exact⟨⟨MP,MP⟩,MP,MP⟩
 |false=>
  refine⟨h,⟨by simp;omega,fun y hy=>?_⟩,MP⟩;rcases List.mem_cons.1 hy with rfl|hy
  ·exact YH Y
  rcases List.mem_cons.1 hy with rfl|hy
  ·exact PO Y
  ·cases hy
theorem s5{A:ZE}{E:ZU}(h:R n A)(O:R n E):R (n+1) (XE A E).1:=RP h (ZT (Nat.le_succ n) O)
theorem GD(A:ZF)(E:List Int):∀(m v:Nat),E.length<m+v->(match Vo A E m v with|.inl r=>r|.inr _=>true)=true->∀j,v<=j->j<E.length->0<=ZN A.b.b (C E j)/\ZN A.b.b (C E j)<(A.e.length:Int)/\0<=Zi A.b.a (C A.b.b (ZN A.b.b (C E j)).toNat).c
 |0,v,h,_=>fun j I X=>Y
 |m+1,v,h,e=>by
  intro j I X;unfold Vo at e;have Z:decide ((v:Int)<(E.length:Int))=true:=a0
  rw[Z]at e;revert e;cases f:(_||_)with
  |true=>intro e;simp at e
  |false=>
   cases hB:(_||_)with
   |true=>intro e;simp at e
   |false=>
    intro e;rcases Nat.eq_or_lt_of_le I with rfl|I
    ·grind
    ·exact GD A E m _ Y e j I X
theorem zP{E:List Int}(h:qm A E=true)(hj:j<E.length):0<=ZN A.b.b (C E j)/\ZN A.b.b (C E j)<(A.e.length:Int)/\0<=Zi A.b.a (C A.b.b (ZN A.b.b (C E j)).toNat).c:=by refine GD A E (E.length+1) 0 ab ?_ j (Nat.zero_le _) hj;unfold qm at h;grind
theorem R4(E:List ZW):∀(n:Nat)(l:List ZW)(i:Nat),i<=E.length->(zW E n l i).length<=l.length+(E.length-i)
 |0,l,i,_=>Nat.zero_le _
 |n+1,l,i,hi=>by
  simp only[zW];by_cases h:i<E.length
  ·rw[show decide _=true by simpa using h];have I:=R4 E n (l++[C E i]) _ h
   have X:=R4 E n l (i+1) h;simp only[cond_true];refine g (p:=fun(r:List ZW)=>r.length<=l.length+_) ?_ ?_
   ·simp at I;omega
   ·omega
  ·rw[show decide _=false by simpa using h];simp only[cond_false];omega
theorem EC(A E:List ZW):(R6 A E).length<=A.length+E.length:=R4 E _ A 0 (Nat.zero_le _)
theorem yW(A:ZF):kK A (A.a.length+1) 0 []=Qi A:=by
 have X:∀v l,VM A v ((C A.a v).a.length+1) 0 l=l++(C A.a v).a.map (·.a):=by
  intro v l;have:=xk (as:=(C A.a v).a) (fun a=>[a.a]) (F:=VM A v) (fun _ _ _=>rfl) ((C A.a v).a.length+1) 0 l ab (Nat.zero_le _)
  rw[this,Us];rfl
 have:=xk (as:=A.a) (fun a=>a.a.map (·.a)) (F:=kK A) (fun n i l=>by simp only[kK,X]) (A.a.length+1) 0 [] ab (Nat.zero_le _);rw[this,Qi];simp[List.map_flatMap]
theorem NM(A:ZP)(E:ZY)(G:List Int):∀n v,kG A E G n v<=v
 |0,_=>Nat.zero_le _
 |n+1,v=>by exact g (p:=fun r=>r<=v) (Nat.le_trans (NM A E G n _) (Nat.sub_le _ _)) (Nat.le_refl _)
theorem B6(A:ZP)(E:ZY)(G:List Int):0<=xf A E G/\xf A E G<=(E.b.length:Int):=by have h:=NM A E G (E.b.length+1) E.b.length;simp only[xf];omega
theorem Oy(A:List o):∀(n:Nat)(l:List o)(i:Nat)(x y:Int),i<=A.length->(UO A n l i x y).1.length<=l.length+(A.length-i)
 |0,_,_,_,_,_=>Nat.zero_le _
 |n+1,l,i,x,y,hi=>by
  simp only[UO];by_cases h:i<A.length
  ·rw[show decide _=true by simpa using h,cond_true];refine g (p:=fun(r:List o×Int×Int)=>r.1.length<=l.length+_) ?_ ?_
   ·have:=Oy A n (l++[C A i]) _ x y h;grind
   ·exact Nat.le_trans (Oy A n l _ _ _ h) Y
  ·rw[show decide _=false by simpa using h];exact Nat.le_add_right _ _
theorem C1(A:List o)(E:o):(HT A E).length<=A.length+1:=by have h:=Oy A (A.length+1) [] 0 E.d E.b (Nat.zero_le _);simp only[HT];simp at h⊢;omega
theorem Zq{A:List o}(h:R n A):R (n+1) (Xz A E G):=by
 refine g (ZT (Nat.le_succ n) h) ⟨?_,fun _ _=>trivial⟩;have:=h.1
 grind
theorem Ri(A:List ZS)(E:ZS):(Uq A E).length<=A.length+1:=by refine g (p:=fun r:List ZS=>r.length<=A.length+1) (Nat.le_succ _) ?_;grind
theorem L7{A:List ZS}{E:ZS}(h:R n A)(I:R n E)(hl:A.length+1<=n):R n (Uq A E):=by
 refine⟨Nat.le_trans (Ri A E) hl,?_⟩;refine g (p:=fun r:List ZS=>∀x∈r,R n x) h.2 ?_;intro x O;simp only[List.mem_append,List.mem_singleton]at O;rcases O with(O|rfl)|O
 ·exact h.2 x (List.mem_of_mem_take O)
 ·exact I
 ·exact h.2 x (List.mem_of_mem_drop O)
theorem W3{K:Nat}(A:ZP)(E:M)(G:List (List Int))(v:Nat)(h:R K E):∀(n:Nat)(l:List ZS)(i:Nat),i<=(C E.a v).a.length->R K l->l.length+((C E.a v).a.length-i)<=K->R K (JN A E G v n l i)/\(JN A E G v n l i).length<=l.length+((C E.a v).a.length-i)
 |0,_,_,_,_,_=>⟨⟨Nat.zero_le _,fun x O=>by cases O⟩,Nat.zero_le _⟩
 |n+1,l,i,hi,hl,hk=>by
  simp only[JN];by_cases hv:i<(C E.a v).a.length
  ·rw[show decide _=true by simpa using hv,cond_true];have hp:R K (C (C E.a v).a i):=Zh (ZY.Yw (Zh (M.Y8 h)))
   have ay:=Ri l (C (C E.a v).a i);refine g (p:=fun(r:List ZS)=>R K r/\r.length<=l.length+_) ?_ ?_
   ·obtain⟨r1,r2⟩:=W3 A E G v h n _ (i+1) hv (L7 hl hp Y) Y;grind
   ·obtain⟨r1,r2⟩:=W3 A E G v h n l (i+1) hv hl Y;grind
  ·rw[show decide _=false by simpa using hv];grind
theorem RN{K:Nat}(A:ZP)(E:M)(G:List (List Int))(h:R K E):∀(n:Nat)(l:List ZS)(i:Nat),i<=E.a.length->R K l->l.length+af (fun s:ZY=>s.a.length) (E.a.drop i)<=K->R K (zU A E G n l i)
 |0,_,_,_,_,_=>⟨Nat.zero_le _,fun x O=>by cases O⟩
 |n+1,l,i,hi,hl,hk=>by
  simp only[zU];by_cases hv:i<E.a.length
  ·rw[show decide _=true by simpa using hv];have hd:=A9 hv
   obtain⟨r1,r2⟩:=W3 A E G i h _ l 0 (Nat.zero_le _) hl Y;exact RN A E G h n _ _ hv r1 Y
  ·rw[show decide _=false by simpa using hv];exact hl
theorem Zm{A:ZP}{E:M}{G:List (List Int)}(h:R K E)(hp:rl E<=2097152)(hk:2097152<=K):R K (YS A E G):=
 RN A E G h _ [] 0 (Nat.zero_le _) ⟨Nat.zero_le _,fun x O=>by cases O⟩ gV
theorem GB{A:ZP}{G:Zu}(h:((TS A E G).a !=0)=false):0<=Zi A.a G.c:=by
 unfold TS at h;cases hk:decide (Zi A.a G.c<0)with
 |false=>simpa using hk
 |true=>rw[hk]at h;cases I:kF A<;>cases X:Jp G<;>cases h3:decide (E<0)<;>cases h4:(E !=G.e)<;>rw[I,X,h3,h4]at h<;>cases h
theorem OB(A:ZP)(E:ZU):(xu A E).size<=400:=by
 have I:=Z2 E.b;have X:=Z2 E.d.c;have h3:=Z2 (E.a.a.length:Int);have h4:=Z2 (E.a.b.length:Int);have h5:=Kn (jM A E);unfold xu;simp only[ByteArray.size_append];show 1+_+2+_+1+_+1+_+1+_<=400
 omega
theorem H5(A:ZF):y4 A=A.a.flatMap (fun a=>a.a.map (·.b)):=by
 have X:∀v l,R9 A v _ l 0=l++(C A.a v).a.map (·.b):=fun v l=>by have:=xk (as:=(C A.a v).a) (fun x=>[x.b]) (F:=fun n i l=>R9 A v n l i) (fun _ _ _=>rfl) ((C A.a v).a.length+1) 0 l ab (Nat.zero_le _);rw[this,List.drop_zero,Us]
 have:=xk (as:=A.a) (fun a=>a.a.map (·.b)) (F:=fun n i l=>PN A n l i) (fun n i l=>by simp only[PN,X]) (A.a.length+1) 0 [] ab (Nat.zero_le _);unfold y4;grind
theorem sG(A:ZF):(y4 A).length=aB A.a:=by rw[H5,Fm];simp;rfl
theorem P6(A:ZF):Qb A=A.a.flatMap (fun a=>a.a.flatMap (fun x=>bif(Jn A x.b).a==1 then[x.b]else[])):=by
 have X:∀v l,qN A v _ l 0=l++(C A.a v).a.flatMap (fun x=>bif(Jn A x.b).a==1 then[x.b]else[]):=fun v l=>by have:=oB (as:=(C A.a v).a) (fun x=>(Jn A x.b).a==1) (fun x=>x.b) (F:=fun n i l=>qN A v n l i) (fun _ _ _=>rfl) ((C A.a v).a.length+1) 0 l Y (Nat.zero_le _);rw[this,List.drop_zero]
 have:=xk (as:=A.a) (fun a=>a.a.flatMap (fun x=>bif(Jn A x.b).a==1 then[x.b]else[])) (F:=fun n i l=>WE A n l i) (fun n i l=>by simp only[WE,X]) (A.a.length+1) 0 [] Y (Nat.zero_le _);unfold Qb;rw[this];rfl
theorem Dy(A:ZF):(Qb A).length<=aB A.a:=by rw[P6,<-W7,kV,<-List.flatMap_assoc];exact D6 _ (fun x=>iH _ _) _
theorem yt{A:ZE}(h:R n A):R n (jS A E).1:=by
 have hi:=ZE.YO h;have hl:=Z7 hi;have ai:∀m v l,(∀x∈l,R n x)->l.length<=v->v<=A.a.length->(xm A E m v l).length<=A.a.length/\∀x∈xm A E m v l,R n x:=by
  intro m;induction m with
  |zero=>intro v l _ _ _;exact⟨Nat.zero_le _,fun x O=>cW⟩
  |succ m ih=>
   intro v l hs hl hv;let p:=fun w:List ZU=>w.length<=A.a.length/\∀x∈w,R n x
   refine Y2 (p:=p) (fun Z=>?_) (fun _=>⟨Y,hs⟩);have Z:v<A.a.length:=bU
   refine g (ih _ _ (fun x O=>?_) aD Z) (ih _ _ hs Y Z);rcases List.mem_append.1 O with O|O
   ·exact hs x O
   ·have e:=List.mem_singleton.1 O;subst e;simp_all
 obtain⟨k1,k2⟩:=ai _ 0 [] (fun x O=>cW) (Nat.zero_le _) (Nat.zero_le _);refine g (p:=fun w:ZE×Bool=>R n w.1) h ?_;exact⟨by dsimp only;omega,k2⟩
theorem Jv(A:List ByteArray):∀x∈(Z5 A).1,0<=x:=by
 have ai:∀n (acc:List Int) v,(∀x∈acc,0<=x)->(∀r,Ja A n acc v= .inl r->∀x∈r.1,0<=x)/\(∀l,Ja A n acc v= .inr l->∀x∈l,0<=x):=by
  intro n;induction n with
  |zero=>intro acc v _;exact⟨fun r h=>aX,fun l h=>(by cases h;intro x O;cases O)⟩
  |succ n ih=>
   intro acc v ha;let p:=fun q:Sum (List Int×Bool) (List Int)=>(∀r,q= .inl r->∀x∈r.1,0<=x)/\(∀l,q= .inr l->∀x∈l,0<=x)
   refine g (p:=p) (g (p:=p) ⟨fun r h=>(by cases h;exact ha),fun l h=>aX⟩ (ih _ _ fun x O=>?_)) ⟨fun r h=>aX,fun l h=>(by cases h;exact ha)⟩;rcases List.mem_append.1 O with O|O
   ·exact ha x O
   ·rw[List.mem_singleton.1 O];exact OK _
 obtain⟨k1,k2⟩:=ai _ [] 0 (fun x O=>by cases O);unfold Z5;cases e:Ja A (A.length+1) [] 0 with
 |inl r=>exact k1 r e
 |inr l=>exact k2 l e
theorem RC(A:List ByteArray):∀(n:Nat)(acc:List Int)(v:Nat),A.length<n+v->v<=A.length->(∀r,Ja A n acc v= .inl r->r.2=false)/\∀l,Ja A n acc v= .inr l->l.length=acc.length+(A.length-v)
 |0,acc,v,I,X=>Y
 |n+1,acc,v,I,X=>by
  let p:=fun r:Sum (List Int×Bool) (List Int)=>(∀q,r= .inl q->q.2=false)/\∀l,r= .inr l->l.length=acc.length+(A.length-v)
  refine Y2 (p:=p) (fun Z=>?_) (fun Z=>⟨fun q h=>aX,fun l h=>?_⟩)
  ·have Z:=of_decide_eq_true Z;refine g ⟨fun q h=>cA,fun l h=>aX⟩ ?_;obtain⟨k1,k2⟩:=RC A n _ (v+1) Y Y;refine⟨k1,fun l h=>?_⟩;rw[k2 l h,List.length_append,List.length_singleton];omega
  ·have Z:=of_decide_eq_false Z;cases h;omega
theorem kH(A:List ByteArray)(h:(Z5 A).2=true):(Z5 A).1.length=A.length:=by
 obtain⟨k1,k2⟩:=RC A (A.length+1) [] 0 ab (Nat.zero_le _);unfold Z5 at h⊢;cases e:Ja A _ [] 0 with
 |inl r=>rw[e]at h;exact absurd (k1 r e) aD
 |inr l=>simpa using k2 l e
theorem Vk(A:ByteArray):∀(n:Nat)(acc:List ByteArray)(w:ByteArray)(v:Nat),A.size+1<n+v->v<=A.size+1->w.size<=v->(∀x∈acc,x.size<=A.size)->(Kz A n acc w v).length<=acc.length+(A.size+1-v)/\∀x∈Kz A n acc w v,x.size<=A.size
 |0,acc,w,v,h,hv,hw,ha=>Y
 |n+1,acc,w,v,h,hv,hw,ha=>by
  rw[Kz];let p:=fun r:List ByteArray=>r.length<=acc.length+(A.size+1-v)/\∀x∈r,x.size<=A.size
  have h0:(⟨#[]⟩:ByteArray).size<=v+1:=Nat.zero_le _;refine Y2 (p:=p) (fun Z=>?_) (fun _=>⟨Nat.le_add_right _ _,ha⟩);have Z:=of_decide_eq_true Z;refine Y2 (p:=p) (fun hd=>?_) (fun _=>g (p:=p) ?_ ?_)
  ·have hd:=of_decide_eq_true (Bool.and_eq_true_iff.1 hd).1;obtain⟨I,X⟩:=Vk A n acc (w++A.extract v (W ((v:Int)+1)).toNat) (v+1) Y Y (by
    have:(W ((v:Int)+1)).toNat<=v+1:=by rw[X8];omega
    rw[ByteArray.size_append,ByteArray.size_extract];omega) ha
   exact⟨Y,X⟩
  ·obtain⟨I,X⟩:=Vk A n (acc++[w]) ⟨#[]⟩ (v+1) Y Y h0 (fun x O=>by
    rcases List.mem_append.1 O with O|O
    ·exact ha x O
    ·rw[List.mem_singleton.1 O];omega)
   refine⟨?_,X⟩;rw[List.length_append,List.length_singleton]at I;omega
  ·obtain⟨I,X⟩:=Vk A n acc ⟨#[]⟩ (v+1) Y Y h0 ha;exact⟨Y,X⟩
theorem X1{A:ByteArray}(h:A.size+1<=n):R n (Xs A):=by obtain⟨I,X⟩:=Vk A (A.size+2) [] ⟨#[]⟩ 0 Y (Nat.zero_le _) (Nat.zero_le _) (fun x O=>by cases O);exact⟨Nat.le_trans I a0,fun x O=>Nat.le_trans (X x O) Y⟩
theorem IP(A:List ByteArray):∀(n:Nat)(acc:List Int)(v:Nat),A.length<n+v->v<=A.length->∀r,Ja A n acc v= .inl r->r.1.length<=acc.length+(A.length-v)
 |0,acc,v,h,hv=>Y
 |n+1,acc,v,h,hv=>by
  rw[Ja];let p:=fun q:Sum (List Int×Bool) (List Int)=>∀r,q= .inl r->r.1.length<=acc.length+(A.length-v)
  refine Y2 (p:=p) (fun Z=>?_) (fun _ r h=>by cases h);have Z:=of_decide_eq_true Z
  refine g (p:=p) (fun r h=>by cases h;exact Nat.le_add_right _ _) (fun r hr=>?_);have:=IP A n _ (v+1) Y Y r hr
  rw[List.length_append,List.length_singleton]at this;omega
theorem zg{A:List ByteArray}(h:A.length<=n):R n (Z5 A).1:=by
 refine⟨?_,fun _ _=>trivial⟩;have hl:=(RC A (A.length+1) [] 0 Y (Nat.zero_le _)).2
 have hr:=IP A (A.length+1) [] 0 Y (Nat.zero_le _);unfold Z5;cases e:Ja A (A.length+1) [] 0 with
 |inl r=>exact Nat.le_trans (hr r e) (by simp;exact h)
 |inr l=>show l.length<=n;rw[hl l e];simp;exact h
theorem vM{A:ZU}(h:R n A):R (n+2) (z8 A):=ZT (Nat.le_succ _) (kZ h)
theorem ju{A:ZU}{E:List Int}(h:R n A):R (n+2) (Xf A E).1:=ZT (Nat.le_succ _) (xP h)
theorem Pm(A:ByteArray):∀x∈Xs A,0<x.size:=by
 have ai:∀n (acc:List ByteArray) w v,(∀x∈acc,0<x.size)->∀x∈Kz A n acc w v,0<x.size:=by
  intro n;induction n with
  |zero=>intro acc w v _ x O;cases O
  |succ n ih=>
   intro acc w v ha;let p:=fun r:List ByteArray=>∀x∈r,0<x.size
   refine g (p:=p) (g (p:=p) (ih _ _ _ ha) (Y2 (p:=p) (fun Z=>ih _ _ _ fun x O=>?_) (fun _=>ih _ _ _ ha))) ha;rcases List.mem_append.1 O with O|O
   ·exact ha x O
   ·rw[List.mem_singleton.1 O];refine Nat.pos_of_ne_zero fun e=>?_;rw[show w=_ from ByteArray.ext (Array.eq_empty_of_size_eq_zero e)]at Z;cases Z
 exact ai _ _ _ _ (fun x O=>by cases O)
end Go.Mo
