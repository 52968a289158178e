/- Plain lemmas on the models of the helpers. No condition. -/
import Derived.Test.YthecodaabaaaoaaGreatM
namespace Go.Mo
open Go.Vm
set_option linter.unusedSimpArgs false
set_option linter.unusedVariables false
variable{n K i k j:Nat}{a1 a3 a4 a5 a:Int}{a0 w:ZF}{a2:List Int}{x:YN}{p:Zx->Prop}{l:List ZE}
theorem KO(a0:List Y4)(a1:Int):Yk a0 a1<(a0.length:Int):=kq (F:=kC a0 a1) (c:=fun J=>(nth a0 J).Number==a1) (fun _=>rfl) (fun _ _=>rfl) _ _
theorem G2(a0:ZO):R8 a0=a0:=rfl
theorem Ei(a0:List Int):NF a0=a0:=rfl
theorem NP(a0:ZR):UR a0=a0:=rfl
theorem FQ(a0:ZT):Pa a0=a0:=rfl
theorem Ir(a0:List ZT):VT a0=a0:=by
  have h:=jy (F:=kb a0) (a:=a0) (g:=fun x=>x) (fun _=>rfl) (fun _ _ _=>rfl) (a0.length+1) [] 0 zAA zAA;simp only[List.nil_append,List.drop_zero]at h;unfold VT;rw[h]
theorem Iw(a0:List Zm):Se a0=a0:=rfl
theorem Ml(a0:Zb):TY a0=a0:=rfl
theorem IQ(a0:ZW):Vg a0=a0:=by
  have h:=jy (F:=fun n v i=>kT a0 n i v) (a:=a0.ZM) (g:=fun x=>x) (fun _=>rfl) (fun _ _ _=>rfl) (a0.ZM.length+1) [] 0 zAA zAA;simp only[List.nil_append,List.drop_zero]at h;unfold Vg;rw[h]
theorem Fx(a0:ZN):Ou a0=a0:=rfl
theorem M5(a0:ZE):WY a0=a0:=by
  have h:=jy (F:=fun n v i=>jX a0 n i v) (a:=a0.ZB) (g:=fun x=>x) (fun _=>rfl) (fun _ _ _=>rfl) (a0.ZB.length+1) [] 0 zAA zAA;simp only[List.nil_append,List.drop_zero]at h;unfold WY;rw[h]
theorem Gu(a0:ZF):TE a0=a0:=by
  have h:=jy (F:=fun n v i=>Wf a0 n i v) (a:=a0.ZA) (g:=fun x=>x) (fun _=>rfl) (fun _ _ _=>rfl) (a0.ZA.length+1) [] 0 zAA zAA;simp only[List.nil_append,List.drop_zero]at h;unfold TE;rw[h]
theorem zz(a0:List Y4)(a1:Int):Z6 a0 a1<(a0.length:Int):=kq (F:=j7 a0 a1) (c:=fun J=>(nth a0 J).Number==a1) (fun _=>rfl) (fun _ _=>rfl) _ _
theorem Jn(a0:ZE)(a1:Int):ZZ a0 a1<(a0.ZB.length:Int):=kq (F:=zm a0 a1) (c:=fun J=>(nth a0.ZB J).Id==a1) (fun _=>rfl) (fun _ _=>rfl) _ _
theorem EK(a0:List YN)(a1:Int):Xy a0 a1<(a0.length:Int):=kq (F:=xQ a0 a1) (c:=fun J=>(nth a0 J).Za==a1) (fun _=>rfl) (fun _ _=>rfl) _ _
theorem QR(a0:List Zi)(a1:Int):ZY a0 a1<(a0.length:Int):=kq (F:=Jx a0 a1) (c:=fun J=>(nth a0 J).Id==a1) (fun _=>rfl) (fun _ _=>rfl) _ _
theorem IN(a0:List YH)(a1:Int):zp a0 a1<(a0.length:Int):=kq (F:=ya a0 a1) (c:=fun J=>(nth a0 J).Id==a1) (fun _=>rfl) (fun _ _=>rfl) _ _
theorem EG(a0:ZO):O3 a0=a0:=rfl
theorem BW(a0:ZR):Hs a0=a0:=rfl
theorem Cd(a0:ZT):LX a0=a0:=rfl
theorem Ac(a0:List ZT):MG a0=a0:=by
  have h:=jy (F:=Sn a0) (a:=a0) (g:=fun x=>x) (fun _=>rfl) (fun _ _ _=>rfl) (a0.length+1) [] 0 zAA zAA;simp only[List.nil_append,List.drop_zero]at h;unfold MG;rw[h]
theorem Cs(a0:Zb):Mq a0=a0:=rfl
theorem CT(a0:ZW):Pt a0=a0:=by
  have h:=jy (F:=fun n v i=>TN a0 n i v) (a:=a0.ZM) (g:=fun x=>x) (fun _=>rfl) (fun _ _ _=>rfl) (a0.ZM.length+1) [] 0 zAA zAA;simp only[List.nil_append,List.drop_zero]at h;unfold Pt;rw[h]
theorem Cl(a0:ZN):LF a0=a0:=rfl
theorem D5(a0:ZE):Po a0=a0:=by
  have h:=jy (F:=fun n v i=>TO a0 n i v) (a:=a0.ZB) (g:=fun x=>x) (fun _=>rfl) (fun _ _ _=>rfl) (a0.ZB.length+1) [] 0 zAA zAA;simp only[List.nil_append,List.drop_zero]at h;unfold Po;rw[h]
theorem Di(a0:ZF):Pk a0=a0:=by
  have h:=jy (F:=fun n v i=>Uy a0 n i v) (a:=a0.ZA) (g:=fun x=>x) (fun _=>rfl) (fun _ _ _=>rfl) (a0.ZA.length+1) [] 0 zAA zAA;simp only[List.nil_append,List.drop_zero]at h;unfold Pk;rw[h]
theorem FV(a0:ZF)(a1:Int):Xt a0 a1<(a0.Zd.length:Int):=kq (F:=KL a0 a1) (c:=fun J=>(nth a0.Zd J).Key==a1) (fun _=>rfl) (fun _ _=>rfl) _ _
theorem Ts(a0:ZE)(a1:Int):Yz a0 a1<(a0.ZB.length:Int):=kq (F:=qv a0 a1) (c:=fun J=>(nth a0.ZB J).Id==a1) (fun _=>rfl) (fun _ _=>rfl) _ _
theorem TQ(a0:List YN)(a1:Int):YA a0 a1<(a0.length:Int):=kq (F:=ql a0 a1) (c:=fun J=>(nth a0 J).Za==a1) (fun _=>rfl) (fun _ _=>rfl) _ _
theorem JZ(a0:List Zi)(a1:Int):Zj a0 a1<(a0.length:Int):=kq (F:=Km a0 a1) (c:=fun J=>(nth a0 J).Id==a1) (fun _=>rfl) (fun _ _=>rfl) _ _
theorem IV(a0:List YH)(a1:Int):z6 a0 a1<(a0.length:Int):=kq (F:=yl a0 a1) (c:=fun J=>(nth a0 J).Id==a1) (fun _=>rfl) (fun _ _=>rfl) _ _
theorem OX(h:7<=n):Sm n (yL x):=⟨by simp[yL];omega,fun _ _=>trivial⟩
@[simp] theorem s3 (x : YN) : (yL x).length = 7 := rfl
theorem OC(h:7<=n):Sm n (yR x):=⟨by simp[yR];omega,fun _ _=>trivial⟩
@[simp] theorem sf (x : YN) : (yR x).length = 7 := rfl
theorem H9{x:Zm}(h:5<=n):Sm n (zH x):=⟨by simp[zH];omega,fun _ _=>trivial⟩
@[simp] theorem tB (x : Zm) : (zH x).length = 5 := rfl
theorem FH{x:Zm}(h:5<=n):Sm n (Jg x):=⟨by simp[Jg];omega,fun _ _=>trivial⟩
@[simp] theorem tG (x : Zm) : (Jg x).length = 5 := rfl
theorem S4{x:Zp}(h:5<=n):Sm n (KQ x):=⟨by simp[KQ];omega,fun _ _=>trivial⟩
@[simp] theorem ue (x : Zp) : (KQ x).length = 5 := rfl
theorem RJ{x:Zp}(h:5<=n):Sm n (Jr x):=⟨by simp[Jr];omega,fun _ _=>trivial⟩
@[simp] theorem u6 (x : Zp) : (Jr x).length = 5 := rfl
theorem V9{x:Zl}(h:9<=n):Sm n (Qx x):=⟨by simp[Qx];omega,fun _ _=>trivial⟩
@[simp] theorem Ae (x : Zl) : (Qx x).length = 9 := rfl
theorem je{x:Zl}(h:9<=n):Sm n (X0 x):=⟨by simp[X0];omega,fun _ _=>trivial⟩
@[simp] theorem Af (x : Zl) : (X0 x).length = 9 := rfl
theorem Le{x:Xd}(h:6<=n):Sm n (yT x):=⟨by simp[yT];omega,fun _ _=>trivial⟩
@[simp] theorem vr (x : Xd) : (yT x).length = 6 := rfl
theorem Hn{a:ZW}(h:xa a=true):0<a.ZI.length:=by
  unfold xa at h;split at h
  · rename_i r e;have:∀n v,qz a n v≠ .inl true:=by
      intro n;induction n with
      |zero=>intro v h;cases h
      |succ n ih=>
        intro v h;rw[qz]at h;grind
    subst h;exact absurd e (this _ _)
  · split at h
    · rename_i r e;have:∀n v,qp a n v≠ .inl true:=by
        intro n;induction n with
        |zero=>intro v h;cases h
        |succ n ih=>
          intro v h;rw[qp]at h;grind
      subst h;exact absurd e (this _ _)
    · simp only[Ye,Bool.and_eq_true,decide_eq_true_eq]at h;omega
theorem GP{a:ZW}(h:Xi a=true):0<a.ZI.length:=by
  unfold Xi at h;generalize(match xG a (a.ZI.length+1) 0 with|.inl r1=>r1|.inr _=>(match xI a (a.ZM.length+1) 0 with|.inl r2=>r2|.inr _=>true))=m at h;cases hh:ZX (a.ZI.length:Int) 1 12 with
  |false=>rw[hh]at h;simp at h
  |true=>simp only[ZX,Bool.and_eq_true,decide_eq_true_eq]at hh;omega
theorem LV{a:ZR}(h:K7 a=true):a.KZ.length=a.Xw.length:=by
  unfold K7 at h;split at h
  · rename_i r e;have:∀n v,y5 a n v≠ .inl true:=by
      intro n;induction n with
      |zero=>intro v h;cases h
      |succ n ih=>
        intro v h;rw[y5]at h;grind
    subst h;exact absurd e (this _ _)
  · split at h
    · rename_i r e;have:∀n v,ym a n v≠ .inl true:=by
        intro n;induction n with
        |zero=>intro v h;cases h
        |succ n ih=>
          intro v h;rw[ym]at h;grind
      subst h;exact absurd e (this _ _)
    · simp only[Bool.and_eq_true,beq_iff_eq]at h;omega
theorem Mf{a:ZR}(h:z7 a=true):a.KZ.length=a.Xw.length:=by
  unfold z7 at h;grind
theorem Xc(a0:ZF)(a1:Int)(h:0<=(ZH a0 a1).1):(ZH a0 a1).1.toNat<a0.ZA.length/\0<=(ZH a0 a1).2/\(ZH a0 a1).2.toNat<(nth a0.ZA (ZH a0 a1).1.toNat).ZB.length:=by
  have key:∀n v r,js a0 a1 n v= .inl r->r.1.toNat<a0.ZA.length/\0<=r.2/\r.2.toNat<(nth a0.ZA r.1.toNat).ZB.length:=by
    intro n;induction n with
    |zero=>intro v r h;cases h
    |succ n ih=>
      intro v r h;rw[js]at h;cases h1:decide ((v:Int)<(a0.ZA.length:Int))with
      |false=>rw[h1]at h;cases h
      |true=>
        rw[h1]at h;simp only[cond_true]at h;cases h2:decide (Yz (nth a0.ZA v) a1>=0)with
        |false=>rw[h2]at h;exact ih _ _ h
        |true=>
          rw[h2]at h;cases h;simp at h1 h2;have:=Ts (nth a0.ZA v) a1
          grind
  unfold ZH at h⊢;grind
theorem XT(a0:ZF)(a1:Int)(h:0<=(ZK a0 a1).1):(ZK a0 a1).1.toNat<a0.ZA.length/\0<=(ZK a0 a1).2/\(ZK a0 a1).2.toNat<(nth a0.ZA (ZK a0 a1).1.toNat).ZB.length:=by
  have key:∀n v r,qE a0 a1 n v= .inl r->r.1.toNat<a0.ZA.length/\0<=r.2/\r.2.toNat<(nth a0.ZA r.1.toNat).ZB.length:=by
    intro n;induction n with
    |zero=>intro v r h;cases h
    |succ n ih=>
      intro v r h;rw[qE]at h;cases h1:decide ((v:Int)<(a0.ZA.length:Int))with
      |false=>rw[h1]at h;cases h
      |true=>
        rw[h1]at h;simp only[cond_true]at h;cases h2:decide (ZZ (nth a0.ZA v) a1>=0)with
        |false=>rw[h2]at h;exact ih _ _ h
        |true=>
          rw[h2]at h;cases h;simp at h1 h2;have:=Jn (nth a0.ZA v) a1
          grind
  unfold ZK at h⊢;grind
theorem Uc(hn:n<=9223372036854775807)(h:Ye a 0 (W ((n:Int)-1))=true):0<=a/\a<n:=by
  rw[Mt n hn]at h;simp only[Ye,Bool.and_eq_true,decide_eq_true_eq]at h;omega
theorem jU(hn:n<=9223372036854775807)(h:ZX a 0 (W ((n:Int)-1))=true):0<=a/\a<n:=by
  rw[Mt n hn]at h;simp only[ZX,Bool.and_eq_true,decide_eq_true_eq]at h;omega
@[simp] theorem rZ (l : List UInt8) : (kv l).length = l.length := by
  have key:∀n (acc:List Int) v,l.length<n+v->v<=l.length->(qZ l n acc v).length=acc.length+(l.length-v):=by
    intro n;induction n with
    |zero=>intro acc v h1 h2;omega
    |succ n ih=>
      intro acc v h1 h2;rw[qZ];grind
  have:=key (l.length+1) [] 0 zAA zAA;simpa[kv]using this
theorem jV{a0:ZW}{a1:ZR}(h:Sm n a0):Sm n (JW a0 a1):=by
  have key:∀n (acc:List Int) v,a0.ZM.length<n+v->v<=a0.ZM.length->(Kh a0 a1 n acc v).length=acc.length+(a0.ZM.length-v):=by
    intro n;induction n with
    |zero=>intro acc v h1 h2;omega
    |succ n ih=>
      intro acc v h1 h2;rw[Kh];grind
  have h2:=key (a0.ZM.length+1) [] 0 zAA zAA;have h3:=YQ (ZW.zR h);refine⟨?_,fun _ _=>trivial⟩;unfold JW;grind
theorem VH{a0:ZW}{a1:ZR}(h:Sm n a0):Sm n (XU a0 a1):=by
  have key:∀n (acc:List Int) v,a0.ZM.length<n+v->v<=a0.ZM.length->(zQ a0 a1 n acc v).length=acc.length+(a0.ZM.length-v):=by
    intro n;induction n with
    |zero=>intro acc v h1 h2;omega
    |succ n ih=>
      intro acc v h1 h2;rw[zQ];grind
  have h2:=key (a0.ZM.length+1) [] 0 zAA zAA;have h3:=YQ (ZW.zR h);refine⟨?_,fun _ _=>trivial⟩;unfold XU;grind
theorem Xp(a0:ZT):(Qy a0=101->a0.YM.length=7)/\(Qy a0=102->a0.YM.length=5)/\(Qy a0=103->a0.YM.length=5)/\(Qy a0=104->a0.YM.length=9)/\(Qy a0=105->a0.YM.length=6):=by
  have key:∀v:Int,v≠0->Qy a0=v->nth a0.YM 0=v/\(a0.YM.length:Int)=nth ([7,5,5,9,6]:List Int) (W (v-101)).toNat:=by
    intro v hv h;unfold Qy at h;grind
  refine⟨fun h=>?_,fun h=>?_,fun h=>?_,fun h=>?_,fun h=>?_⟩<;>(have:=(key _ zAD h).2;simp[nth,Y0]at this;omega)
theorem Zh(a0:ZT):(Yp a0=101->a0.YM.length=7)/\(Yp a0=102->a0.YM.length=5)/\(Yp a0=103->a0.YM.length=5)/\(Yp a0=104->a0.YM.length=9)/\(Yp a0=105->a0.YM.length=6):=by
  have key:∀v:Int,v≠0->Yp a0=v->nth a0.YM 0=v/\(a0.YM.length:Int)=nth ([7,5,5,9,6]:List Int) (W (v-101)).toNat:=by
    intro v hv h;unfold Yp at h;grind
  refine⟨fun h=>?_,fun h=>?_,fun h=>?_,fun h=>?_,fun h=>?_⟩<;>(have:=(key _ zAD h).2;simp[nth,Y0]at this;omega)
theorem U9(a0:Int)(a1:List Int)(h:a1.length<=1048576):2*(Wa a0 a1).length=a1.length+a1.length%2:=by
  have key:∀n v i,a1.length+1<2*n+i->i<=a1.length+1->i%2=0->2*(kG a0 a1 n v i).length=2*v.length+(a1.length+a1.length%2-i):=by
    intro n;induction n with
    |zero=>intro v i h1 h2;omega
    |succ n ih=>
      intro v i h1 h2 h3;unfold kG;grind
  have:=key (a1.length+1) [] 0 zAA zAA zAA;unfold Wa;rw[this];simp
theorem qi(a0:Int)(a1:List Int)(h:a1.length<=1048576):2*(KP a0 a1).length=a1.length+a1.length%2:=by
  have key:∀n v i,a1.length+1<2*n+i->i<=a1.length+1->i%2=0->2*(Kc a0 a1 n v i).length=2*v.length+(a1.length+a1.length%2-i):=by
    intro n;induction n with
    |zero=>intro v i h1 h2;omega
    |succ n ih=>
      intro v i h1 h2 h3;unfold Kc;grind
  have:=key (a1.length+1) [] 0 zAA zAA zAA;unfold KP;rw[this];simp
theorem TG(h:10<=n):Sm n yg:=⟨h,fun _ _=>trivial⟩
theorem kO{a0:ZE}(h:Sm n a0):Sm n (YS a0 a1):=by
  refine⟨?_,fun _ _=>trivial⟩;have e:=Ab (F:=KR a0 a1) (fun _ _=>rfl) (fun _ _ _=>rfl) (a0.ZB.length+1) [] 0
  have:(YS a0 a1).length<=0+(a0.ZB.length-0):=e;have:=YQ (show Sm n a0.ZB from h);omega
theorem jb(a0:ZE)(a1:Int):(YS a0 a1).length=a0.ZB.length:=by
  have key:∀n v i,i<=a0.ZB.length->a0.ZB.length<n+i->(KR a0 a1 n v i).length=v.length+(a0.ZB.length-i):=by
    intro n;induction n with
    |zero=>intro v i h0 h;omega
    |succ n ih=>
      intro v i h0 h;rw[KR];grind
  have:=key (a0.ZB.length+1) [] 0 zAA zAA;exact this.trans zAE
theorem UH{a0:ZE}(h:Sm n a0):Sm n (Xn a0 a1):=by
  refine⟨?_,fun _ _=>trivial⟩;have e:=Ab (F:=xo a0 a1) (fun _ _=>rfl) (fun _ _ _=>rfl) (a0.ZB.length+1) [] 0
  have:(Xn a0 a1).length<=0+(a0.ZB.length-0):=e;have:=YQ (show Sm n a0.ZB from h);omega
theorem Ql(a0:ZF)(a1:Int)(h:(YP a0 a1).2.2=true):0<=(YP a0 a1).1/\(YP a0 a1).1<(a0.ZA.length:Int)/\0<=(YP a0 a1).2.1/\(YP a0 a1).2.1<(a0.Zd.length:Int):=
  Z1 (p:=fun(r:Int×Int×Bool)=>r.2.2=true->0<=r.1/\r.1<(a0.ZA.length:Int)/\0<=r.2.1/\r.2.1<(a0.Zd.length:Int)) (fun _ h=>by simp at h) (fun hc h=>by
    simp only[Bool.or_eq_false_iff,decide_eq_false_iff_not]at hc
    have f:=XT a0 a1 zAA
    dsimp only at h⊢
    rw[Bool.and_eq_true,decide_eq_true_eq]at h
    have h2:=h.2
    exact⟨zAA,zAA,zAA,EK _ _⟩) h
theorem GC(h:7<=n):Sm n (kB x):=OX h
theorem RZ(h:7<=n):Sm n (JJ x):=OC h
theorem WN{x:Zp}(h:5<=n):Sm n (XS x):=S4 h
theorem SE{x:Zp}(h:5<=n):Sm n (Yq x):=RJ h
theorem FY{x:Zl}(h:9<=n):Sm n (xC x):=V9 h
theorem Y1{x:Zl}(h:9<=n):Sm n (Yf x):=je h
theorem Zf{a0:List Y4}{a1:Zp}(h:(Yv a0 a1).2=true):0<=Yk a0 a1.Z4:=by
  unfold Yv at h;grind
theorem VX{a2:ZR}(h:Sm n a2)(hn:9<=n):Sm n (QI a0 a1 a2 a3 a4).1:=by
  unfold QI;cases((decide (Zo a0.Frame.Methods a0.Frame.Now<0))||(decide (Xt a0 a1<0)))with
  |true=>exact⟨⟨xJ,xJ⟩,xJ,xJ⟩
  |false=>
    refine⟨h,⟨by simp;omega,fun y hy=>?_⟩,xJ⟩;rcases List.mem_cons.1 hy with rfl|hy
    · exact FY zAA
    rcases List.mem_cons.1 hy with rfl|hy
    · exact GC zAA
    · cases hy
theorem Sc{a0:ZE}{a1:ZN}(h:Sm n a0)(hx:Sm (n+1) a1):Sm (n+1) (YZ a0 a1).1:=by
  have h1:Sm (n+1) a0:=ZQ (Nat.le_succ n) h;unfold YZ;cases((decide (ZZ a0 a1.Id>=0))||(!(Ys a0)))with
  |true=>exact h1
  |false=>
    simp only[cond_false];generalize X4 a0 a1 (a0.ZB.length+1) 0=z;cases(!(Ys (ZE.mk a0.Id ((a0.ZB.take z++([a1]:List ZN))++a0.ZB.drop z))))with
    |true=>exact h1
    |false=>
      refine⟨by have:=ZE.YO h;have:=this.1;simp;omega,fun y hy=>?_⟩;have hy':y∈a0.ZB.take z\/y=a1\/y∈a0.ZB.drop z:=by simpa using hy
      rcases hy' with hy|rfl|hy
      · exact h1.2 y (List.mem_of_mem_take hy)
      · exact hx
      · exact h1.2 y (List.mem_of_mem_drop hy)
theorem Ud{n:Nat}{a0:ZE}{a1:ZN}(h:Sm n a0)(hx:Sm n a1):∀(m:Nat)(b:Bool)(i:Nat)(l:List ZN),l.length<=i+(bif b then 1 else 0)->i<=a0.ZB.length->(∀y∈l,Sm n y)->
    (Qq a0 a1 m b i l).2.length<=a0.ZB.length+(bif(Qq a0 a1 m b i l).1 then 1 else 0)/\∀y∈(Qq a0 a1 m b i l).2,Sm n y
  |0,b,i,l,_,_,_=>⟨Nat.zero_le _,fun y hy=>by cases hy⟩
  |m+1,b,i,l,hl,hi,hs=>by
    unfold Qq
    cases hc:decide ((i:Int)<(a0.ZB.length:Int))with
    |false=>
      grind
    |true=>
      have iQ:i<a0.ZB.length:=zBH
      have hn:Sm n (nth a0.ZB i):=Zr h
      simp only[cond_true]
      cases hd:((!b)&&(decide (a1.Id<(nth a0.ZB i).Id)))with
      |true=>
        have hb:b=false:=by cases b<;>simp_all
        subst hb
        simp only[cond_true]
        refine Ud h hx m true (i+1) _ zBm iQ (fun y hy=>?_)
        grind
      |false=>
        simp only[cond_false]
        refine Ud h hx m b (i+1) _ zBm iQ (fun y hy=>?_)
        grind
theorem CG{a0:ZE}{a1:ZN}(h:Sm n a0)(hx:Sm n a1):Sm (n+1) (JO a0 a1).1:=by
  have h1:Sm (n+1) a0:=ZQ (Nat.le_succ n) h;unfold JO;cases((!(Jf a0))||(decide (Yz a0 a1.Id>=0)))with
  |true=>exact h1
  |false=>
    have hz:=Ud h hx (a0.ZB.length+1) false 0 [] (Nat.zero_le _) (Nat.zero_le _) (fun y hy=>by cases hy);have hlen:=(ZE.YO h).1;simp only[cond_false];generalize hq:Qq a0 a1 (a0.ZB.length+1) false 0 []=z at hz⊢;obtain⟨z0,z1⟩:=z;cases z0 with
    |false=>
      simp only[Bool.not_false,cond_true];cases(!(Jf (ZE.mk a0.Id (z1++([a1]:List ZN)))))with
      |true=>exact h1
      |false=>
        refine⟨by have:=hz.1;simp at this⊢;omega,fun y hy=>?_⟩;have hy':y∈z1\/y=a1:=by simpa using hy
        rcases hy' with hy|rfl
        · exact ZQ (Nat.le_succ n) (hz.2 y hy)
        · exact ZQ (Nat.le_succ n) hx
    |true=>
      simp only[Bool.not_true,cond_false];cases(!(Jf (ZE.mk a0.Id z1)))with
      |true=>exact h1
      |false=>exact⟨by have:=hz.1;simp at this⊢;omega,fun y hy=>ZQ (Nat.le_succ n) (hz.2 y hy)⟩
theorem RC{n:Nat}{a0:ZF}{a1 a2:Int}{a3:ZR}{a4 a5:Int}(h:Sm n a0)(hd:Sm n a3)(hn:9<=n):∀(m v:Nat)(r:ZF×Bool),JC a0 a1 a2 a3 a4 a5 m v= .inl r->Sm (n+1) r.1
  |0,v,r,e=>by cases e
  |m+1,v,r,e=>by
    have h1:Sm (n+1) a0:=ZQ (Nat.le_succ n) h
    unfold JC at e
    cases hc:decide ((v:Int)<(a0.Zd.length:Int))with
    |false=>rw[hc]at e;cases e
    |true=>
      rw[hc]at e
      simp only[cond_true]at e
      cases hk:((nth a0.Zd v).Key !=a2)with
      |true=>rw[hk]at e;exact RC h hd hn m (v+1) r e
      |false=>
        rw[hk]at e
        simp only[cond_false]at e
        generalize hq:(ZN.mk a0.Next a5 a3 (XV a0.Frame.Zt (Zl.mk a2 (nth a0.Zd v).Za (ZS a0.Frame.Methods a0.Frame.Now) (Yb (ZS a0.Frame.Methods a0.Frame.Now) a3) 1 a4 0 0 0)).1 (ZW.mk ([Yf (XV a0.Frame.Zt (Zl.mk a2 (nth a0.Zd v).Za (ZS a0.Frame.Methods a0.Frame.Now) (Yb (ZS a0.Frame.Methods a0.Frame.Now) a3) 1 a4 0 0 0)).1,JJ (nth a0.Zd v)]:List ZT) ([]:List Zb)))=it at e
        have hit:Sm (n+1) it:=by
          rw[<-hq]
          refine⟨ZQ (Nat.le_succ n) hd,⟨by simp;omega,fun y hy=>?_⟩,xJ⟩
          rcases List.mem_cons.1 hy with rfl|hy
          · exact Y1 zAA
          rcases List.mem_cons.1 hy with rfl|hy
          · exact RZ zAA
          · cases hy
        clear hq
        cases hb:((!(XV a0.Frame.Zt (Zl.mk a2 (nth a0.Zd v).Za (ZS a0.Frame.Methods a0.Frame.Now) (Yb (ZS a0.Frame.Methods a0.Frame.Now) a3) 1 a4 0 0 0)).2)||(!(YZ (nth a0.ZA a1.toNat) it).2))with
        |true=>rw[hb]at e;cases e;exact h1
        |false=>
          rw[hb]at e
          cases e
          exact⟨h1.1,h1.2.1,h1.2.2.1,RU h1.2.2.2.1 (Sc (Zr h.2.2.2.1) hit),h1.2.2.2.2.1,h1.2.2.2.2.2.1,h1.2.2.2.2.2.2⟩
theorem zA{a2:Int}{a3:ZR}(h:Sm n a0)(hd:Sm n a3)(hn:9<=n):Sm (n+1) (XR a0 a1 a2 a3 a4 a5).1:=by
  have h1:Sm (n+1) a0:=ZQ (Nat.le_succ n) h;unfold XR;cases(((!(YG a0 a1))||(decide (Z6 a0.Frame.Zt a2<0)))||(decide (ZS a0.Frame.Methods a0.Frame.Now<0)))with
  |true=>exact h1
  |false=>
    simp only[cond_false];cases he:JC a0 a1 a2 a3 a4 a5 (a0.Zd.length+1) 0 with
    |inl r=>exact RC h hd hn _ _ r he
    |inr _=>exact h1
theorem qn(a0:Int):∀(m:Nat)(x:Int)(l:List X8)(y:List Int),(Ky a0 m x l y).length<=l.length+m
  |0,x,l,y=>Nat.zero_le _
  |m+1,x,l,y=>by
    simp only[Ky]
    cases decide ((y.length:Int)>1)with
    |false=>simp
    |true=>
      simp only[cond_true]
      cases(Int.tmod x 2==1)with
      |true=>refine Nat.le_trans (qn a0 m _ _ _) ?_;simp;omega
      |false=>
        simp only[cond_false]
        cases decide (W (x+1)<(y.length:Int))with
        |true=>refine Nat.le_trans (qn a0 m _ _ _) ?_;simp;omega
        |false=>refine Nat.le_trans (qn a0 m _ _ _) ?_;omega
theorem EZ{a0:Int}{a1:List Int}{a2:Int}(h:17<=n):Sm n (za a0 a1 a2):=by
  refine⟨?_,fun _ _=>trivial⟩;unfold za;cases hc:((decide ((a1.length:Int)>16))||(!(Ye a2 0 (W ((a1.length:Int)-1)))))with
  |true=>exact Nat.zero_le _
  |false=>
    have h1:=qn a0 (a1.length+1) a2 [] a1;grind
theorem qg(a0:Int):∀(m:Nat)(y:List Int)(x:Int)(l:List X8),(Kz a0 m y x l).length<=l.length+m
  |0,y,x,l=>Nat.zero_le _
  |m+1,y,x,l=>by
    simp only[Kz]
    cases decide ((y.length:Int)>1)with
    |false=>simp
    |true=>
      simp only[cond_true]
      cases(Int.tmod x 2==1)with
      |true=>refine Nat.le_trans (qg a0 m _ _ _) ?_;simp;omega
      |false=>
        simp only[cond_false]
        cases decide (W (x+1)<(y.length:Int))with
        |true=>refine Nat.le_trans (qg a0 m _ _ _) ?_;simp;omega
        |false=>refine Nat.le_trans (qg a0 m _ _ _) ?_;omega
theorem OO{a0:Int}{a1:List Int}{a2:Int}(h:17<=n):Sm n (JH a0 a1 a2):=by
  refine⟨?_,fun _ _=>trivial⟩;unfold JH;cases hc:((!(ZX a2 0 (W ((a1.length:Int)-1))))||(decide ((a1.length:Int)>16)))with
  |true=>exact Nat.zero_le _
  |false=>
    have h1:=qg a0 (a1.length+1) a1 a2 [];grind
theorem OZ(a0:ZF)(a1:List Int):∀(m v:Nat),a1.length<m+v->(match jo a0 a1 m v with|.inl r=>r|.inr _=>true)=true->∀j,v<=j->j<a1.length->0<=Zj a0.Frame.ZC (nth a1 j)/\Zj a0.Frame.ZC (nth a1 j)<(a0.Y2.length:Int)/\0<=Yk a0.Frame.Zt (nth a0.Frame.ZC (Zj a0.Frame.ZC (nth a1 j)).toNat).Key
  |0,v,h,_=>fun j h1 h2=>zAA
  |m+1,v,h,e=>by
    intro j h1 h2
    unfold jo at e
    have hc:decide ((v:Int)<(a1.length:Int))=true:=zAo
    rw[hc]at e
    simp only[cond_true]at e
    revert e
    cases hA:(((decide (Zj a0.Frame.ZC (nth a1 v)<0))||(decide (Zj a0.Frame.ZC (nth a1 v)>=(a0.Y2.length:Int))))||((decide ((v:Int)>0))&&(decide (nth a1 (v-1)>=nth a1 v))))with
    |true=>intro e;simp at e
    |false=>
      simp only[cond_false]
      cases hB:((decide (Yk a0.Frame.Zt (nth a0.Frame.ZC (Zj a0.Frame.ZC (nth a1 v)).toNat).Key<0))||(decide ((nth a0.Frame.Zt (Yk a0.Frame.Zt (nth a0.Frame.ZC (Zj a0.Frame.ZC (nth a1 v)).toNat).Key).toNat).VO>a0.Frame.Now)))with
      |true=>intro e;simp at e
      |false=>
        intro e
        rcases Nat.eq_or_lt_of_le h1 with rfl|h1
        · grind
        · exact OZ a0 a1 m (v+1) zAA e j h1 h2
theorem J6{a1:List Int}(h:yB a0 a1=true)(hj:j<a1.length):0<=Zj a0.Frame.ZC (nth a1 j)/\Zj a0.Frame.ZC (nth a1 j)<(a0.Y2.length:Int)/\0<=Yk a0.Frame.Zt (nth a0.Frame.ZC (Zj a0.Frame.ZC (nth a1 j)).toNat).Key:=by
  refine OZ a0 a1 (a1.length+1) 0 zAA ?_ j (Nat.zero_le _) hj;unfold yB at h;grind
def itn(l:List ZE):Nat:=cnL (fun a=>a.ZB.length) l
theorem BD(h:i<l.length):itn (l.drop i)=(nth l i).ZB.length+itn (l.drop (i+1)):=DL _ h
theorem Gb(a0:ZF):Q0 a0=a0.ZA.flatMap (·.ZB):=by
  unfold Q0;have:=PS (as:=a0.ZA) (fun a=>a.ZB) (F:=fun n i l=>TK a0 n l i) (fun _ _ _=>rfl) (a0.ZA.length+1) 0 [] zAA (Nat.zero_le _)
  simpa using this
theorem Of(a0:ZF):(Q0 a0).length=itn a0.ZA:=by rw[Gb,BA];rfl
theorem Hx{n:Nat}:∀(l:List ZE),(∀a∈l,Sm n a)->itn l<=l.length*n
  |[],_=>Nat.zero_le _
  |a::l,h=>by
    have h1:a.ZB.length<=n:=YQ (ZE.YO (h a List.mem_cons_self))
    have h2:=Hx l (fun b hb=>h b (List.mem_cons_of_mem _ hb))
    show a.ZB.length+itn l<=(l.length+1)*n
    rw[Nat.add_mul,Nat.one_mul]
    omega
theorem Cm(h:Sm n w):itn w.ZA<=n*n:=
  have k:=ZF.YR h
  Nat.le_trans (Hx w.ZA k.2) (Nat.mul_le_mul_right n k.1)
theorem SF(a0:ZO)(a1:ZW)(a2:List Int):∀n v,K8 a0 a1 a2 n v<=v
  |0,_=>Nat.zero_le _
  |n+1,v=>by
    simp only[K8]
    exact Zk (p:=fun r=>r<=v) (Zk (p:=fun r=>r<=v) (Nat.le_refl _) (Nat.le_trans (SF a0 a1 a2 n (v-1)) (Nat.sub_le _ _))) (Nat.le_refl _)
theorem HK(a0:ZO)(a1:ZW)(a2:List Int):0<=Je a0 a1 a2/\Je a0 a1 a2<=(a1.ZM.length:Int):=by
  have h:=SF a0 a1 a2 (a1.ZM.length+1) a1.ZM.length;simp only[Je];omega
theorem VE(a0:List Ze):∀(n:Nat)(l:List Ze)(i:Nat)(x y:Int),i<=a0.length->(Qc a0 n l i x y).1.length<=l.length+(a0.length-i)
  |0,_,_,_,_,_=>Nat.zero_le _
  |n+1,l,i,x,y,hi=>by
    simp only[Qc]
    by_cases h:i<a0.length
    · rw[show decide ((i:Int)<(a0.length:Int))=true by simpa using h,cond_true]
      refine Zk (p:=fun(r:List Ze×Int×Int)=>r.1.length<=l.length+(a0.length-i)) ?_ ?_
      · have:=VE a0 n (l++[nth a0 i]) (i+1) x y h
        simp at this;omega
      · exact Nat.le_trans (VE a0 n l (i+1) _ _ h) zAA
    · grind
theorem VJ(a0:List Ze):∀(n:Nat)(l:List Ze)(i:Nat),i<=a0.length->(z8 a0 n l i).length<=l.length+(a0.length-i)
  |0,_,_,_=>Nat.zero_le _
  |n+1,l,i,hi=>by
    simp only[z8]
    by_cases h:i<a0.length
    · rw[show decide ((i:Int)<(a0.length:Int))=true by simpa using h,cond_true]
      refine Zk (p:=fun(r:List Ze)=>r.length<=l.length+(a0.length-i)) (Nat.le_trans (VJ a0 n l (i+1) h) zAA) ?_
      have h2:=VE l (l.length+1) [] 0 (nth a0 i).XH (nth a0 i).To (Nat.zero_le _)
      refine Nat.le_trans (VJ a0 n _ (i+1) h) ?_
      simp at h2⊢
      omega
    · grind
theorem qo{a0:List Ze}(h:Sm n a0):Sm n (Xg a0):=
  ⟨Nat.le_trans (VJ a0 (a0.length+1) [] 0 (Nat.zero_le _)) (by have:=h.1;simp;omega),fun _ _=>trivial⟩
theorem ZL{a0:Int}{a2:List Ze}(h:Sm n a2):Sm (n+1) (Zu a0 a1 a2):=by
  unfold Zu;refine Zk (p:=fun r:List Ze=>Sm (n+1) r) ⟨?_,fun _ _=>trivial⟩ (ZQ (Nat.le_succ n) h);have:=h.1
  simp;omega
theorem ED{a0:YN}{a1:List Zp}(h:3<=n):Sm n (jj a0 a1):=by
  have h0:Sm 0 ([]:List Ze):=⟨Nat.zero_le _,fun _ _=>trivial⟩;unfold jj;refine Zk (p:=fun r:List Ze=>Sm n r) (Zk (p:=fun r:List Ze=>Sm n r) ?_ ?_) (Zk (p:=fun r:List Ze=>Sm n r) ?_ ?_)
  · exact qo (ZQ h (ZL (ZL (ZL h0))))
  · exact qo (ZQ zAA (ZL (ZL h0)))
  · exact qo (ZQ zAA (ZL (ZL h0)))
  · exact qo (ZQ zAA (ZL h0))
theorem wy{c d:Ze}(h:1<=n):Sm n (Vw [c] [d]):=by
  show Sm n (Xg (bif(X5 c d).2 then[(X5 c d).1]else[]));exact qo (Zk (p:=fun r:List Ze=>Sm n r) ⟨h,fun _ _=>trivial⟩ ⟨Nat.zero_le _,fun _ _=>trivial⟩)
theorem Gi{a0:YN}{a1:List Zp}(h:1<=n):Sm n (qR a0 a1):=by
  unfold qR;exact wy h
theorem MN{a0:List Y4}{a1:List Xd}{a2:Int}(h:a1.length<=n):Sm n (qT a0 a1 a2 a3):=
  qo ⟨Nat.le_trans (PR (F:=yi a0 a1 a2 a3) (fun _ _=>rfl) (fun _ _ _=>rfl) (a1.length+1) [] 0) zAo,fun _ _=>trivial⟩
def ph(e:Z9):Nat:=cnL (fun s=>s.ZI.length) e.Z8
theorem vC{l:List ZW}(h:i<l.length):cnL (fun s:ZW=>s.ZI.length) (l.drop i)=(nth l i).ZI.length+cnL (fun s:ZW=>s.ZI.length) (l.drop (i+1)):=DL _ h
theorem Yu{a0:List ZT}{a1:YN}(h:Sm n a0):Sm n (QB a0 a1):=
  ⟨Nat.le_trans (PR (F:=J8 a0 a1) (fun _ _=>rfl) (fun _ _ _=>rfl) (a0.length+1) [] 0) (by have:=h.1;simp;omega),fun _ _=>trivial⟩
theorem Y3{a0:List ZT}(h:Sm n a0):Sm n (K1 a0):=
  ⟨Nat.le_trans (PR (F:=zU a0) (fun _ _=>rfl) (fun _ _ _=>rfl) (a0.length+1) [] 0) (by have:=h.1;simp;omega),fun _ _=>trivial⟩
theorem Wn{n:Nat}(a0:Z9)(a1:ZR)(h:Sm n a0):∀(m:Nat)(l:List (List Int))(i:Nat),i<=a0.Z8.length->Sm n l->l.length+(a0.Z8.length-i)<=n->Sm n (Ko a0 a1 m l i)
  |0,_,_,_,_,_=>⟨Nat.zero_le _,fun x hx=>by cases hx⟩
  |m+1,l,i,hi,hl,hk=>by
    simp only[Ko]
    by_cases hv:i<a0.Z8.length
    · rw[show decide ((i:Int)<(a0.Z8.length:Int))=true by simpa using hv,cond_true]
      refine Wn a0 a1 h m _ (i+1) hv ⟨by simp;omega,fun x hx=>?_⟩ zAo
      rcases List.mem_append.1 hx with hx|hx
      · exact hl.2 x hx
      · rw[List.mem_singleton.1 hx];exact VH (Zr (Z9.Qt h))
    · grind
theorem Jb{a0:Z9}{a1:ZR}(h:Sm n a0):Sm n (Z3 a0 a1):=
  Wn a0 a1 h _ [] 0 (Nat.zero_le _) ⟨Nat.zero_le _,fun x hx=>by cases hx⟩ (by have z:=YQ (Z9.Qt h);simp;omega)
theorem D4{z:Nat}{l:List ZT}{p:ZT}(hl:Sm K l)(hp:Sm K p)(hk:l.length+1<=K):Sm K ((l.take z++[p])++(l.drop z).take (l.length-z))/\((l.take z++[p])++(l.drop z).take (l.length-z)).length<=l.length+1:=by
  have h:((l.take z++[p])++(l.drop z).take (l.length-z)).length<=l.length+1:=zAo;refine⟨⟨Nat.le_trans h hk,fun x hx=>?_⟩,h⟩;simp only[List.mem_append,List.mem_singleton]at hx;rcases hx with(hx|rfl)|hx
  · exact hl.2 x (List.mem_of_mem_take hx)
  · exact hp
  · exact hl.2 x (List.mem_of_mem_drop (List.mem_of_mem_take hx))
theorem jH{K:Nat}(a0:ZO)(a1:Z9)(a2:List (List Int))(v:Nat)(h:Sm K a1):∀(n:Nat)(l:List ZT)(i:Nat),i<=(nth a1.Z8 v).ZI.length->Sm K l->l.length+((nth a1.Z8 v).ZI.length-i)<=K->Sm K (QX a0 a1 a2 v n l i)/\(QX a0 a1 a2 v n l i).length<=l.length+((nth a1.Z8 v).ZI.length-i)
  |0,_,_,_,_,_=>⟨⟨Nat.zero_le _,fun x hx=>by cases hx⟩,Nat.zero_le _⟩
  |n+1,l,i,hi,hl,hk=>by
    simp only[QX]
    by_cases hv:i<(nth a1.Z8 v).ZI.length
    · rw[show decide ((i:Int)<((nth a1.Z8 v).ZI.length:Int))=true by simpa using hv,cond_true]
      have hp:Sm K (nth (nth a1.Z8 v).ZI i):=Zr (ZW.QE (Zr (Z9.Qt h)))
      refine Zk (p:=fun(r:List ZT)=>Sm K r/\r.length<=l.length+((nth a1.Z8 v).ZI.length-i)) ?_ ?_
      · obtain⟨r1,r2⟩:=jH a0 a1 a2 v h n l (i+1) hv hl zAA
        exact⟨r1,zAA⟩
      · obtain⟨q1,q2⟩:=D4 (z:=yr a1 v l i (l.length+1) 0) hl hp zAA
        obtain⟨r1,r2⟩:=jH a0 a1 a2 v h n _ (i+1) hv q1 zAA
        exact⟨r1,zAA⟩
    · grind
theorem VM{K:Nat}(a0:ZO)(a1:Z9)(a2:List (List Int))(h:Sm K a1):∀(n:Nat)(l:List ZT)(i:Nat),i<=a1.Z8.length->Sm K l->l.length+cnL (fun s:ZW=>s.ZI.length) (a1.Z8.drop i)<=K->Sm K (zN a0 a1 a2 n l i)
  |0,_,_,_,_,_=>⟨Nat.zero_le _,fun x hx=>by cases hx⟩
  |n+1,l,i,hi,hl,hk=>by
    simp only[zN]
    by_cases hv:i<a1.Z8.length
    · rw[show decide ((i:Int)<(a1.Z8.length:Int))=true by simpa using hv,cond_true]
      have hd:=vC hv
      obtain⟨r1,r2⟩:=jH a0 a1 a2 i h ((nth a1.Z8 i).ZI.length+1) l 0 (Nat.zero_le _) hl zAA
      exact VM a0 a1 a2 h n _ (i+1) hv r1 zAA
    · grind
theorem Zc{a0:ZO}{a1:Z9}{a2:List (List Int)}(h:Sm K a1)(hp:ph a1<=2097152)(hk:2097152<=K):Sm K (Zq a0 a1 a2):=
  VM a0 a1 a2 h _ [] 0 (Nat.zero_le _) ⟨Nat.zero_le _,fun x hx=>by cases hx⟩ (by rw[List.drop_zero];simp only[List.length_nil];exact Nat.le_trans (by rw[Nat.zero_add];exact hp) hk)
theorem uT{α β:Type}[Inhabited α]{as:List α}(c:α->Bool)(g:α->β){F:Nat->Nat->List β->List β}(h1:∀n i l,F (n+1) i l=bif decide ((i:Int)<(as.length:Int))then(bif c (nth as i)then F n (i+1) (l++[g (nth as i)])else F n (i+1) l)else l)(n i:Nat)(l:List β)(h:as.length<n+i)(h2:i<=as.length):F n i l=l++(as.drop i).flatMap (fun a=>bif c a then[g a]else[]):=
  PS (fun a=>bif c a then[g a]else[]) (F:=F) (fun n i l=>by rw[h1];cases decide ((i:Int)<(as.length:Int))<;>simp only[XA,XE];cases c (nth as i)<;>simp) n i l h h2
theorem Es{α β:Type}(f:α->List β)(h:∀x,(f x).length<=1):∀l:List α,(l.flatMap f).length<=l.length
  |[]=>Nat.zero_le _
  |x::l=>by have:=Es f h l;have:=h x;simp only[List.flatMap_cons,List.length_append,List.length_cons];omega
theorem ss{α:Type}(c:Bool)(x:α):(bif c then[x]else[]).length<=1:=by cases c<;>simp
theorem MM(a0:ZF):Zn a0=(Q0 a0).flatMap (fun x=>bif(Yr a0 x.Id).Code==1 then[x.Id]else[]):=by
  have:=uT (as:=Q0 a0) (fun x=>(Yr a0 x.Id).Code==1) (fun x=>x.Id) (F:=fun n i l=>Jq a0 n l i) (fun _ _ _=>rfl) ((Q0 a0).length+1) 0 [] zAA (Nat.zero_le _);unfold Zn;rw[this];rfl
theorem M1(a0:ZF):(Zn a0).length<=itn a0.ZA:=by
  rw[MM,<-Of];exact Es _ (fun x=>ss _ _) _
theorem B7(x:Int):0<=EY .i64 x 255/\EY .i64 x 255<=255:=by
  have h:(BitVec.ofInt IntKind.i64.bits x&&&BitVec.ofInt IntKind.i64.bits 255).toNat<=255:=by
    rw[BitVec.toNat_and];exact Nat.le_trans Nat.and_le_right (Nat.le_of_ble_eq_true rfl)
  unfold EY;rw[YX zAA zAA];omega
theorem qw(c:YI):0<=(Yh c).2/\(Yh c).2<=255:=by
  unfold Yh;exact Zk (p:=fun r:YI×Int=>0<=r.2/\r.2<=255) (B7 _) (B7 _)
theorem Qw(c:YI)(n:Int):0<=(ZJ c n).2/\(0<n->(ZJ c n).2<n):=by
  unfold ZJ;refine Z1 (p:=fun r:YI×Int=>0<=r.2/\(0<n->r.2<n)) (fun h=>⟨Int.le_refl _,fun h0=>h0⟩) (fun h=>?_);have hn:0<n:=by simp at h;omega
  have h1:=qw c;have h2:=qw (Yh c).1;have h3:=qw (Yh (Yh c).1).1;refine Zk (p:=fun r:YI×Int=>0<=r.2/\(0<n->r.2<n)) ⟨Int.tmod_nonneg _ h1.1,fun _=>Int.tmod_lt_of_pos _ hn⟩ ⟨Int.tmod_nonneg _ ?_,fun _=>Int.tmod_lt_of_pos _ hn⟩;simp only[Y0];omega
theorem NW(c:YI)(n:Int):(ZJ c n).2<=16777215:=by
  unfold ZJ;have h1:=qw c
  have h2:=qw (Yh c).1;have h3:=qw (Yh (Yh c).1).1;refine Zk (p:=fun r:YI×Int=>r.2<=16777215) (show(0:Int)<=16777215 by decide) (Z1 (p:=fun r:YI×Int=>r.2<=16777215) (fun h=>?_) (fun h=>?_))
  · have:(Int.tmod (Yh c).2 n).natAbs<=(Yh c).2.natAbs:=by rw[Int.natAbs_tmod];exact Nat.mod_le _ _
    grind
  · show Int.tmod _ _<=_;have hw:0<=W (W (W ((Yh c).2*65536)+W ((Yh (Yh c).1).2*256))+(Yh (Yh (Yh c).1).1).2)/\W (W (W ((Yh c).2*65536)+W ((Yh (Yh c).1).2*256))+(Yh (Yh (Yh c).1).1).2)<=16777215:=by
      simp only[Y0];omega
    have h4:(Int.tmod (W (W (W ((Yh c).2*65536)+W ((Yh (Yh c).1).2*256))+(Yh (Yh (Yh c).1).1).2)) n).natAbs<=(W (W (W ((Yh c).2*65536)+W ((Yh (Yh c).1).2*256))+(Yh (Yh (Yh c).1).1).2)).natAbs:=by rw[Int.natAbs_tmod];exact Nat.mod_le _ _
    have h5:=Int.tmod_nonneg n hw.1;omega
theorem Oa(c:YI):(y7 c).2.size<=11:=by
  unfold y7 Pm;exact nX zAD _
theorem Js(a0:ZF):(Zs a0).length<=a0.Frame.ZC.length:=by
  have e:=PR (F:=X6 a0) (fun _ _=>rfl) (fun _ _ _=>rfl) (a0.Frame.ZC.length+1) [] 0;have:(Zs a0).length<=0+(a0.Frame.ZC.length-0):=e;omega
theorem xS(a0:ZF):(Yw a0).length<=a0.Frame.ZC.length:=by
  have e:=PR (F:=Qn a0) (fun _ _=>rfl) (fun _ _ _=>rfl) (a0.Frame.ZC.length+1) [] 0;have:(Yw a0).length<=0+(a0.Frame.ZC.length-0):=e;omega
theorem Uz(a0:Yl)(a1:Int)(h:Qz a0 a1=true):a0.ZB.length<=8:=by
  unfold Qz at h;have hk:∀n v r,KB a0 n v= .inl r->r=false:=by
    intro n;induction n with
    |zero=>intro v r h;cases h
    |succ n ih=>
      intro v r h;rw[KB]at h;grind
  cases hh:KB a0 (a0.ZB.length+1) 0 with
  |inl r=>rw[hh]at h;have:=hk _ _ _ hh;subst this;cases h
  |inr u=>
    rw[hh]at h;simp only[ZX,Bool.and_eq_true,decide_eq_true_eq]at h;omega
theorem km{n:Nat}{a0:ZE}{a2:List Int}(h:Sm n a0):∀(m v:Nat)(l:List ZN),(∀x∈l,Sm n x)->l.length<=v->v<=a2.length->
    (∀r,Qp a0 a2 m v l= .inl r->r=(Yl.mk 0 0 [] 0,false))/\∀z,Qp a0 a2 m v l= .inr z->z.length<=a2.length/\∀x∈z,Sm n x
  |0,v,l,_,_,_=>⟨fun r h=>zBC,fun z h=>zBL⟩
  |m+1,v,l,hs,hl,hv=>by
    rw[Qp]
    let p:=fun w:Sum (Yl×Bool) (List ZN)=>(∀r,w= .inl r->r=(Yl.mk 0 0 [] 0,false))/\∀z,w= .inr z->z.length<=a2.length/\∀x∈z,Sm n x
    refine Z1 (p:=p) (fun hc=>?_) (fun _=>⟨fun r h=>zBC,fun z h=>zBt⟩)
    have hc:v<a2.length:=zBH
    refine Zk (p:=p) ⟨fun r h=>zBo,fun z h=>zBC⟩ ?_
    refine km h m (v+1) _ (fun x hx=>?_) zAo hc
    rcases List.mem_append.1 hx with hx|hx
    · exact hs x hx
    · have e:=List.mem_singleton.1 hx
      subst e
      exact Zr (ZE.YO h)
theorem VC{a0:ZE}(h:Sm n a0)(h2:Sm n a2):Sm n (Y6 a0 a1 a2 a3).1:=by
  unfold Y6;obtain⟨k1,k2⟩:=km (a2:=a2) h (a2.length+1) 0 [] (fun x hx=>zBv) (Nat.zero_le _) (Nat.zero_le _);have h0:Sm n (Yl.mk 0 0 [] 0):=by simp[XM]
  cases hh:Qp a0 a2 (a2.length+1) 0 []with
  |inl r=>rw[k1 r hh];exact h0
  |inr z=>
    obtain⟨q1,q2⟩:=k2 z hh;have hz:Sm n z:=⟨by have:=YQ h2;omega,q2⟩
    dsimp only;refine Zk (p:=fun w:Yl×Bool=>Sm n w.1) h0 ?_;simp[hz]
theorem Tp{a0:ZE}(hb:n<=9223372036854775807)(h:Sm n a0):Sm n (QG a0 a1).1:=by
  unfold QG;by_cases hk:ZZ a0 a1<0
  · rw[decide_eq_true hk];exact h
  · rw[decide_eq_false hk];have hi:=ZE.YO h
    have hf:=Jn a0 a1;have hl:=YQ hi;refine⟨?_,fun y hy=>?_⟩
    · have hm:(a0.ZB.take (ZZ a0 a1).toNat++a0.ZB.drop (W (ZZ a0 a1+1)).toNat).length<=n:=by
        have w:W (ZZ a0 a1+1)=ZZ a0 a1+1:=YX zAA zAA;rw[w];simp;omega
      exact hm
    · have hy':y∈a0.ZB.take (ZZ a0 a1).toNat\/y∈a0.ZB.drop (W (ZZ a0 a1+1)).toNat:=List.mem_append.1 hy;rcases hy' with hy|hy
      · exact hi.2 y (List.mem_of_mem_take hy)
      · exact hi.2 y (List.mem_of_mem_drop hy)
theorem MJ(a0:Yl)(a1:Int)(h:zG a0 a1=true):a0.ZB.length<=8:=by
  unfold zG at h;have hk:∀n v r,KC a0 n v= .inl r->r=false:=by
    intro n;induction n with
    |zero=>intro v r h;cases h
    |succ n ih=>
      intro v r h;rw[KC]at h;grind
  cases hh:KC a0 (a0.ZB.length+1) 0 with
  |inl r=>rw[hh]at h;have:=hk _ _ _ hh;subst this;cases h
  |inr u=>
    rw[hh]at h;simp only[Ye,Bool.and_eq_true,decide_eq_true_eq]at h;omega
theorem TF{n:Nat}{a0:ZE}{a2:List Int}(h:Sm n a0):∀(m v:Nat)(l:List ZN),(∀x∈l,Sm n x)->l.length<=v->v<=a2.length->
    (∀r,J2 a0 a2 m v l= .inl r->r=(Yl.mk 0 0 [] 0,false))/\∀z,J2 a0 a2 m v l= .inr z->z.length<=a2.length/\∀x∈z,Sm n x
  |0,v,l,_,_,_=>⟨fun r h=>zBC,fun z h=>zBL⟩
  |m+1,v,l,hs,hl,hv=>by
    rw[J2]
    let p:=fun w:Sum (Yl×Bool) (List ZN)=>(∀r,w= .inl r->r=(Yl.mk 0 0 [] 0,false))/\∀z,w= .inr z->z.length<=a2.length/\∀x∈z,Sm n x
    refine Z1 (p:=p) (fun hc=>?_) (fun _=>⟨fun r h=>zBC,fun z h=>zBt⟩)
    have hc:v<a2.length:=zBH
    refine Zk (p:=p) ⟨fun r h=>zBo,fun z h=>zBC⟩ ?_
    refine TF h m (v+1) _ (fun x hx=>?_) zAo hc
    rcases List.mem_append.1 hx with hx|hx
    · exact hs x hx
    · have e:=List.mem_singleton.1 hx
      subst e
      exact Zr (ZE.YO h)
theorem RM{a0:ZE}(h:Sm n a0)(h2:Sm n a2):Sm n (X3 a0 a1 a2 a3).1:=by
  unfold X3;obtain⟨k1,k2⟩:=TF (a2:=a2) h (a2.length+1) 0 [] (fun x hx=>zBv) (Nat.zero_le _) (Nat.zero_le _);have h0:Sm n (Yl.mk 0 0 [] 0):=by simp[XM]
  cases hh:J2 a0 a2 (a2.length+1) 0 []with
  |inl r=>rw[k1 r hh];exact h0
  |inr z=>
    obtain⟨q1,q2⟩:=k2 z hh;have hz:Sm n z:=⟨by have:=YQ h2;omega,q2⟩
    dsimp only;refine Zk (p:=fun w:Yl×Bool=>Sm n w.1) h0 ?_;simp[hz]
theorem F9{a0:ZE}(h:Sm n a0):Sm n (yK a0 a1).1:=by
  have hi:=ZE.YO h;have hl:=YQ hi;have key:∀m v l,(∀x∈l,Sm n x)->l.length<=v->v<=a0.ZB.length->(Kw a0 a1 m v l).length<=a0.ZB.length/\∀x∈Kw a0 a1 m v l,Sm n x:=by
    intro m;induction m with
    |zero=>intro v l _ _ _;exact⟨Nat.zero_le _,fun x hx=>zBv⟩
    |succ m ih=>
      intro v l hs hl hv;rw[Kw];let p:=fun w:List ZN=>w.length<=a0.ZB.length/\∀x∈w,Sm n x
      refine Z1 (p:=p) (fun hc=>?_) (fun _=>⟨zAA,hs⟩);have hc:v<a0.ZB.length:=zBH
      refine Zk (p:=p) (ih _ _ (fun x hx=>?_) zAo hc) (ih _ _ hs zAA hc);rcases List.mem_append.1 hx with hx|hx
      · exact hs x hx
      · have e:=List.mem_singleton.1 hx;subst e;exact Zr hi
  unfold yK;obtain⟨k1,k2⟩:=key (a0.ZB.length+1) 0 [] (fun x hx=>zBv) (Nat.zero_le _) (Nat.zero_le _);refine Zk (p:=fun w:ZE×Bool=>Sm n w.1) h ?_;exact⟨by dsimp only;omega,k2⟩
theorem EU(h:Sm n a0):Sm n (KI a0 a1).1:=by
  refine Zk (p:=fun w:ZF×Bool=>Sm n w.1) h ?_;exact⟨h.1,h.2⟩
theorem Iq(h:Sm n a0):Sm n (QS a0 a1).1:=by
  refine Zk (p:=fun w:ZF×Bool=>Sm n w.1) h ?_;exact⟨h.1,h.2.1,RU h.2.2.1 trivial,h.2.2.2⟩
theorem Eb{a2:Int}{a3:ZR}(h:Sm n a0)(hd:Sm n a3)(hn:9<=n):Sm (n+1) (Ja a0 a1 a2 a3 a4 a5).1:=
  Zk (p:=fun w:ZF×Bool=>Sm (n+1) w.1) (ZQ (Nat.le_succ n) h) (zA h hd hn)
theorem NT(a0:ZF)(a1 a2:Int)(a3:ZR)(a4 a5:Int):(XR a0 a1 a2 a3 a4 a5).1.YL=a0.YL:=by
  have key:∀m v r,JC a0 a1 a2 a3 a4 a5 m v= .inl r->r.1.YL=a0.YL:=by
    intro m;induction m with
    |zero=>intro v r h;cases h
    |succ m ih=>
      intro v r h;unfold JC at h;grind
  unfold XR;grind
theorem Gg{a2:Int}{a3:ZR}(h:Sm n a0)(hd:Sm n a3)(hn:9<=n):Sm (n+1) (JM a0 a1 a2 a3).1:=by
  unfold JM;have hs:Sm (n+1) (XR a0 a1 a2 a3 0 10000).1:=zA h hd hn
  refine Zk (p:=fun w:ZF×Bool=>Sm (n+1) w.1) (ZQ (Nat.le_succ n) h) (Zk (p:=fun w:ZF×Bool=>Sm (n+1) w.1) ?_ hs);refine⟨hs.1,hs.2.1,hs.2.2.1,hs.2.2.2.1,hs.2.2.2.2.1,hs.2.2.2.2.2.1,⟨?_,fun _ _=>trivial⟩⟩;show(_++[a0.Next]).length<=n+1
  rw[NT];have:=YQ (ZF.My h)
  simp;omega
theorem EN{a0:ZW}{a1:ZT}(h:Sm n a0)(hp:Sm (n+1) a1):Sm (n+1) (Qr a0 a1).1:=by
  have h1:Sm (n+1) a0:=ZQ (Nat.le_succ n) h;refine Zk (p:=fun w:ZW×Bool=>Sm (n+1) w.1) h1 ?_;refine⟨⟨?_,fun x hx=>?_⟩,h1.2⟩
  · have:=h.1.1;simp;omega
  · rcases List.mem_append.1 hx with hx|hx
    · exact h1.1.2 x hx
    · have e:=List.mem_singleton.1 hx;subst e;exact hp
theorem RG{a0:ZW}{a1:Zb}(h:Sm n a0)(hp:Sm (n+1) a1):Sm (n+1) (Y9 a0 a1).1:=by
  have h1:Sm (n+1) a0:=ZQ (Nat.le_succ n) h;refine Zk (p:=fun w:ZW×Bool=>Sm (n+1) w.1) h1 ?_;refine⟨h1.1,⟨?_,fun x hx=>?_⟩⟩
  · have:=h.2.1;simp;omega
  · rcases List.mem_append.1 hx with hx|hx
    · exact h1.2.2 x hx
    · have e:=List.mem_singleton.1 hx;subst e;exact hp
theorem Hh{a0:ZE}{a2:ZT}(h:Sm n a0)(hp:Sm (n+1) a2):Sm (n+1) (Xl a0 a1 a2).1:=by
  have h1:Sm (n+1) a0:=ZQ (Nat.le_succ n) h;refine Zk (p:=fun w:ZE×Bool=>Sm (n+1) w.1) h1 ?_;refine RU (ZE.YO h1) ?_;have hi:Sm n (nth a0.ZB (ZZ a0 a1).toNat):=Zr (ZE.YO h);exact⟨(ZQ (Nat.le_succ n) hi).1,EN hi.2 hp⟩
theorem Ox{x:ZE}(h:Sm n a0)(hx:Sm n x):Sm n (ZF.mk a0.Frame a0.Zd a0.Zw (a0.ZA.set i x) a0.Y2 a0.Yc a0.Next a0.YL):=
  ⟨h.1,h.2.1,h.2.2.1,RU h.2.2.2.1 hx,h.2.2.2.2⟩
theorem Tc{a2:Int}{a3:Zp}(h:Sm n a0)(hn:5<=n):Sm (n+1) (Qi a0 a1 a2 a3).1:=by
  have h1:Sm (n+1) a0:=ZQ (Nat.le_succ n) h;refine Zk (p:=fun w:ZF×Bool=>Sm (n+1) w.1) h1 ?_;exact Ox h1 (Hh (Zr (ZF.YR h)) (SE zAA))
theorem Ib(h:Sm n a0)(hn:5<=n):Sm (n+1) (JA a0 a1).1:=by
  have h1:Sm (n+1) a0:=ZQ (Nat.le_succ n) h;let p:=fun w:ZF×Bool=>Sm (n+1) w.1
  exact Zk (p:=p) h1 (Zk (p:=p) h1 (Zk (p:=p) (Tc h hn) (Tc h hn)))
theorem EM{a2:Int}(h:Sm n a0)(hn:5<=n):Sm (n+1) (KJ a0 a1 a2).1:=by
  have h1:Sm (n+1) a0:=ZQ (Nat.le_succ n) h;exact Zk (p:=fun w:ZF×Bool=>Sm (n+1) w.1) h1 (Tc h hn)
theorem Ig{a0:ZE}(h:Sm n a0):Sm n (K6 a0 a1).1:=by
  have hi:=ZE.YO h;have key:∀m v l,(∀x∈l,Sm n x)->l.length<=v->v<=a0.ZB.length->(QU a0 a1 m v l).length<=a0.ZB.length/\∀x∈QU a0 a1 m v l,Sm n x:=by
    intro m;induction m with
    |zero=>intro v l _ _ _;exact⟨Nat.zero_le _,fun x hx=>zBv⟩
    |succ m ih=>
      intro v l hs hl hv;rw[QU];let p:=fun w:List ZN=>w.length<=a0.ZB.length/\∀x∈w,Sm n x
      refine Z1 (p:=p) (fun hc=>?_) (fun _=>⟨zAA,hs⟩);have hc:v<a0.ZB.length:=zBH
      refine Zk (p:=p) (ih _ _ (fun x hx=>?_) zAo hc) (ih _ _ hs zAA hc);rcases List.mem_append.1 hx with hx|hx
      · exact hs x hx
      · have e:=List.mem_singleton.1 hx;subst e;exact Zr hi
  obtain⟨k1,k2⟩:=key (a0.ZB.length+1) 0 [] (fun x hx=>zBv) (Nat.zero_le _) (Nat.zero_le _);have:=YQ hi
  exact⟨by show(QU a0 a1 (a0.ZB.length+1) 0 []).length<=n;omega,k2⟩
theorem Ik(h:Sm n a0):Sm n (Q8 a0 a1).1:=
  Zk (p:=fun w:ZF×Bool=>Sm n w.1) h (Ox h (Ig (Zr (ZF.YR h))))
theorem Lc{a0:ZE}{a2:List Zm}(h:Sm n a0)(hp:Sm n a2)(hn:17<=n):Sm (n+1) (XK a0 a1 a2).1:=by
  have h1:Sm (n+1) a0:=ZQ (Nat.le_succ n) h;have hi:=ZE.YO h;have key:∀m v l,l.length=a0.ZB.length->(∀x∈l,Sm (n+1) x)->(∀r,Xz a0 a1 a2 m v l= .inl r->r=(a0,false))/\∀z,Xz a0 a1 a2 m v l= .inr z->z.length<=a0.ZB.length/\∀x∈z,Sm (n+1) x:=by
    intro m;induction m with
    |zero=>intro v l _ _;exact⟨fun r h=>zBC,fun z h=>zBL⟩
    |succ m ih=>
      intro v l hl hs;rw[Xz];let p:=fun w:Sum (ZE×Bool) (List ZN)=>(∀r,w= .inl r->r=(a0,false))/\∀z,w= .inr z->z.length<=a0.ZB.length/\∀x∈z,Sm (n+1) x
      refine Zk (p:=p) (Zk (p:=p) ⟨fun r h=>zBo,fun z h=>zBC⟩ (ih _ _ (by rw[List.length_set];exact hl) (fun x hx=>?_))) ⟨fun r h=>zBC,fun z h=>zBt⟩;rcases List.mem_or_eq_of_mem_set hx with hx|rfl
      · exact hs x hx
      · have hx0:Sm (n+1) (nth l v):=by
          by_cases hv:v<l.length
          · have:nth l v=l[v]:=by simp[nth,List.getD_eq_getElem?_getD,List.getElem?_eq_getElem hv]
            rw[this];exact hs _ (List.getElem_mem hv)
          · have:nth l v=default:=by simp[nth,List.getD_eq_getElem?_getD,List.getElem?_eq_none (Nat.le_of_not_lt hv)]
            rw[this];exact Sz.zero _
        have hv:Sm n (nth a0.ZB v):=Zr hi;refine⟨hx0.1,RG hv.2 ?_⟩;exact⟨OO zAA,ZQ (Nat.le_succ n) hp⟩
  unfold XK;refine Zk (p:=fun w:ZE×Bool=>Sm (n+1) w.1) h1 ?_;obtain⟨k1,k2⟩:=key (a0.ZB.length+1) 0 a0.ZB rfl (fun x hx=>ZQ (Nat.le_succ n) (hi.2 x hx));cases hh:Xz a0 a1 a2 (a0.ZB.length+1) 0 a0.ZB with
  |inl r=>rw[k1 r hh];exact h1
  |inr z=>
    obtain⟨q1,q2⟩:=k2 z hh;have:=YQ hi
    exact Zk (p:=fun w:ZE×Bool=>Sm (n+1) w.1) h1 ⟨by show z.length<=n+1;omega,q2⟩
theorem SC{n:Nat}{a0:ZF}{a1:Int}{a2:List Int}{a3:Int}:∀(m:Nat)(l:List Zm)(v:Nat)(q:List Int),l.length<=v->v<=a2.length->
    (∀r,Xh a0 a1 a2 a3 m l v q= .inl r->r=(a0,false))/\∀z,Xh a0 a1 a2 a3 m l v q= .inr z->z.1.length<=a2.length/\z.2.length<=q.length
  |0,_,_,_,_,_=>⟨fun r h=>zBC,fun z h=>(by cases h;exact⟨Nat.zero_le _,Nat.zero_le _⟩)⟩
  |m+1,l,v,q,hl,hv=>by
    rw[Xh]
    let p:=fun w:Sum (ZF×Bool) (List Zm×List Int)=>(∀r,w= .inl r->r=(a0,false))/\∀z,w= .inr z->z.1.length<=a2.length/\z.2.length<=q.length
    have bad:p (.inl (a0,false)):=⟨fun r h=>zBo,fun z h=>zBC⟩
    refine Z1 (p:=p) (fun hc=>?_) (fun _=>⟨fun r h=>zBC,fun z h=>(by cases h;exact⟨Nat.le_trans hl hv,Nat.le_refl _⟩)⟩)
    have hc:v<a2.length:=zBH
    have step:∀x i y,p (Xh a0 a1 a2 a3 m (l++[x]) (v+1) (q.set i y)):=fun x i y=>by
      obtain⟨k1,k2⟩:=SC (n:=n) (a0:=a0) (a1:=a1) (a2:=a2) (a3:=a3) m (l++[x]) (v+1) (q.set i y) zAo hc
      grind
    grind
theorem FC(h:Sm n a0)(h2:Sm n a2)(hn:17<=n):Sm (n+1) (Qd a0 a1 a2 a3).1:=by
  have h1:Sm (n+1) a0:=ZQ (Nat.le_succ n) h;unfold Qd;refine Zk (p:=fun w:ZF×Bool=>Sm (n+1) w.1) h1 ?_;obtain⟨k1,k2⟩:=SC (n:=n) (a0:=a0) (a1:=a1) (a2:=a2) (a3:=a3) (a2.length+1) [] 0 a0.Y2 (Nat.zero_le _) (Nat.zero_le _);cases hh:Xh a0 a1 a2 a3 (a2.length+1) [] 0 a0.Y2 with
  |inl r=>rw[k1 r hh];exact h1
  |inr z=>
    obtain⟨q1,q2⟩:=k2 z hh;obtain⟨z0,z1⟩:=z;have e2:=YQ h2
    have e3:=YQ (ZF.vt h);have hs:Sm n z0:=⟨by simp only at q1;omega,fun _ _=>trivial⟩;refine Zk (p:=fun w:ZF×Bool=>Sm (n+1) w.1) h1 ?_;exact⟨h1.1,h1.2.1,h1.2.2.1,RU h1.2.2.2.1 (Lc (Zr (ZF.YR h)) hs hn),⟨by simp only at q2⊢;omega,fun _ _=>trivial⟩,h1.2.2.2.2.2⟩
theorem Nr{a0:ZE}{a1:Yl}{a2:Int}(h:Sm n a0)(hp:Sm n a1):Sm (n+a1.ZB.length) (XL a0 a1 a2).1:=by
  have h1:Sm (n+a1.ZB.length) a0:=ZQ (Nat.le_add_right _ _) h;have key:∀m v d l,Sm (n+v) (ZE.mk d l)->v<=a1.ZB.length->(∀r,QK a0 a1 m v d l= .inl r->r=(a0,false))/\∀z,QK a0 a1 m v d l= .inr z->Sm (n+a1.ZB.length) (ZE.mk z.1 z.2):=by
    intro m;induction m with
    |zero=>intro v d l _ _;exact⟨fun r h=>zBC,fun z h=>(by cases h;exact xJ)⟩
    |succ m ih=>
      intro v d l hs hv;rw[QK];let p:=fun w:Sum (ZE×Bool) (Int×List ZN)=>(∀r,w= .inl r->r=(a0,false))/\∀z,w= .inr z->Sm (n+a1.ZB.length) (ZE.mk z.1 z.2)
      refine Z1 (p:=p) (fun hc=>?_) (fun _=>⟨fun r h=>zBC,fun z h=>(by cases h;exact ZQ (Nat.add_le_add_left hv n) hs)⟩);have hc:v<a1.ZB.length:=zBH
      exact Zk (p:=p) ⟨fun r h=>zBo,fun z h=>zBC⟩ (ih _ _ _ (Sc hs (ZQ (Nat.le_succ_of_le (Nat.le_add_right n v)) (Zr (Yl.YO hp)))) hc)
  unfold XL;refine Zk (p:=fun w:ZE×Bool=>Sm (n+a1.ZB.length) w.1) h1 ?_;obtain⟨k1,k2⟩:=key (a1.ZB.length+1) 0 a0.Id a0.ZB h (Nat.zero_le _);grind
theorem M4{a0:ZE}(h:Sm n a0):(Y6 a0 a1 a2 a3).1.ZB.length<=a2.length:=by
  unfold Y6;obtain⟨k1,k2⟩:=km (a2:=a2) h (a2.length+1) 0 [] (fun x hx=>zBv) (Nat.zero_le _) (Nat.zero_le _);grind
theorem Hm{a0 a1:ZE}(hb:n<=9223372036854775807)(h0:Sm n a0)(h1:Sm n a1)(h2:Sm n a2):Sm n (Y8 a0 a1 a2 a3).1/\Sm (n+a2.length) (Y8 a0 a1 a2 a3).2.1:=by
  have hto:Sm (n+a2.length) (XL a1 (Y6 a0 a1.Id a2 a3).1 a3).1:=
    ZQ (Nat.add_le_add_left (M4 h0) n) (Nr h1 (VC h0 h2))
  have bad:Sm n a0/\Sm (n+a2.length) a1:=⟨h0,ZQ (Nat.le_add_right _ _) h1⟩;have key:∀m v d l,Sm n (ZE.mk d l)->(∀r,QY a0 a1 a2 m v d l= .inl r->r=(a0,a1,false))/\∀z,QY a0 a1 a2 m v d l= .inr z->Sm n (ZE.mk z.1 z.2):=by
    intro m;induction m with
    |zero=>intro v d l _;exact⟨fun r h=>zBC,fun z h=>(by cases h;exact xJ)⟩
    |succ m ih=>
      intro v d l hs;rw[QY];let p:=fun w:Sum (ZE×ZE×Bool) (Int×List ZN)=>(∀r,w= .inl r->r=(a0,a1,false))/\∀z,w= .inr z->Sm n (ZE.mk z.1 z.2)
      exact Zk (p:=p) (Zk (p:=p) ⟨fun r h=>zBo,fun z h=>zBC⟩ (ih _ _ _ (Tp hb hs))) ⟨fun r h=>zBC,fun z h=>(by cases h;exact hs)⟩
  unfold Y8;let p:=fun w:ZE×ZE×Bool=>Sm n w.1/\Sm (n+a2.length) w.2.1
  refine Zk (p:=p) bad ?_;obtain⟨k1,k2⟩:=key (a2.length+1) 0 a0.Id a0.ZB h0;grind
theorem EH{a2:Int}(hb:n<=9223372036854775807)(h:Sm n a0)(hn:1<=n):Sm (n+1) (KH a0 a1 a2 a3).1:=by
  have h1:Sm (n+1) a0:=ZQ (Nat.le_succ n) h;have hm:=Hm (a0:=nth a0.ZA a1.toNat) (a1:=nth a0.ZA a2.toNat) (a2:=[a3]) (a3:=ZS a0.Frame.Methods a0.Frame.Now) hb (Zr (ZF.YR h)) (Zr (ZF.YR h)) ⟨hn,fun _ _=>trivial⟩;let p:=fun w:ZF×Bool=>Sm (n+1) w.1
  exact Zk (p:=p) h1 (Zk (p:=p) ⟨h1.1,h1.2.1,h1.2.2.1,RU (RU h1.2.2.2.1 (ZQ (Nat.le_succ n) hm.1)) hm.2,h1.2.2.2.2⟩ h1)
theorem jI{a0:ZF}{a1 a2:Int}:∀(m v:Nat)(l:List Zm),(∀r,XN a0 a1 a2 m v l= .inl r->r=(a0,false))/\∀z,XN a0 a1 a2 m v l= .inr z->z.length<=l.length+((Zs a0).length-v)
  |0,v,l=>⟨fun r h=>zBC,fun z h=>(by cases h;exact Nat.zero_le _)⟩
  |m+1,v,l=>by
    rw[XN]
    let p:=fun w:Sum (ZF×Bool) (List Zm)=>(∀r,w= .inl r->r=(a0,false))/\∀z,w= .inr z->z.length<=l.length+((Zs a0).length-v)
    refine Z1 (p:=p) (fun hc=>?_) (fun _=>⟨fun r h=>zBC,fun z h=>(by cases h;exact Nat.le_add_right _ _)⟩)
    have hc:v<(Zs a0).length:=zBH
    refine Zk (p:=p) ⟨fun r h=>zBo,fun z h=>zBC⟩ ?_
    obtain⟨k1,k2⟩:=jI (a0:=a0) (a1:=a1) (a2:=a2) m (v+1) (l++[(Xk a0.Frame.Zt a0.Frame.ZC (Zm.mk (nth (Zs a0) v) 0 a2 (Q6 (nth (nth a0.ZA (ZK a0 a1).1.toNat).ZB (ZK a0 a1).2.toNat) (ZS a0.Frame.Methods a0.Frame.Now)) 0)).1])
    grind
theorem NO{a2:Int}(h:Sm n a0):Sm (n+1) (X7 a0 a1 a2).1:=by
  have h1:Sm (n+1) a0:=ZQ (Nat.le_succ n) h;unfold X7;refine Zk (p:=fun w:ZF×Bool=>Sm (n+1) w.1) h1 ?_;obtain⟨k1,k2⟩:=jI (a0:=a0) (a1:=a1) (a2:=a2) ((Zs a0).length+1) 0 [];cases hh:XN a0 a1 a2 ((Zs a0).length+1) 0 []with
  |inl r=>rw[k1 r hh];exact h1
  |inr z=>
    have hz:=k2 z hh;have hf:=Js a0;have ha:=YQ (ZO.XW (ZF.Xr h));rw[List.length_nil]at hz;have hA:Sm n (nth a0.ZA (ZK a0 a1).1.toNat):=Zr (ZF.YR h);have hI:Sm n (nth (nth a0.ZA (ZK a0 a1).1.toNat).ZB (ZK a0 a1).2.toNat):=Zr (ZE.YO hA);refine Ox h1 (RU (ZE.YO (ZQ (Nat.le_succ n) hA)) ⟨(ZQ (Nat.le_succ n) hI).1,RG hI.2 ?_⟩);exact⟨xJ,⟨by show z.length<=n+1;omega,fun _ _=>trivial⟩⟩
theorem JY{a1:Zx}(hb:n<=9223372036854775807)(h:Sm n a0)(he:Sm n a1)(hn:17<=n):Sm (n+1) (YF a0 a1).1:=by
  have h1:Sm (n+1) a0:=ZQ (Nat.le_succ n) h;have up:∀w:ZF,Sm n w->Sm (n+1) w:=fun w hw=>ZQ (Nat.le_succ n) hw;unfold YF;let p:=fun w:ZF×Bool=>Sm (n+1) w.1
  exact Zk (p:=p) (up _ (EU h)) (Zk (p:=p) (Eb h he.1 zAA) (Zk (p:=p) (Ib h zAA) (Zk (p:=p) (up _ (Iq h)) (Zk (p:=p) (FC h he.2 hn) (Zk (p:=p) (EH hb h zAA) (Zk (p:=p) (up _ (Ik h))
    (Zk (p:=p) (Gg h he.1 zAA) (Zk (p:=p) (NO h) (Zk (p:=p) (EM h zAA) h1)))))))))
theorem zO(c:YI):(Z5 c).2.length=10:=by simp[Z5]
theorem Py(h:4<=n):Sm n YU:=⟨h,fun _ _=>trivial⟩
theorem Dv(h:4<=n):Sm n kz:=⟨h,fun _ _=>trivial⟩
theorem Dt(h:3<=n):Sm n kE:=⟨h,fun _ _=>trivial⟩
theorem Wi(a0:Int)(a1:List ByteArray)(a2:Int):∀(m v:Nat)(l:List Int),(yj a0 a1 a2 m v l).length<=l.length+m
  |0,_,_=>Nat.zero_le _
  |m+1,v,l=>by
    rw[yj]
    refine Zk (p:=fun r:List Int=>r.length<=l.length+(m+1)) ?_ zAA
    have:=Wi a0 a1 a2 m (v+1) (l++[qB 1 (xE a2 [a0,v])])
    grind
theorem Nu{a0:Int}{a1:List ByteArray}{a2:Int}(h:Sm n a1)(hn:a1.length+1<=n):Sm n (yd a0 a1 a2).1:=by
  unfold yd;have:=Wi a0 a1 a2 (a1.length+1) 0 []
  refine Zk (p:=fun r:ZR×Bool=>Sm n r.1) ⟨Sz.zero n,Sz.zero n⟩ ⟨h,Nat.le_trans this (by simpa using hn),fun _ _=>trivial⟩
theorem Oc:∀(m:Nat)(l:List ByteArray)(i:Int)(b:List UInt8)(j:Nat)(h:Int),(∀x∈l,x.size<=11)->(WJ m l i b j h).1.length<=l.length+m/\∀x∈(WJ m l i b j h).1,x.size<=11
  |0,_,_,_,_,_,_=>⟨Nat.zero_le _,fun x hx=>by cases hx⟩
  |m+1,l,i,b,j,h,hl=>by
    rw[WJ]
    refine Zk (p:=fun r:(List ByteArray)×List UInt8×Nat×Int=>r.1.length<=l.length+(m+1)/\∀x∈r.1,x.size<=11) ?_ ⟨by show l.length<=_;omega,hl⟩
    have:=Oc m (l++[(y7 (YI.mk b j h)).2]) (W (i-1)) (y7 (YI.mk b j h)).1.b (y7 (YI.mk b j h)).1.i (y7 (YI.mk b j h)).1.h (fun x hx=>by
      rcases List.mem_append.1 hx with hx|hx
      · exact hl x hx
      · rw[List.mem_singleton.1 hx];exact Oa _)
    grind
theorem IK{a0:YI}(h:20<=n):Sm n (X1 a0).2:=by
  unfold X1;have:=Oc 5 [] (W (1+(ZJ a0 3).2)) (ZJ a0 3).1.b (ZJ a0 3).1.i (ZJ a0 3).1.h (fun x hx=>by cases hx)
  simp only[List.length_nil]at this;exact Nu ⟨zAA,fun x hx=>Nat.le_trans (this.2 x hx) zAA⟩ zAA
theorem EP{a0:Int}(h:20<=n):Sm n (QH a0):=by
  have hw:∀(k:Int)(l:List Int),l.length<=1->Sm n (ZF.mk (ZO.mk yg YU kz k 0) kE ([-1,-1,-1]:List Int) ([ZE.mk 0 ([]:List ZN),ZE.mk 1 ([]:List ZN)]:List ZE) ([0,0,0,0]:List Int) l 1 ([]:List Int)):=fun k l hl=>by
    have h1:=TG (n:=n) zAA;have h2:=Py (n:=n) zAA;have h3:=Dv (n:=n) zAA;have h4:=Dt (n:=n) zAA;have h5:Sm n ([ZE.mk 0 ([]:List ZN),ZE.mk 1 ([]:List ZN)]:List ZE):=⟨by simp;omega,fun y hy=>by
      rcases List.mem_cons.1 hy with rfl|hy
      · exact Sz.zero (α:=List ZN) _
      · rw[List.mem_singleton.1 hy];exact Sz.zero (α:=List ZN) _⟩
    have h6:∀l:List Int,l.length<=20->Sm n l:=fun l hl=>⟨zAA,fun _ _=>trivial⟩;simp only[ZF.TL,ZO.TL];grind
  unfold QH;grind
theorem Tn{a0:YI}(h:20<=n):Sm n (Xa a0 a1).2:=by
  have hd:Sm n (ZR.mk 0 ([]:List ByteArray) ([]:List Int)):=⟨xJ,xJ⟩;have hl:∀l:List Int,l.length<=20->Sm n l:=fun l hl=>⟨zAA,fun _ _=>trivial⟩;unfold Xa;let p:=fun z:YI×Zx=>Sm n z.2
  refine Zk (p:=p) (Zk (p:=p) (Zk (p:=p) ?_ ?_) (Zk (p:=p) ?_ ?_)) (Zk (p:=p) (Zk (p:=p) ?_ ?_) (Zk (p:=p) ?_ ?_));all_goals exact⟨hd,hl _ (Nat.le_of_ble_eq_true rfl)⟩
theorem Iu{a0:YI}(h:20<=n):Sm n (Z5 a0).2:=by
  have hd:Sm n (ZR.mk 0 ([]:List ByteArray) ([]:List Int)):=⟨xJ,xJ⟩;have e0:∀a b,Sm n (Zx.mk a b 0 0 0 (ZR.mk 0 ([]:List ByteArray) ([]:List Int)) ([]:List Int)):=fun a b=>⟨hd,xJ⟩;refine⟨by rw[zO];omega,?_⟩;unfold Z5;exact Np (Np (Np (all_cons (e0 _ _) (all_cons ⟨IK h,xJ⟩ (all_cons (e0 _ _) (all_cons (e0 _ _) all_nil)))) (all_cons (Tn h) (all_cons (e0 _ _) all_nil))) (all_cons (Tn h) (all_cons (e0 _ _) all_nil))) (all_cons (Tn h) (all_cons (e0 _ _) all_nil))
theorem Fy{a0:YI}(h:20<=n):Sm n (Xq a0).2:=by
  have hd:Sm n (ZR.mk 0 ([]:List ByteArray) ([]:List Int)):=⟨xJ,xJ⟩;have hi:Sm n ([1,2,3,4]:List Int):=⟨Nat.le_trans zAD h,fun _ _=>trivial⟩;have hx:=fun c=>IK (a0:=c) h;have L:∀(c:YI)(k a b e f:Int)(d:ZR)(ids:List Int),Sm n d->Sm n ids->Sm n ((c,Zx.mk k a b e f d ids):YI×Zx).2:=fun _ _ _ _ _ _ _ _ h1 h2=>⟨h1,h2⟩;unfold Xq;generalize ZJ a0 16=q;iterate 13 (refine Zk (p:=fun z:YI×Zx=>Sm n z.2) ?_ ?_;(first|with_reducible exact L _ _ _ _ _ _ _ _ hd xJ|with_reducible exact L _ _ _ _ _ _ _ _ (hx _) xJ))
  exact L _ _ _ _ _ _ _ _ hd (vy (p7 hi))
theorem Uo{p:Zx->Prop}(hp:∀c,p (Xq c).2):∀(m:Nat)(l:List Zx)(k:Int)(b:List UInt8)(i:Nat)(h:Int),(∀x∈l,p x)->∀x∈(zE m l k b i h).1,p x
  |0,_,_,_,_,_,_=>all_nil
  |m+1,l,k,b,i,h,hl=>by
    rw[zE]
    exact Zk (p:=fun z:(List Zx)×List UInt8×Nat×Int=>∀x∈z.1,p x) (Uo hp m _ _ _ _ _ (Np hl (all_cons (hp _) all_nil))) hl
theorem U5{p:Zx->Prop}(hp:∀c,p (Xq c).2):∀(m:Nat)(l:List Zx)(k:Int)(b:List UInt8)(i:Nat)(h:Int),(∀x∈l,p x)->∀x∈(zF m l k b i h).1,p x
  |0,_,_,_,_,_,_=>all_nil
  |m+1,l,k,b,i,h,hl=>by
    rw[zF]
    exact Zk (p:=fun z:(List Zx)×List UInt8×Nat×Int=>∀x∈z.1,p x) (U5 hp m _ _ _ _ _ (Np hl (all_cons (hp _) all_nil))) hl
theorem Ui:∀(m:Nat)(l:List Zx)(k:Int)(b:List UInt8)(i:Nat)(h:Int),k<=16777215->(zE m l k b i h).1.length<=l.length+k.toNat
  |0,_,_,_,_,_,_=>Nat.zero_le _
  |m+1,l,k,b,i,h,hk=>by
    rw[zE]
    by_cases hc:k>0
    · rw[decide_eq_true hc,XA]
      have hw:W (k-1)=k-1:=zA5
      have:=Ui m (l++[(Xq (YI.mk b i h)).2]) (W (k-1)) (Xq (YI.mk b i h)).1.b (Xq (YI.mk b i h)).1.i (Xq (YI.mk b i h)).1.h zAA
      grind
    · rw[decide_eq_false hc,XE]
      exact Nat.le_add_right _ _
theorem V4:∀(m:Nat)(l:List Zx)(k:Int)(b:List UInt8)(i:Nat)(h:Int),k<=16777215->(zF m l k b i h).1.length<=l.length+k.toNat
  |0,_,_,_,_,_,_=>Nat.zero_le _
  |m+1,l,k,b,i,h,hk=>by
    rw[zF]
    by_cases hc:k>0
    · rw[decide_eq_true hc,XA]
      have hw:W (k-1)=k-1:=zA5
      have:=V4 m (l++[(Xq (YI.mk b i h)).2]) (W (k-1)) (Xq (YI.mk b i h)).1.b (Xq (YI.mk b i h)).1.i (Xq (YI.mk b i h)).1.h zAA
      grind
    · rw[decide_eq_false hc,XE]
      exact Nat.le_add_right _ _
theorem FK{a0:YI}(h:40<=n)(h0:0<a1)(h1:a1<=20):Sm n (j8 a0 a1).2:=by
  have hp:=fun c=>Fy (n:=n) (a0:=c) zAA;have hc:=Iu (n:=n) (a0:=(YE a0 2).1) zAA;have hl:=zO (YE a0 2).1;unfold j8;generalize YE a0 2=q at hc hl⊢;generalize Z5 q.1=r at hc hl⊢;generalize ZJ r.1 (W ((r.2.length:Int)+1))=t;have z1:=Qw t.1 a1;have z2:=Qw q.1 a1;generalize ZJ t.1 a1=u at z1⊢;generalize ZJ q.1 a1=v at z2⊢;have k1:=Uo hp (u.2.toNat+2) (r.2.take t.2.toNat) u.2 u.1.b u.1.i u.1.h (vy hc).2;have k2:=Ui (u.2.toNat+2) (r.2.take t.2.toNat) u.2 u.1.b u.1.i u.1.h zAA;have k3:=U5 hp (v.2.toNat+2) [] v.2 v.1.b v.1.i v.1.h all_nil;have k4:=V4 (v.2.toNat+2) [] v.2 v.1.b v.1.i v.1.h zAA;rw[List.length_take,hl]at k2;rw[List.length_nil]at k4;generalize zE (u.2.toNat+2) (r.2.take t.2.toNat) u.2 u.1.b u.1.i u.1.h=y at k1 k2⊢;generalize zF (v.2.toNat+2) [] v.2 v.1.b v.1.i v.1.h=z at k3 k4⊢;obtain⟨y1,y2,y3,y4⟩:=y;obtain⟨w1,w2,w3,w4⟩:=z;dsimp only at k1 k2 k3 k4⊢;have k5:y1.length<=n:=zAA;have k6:w1.length<=n:=zAA;exact Zk (p:=fun z:YI×(List Zx)=>Sm n z.2) ⟨k5,k1⟩ ⟨k6,k3⟩
theorem Lk{a0:ZO}{a1:ZW}(h:K4 a0 a1 a2=true):0<a1.ZM.length:=by
  unfold K4 at h;simp only[Bool.and_eq_true,decide_eq_true_eq]at h;omega
theorem Z2{a0:List UInt8}(h:40<=n):Sm n (ZP a0).1/\Sm n (ZP a0).2:=by
  have k:=EP (n:=n) (a0:=(ZJ (Vj a0) 2).2) zAA;have k2:=FK (n:=n) (a0:=(ZJ (Vj a0) 2).1) (a1:=12) h zAD zAD;unfold ZP;grind
theorem jG(w:ZF):∀(n:Nat)(l:List Int)(v:Nat),(∀x∈l,(Yr w x).Code=1)->∀x∈Jq w n l v,(Yr w x).Code=1
  |0,l,v,h=>fun x hx=>zBv
  |n+1,l,v,h=>by
    rw[Jq]
    refine Zk (p:=fun z:List Int=>∀x∈z,(Yr w x).Code=1) (Z1 (p:=fun z:List Int=>∀x∈z,(Yr w x).Code=1) (fun hc=>?_) (fun _=>jG w n l (v+1) h)) h
    refine jG w n _ (v+1) (fun x hx=>?_)
    rcases List.mem_append.1 hx with hx|hx
    · exact h x hx
    · rw[List.mem_singleton.1 hx];exact eq_of_beq hc
theorem N7(h:k<(Zn w).length):(Yr w (nth (Zn w) k)).Code=1:=
  jG w _ [] 0 (fun x hx=>by cases hx) _ (by rw[XQ h];exact List.getElem_mem h)
theorem qC(h:k<(Zn w).length):0<=(ZK w (nth (Zn w) k)).1:=by
  have hc:=N7 h;apply Classical.byContradiction;intro hn;unfold Yr at hc;rw[show decide ((ZK w (nth (Zn w) k)).1<0)=true by simpa using hn]at hc;cases hc
end Go.Mo
