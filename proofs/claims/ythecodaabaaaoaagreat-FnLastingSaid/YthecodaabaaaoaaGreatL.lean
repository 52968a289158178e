/- Plain lemmas on the models of the helpers. No condition. -/
import Derived.Test.YthecodaabaaaoaaGreatM
namespace Go.Mo
open Go.Vm
set_option linter.unusedSimpArgs false
set_option linter.unusedVariables false
variable{n i K k j m:Nat}{a1 a3 a4 a5 a:Int}{a0 w:ZG}{a2:List Int}{x:YO}{p:Zt->Prop}{l:List ZE}
theorem KC(a0:List Y6)(a1:Int):Ys a0 a1<(a0.length:Int):=kO (F:=UK a0 a1) (c:=fun J=>(nth a0 J).Number==a1) (fun _=>rfl) (fun _ _=>rfl) _ _
theorem HB(a0:Zb):RX a0=a0:=rfl
theorem FP(a0:List Int):OW a0=a0:=rfl
theorem NR(a0:ZW):UC a0=a0:=rfl
theorem HN(a0:ZU):PF a0=a0:=rfl
theorem Lz(a0:List ZU):VB a0=a0:=by have h:=jP (F:=kC a0) (a:=a0) (g:=fun x=>x) (fun _=>rfl) (fun _ _ _=>rfl) (a0.length+1) [] 0 zAD zAD;simp only[List.nil_append,List.drop_zero]at h;unfold VB;rw[h]
theorem IZ(a0:List Zm):SO a0=a0:=rfl
theorem MO(a0:Ze):Ta a0=a0:=rfl
theorem IC(a0:ZX):Wz a0=a0:=by have h:=jP (F:=fun n v i=>jy a0 n i v) (a:=a0.ZQ) (g:=fun x=>x) (fun _=>rfl) (fun _ _ _=>rfl) (a0.ZQ.length+1) [] 0 zAD zAD;simp only[List.nil_append,List.drop_zero]at h;unfold Wz;rw[h]
theorem Fj(a0:ZR):Oh a0=a0:=rfl
theorem Mt(a0:ZE):WG a0=a0:=by have h:=jP (F:=fun n v i=>qz a0 n i v) (a:=a0.ZC) (g:=fun x=>x) (fun _=>rfl) (fun _ _ _=>rfl) (a0.ZC.length+1) [] 0 zAD zAD;simp only[List.nil_append,List.drop_zero]at h;unfold WG;rw[h]
theorem Hs(a0:ZG):Uq a0=a0:=by have h:=jP (F:=fun n v i=>kx a0 n i v) (a:=a0.ZB) (g:=fun x=>x) (fun _=>rfl) (fun _ _ _=>rfl) (a0.ZB.length+1) [] 0 zAD zAD;simp only[List.nil_append,List.drop_zero]at h;unfold Uq;rw[h]
theorem zc(a0:List Y6)(a1:Int):YT a0 a1<(a0.length:Int):=kO (F:=UN a0 a1) (c:=fun J=>(nth a0 J).Number==a1) (fun _=>rfl) (fun _ _=>rfl) _ _
theorem KE(a0:ZE)(a1:Int):Zg a0 a1<(a0.ZC.length:Int):=kO (F:=kF a0 a1) (c:=fun J=>(nth a0.ZC J).Id==a1) (fun _=>rfl) (fun _ _=>rfl) _ _
theorem FA(a0:List YO)(a1:Int):jG a0 a1<(a0.length:Int):=kO (F:=Wu a0 a1) (c:=fun J=>(nth a0 J).Zc==a1) (fun _=>rfl) (fun _ _=>rfl) _ _
theorem QN(a0:List Zo)(a1:Int):Zk a0 a1<(a0.length:Int):=kO (F:=xW a0 a1) (c:=fun J=>(nth a0 J).Id==a1) (fun _=>rfl) (fun _ _=>rfl) _ _
theorem IG(a0:List YJ)(a1:Int):qc a0 a1<(a0.length:Int):=kO (F:=kE a0 a1) (c:=fun J=>(nth a0 J).Id==a1) (fun _=>rfl) (fun _ _=>rfl) _ _
theorem Fu(a0:Zb):OM a0=a0:=rfl
theorem Cc(a0:ZW):Hh a0=a0:=rfl
theorem Dl(a0:ZU):M9 a0=a0:=rfl
theorem Cs(a0:List ZU):NH a0=a0:=by have h:=jP (F:=SP a0) (a:=a0) (g:=fun x=>x) (fun _=>rfl) (fun _ _ _=>rfl) (a0.length+1) [] 0 zAD zAD;simp only[List.nil_append,List.drop_zero]at h;unfold NH;rw[h]
theorem DX(a0:Ze):MJ a0=a0:=rfl
theorem Ds(a0:ZX):PK a0=a0:=by have h:=jP (F:=fun n v i=>Uk a0 n i v) (a:=a0.ZQ) (g:=fun x=>x) (fun _=>rfl) (fun _ _ _=>rfl) (a0.ZQ.length+1) [] 0 zAD zAD;simp only[List.nil_append,List.drop_zero]at h;unfold PK;rw[h]
theorem Df(a0:ZR):MT a0=a0:=rfl
theorem Dg(a0:ZE):PI a0=a0:=by have h:=jP (F:=fun n v i=>UX a0 n i v) (a:=a0.ZC) (g:=fun x=>x) (fun _=>rfl) (fun _ _ _=>rfl) (a0.ZC.length+1) [] 0 zAD zAD;simp only[List.nil_append,List.drop_zero]at h;unfold PI;rw[h]
theorem DS(a0:ZG):PH a0=a0:=by have h:=jP (F:=fun n v i=>Uy a0 n i v) (a:=a0.ZB) (g:=fun x=>x) (fun _=>rfl) (fun _ _ _=>rfl) (a0.ZB.length+1) [] 0 zAD zAD;simp only[List.nil_append,List.drop_zero]at h;unfold PH;rw[h]
theorem H8(a0:ZG)(a1:Int):JM a0 a1<(a0.Zf.length:Int):=kO (F:=WC a0 a1) (c:=fun J=>(nth a0.Zf J).Key==a1) (fun _=>rfl) (fun _ _=>rfl) _ _
theorem TP(a0:ZE)(a1:Int):Y2 a0 a1<(a0.ZC.length:Int):=kO (F:=Wp a0 a1) (c:=fun J=>(nth a0.ZC J).Id==a1) (fun _=>rfl) (fun _ _=>rfl) _ _
theorem TJ(a0:List YO)(a1:Int):YE a0 a1<(a0.length:Int):=kO (F:=Ww a0 a1) (c:=fun J=>(nth a0 J).Zc==a1) (fun _=>rfl) (fun _ _=>rfl) _ _
theorem JH(a0:List Zo)(a1:Int):Zu a0 a1<(a0.length:Int):=kO (F:=xX a0 a1) (c:=fun J=>(nth a0 J).Id==a1) (fun _=>rfl) (fun _ _=>rfl) _ _
theorem IL(a0:List YJ)(a1:Int):qd a0 a1<(a0.length:Int):=kO (F:=js a0 a1) (c:=fun J=>(nth a0 J).Id==a1) (fun _=>rfl) (fun _ _=>rfl) _ _
theorem Py(h:7<=n):Sm n (xy x):=⟨by simp[xy];omega,fun _ _=>trivial⟩
@[simp] theorem vz (x : YO) : (xy x).length = 7 := rfl
theorem Pw(h:7<=n):Sm n (xv x):=⟨by simp[xv];omega,fun _ _=>trivial⟩
@[simp] theorem uK (x : YO) : (xv x).length = 7 := rfl
theorem HR{x:Zm}(h:5<=n):Sm n (yf x):=⟨by simp[yf];omega,fun _ _=>trivial⟩
@[simp] theorem vm (x : Zm) : (yf x).length = 5 := rfl
theorem Gn{x:Zm}(h:5<=n):Sm n (KH x):=⟨by simp[KH];omega,fun _ _=>trivial⟩
@[simp] theorem vk (x : Zm) : (KH x).length = 5 := rfl
theorem RA{x:Zs}(h:5<=n):Sm n (zm x):=⟨by simp[zm];omega,fun _ _=>trivial⟩
@[simp] theorem wk (x : Zs) : (zm x).length = 5 := rfl
theorem Sv{x:Zs}(h:5<=n):Sm n (Kg x):=⟨by simp[Kg];omega,fun _ _=>trivial⟩
@[simp] theorem vF (x : Zs) : (Kg x).length = 5 := rfl
theorem Vg{x:Zp}(h:9<=n):Sm n (Js x):=⟨by simp[Js];omega,fun _ _=>trivial⟩
@[simp] theorem Bu (x : Zp) : (Js x).length = 9 := rfl
theorem jJ{x:Zp}(h:9<=n):Sm n (QQ x):=⟨by simp[QQ];omega,fun _ _=>trivial⟩
@[simp] theorem Bv (x : Zp) : (QQ x).length = 9 := rfl
theorem M3{x:Xc}(h:6<=n):Sm n (z7 x):=⟨by simp[z7];omega,fun _ _=>trivial⟩
@[simp] theorem wX (x : Xc) : (z7 x).length = 6 := rfl
theorem GQ{a:ZX}(h:jE a=true):0<a.ZM.length:=by
  unfold jE at h;split at h
  · rename_i r e;have:∀n v,jt a n v≠ .inl true:=by
      intro n;induction n with
      |zero=>intro v h;cases h
      |succ n ih=>intro v h;rw[jt]at h;grind
    subst h;exact absurd e (this _ _)
  · split at h
    · rename_i r e;have:∀n v,jm a n v≠ .inl true:=by
        intro n;induction n with
        |zero=>intro v h;cases h
        |succ n ih=>intro v h;rw[jm]at h;grind
      subst h;exact absurd e (this _ _)
    · simp only[Yd,Bool.and_eq_true,decide_eq_true_eq]at h;omega
theorem HY{a:ZX}(h:Xv a=true):0<a.ZM.length:=by
  unfold Xv at h;generalize(match kD a (a.ZM.length+1) 0 with|.inl r1=>r1|.inr _=>(match jn a (a.ZQ.length+1) 0 with|.inl r2=>r2|.inr _=>true))=m at h;cases hh:ZZ (a.ZM.length:Int) 1 12 with
  |false=>rw[hh]at h;simp at h
  |true=>simp only[ZZ,Bool.and_eq_true,decide_eq_true_eq]at hh;omega
theorem Mf{a:ZW}(h:yy a=true):a.KS.length=a.X3.length:=by
  unfold yy at h;split at h
  · rename_i r e;have:∀n v,xe a n v≠ .inl true:=by
      intro n;induction n with
      |zero=>intro v h;cases h
      |succ n ih=>intro v h;rw[xe]at h;grind
    subst h;exact absurd e (this _ _)
  · split at h
    · rename_i r e;have:∀n v,xu a n v≠ .inl true:=by
        intro n;induction n with
        |zero=>intro v h;cases h
        |succ n ih=>intro v h;rw[xu]at h;grind
      subst h;exact absurd e (this _ _)
    · simp only[Bool.and_eq_true,beq_iff_eq]at h;omega
theorem MY{a:ZW}(h:qM a=true):a.KS.length=a.X3.length:=by unfold qM at h;grind
theorem XY(a0:ZG)(a1:Int)(h:0<=(ZJ a0 a1).1):(ZJ a0 a1).1.toNat<a0.ZB.length/\0<=(ZJ a0 a1).2/\(ZJ a0 a1).2.toNat<(nth a0.ZB (ZJ a0 a1).1.toNat).ZC.length:=by
  have key:∀n v r,Vx a0 a1 n v= .inl r->r.1.toNat<a0.ZB.length/\0<=r.2/\r.2.toNat<(nth a0.ZB r.1.toNat).ZC.length:=by
    intro n;induction n with
    |zero=>intro v r h;cases h
    |succ n ih=>
      intro v r h;rw[Vx]at h;cases h1:decide ((v:Int)<(a0.ZB.length:Int))with
      |false=>rw[h1]at h;cases h
      |true=>
        rw[h1]at h;simp only[cond_true]at h;cases h2:decide (Y2 (nth a0.ZB v) a1>=0)with
        |false=>rw[h2]at h;exact ih _ _ h
        |true=>
          rw[h2]at h;cases h;simp at h1 h2;have:=TP (nth a0.ZB v) a1
          grind
  unfold ZJ at h⊢;grind
theorem Ym(a0:ZG)(a1:Int)(h:0<=(ZO a0 a1).1):(ZO a0 a1).1.toNat<a0.ZB.length/\0<=(ZO a0 a1).2/\(ZO a0 a1).2.toNat<(nth a0.ZB (ZO a0 a1).1.toNat).ZC.length:=by
  have key:∀n v r,kZ a0 a1 n v= .inl r->r.1.toNat<a0.ZB.length/\0<=r.2/\r.2.toNat<(nth a0.ZB r.1.toNat).ZC.length:=by
    intro n;induction n with
    |zero=>intro v r h;cases h
    |succ n ih=>
      intro v r h;rw[kZ]at h;cases h1:decide ((v:Int)<(a0.ZB.length:Int))with
      |false=>rw[h1]at h;cases h
      |true=>
        rw[h1]at h;simp only[cond_true]at h;cases h2:decide (Zg (nth a0.ZB v) a1>=0)with
        |false=>rw[h2]at h;exact ih _ _ h
        |true=>
          rw[h2]at h;cases h;simp at h1 h2;have:=KE (nth a0.ZB v) a1
          grind
  unfold ZO at h⊢;grind
theorem UI(hn:n<=9223372036854775807)(h:Yd a 0 (W ((n:Int)-1))=true):0<=a/\a<n:=by rw[GH n hn]at h;simp only[Yd,Bool.and_eq_true,decide_eq_true_eq]at h;omega
theorem qo(hn:n<=9223372036854775807)(h:ZZ a 0 (W ((n:Int)-1))=true):0<=a/\a<n:=by rw[GH n hn]at h;simp only[ZZ,Bool.and_eq_true,decide_eq_true_eq]at h;omega
@[simp] theorem tT (l : List UInt8) : (VK l).length = l.length := by
  have key:∀n (acc:List Int) v,l.length<n+v->v<=l.length->(WN l n acc v).length=acc.length+(l.length-v):=by
    intro n;induction n with
    |zero=>intro acc v h1 h2;omega
    |succ n ih=>intro acc v h1 h2;rw[WN];grind
  have:=key (l.length+1) [] 0 zAD zAD;simpa[VK]using this
theorem qv{a0:ZX}{a1:ZW}(h:Sm n a0):Sm n (qO a0 a1):=by
  have key:∀n (acc:List Int) v,a0.ZQ.length<n+v->v<=a0.ZQ.length->(xr a0 a1 n acc v).length=acc.length+(a0.ZQ.length-v):=by
    intro n;induction n with
    |zero=>intro acc v h1 h2;omega
    |succ n ih=>intro acc v h1 h2;rw[xr];grind
  have h2:=key (a0.ZQ.length+1) [] 0 zAD zAD;have h3:=YX (ZX.zf h);refine⟨?_,fun _ _=>trivial⟩;unfold qO;grind
theorem zJ{a0:ZX}{a1:ZW}(h:Sm n a0):Sm n (XR a0 a1):=by
  have key:∀n (acc:List Int) v,a0.ZQ.length<n+v->v<=a0.ZQ.length->(xn a0 a1 n acc v).length=acc.length+(a0.ZQ.length-v):=by
    intro n;induction n with
    |zero=>intro acc v h1 h2;omega
    |succ n ih=>intro acc v h1 h2;rw[xn];grind
  have h2:=key (a0.ZQ.length+1) [] 0 zAD zAD;have h3:=YX (ZX.zf h);refine⟨?_,fun _ _=>trivial⟩;unfold XR;grind
theorem Xr(a0:ZU):(JX a0=101->a0.YM.length=7)/\(JX a0=102->a0.YM.length=5)/\(JX a0=103->a0.YM.length=5)/\(JX a0=104->a0.YM.length=9)/\(JX a0=105->a0.YM.length=6):=by
  have key:∀v:Int,v≠0->JX a0=v->nth a0.YM 0=v/\(a0.YM.length:Int)=nth ([7,5,5,9,6]:List Int) (W (v-101)).toNat:=by intro v hv h;unfold JX at h;grind
  refine⟨fun h=>?_,fun h=>?_,fun h=>?_,fun h=>?_,fun h=>?_⟩<;>(have:=(key _ zAE h).2;simp[nth,Yw]at this;omega)
theorem Zj(a0:ZU):(Y0 a0=101->a0.YM.length=7)/\(Y0 a0=102->a0.YM.length=5)/\(Y0 a0=103->a0.YM.length=5)/\(Y0 a0=104->a0.YM.length=9)/\(Y0 a0=105->a0.YM.length=6):=by
  have key:∀v:Int,v≠0->Y0 a0=v->nth a0.YM 0=v/\(a0.YM.length:Int)=nth ([7,5,5,9,6]:List Int) (W (v-101)).toNat:=by intro v hv h;unfold Y0 at h;grind
  refine⟨fun h=>?_,fun h=>?_,fun h=>?_,fun h=>?_,fun h=>?_⟩<;>(have:=(key _ zAE h).2;simp[nth,Yw]at this;omega)
theorem Uf(a0:Int)(a1:List Int)(h:a1.length<=1048576):2*(UT a0 a1).length=a1.length+a1.length%2:=by
  have key:∀n v i,a1.length+1<2*n+i->i<=a1.length+1->i%2=0->2*(VN a0 a1 n v i).length=2*v.length+(a1.length+a1.length%2-i):=by
    intro n;induction n with
    |zero=>intro v i h1 h2;omega
    |succ n ih=>intro v i h1 h2 h3;unfold VN;grind
  have:=key (a1.length+1) [] 0 zAD zAD zAD;unfold UT;rw[this];simp
theorem qW(a0:Int)(a1:List Int)(h:a1.length<=1048576):2*(zQ a0 a1).length=a1.length+a1.length%2:=by
  have key:∀n v i,a1.length+1<2*n+i->i<=a1.length+1->i%2=0->2*(yS a0 a1 n v i).length=2*v.length+(a1.length+a1.length%2-i):=by
    intro n;induction n with
    |zero=>intro v i h1 h2;omega
    |succ n ih=>intro v i h1 h2 h3;unfold yS;grind
  have:=key (a1.length+1) [] 0 zAD zAD zAD;unfold zQ;rw[this];simp
theorem Ui(h:10<=n):Sm n yD:=⟨h,fun _ _=>trivial⟩
theorem jl{a0:ZE}(h:Sm n a0):Sm n (Yn a0 a1):=by
  refine⟨?_,fun _ _=>trivial⟩;have e:=CX (F:=xK a0 a1) (fun _ _=>rfl) (fun _ _ _=>rfl) (a0.ZC.length+1) [] 0
  have:(Yn a0 a1).length<=0+(a0.ZC.length-0):=e;have:=YX (show Sm n a0.ZC from h);omega
theorem qw(a0:ZE)(a1:Int):(Yn a0 a1).length=a0.ZC.length:=by
  have key:∀n v i,i<=a0.ZC.length->a0.ZC.length<n+i->(xK a0 a1 n v i).length=v.length+(a0.ZC.length-i):=by
    intro n;induction n with
    |zero=>intro v i h0 h;omega
    |succ n ih=>intro v i h0 h;rw[xK];grind
  have:=key (a0.ZC.length+1) [] 0 zAD zAD;exact this.trans zAG
theorem Vj{a0:ZE}(h:Sm n a0):Sm n (QK a0 a1):=by
  refine⟨?_,fun _ _=>trivial⟩;have e:=CX (F:=ks a0 a1) (fun _ _=>rfl) (fun _ _ _=>rfl) (a0.ZC.length+1) [] 0
  have:(QK a0 a1).length<=0+(a0.ZC.length-0):=e;have:=YX (show Sm n a0.ZC from h);omega
theorem Qd(a0:ZG)(a1:Int)(h:(YW a0 a1).2.2=true):0<=(YW a0 a1).1/\(YW a0 a1).1<(a0.ZB.length:Int)/\0<=(YW a0 a1).2.1/\(YW a0 a1).2.1<(a0.Zf.length:Int):=
  Zx (p:=fun(r:Int×Int×Bool)=>r.2.2=true->0<=r.1/\r.1<(a0.ZB.length:Int)/\0<=r.2.1/\r.2.1<(a0.Zf.length:Int)) (fun _ h=>by simp at h) (fun hc h=>by
    simp only[Bool.or_eq_false_iff,decide_eq_false_iff_not]at hc;have f:=Ym a0 a1 zAD
    dsimp only at h⊢;rw[Bool.and_eq_true,decide_eq_true_eq]at h;have h2:=h.2
    exact⟨zAD,zAD,zAD,FA _ _⟩) h
theorem H9(h:7<=n):Sm n (U1 x):=Py h
theorem RG(h:7<=n):Sm n (Ju x):=Pw h
theorem yX{x:Zs}(h:5<=n):Sm n (XQ x):=RA h
theorem Tv{x:Zs}(h:5<=n):Sm n (XX x):=Sv h
theorem H3{x:Zp}(h:9<=n):Sm n (jO x):=Vg h
theorem Yz{x:Zp}(h:9<=n):Sm n (Yo x):=jJ h
theorem Zi{a0:List Y6}{a1:Zs}(h:(Y4 a0 a1).2=true):0<=Ys a0 a1.YA:=by unfold Y4 at h;grind
theorem qK{a2:ZW}(h:Sm n a2)(hn:9<=n):Sm n (Qr a0 a1 a2 a3 a4).1:=by
  unfold Qr;cases((decide (Zq a0.Frame.Methods a0.Frame.Now<0))||(decide (JM a0 a1<0)))with
  |true=>exact⟨⟨zH,zH⟩,zH,zH⟩
  |false=>
    refine⟨h,⟨by simp;omega,fun y hy=>?_⟩,zH⟩;rcases List.mem_cons.1 hy with rfl|hy
    · exact H3 zAD
    rcases List.mem_cons.1 hy with rfl|hy
    · exact H9 zAD
    · cases hy
theorem SR{a0:ZE}{a1:ZR}(h:Sm n a0)(hx:Sm (n+1) a1):Sm (n+1) (Yr a0 a1).1:=by
  have h1:Sm (n+1) a0:=ZH (Nat.le_succ n) h;unfold Yr;cases((decide (Zg a0 a1.Id>=0))||(!(Y7 a0)))with
  |true=>exact h1
  |false=>
    simp only[cond_false];generalize Ul a0 a1 (a0.ZC.length+1) 0=z;cases(!(Y7 (ZE.mk a0.Id ((a0.ZC.take z++([a1]:List ZR))++a0.ZC.drop z))))with
    |true=>exact h1
    |false=>
      refine⟨by have:=ZE.YC h;have:=this.1;simp;omega,fun y hy=>?_⟩;have hy':y∈a0.ZC.take z\/y=a1\/y∈a0.ZC.drop z:=by simpa using hy
      rcases hy' with hy|rfl|hy
      · exact h1.2 y (List.mem_of_mem_take hy)
      · exact hx
      · exact h1.2 y (List.mem_of_mem_drop hy)
theorem Vh{n:Nat}{a0:ZE}{a1:ZR}(h:Sm n a0)(hx:Sm n a1):∀(m:Nat)(b:Bool)(i:Nat)(l:List ZR),l.length<=i+(bif b then 1 else 0)->i<=a0.ZC.length->(∀y∈l,Sm n y)->
    (zR a0 a1 m b i l).2.length<=a0.ZC.length+(bif(zR a0 a1 m b i l).1 then 1 else 0)/\∀y∈(zR a0 a1 m b i l).2,Sm n y
  |0,b,i,l,_,_,_=>⟨Nat.zero_le _,fun y hy=>by cases hy⟩
  |m+1,b,i,l,hl,hi,hs=>by
    unfold zR;cases hc:decide ((i:Int)<(a0.ZC.length:Int))with
    |false=>grind
    |true=>
      have nn:i<a0.ZC.length:=zBG;have hn:Sm n (nth a0.ZC i):=Zn h;simp only[cond_true];cases hd:((!b)&&(decide (a1.Id<(nth a0.ZC i).Id)))with
      |true=>
        have hb:b=false:=by cases b<;>simp_all
        subst hb;simp only[cond_true];refine Vh h hx m true (i+1) _ zBu nn (fun y hy=>?_);grind
      |false=>simp only[cond_false];refine Vh h hx m b (i+1) _ zBu nn (fun y hy=>?_);grind
theorem W8{a0:ZE}{a1:ZR}(h:Sm n a0)(hx:Sm n a1):Sm (n+1) (Q7 a0 a1).1:=by
  have h1:Sm (n+1) a0:=ZH (Nat.le_succ n) h;unfold Q7;cases((!(JP a0))||(decide (Y2 a0 a1.Id>=0)))with
  |true=>exact h1
  |false=>
    have hz:=Vh h hx (a0.ZC.length+1) false 0 [] (Nat.zero_le _) (Nat.zero_le _) (fun y hy=>by cases hy);have hlen:=(ZE.YC h).1;simp only[cond_false];generalize hq:zR a0 a1 (a0.ZC.length+1) false 0 []=z at hz⊢;obtain⟨z0,z1⟩:=z;cases z0 with
    |false=>
      simp only[Bool.not_false,cond_true];cases(!(JP (ZE.mk a0.Id (z1++([a1]:List ZR)))))with
      |true=>exact h1
      |false=>
        refine⟨by have:=hz.1;simp at this⊢;omega,fun y hy=>?_⟩;have hy':y∈z1\/y=a1:=by simpa using hy
        rcases hy' with hy|rfl
        · exact ZH (Nat.le_succ n) (hz.2 y hy)
        · exact ZH (Nat.le_succ n) hx
    |true=>
      simp only[Bool.not_true,cond_false];cases(!(JP (ZE.mk a0.Id z1)))with
      |true=>exact h1
      |false=>exact⟨by have:=hz.1;simp at this⊢;omega,fun y hy=>ZH (Nat.le_succ n) (hz.2 y hy)⟩
theorem Sr{n:Nat}{a0:ZG}{a1 a2:Int}{a3:ZW}{a4 a5:Int}(h:Sm n a0)(hd:Sm n a3)(hn:9<=n):∀(m v:Nat)(r:ZG×Bool),Jh a0 a1 a2 a3 a4 a5 m v= .inl r->Sm (n+1) r.1
  |0,v,r,e=>by cases e
  |m+1,v,r,e=>by
    have h1:Sm (n+1) a0:=ZH (Nat.le_succ n) h;unfold Jh at e;cases hc:decide ((v:Int)<(a0.Zf.length:Int))with
    |false=>rw[hc]at e;cases e
    |true=>
      rw[hc]at e;simp only[cond_true]at e;cases hk:((nth a0.Zf v).Key !=a2)with
      |true=>rw[hk]at e;exact Sr h hd hn m (v+1) r e
      |false=>
        rw[hk]at e;simp only[cond_false]at e;generalize hq:(ZR.mk a0.Next a5 a3 (Xg a0.Frame.Z0 (Zp.mk a2 (nth a0.Zf v).Zc (ZY a0.Frame.Methods a0.Frame.Now) (Yx (ZY a0.Frame.Methods a0.Frame.Now) a3) 1 a4 0 0 0)).1 (ZX.mk ([Yo (Xg a0.Frame.Z0 (Zp.mk a2 (nth a0.Zf v).Zc (ZY a0.Frame.Methods a0.Frame.Now) (Yx (ZY a0.Frame.Methods a0.Frame.Now) a3) 1 a4 0 0 0)).1,Ju (nth a0.Zf v)]:List ZU) ([]:List Ze)))=it at e;have hit:Sm (n+1) it:=by
          rw[<-hq];refine⟨ZH (Nat.le_succ n) hd,⟨by simp;omega,fun y hy=>?_⟩,zH⟩;rcases List.mem_cons.1 hy with rfl|hy
          · exact Yz zAD
          rcases List.mem_cons.1 hy with rfl|hy
          · exact RG zAD
          · cases hy
        clear hq;cases hb:((!(Xg a0.Frame.Z0 (Zp.mk a2 (nth a0.Zf v).Zc (ZY a0.Frame.Methods a0.Frame.Now) (Yx (ZY a0.Frame.Methods a0.Frame.Now) a3) 1 a4 0 0 0)).2)||(!(Yr (nth a0.ZB a1.toNat) it).2))with
        |true=>rw[hb]at e;cases e;exact h1
        |false=>rw[hb]at e;cases e;exact⟨h1.1,h1.2.1,h1.2.2.1,xd h1.2.2.2.1 (SR (Zn h.2.2.2.1) hit),h1.2.2.2.2.1,h1.2.2.2.2.2.1,h1.2.2.2.2.2.2⟩
theorem Kv{a2:Int}{a3:ZW}(h:Sm n a0)(hd:Sm n a3)(hn:9<=n):Sm (n+1) (Xa a0 a1 a2 a3 a4 a5).1:=by
  have h1:Sm (n+1) a0:=ZH (Nat.le_succ n) h;unfold Xa;cases(((!(Yt a0 a1))||(decide (YT a0.Frame.Z0 a2<0)))||(decide (ZY a0.Frame.Methods a0.Frame.Now<0)))with
  |true=>exact h1
  |false=>
    simp only[cond_false];cases he:Jh a0 a1 a2 a3 a4 a5 (a0.Zf.length+1) 0 with
    |inl r=>exact Sr h hd hn _ _ r he
    |inr _=>exact h1
theorem qJ(a0:Int):∀(m:Nat)(x:Int)(l:List X4)(y:List Int),(yz a0 m x l y).length<=l.length+m
  |0,x,l,y=>Nat.zero_le _
  |m+1,x,l,y=>by
    simp only[yz];cases decide ((y.length:Int)>1)with
    |false=>simp
    |true=>
      simp only[cond_true];cases(Int.tmod x 2==1)with
      |true=>refine Nat.le_trans (qJ a0 m _ _ _) ?_;simp;omega
      |false=>
        simp only[cond_false];cases decide (W (x+1)<(y.length:Int))with
        |true=>refine Nat.le_trans (qJ a0 m _ _ _) ?_;simp;omega
        |false=>refine Nat.le_trans (qJ a0 m _ _ _) ?_;omega
theorem Pt{a0:Int}{a1:List Int}{a2:Int}(h:17<=n):Sm n (yq a0 a1 a2):=by
  refine⟨?_,fun _ _=>trivial⟩;unfold yq;cases hc:((decide ((a1.length:Int)>16))||(!(Yd a2 0 (W ((a1.length:Int)-1)))))with
  |true=>exact Nat.zero_le _
  |false=>have h1:=qJ a0 (a1.length+1) a2 [] a1;grind
theorem qN(a0:Int):∀(m:Nat)(y:List Int)(x:Int)(l:List X4),(ym a0 m y x l).length<=l.length+m
  |0,y,x,l=>Nat.zero_le _
  |m+1,y,x,l=>by
    simp only[ym];cases decide ((y.length:Int)>1)with
    |false=>simp
    |true=>
      simp only[cond_true];cases(Int.tmod x 2==1)with
      |true=>refine Nat.le_trans (qN a0 m _ _ _) ?_;simp;omega
      |false=>
        simp only[cond_false];cases decide (W (x+1)<(y.length:Int))with
        |true=>refine Nat.le_trans (qN a0 m _ _ _) ?_;simp;omega
        |false=>refine Nat.le_trans (qN a0 m _ _ _) ?_;omega
theorem Ps{a0:Int}{a1:List Int}{a2:Int}(h:17<=n):Sm n (J0 a0 a1 a2):=by
  refine⟨?_,fun _ _=>trivial⟩;unfold J0;cases hc:((!(ZZ a2 0 (W ((a1.length:Int)-1))))||(decide ((a1.length:Int)>16)))with
  |true=>exact Nat.zero_le _
  |false=>have h1:=qN a0 (a1.length+1) a1 a2 [];grind
theorem Pz(a0:ZG)(a1:List Int):∀(m v:Nat),a1.length<m+v->(match VO a0 a1 m v with|.inl r=>r|.inr _=>true)=true->∀j,v<=j->j<a1.length->0<=Zu a0.Frame.ZD (nth a1 j)/\Zu a0.Frame.ZD (nth a1 j)<(a0.Y9.length:Int)/\0<=Ys a0.Frame.Z0 (nth a0.Frame.ZD (Zu a0.Frame.ZD (nth a1 j)).toNat).Key
  |0,v,h,_=>fun j h1 h2=>zAD
  |m+1,v,h,e=>by
    intro j h1 h2;unfold VO at e;have hc:decide ((v:Int)<(a1.length:Int))=true:=zAx
    rw[hc]at e;simp only[cond_true]at e;revert e;cases hA:(((decide (Zu a0.Frame.ZD (nth a1 v)<0))||(decide (Zu a0.Frame.ZD (nth a1 v)>=(a0.Y9.length:Int))))||((decide ((v:Int)>0))&&(decide (nth a1 (v-1)>=nth a1 v))))with
    |true=>intro e;simp at e
    |false=>
      simp only[cond_false];cases hB:((decide (Ys a0.Frame.Z0 (nth a0.Frame.ZD (Zu a0.Frame.ZD (nth a1 v)).toNat).Key<0))||(decide ((nth a0.Frame.Z0 (Ys a0.Frame.Z0 (nth a0.Frame.ZD (Zu a0.Frame.ZD (nth a1 v)).toNat).Key).toNat).RH>a0.Frame.Now)))with
      |true=>intro e;simp at e
      |false=>
        intro e;rcases Nat.eq_or_lt_of_le h1 with rfl|h1
        · grind
        · exact Pz a0 a1 m (v+1) zAD e j h1 h2
theorem Jr{a1:List Int}(h:Ru a0 a1=true)(hj:j<a1.length):0<=Zu a0.Frame.ZD (nth a1 j)/\Zu a0.Frame.ZD (nth a1 j)<(a0.Y9.length:Int)/\0<=Ys a0.Frame.Z0 (nth a0.Frame.ZD (Zu a0.Frame.ZD (nth a1 j)).toNat).Key:=by refine Pz a0 a1 (a1.length+1) 0 zAD ?_ j (Nat.zero_le _) hj;unfold Ru at h;grind
def itn(l:List ZE):Nat:=cnL (fun a=>a.ZC.length) l
theorem Bj(h:i<l.length):itn (l.drop i)=(nth l i).ZC.length+itn (l.drop (i+1)):=EM _ h
theorem GC(a0:ZG):Jo a0=a0.ZB.flatMap (·.ZC):=by
  unfold Jo;have:=CV (as:=a0.ZB) (fun a=>a.ZC) (F:=fun n i l=>UO a0 n l i) (fun _ _ _=>rfl) (a0.ZB.length+1) 0 [] zAD (Nat.zero_le _)
  simpa using this
theorem Fw(a0:ZG):(Jo a0).length=itn a0.ZB:=by rw[GC,Cx];rfl
theorem HX{n:Nat}:∀(l:List ZE),(∀a∈l,Sm n a)->itn l<=l.length*n
  |[],_=>Nat.zero_le _
  |a::l,h=>by
    have h1:a.ZC.length<=n:=YX (ZE.YC (h a List.mem_cons_self));have h2:=HX l (fun b hb=>h b (List.mem_cons_of_mem _ hb));show a.ZC.length+itn l<=(l.length+1)*n
    rw[Nat.add_mul,Nat.one_mul];omega
theorem Rg(h:Sm n w):itn w.ZB<=n*n:=
  have k:=ZG.Z5 h
  Nat.le_trans (HX w.ZB k.2) (Nat.mul_le_mul_right n k.1)
theorem Tg(a0:Zb)(a1:ZX)(a2:List Int):∀n v,Kt a0 a1 a2 n v<=v
  |0,_=>Nat.zero_le _
  |n+1,v=>by simp only[Kt];exact ZP (p:=fun r=>r<=v) (ZP (p:=fun r=>r<=v) (Nat.le_refl _) (Nat.le_trans (Tg a0 a1 a2 n (v-1)) (Nat.sub_le _ _))) (Nat.le_refl _)
theorem Ly(a0:Zb)(a1:ZX)(a2:List Int):0<=JT a0 a1 a2/\JT a0 a1 a2<=(a1.ZQ.length:Int):=by have h:=Tg a0 a1 a2 (a1.ZQ.length+1) a1.ZQ.length;simp only[JT];omega
theorem Wd(a0:List Zh):∀(n:Nat)(l:List Zh)(i:Nat)(x y:Int),i<=a0.length->(QX a0 n l i x y).1.length<=l.length+(a0.length-i)
  |0,_,_,_,_,_=>Nat.zero_le _
  |n+1,l,i,x,y,hi=>by
    simp only[QX];by_cases h:i<a0.length
    · rw[show decide ((i:Int)<(a0.length:Int))=true by simpa using h,cond_true];refine ZP (p:=fun(r:List Zh×Int×Int)=>r.1.length<=l.length+(a0.length-i)) ?_ ?_
      · have:=Wd a0 n (l++[nth a0 i]) (i+1) x y h;simp at this;omega
      · exact Nat.le_trans (Wd a0 n l (i+1) _ _ h) zAD
    · grind
theorem Wj(a0:List Zh):∀(n:Nat)(l:List Zh)(i:Nat),i<=a0.length->(zk a0 n l i).length<=l.length+(a0.length-i)
  |0,_,_,_=>Nat.zero_le _
  |n+1,l,i,hi=>by
    simp only[zk];by_cases h:i<a0.length
    · rw[show decide ((i:Int)<(a0.length:Int))=true by simpa using h,cond_true];refine ZP (p:=fun(r:List Zh)=>r.length<=l.length+(a0.length-i)) (Nat.le_trans (Wj a0 n l (i+1) h) zAD) ?_;have h2:=Wd l (l.length+1) [] 0 (nth a0 i).XF (nth a0 i).To (Nat.zero_le _)
      refine Nat.le_trans (Wj a0 n _ (i+1) h) ?_;simp at h2⊢;omega
    · grind
theorem qR{a0:List Zh}(h:Sm n a0):Sm n (Xi a0):=
  ⟨Nat.le_trans (Wj a0 (a0.length+1) [] 0 (Nat.zero_le _)) (by have:=h.1;simp;omega),fun _ _=>trivial⟩
theorem ZN{a0:Int}{a2:List Zh}(h:Sm n a2):Sm (n+1) (Zw a0 a1 a2):=by
  unfold Zw;refine ZP (p:=fun r:List Zh=>Sm (n+1) r) ⟨?_,fun _ _=>trivial⟩ (ZH (Nat.le_succ n) h);have:=h.1
  simp;omega
theorem ED{a0:YO}{a1:List Zs}(h:3<=n):Sm n (jF a0 a1):=by
  have h0:Sm 0 ([]:List Zh):=⟨Nat.zero_le _,fun _ _=>trivial⟩;unfold jF;refine ZP (p:=fun r:List Zh=>Sm n r) (ZP (p:=fun r:List Zh=>Sm n r) ?_ ?_) (ZP (p:=fun r:List Zh=>Sm n r) ?_ ?_)
  · exact qR (ZH h (ZN (ZN (ZN h0))))
  · exact qR (ZH zAD (ZN (ZN h0)))
  · exact qR (ZH zAD (ZN (ZN h0)))
  · exact qR (ZH zAD (ZN h0))
theorem AI{c d:Zh}(h:1<=n):Sm n (VI [c] [d]):=by show Sm n (Xi (bif(X1 c d).2 then[(X1 c d).1]else[]));exact qR (ZP (p:=fun r:List Zh=>Sm n r) ⟨h,fun _ _=>trivial⟩ ⟨Nat.zero_le _,fun _ _=>trivial⟩)
theorem GM{a0:YO}{a1:List Zs}(h:1<=n):Sm n (xz a0 a1):=by unfold xz;exact AI h
theorem NS{a0:List Y6}{a1:List Xc}{a2:Int}(h:a1.length<=n):Sm n (qD a0 a1 a2 a3):=
  qR ⟨Nat.le_trans (Rf (F:=yQ a0 a1 a2 a3) (fun _ _=>rfl) (fun _ _ _=>rfl) (a1.length+1) [] 0) zAx,fun _ _=>trivial⟩
def sM(e:YB):Nat:=cnL (fun s=>s.ZM.length) e.Z9
theorem wh{l:List ZX}(h:i<l.length):cnL (fun s:ZX=>s.ZM.length) (l.drop i)=(nth l i).ZM.length+cnL (fun s:ZX=>s.ZM.length) (l.drop (i+1)):=EM _ h
theorem Yq{a0:List ZU}{a1:YO}(h:Sm n a0):Sm n (X5 a0 a1):=
  ⟨Nat.le_trans (Rf (F:=Jw a0 a1) (fun _ _=>rfl) (fun _ _ _=>rfl) (a0.length+1) [] 0) (by have:=h.1;simp;omega),fun _ _=>trivial⟩
theorem Y1{a0:List ZU}(h:Sm n a0):Sm n (Kl a0):=
  ⟨Nat.le_trans (Rf (F:=K9 a0) (fun _ _=>rfl) (fun _ _ _=>rfl) (a0.length+1) [] 0) (by have:=h.1;simp;omega),fun _ _=>trivial⟩
theorem WR{n:Nat}(a0:YB)(a1:ZW)(h:Sm n a0):∀(m:Nat)(l:List (List Int))(i:Nat),i<=a0.Z9.length->Sm n l->l.length+(a0.Z9.length-i)<=n->Sm n (KT a0 a1 m l i)
  |0,_,_,_,_,_=>⟨Nat.zero_le _,fun x hx=>by cases hx⟩
  |m+1,l,i,hi,hl,hk=>by
    simp only[KT];by_cases hv:i<a0.Z9.length
    · rw[show decide ((i:Int)<(a0.Z9.length:Int))=true by simpa using hv,cond_true];refine WR a0 a1 h m _ (i+1) hv ⟨by simp;omega,fun x hx=>?_⟩ zAx;rcases List.mem_append.1 hx with hx|hx
      · exact hl.2 x hx
      · rw[List.mem_singleton.1 hx];exact zJ (Zn (YB.Qi h))
    · grind
theorem JK{a0:YB}{a1:ZW}(h:Sm n a0):Sm n (Z7 a0 a1):=
  WR a0 a1 h _ [] 0 (Nat.zero_le _) ⟨Nat.zero_le _,fun x hx=>by cases hx⟩ (by have z:=YX (YB.Qi h);simp;omega)
theorem Db{z:Nat}{l:List ZU}{p:ZU}(hl:Sm K l)(hp:Sm K p)(hk:l.length+1<=K):Sm K ((l.take z++[p])++(l.drop z).take (l.length-z))/\((l.take z++[p])++(l.drop z).take (l.length-z)).length<=l.length+1:=by
  have h:((l.take z++[p])++(l.drop z).take (l.length-z)).length<=l.length+1:=zAx;refine⟨⟨Nat.le_trans h hk,fun x hx=>?_⟩,h⟩;simp only[List.mem_append,List.mem_singleton]at hx;rcases hx with(hx|rfl)|hx
  · exact hl.2 x (List.mem_of_mem_take hx)
  · exact hp
  · exact hl.2 x (List.mem_of_mem_drop (List.mem_of_mem_take hx))
theorem qg{K:Nat}(a0:Zb)(a1:YB)(a2:List (List Int))(v:Nat)(h:Sm K a1):∀(n:Nat)(l:List ZU)(i:Nat),i<=(nth a1.Z9 v).ZM.length->Sm K l->l.length+((nth a1.Z9 v).ZM.length-i)<=K->Sm K (QU a0 a1 a2 v n l i)/\(QU a0 a1 a2 v n l i).length<=l.length+((nth a1.Z9 v).ZM.length-i)
  |0,_,_,_,_,_=>⟨⟨Nat.zero_le _,fun x hx=>by cases hx⟩,Nat.zero_le _⟩
  |n+1,l,i,hi,hl,hk=>by
    simp only[QU];by_cases hv:i<(nth a1.Z9 v).ZM.length
    · rw[show decide ((i:Int)<((nth a1.Z9 v).ZM.length:Int))=true by simpa using hv,cond_true];have hp:Sm K (nth (nth a1.Z9 v).ZM i):=Zn (ZX.QE (Zn (YB.Qi h)))
      refine ZP (p:=fun(r:List ZU)=>Sm K r/\r.length<=l.length+((nth a1.Z9 v).ZM.length-i)) ?_ ?_
      · obtain⟨r1,r2⟩:=qg a0 a1 a2 v h n l (i+1) hv hl zAD;exact⟨r1,zAD⟩
      · obtain⟨q1,q2⟩:=Db (z:=yJ a1 v l i (l.length+1) 0) hl hp zAD;obtain⟨r1,r2⟩:=qg a0 a1 a2 v h n _ (i+1) hv q1 zAD;exact⟨r1,zAD⟩
    · grind
theorem Wm{K:Nat}(a0:Zb)(a1:YB)(a2:List (List Int))(h:Sm K a1):∀(n:Nat)(l:List ZU)(i:Nat),i<=a1.Z9.length->Sm K l->l.length+cnL (fun s:ZX=>s.ZM.length) (a1.Z9.drop i)<=K->Sm K (K0 a0 a1 a2 n l i)
  |0,_,_,_,_,_=>⟨Nat.zero_le _,fun x hx=>by cases hx⟩
  |n+1,l,i,hi,hl,hk=>by
    simp only[K0];by_cases hv:i<a1.Z9.length
    · rw[show decide ((i:Int)<(a1.Z9.length:Int))=true by simpa using hv,cond_true];have hd:=wh hv
      obtain⟨r1,r2⟩:=qg a0 a1 a2 i h ((nth a1.Z9 i).ZM.length+1) l 0 (Nat.zero_le _) hl zAD;exact Wm a0 a1 a2 h n _ (i+1) hv r1 zAD
    · grind
theorem Za{a0:Zb}{a1:YB}{a2:List (List Int)}(h:Sm K a1)(hp:sM a1<=2097152)(hk:2097152<=K):Sm K (Zr a0 a1 a2):=
  Wm a0 a1 a2 h _ [] 0 (Nat.zero_le _) ⟨Nat.zero_le _,fun x hx=>by cases hx⟩ (by rw[List.drop_zero];simp only[List.length_nil];exact Nat.le_trans (by rw[Nat.zero_add];exact hp) hk)
theorem Bb(x:Int):0<=EG .i64 x 255/\EG .i64 x 255<=255:=by
  have h:(BitVec.ofInt IntKind.i64.bits x&&&BitVec.ofInt IntKind.i64.bits 255).toNat<=255:=by rw[BitVec.toNat_and];exact Nat.le_trans Nat.and_le_right (Nat.le_of_ble_eq_true rfl)
  unfold EG;rw[YZ zAD zAD];omega
theorem qH(c:YI):0<=(Ye c).2/\(Ye c).2<=255:=by unfold Ye;exact ZP (p:=fun r:YI×Int=>0<=r.2/\r.2<=255) (Bb _) (Bb _)
theorem Qp(c:YI)(n:Int):0<=(ZL c n).2/\(0<n->(ZL c n).2<n):=by
  unfold ZL;refine Zx (p:=fun r:YI×Int=>0<=r.2/\(0<n->r.2<n)) (fun h=>⟨Int.le_refl _,fun h0=>h0⟩) (fun h=>?_);have hn:0<n:=by simp at h;omega
  have h1:=qH c;have h2:=qH (Ye c).1;have h3:=qH (Ye (Ye c).1).1;refine ZP (p:=fun r:YI×Int=>0<=r.2/\(0<n->r.2<n)) ⟨Int.tmod_nonneg _ h1.1,fun _=>Int.tmod_lt_of_pos _ hn⟩ ⟨Int.tmod_nonneg _ ?_,fun _=>Int.tmod_lt_of_pos _ hn⟩;simp only[Yw];omega
theorem N2(c:YI)(n:Int):(ZL c n).2<=16777215:=by
  unfold ZL;have h1:=qH c
  have h2:=qH (Ye c).1;have h3:=qH (Ye (Ye c).1).1;refine ZP (p:=fun r:YI×Int=>r.2<=16777215) (show(0:Int)<=16777215 by decide) (Zx (p:=fun r:YI×Int=>r.2<=16777215) (fun h=>?_) (fun h=>?_))
  · have:(Int.tmod (Ye c).2 n).natAbs<=(Ye c).2.natAbs:=by rw[Int.natAbs_tmod];exact Nat.mod_le _ _
    grind
  · show Int.tmod _ _<=_;have hw:0<=W (W (W ((Ye c).2*65536)+W ((Ye (Ye c).1).2*256))+(Ye (Ye (Ye c).1).1).2)/\W (W (W ((Ye c).2*65536)+W ((Ye (Ye c).1).2*256))+(Ye (Ye (Ye c).1).1).2)<=16777215:=by simp only[Yw];omega
    have h4:(Int.tmod (W (W (W ((Ye c).2*65536)+W ((Ye (Ye c).1).2*256))+(Ye (Ye (Ye c).1).1).2)) n).natAbs<=(W (W (W ((Ye c).2*65536)+W ((Ye (Ye c).1).2*256))+(Ye (Ye (Ye c).1).1).2)).natAbs:=by rw[Int.natAbs_tmod];exact Nat.mod_le _ _
    have h5:=Int.tmod_nonneg n hw.1;omega
theorem OB(c:YI):(yW c).2.size<=11:=by unfold yW PU;exact rW zAE _
theorem Jl(a0:ZG):(Zv a0).length<=a0.Frame.ZD.length:=by have e:=Rf (F:=Qg a0) (fun _ _=>rfl) (fun _ _ _=>rfl) (a0.Frame.ZD.length+1) [] 0;have:(Zv a0).length<=0+(a0.Frame.ZD.length-0):=e;omega
theorem Kf(a0:ZG):(YP a0).length<=a0.Frame.ZD.length:=by have e:=Rf (F:=KM a0) (fun _ _=>rfl) (fun _ _ _=>rfl) (a0.Frame.ZD.length+1) [] 0;have:(YP a0).length<=0+(a0.Frame.ZD.length-0):=e;omega
theorem Up(a0:Yk)(a1:Int)(h:xE a0 a1=true):a0.ZC.length<=8:=by
  unfold xE at h;have hk:∀n v r,zO a0 n v= .inl r->r=false:=by
    intro n;induction n with
    |zero=>intro v r h;cases h
    |succ n ih=>intro v r h;rw[zO]at h;grind
  cases hh:zO a0 (a0.ZC.length+1) 0 with
  |inl r=>rw[hh]at h;have:=hk _ _ _ hh;subst this;cases h
  |inr u=>rw[hh]at h;simp only[ZZ,Bool.and_eq_true,decide_eq_true_eq]at h;omega
theorem kB{n:Nat}{a0:ZE}{a2:List Int}(h:Sm n a0):∀(m v:Nat)(l:List ZR),(∀x∈l,Sm n x)->l.length<=v->v<=a2.length->
    (∀r,Jd a0 a2 m v l= .inl r->r=(Yk.mk 0 0 [] 0,false))/\∀z,Jd a0 a2 m v l= .inr z->z.length<=a2.length/\∀x∈z,Sm n x
  |0,v,l,_,_,_=>⟨fun r h=>zA7,fun z h=>zBO⟩
  |m+1,v,l,hs,hl,hv=>by
    rw[Jd];let p:=fun w:Sum (Yk×Bool) (List ZR)=>(∀r,w= .inl r->r=(Yk.mk 0 0 [] 0,false))/\∀z,w= .inr z->z.length<=a2.length/\∀x∈z,Sm n x
    refine Zx (p:=p) (fun hc=>?_) (fun _=>⟨fun r h=>zA7,fun z h=>zBz⟩);have hc:v<a2.length:=zBG
    refine ZP (p:=p) ⟨fun r h=>zBo,fun z h=>zA7⟩ ?_;refine kB h m (v+1) _ (fun x hx=>?_) zAx hc;rcases List.mem_append.1 hx with hx|hx
    · exact hs x hx
    · have e:=List.mem_singleton.1 hx;subst e;exact Zn (ZE.YC h)
theorem Wl{a0:ZE}(h:Sm n a0)(h2:Sm n a2):Sm n (Xo a0 a1 a2 a3).1:=by
  unfold Xo;obtain⟨k1,k2⟩:=kB (a2:=a2) h (a2.length+1) 0 [] (fun x hx=>zBn) (Nat.zero_le _) (Nat.zero_le _);have h0:Sm n (Yk.mk 0 0 [] 0):=by simp[XH]
  cases hh:Jd a0 a2 (a2.length+1) 0 []with
  |inl r=>rw[k1 r hh];exact h0
  |inr z=>
    obtain⟨q1,q2⟩:=k2 z hh;have hz:Sm n z:=⟨by have:=YX h2;omega,q2⟩
    dsimp only;refine ZP (p:=fun w:Yk×Bool=>Sm n w.1) h0 ?_;simp[hz]
theorem P7{a0:ZE}(hb:n<=9223372036854775807)(h:Sm n a0):Sm n (Qf a0 a1).1:=by
  unfold Qf;by_cases hk:Zg a0 a1<0
  · rw[decide_eq_true hk];exact h
  · rw[decide_eq_false hk];have hi:=ZE.YC h
    have hf:=KE a0 a1;have hl:=YX hi;refine⟨?_,fun y hy=>?_⟩
    · have hm:(a0.ZC.take (Zg a0 a1).toNat++a0.ZC.drop (W (Zg a0 a1+1)).toNat).length<=n:=by have w:W (Zg a0 a1+1)=Zg a0 a1+1:=YZ zAD zAD;rw[w];simp;omega
      exact hm
    · have hy':y∈a0.ZC.take (Zg a0 a1).toNat\/y∈a0.ZC.drop (W (Zg a0 a1+1)).toNat:=List.mem_append.1 hy;rcases hy' with hy|hy
      · exact hi.2 y (List.mem_of_mem_take hy)
      · exact hi.2 y (List.mem_of_mem_drop hy)
theorem NC(a0:Yk)(a1:Int)(h:z6 a0 a1=true):a0.ZC.length<=8:=by
  unfold z6 at h;have hk:∀n v r,zM a0 n v= .inl r->r=false:=by
    intro n;induction n with
    |zero=>intro v r h;cases h
    |succ n ih=>intro v r h;rw[zM]at h;grind
  cases hh:zM a0 (a0.ZC.length+1) 0 with
  |inl r=>rw[hh]at h;have:=hk _ _ _ hh;subst this;cases h
  |inr u=>rw[hh]at h;simp only[Yd,Bool.and_eq_true,decide_eq_true_eq]at h;omega
theorem jz{n:Nat}{a0:ZE}{a2:List Int}(h:Sm n a0):∀(m v:Nat)(l:List ZR),(∀x∈l,Sm n x)->l.length<=v->v<=a2.length->
    (∀r,zA a0 a2 m v l= .inl r->r=(Yk.mk 0 0 [] 0,false))/\∀z,zA a0 a2 m v l= .inr z->z.length<=a2.length/\∀x∈z,Sm n x
  |0,v,l,_,_,_=>⟨fun r h=>zA7,fun z h=>zBO⟩
  |m+1,v,l,hs,hl,hv=>by
    rw[zA];let p:=fun w:Sum (Yk×Bool) (List ZR)=>(∀r,w= .inl r->r=(Yk.mk 0 0 [] 0,false))/\∀z,w= .inr z->z.length<=a2.length/\∀x∈z,Sm n x
    refine Zx (p:=p) (fun hc=>?_) (fun _=>⟨fun r h=>zA7,fun z h=>zBz⟩);have hc:v<a2.length:=zBG
    refine ZP (p:=p) ⟨fun r h=>zBo,fun z h=>zA7⟩ ?_;refine jz h m (v+1) _ (fun x hx=>?_) zAx hc;rcases List.mem_append.1 hx with hx|hx
    · exact hs x hx
    · have e:=List.mem_singleton.1 hx;subst e;exact Zn (ZE.YC h)
theorem Wb{a0:ZE}(h:Sm n a0)(h2:Sm n a2):Sm n (Xn a0 a1 a2 a3).1:=by
  unfold Xn;obtain⟨k1,k2⟩:=jz (a2:=a2) h (a2.length+1) 0 [] (fun x hx=>zBn) (Nat.zero_le _) (Nat.zero_le _);have h0:Sm n (Yk.mk 0 0 [] 0):=by simp[XH]
  cases hh:zA a0 a2 (a2.length+1) 0 []with
  |inl r=>rw[k1 r hh];exact h0
  |inr z=>
    obtain⟨q1,q2⟩:=k2 z hh;have hz:Sm n z:=⟨by have:=YX h2;omega,q2⟩
    dsimp only;refine ZP (p:=fun w:Yk×Bool=>Sm n w.1) h0 ?_;simp[hz]
theorem Pm{a0:ZE}(h:Sm n a0):Sm n (qC a0 a1).1:=by
  have hi:=ZE.YC h;have hl:=YX hi;have key:∀m v l,(∀x∈l,Sm n x)->l.length<=v->v<=a0.ZC.length->(y0 a0 a1 m v l).length<=a0.ZC.length/\∀x∈y0 a0 a1 m v l,Sm n x:=by
    intro m;induction m with
    |zero=>intro v l _ _ _;exact⟨Nat.zero_le _,fun x hx=>zBn⟩
    |succ m ih=>
      intro v l hs hl hv;rw[y0];let p:=fun w:List ZR=>w.length<=a0.ZC.length/\∀x∈w,Sm n x
      refine Zx (p:=p) (fun hc=>?_) (fun _=>⟨zAD,hs⟩);have hc:v<a0.ZC.length:=zBG
      refine ZP (p:=p) (ih _ _ (fun x hx=>?_) zAx hc) (ih _ _ hs zAD hc);rcases List.mem_append.1 hx with hx|hx
      · exact hs x hx
      · have e:=List.mem_singleton.1 hx;subst e;exact Zn hi
  unfold qC;obtain⟨k1,k2⟩:=key (a0.ZC.length+1) 0 [] (fun x hx=>zBn) (Nat.zero_le _) (Nat.zero_le _);refine ZP (p:=fun w:ZE×Bool=>Sm n w.1) h ?_;exact⟨by dsimp only;omega,k2⟩
theorem EF(h:Sm n a0):Sm n (K4 a0 a1).1:=by refine ZP (p:=fun w:ZG×Bool=>Sm n w.1) h ?_;exact⟨h.1,h.2⟩
theorem Lm(h:Sm n a0):Sm n (QO a0 a1).1:=by refine ZP (p:=fun w:ZG×Bool=>Sm n w.1) h ?_;exact⟨h.1,h.2.1,xd h.2.2.1 trivial,h.2.2.2⟩
theorem EC{a2:Int}{a3:ZW}(h:Sm n a0)(hd:Sm n a3)(hn:9<=n):Sm (n+1) (J2 a0 a1 a2 a3 a4 a5).1:=
  ZP (p:=fun w:ZG×Bool=>Sm (n+1) w.1) (ZH (Nat.le_succ n) h) (Kv h hd hn)
theorem O7(a0:ZG)(a1 a2:Int)(a3:ZW)(a4 a5:Int):(Xa a0 a1 a2 a3 a4 a5).1.YN=a0.YN:=by
  have key:∀m v r,Jh a0 a1 a2 a3 a4 a5 m v= .inl r->r.1.YN=a0.YN:=by
    intro m;induction m with
    |zero=>intro v r h;cases h
    |succ m ih=>intro v r h;unfold Jh at h;grind
  unfold Xa;grind
theorem Hb{a2:Int}{a3:ZW}(h:Sm n a0)(hd:Sm n a3)(hn:9<=n):Sm (n+1) (Jt a0 a1 a2 a3).1:=by
  unfold Jt;have hs:Sm (n+1) (Xa a0 a1 a2 a3 0 10000).1:=Kv h hd hn
  refine ZP (p:=fun w:ZG×Bool=>Sm (n+1) w.1) (ZH (Nat.le_succ n) h) (ZP (p:=fun w:ZG×Bool=>Sm (n+1) w.1) ?_ hs);refine⟨hs.1,hs.2.1,hs.2.2.1,hs.2.2.2.1,hs.2.2.2.2.1,hs.2.2.2.2.2.1,⟨?_,fun _ _=>trivial⟩⟩;show(_++[a0.Next]).length<=n+1
  rw[O7];have:=YX (ZG.PY h)
  simp;omega
theorem Fq{a0:ZX}{a1:ZU}(h:Sm n a0)(hp:Sm (n+1) a1):Sm (n+1) (J3 a0 a1).1:=by
  have h1:Sm (n+1) a0:=ZH (Nat.le_succ n) h;refine ZP (p:=fun w:ZX×Bool=>Sm (n+1) w.1) h1 ?_;refine⟨⟨?_,fun x hx=>?_⟩,h1.2⟩
  · have:=h.1.1;simp;omega
  · rcases List.mem_append.1 hx with hx|hx
    · exact h1.1.2 x hx
    · have e:=List.mem_singleton.1 hx;subst e;exact hp
theorem RB{a0:ZX}{a1:Ze}(h:Sm n a0)(hp:Sm (n+1) a1):Sm (n+1) (XK a0 a1).1:=by
  have h1:Sm (n+1) a0:=ZH (Nat.le_succ n) h;refine ZP (p:=fun w:ZX×Bool=>Sm (n+1) w.1) h1 ?_;refine⟨h1.1,⟨?_,fun x hx=>?_⟩⟩
  · have:=h.2.1;simp;omega
  · rcases List.mem_append.1 hx with hx|hx
    · exact h1.2.2 x hx
    · have e:=List.mem_singleton.1 hx;subst e;exact hp
theorem G1{a0:ZE}{a2:ZU}(h:Sm n a0)(hp:Sm (n+1) a2):Sm (n+1) (Jv a0 a1 a2).1:=by have h1:Sm (n+1) a0:=ZH (Nat.le_succ n) h;refine ZP (p:=fun w:ZE×Bool=>Sm (n+1) w.1) h1 ?_;refine xd (ZE.YC h1) ?_;have hi:Sm n (nth a0.ZC (Zg a0 a1).toNat):=Zn (ZE.YC h);exact⟨(ZH (Nat.le_succ n) hi).1,Fq hi.2 hp⟩
theorem Oo{x:ZE}(h:Sm n a0)(hx:Sm n x):Sm n (ZG.mk a0.Frame a0.Zf a0.Zy (a0.ZB.set i x) a0.Y9 a0.Yg a0.Next a0.YN):=
  ⟨h.1,h.2.1,h.2.2.1,xd h.2.2.2.1 hx,h.2.2.2.2⟩
theorem U6{a2:Int}{a3:Zs}(h:Sm n a0)(hn:5<=n):Sm (n+1) (JI a0 a1 a2 a3).1:=by have h1:Sm (n+1) a0:=ZH (Nat.le_succ n) h;refine ZP (p:=fun w:ZG×Bool=>Sm (n+1) w.1) h1 ?_;exact Oo h1 (G1 (Zn (ZG.Z5 h)) (Tv zAD))
theorem Im(h:Sm n a0)(hn:5<=n):Sm (n+1) (Qv a0 a1).1:=by
  have h1:Sm (n+1) a0:=ZH (Nat.le_succ n) h;let p:=fun w:ZG×Bool=>Sm (n+1) w.1
  exact ZP (p:=p) h1 (ZP (p:=p) h1 (ZP (p:=p) (U6 h hn) (U6 h hn)))
theorem F9{a2:Int}(h:Sm n a0)(hn:5<=n):Sm (n+1) (J1 a0 a1 a2).1:=by have h1:Sm (n+1) a0:=ZH (Nat.le_succ n) h;exact ZP (p:=fun w:ZG×Bool=>Sm (n+1) w.1) h1 (U6 h hn)
theorem IE{a0:ZE}(h:Sm n a0):Sm n (yj a0 a1).1:=by
  have hi:=ZE.YC h;have key:∀m v l,(∀x∈l,Sm n x)->l.length<=v->v<=a0.ZC.length->(Q8 a0 a1 m v l).length<=a0.ZC.length/\∀x∈Q8 a0 a1 m v l,Sm n x:=by
    intro m;induction m with
    |zero=>intro v l _ _ _;exact⟨Nat.zero_le _,fun x hx=>zBn⟩
    |succ m ih=>
      intro v l hs hl hv;rw[Q8];let p:=fun w:List ZR=>w.length<=a0.ZC.length/\∀x∈w,Sm n x
      refine Zx (p:=p) (fun hc=>?_) (fun _=>⟨zAD,hs⟩);have hc:v<a0.ZC.length:=zBG
      refine ZP (p:=p) (ih _ _ (fun x hx=>?_) zAx hc) (ih _ _ hs zAD hc);rcases List.mem_append.1 hx with hx|hx
      · exact hs x hx
      · have e:=List.mem_singleton.1 hx;subst e;exact Zn hi
  obtain⟨k1,k2⟩:=key (a0.ZC.length+1) 0 [] (fun x hx=>zBn) (Nat.zero_le _) (Nat.zero_le _);have:=YX hi
  exact⟨by show(Q8 a0 a1 (a0.ZC.length+1) 0 []).length<=n;omega,k2⟩
theorem Ii(h:Sm n a0):Sm n (JZ a0 a1).1:=
  ZP (p:=fun w:ZG×Bool=>Sm n w.1) h (Oo h (IE (Zn (ZG.Z5 h))))
theorem LA{a0:ZE}{a2:List Zm}(h:Sm n a0)(hp:Sm n a2)(hn:17<=n):Sm (n+1) (XW a0 a1 a2).1:=by
  have h1:Sm (n+1) a0:=ZH (Nat.le_succ n) h;have hi:=ZE.YC h;have key:∀m v l,l.length=a0.ZC.length->(∀x∈l,Sm (n+1) x)->(∀r,Qo a0 a1 a2 m v l= .inl r->r=(a0,false))/\∀z,Qo a0 a1 a2 m v l= .inr z->z.length<=a0.ZC.length/\∀x∈z,Sm (n+1) x:=by
    intro m;induction m with
    |zero=>intro v l _ _;exact⟨fun r h=>zA7,fun z h=>zBO⟩
    |succ m ih=>
      intro v l hl hs;rw[Qo];let p:=fun w:Sum (ZE×Bool) (List ZR)=>(∀r,w= .inl r->r=(a0,false))/\∀z,w= .inr z->z.length<=a0.ZC.length/\∀x∈z,Sm (n+1) x
      refine ZP (p:=p) (ZP (p:=p) ⟨fun r h=>zBo,fun z h=>zA7⟩ (ih _ _ zB0 (fun x hx=>?_))) ⟨fun r h=>zA7,fun z h=>zBz⟩;rcases List.mem_or_eq_of_mem_set hx with hx|rfl
      · exact hs x hx
      · have hx0:Sm (n+1) (nth l v):=by
          by_cases hv:v<l.length
          · have:nth l v=l[v]:=by simp[nth,List.getD_eq_getElem?_getD,List.getElem?_eq_getElem hv]
            rw[this];exact hs _ (List.getElem_mem hv)
          · have:nth l v=default:=zBX;rw[this];exact Sz.zero _
        have hv:Sm n (nth a0.ZC v):=Zn hi;refine⟨hx0.1,RB hv.2 ?_⟩;exact⟨Ps zAD,ZH (Nat.le_succ n) hp⟩
  unfold XW;refine ZP (p:=fun w:ZE×Bool=>Sm (n+1) w.1) h1 ?_;obtain⟨k1,k2⟩:=key (a0.ZC.length+1) 0 a0.ZC rfl (fun x hx=>ZH (Nat.le_succ n) (hi.2 x hx));cases hh:Qo a0 a1 a2 (a0.ZC.length+1) 0 a0.ZC with
  |inl r=>rw[k1 r hh];exact h1
  |inr z=>
    obtain⟨q1,q2⟩:=k2 z hh;have:=YX hi
    exact ZP (p:=fun w:ZE×Bool=>Sm (n+1) w.1) h1 ⟨by show z.length<=n+1;omega,q2⟩
theorem Tn{n:Nat}{a0:ZG}{a1:Int}{a2:List Int}{a3:Int}:∀(m:Nat)(l:List Zm)(v:Nat)(q:List Int),l.length<=v->v<=a2.length->
    (∀r,QH a0 a1 a2 a3 m l v q= .inl r->r=(a0,false))/\∀z,QH a0 a1 a2 a3 m l v q= .inr z->z.1.length<=a2.length/\z.2.length<=q.length
  |0,_,_,_,_,_=>⟨fun r h=>zA7,fun z h=>(by cases h;exact⟨Nat.zero_le _,Nat.zero_le _⟩)⟩
  |m+1,l,v,q,hl,hv=>by
    rw[QH];let p:=fun w:Sum (ZG×Bool) (List Zm×List Int)=>(∀r,w= .inl r->r=(a0,false))/\∀z,w= .inr z->z.1.length<=a2.length/\z.2.length<=q.length
    have bad:p (.inl (a0,false)):=⟨fun r h=>zBo,fun z h=>zA7⟩;refine Zx (p:=p) (fun hc=>?_) (fun _=>⟨fun r h=>zA7,fun z h=>(by cases h;exact⟨Nat.le_trans hl hv,Nat.le_refl _⟩)⟩);have hc:v<a2.length:=zBG;have step:∀x i y,p (QH a0 a1 a2 a3 m (l++[x]) (v+1) (q.set i y)):=fun x i y=>by obtain⟨k1,k2⟩:=Tn (n:=n) (a0:=a0) (a1:=a1) (a2:=a2) (a3:=a3) m (l++[x]) (v+1) (q.set i y) zAx hc;grind
    grind
theorem Gw(h:Sm n a0)(h2:Sm n a2)(hn:17<=n):Sm (n+1) (Q6 a0 a1 a2 a3).1:=by
  have h1:Sm (n+1) a0:=ZH (Nat.le_succ n) h;unfold Q6;refine ZP (p:=fun w:ZG×Bool=>Sm (n+1) w.1) h1 ?_;obtain⟨k1,k2⟩:=Tn (n:=n) (a0:=a0) (a1:=a1) (a2:=a2) (a3:=a3) (a2.length+1) [] 0 a0.Y9 (Nat.zero_le _) (Nat.zero_le _);cases hh:QH a0 a1 a2 a3 (a2.length+1) [] 0 a0.Y9 with
  |inl r=>rw[k1 r hh];exact h1
  |inr z=>
    obtain⟨q1,q2⟩:=k2 z hh;obtain⟨z0,z1⟩:=z;have e2:=YX h2
    have e3:=YX (ZG.DM h);have hs:Sm n z0:=⟨by simp only at q1;omega,fun _ _=>trivial⟩;refine ZP (p:=fun w:ZG×Bool=>Sm (n+1) w.1) h1 ?_;exact⟨h1.1,h1.2.1,h1.2.2.1,xd h1.2.2.2.1 (LA (Zn (ZG.Z5 h)) hs hn),⟨by simp only at q2⊢;omega,fun _ _=>trivial⟩,h1.2.2.2.2.2⟩
theorem NK{a0:ZE}{a1:Yk}{a2:Int}(h:Sm n a0)(hp:Sm n a1):Sm (n+a1.ZC.length) (Xs a0 a1 a2).1:=by
  have h1:Sm (n+a1.ZC.length) a0:=ZH (Nat.le_add_right _ _) h;have key:∀m v d l,Sm (n+v) (ZE.mk d l)->v<=a1.ZC.length->(∀r,JL a0 a1 m v d l= .inl r->r=(a0,false))/\∀z,JL a0 a1 m v d l= .inr z->Sm (n+a1.ZC.length) (ZE.mk z.1 z.2):=by
    intro m;induction m with
    |zero=>intro v d l _ _;exact⟨fun r h=>zA7,fun z h=>(by cases h;exact zH)⟩
    |succ m ih=>
      intro v d l hs hv;rw[JL];let p:=fun w:Sum (ZE×Bool) (Int×List ZR)=>(∀r,w= .inl r->r=(a0,false))/\∀z,w= .inr z->Sm (n+a1.ZC.length) (ZE.mk z.1 z.2)
      refine Zx (p:=p) (fun hc=>?_) (fun _=>⟨fun r h=>zA7,fun z h=>(by cases h;exact ZH (Nat.add_le_add_left hv n) hs)⟩);have hc:v<a1.ZC.length:=zBG
      exact ZP (p:=p) ⟨fun r h=>zBo,fun z h=>zA7⟩ (ih _ _ _ (SR hs (ZH (Nat.le_succ_of_le (Nat.le_add_right n v)) (Zn (Yk.YC hp)))) hc)
  unfold Xs;refine ZP (p:=fun w:ZE×Bool=>Sm (n+a1.ZC.length) w.1) h1 ?_;obtain⟨k1,k2⟩:=key (a1.ZC.length+1) 0 a0.Id a0.ZC h (Nat.zero_le _);grind
theorem N7{a0:ZE}(h:Sm n a0):(Xo a0 a1 a2 a3).1.ZC.length<=a2.length:=by unfold Xo;obtain⟨k1,k2⟩:=kB (a2:=a2) h (a2.length+1) 0 [] (fun x hx=>zBn) (Nat.zero_le _) (Nat.zero_le _);grind
theorem Gs{a0 a1:ZE}(hb:n<=9223372036854775807)(h0:Sm n a0)(h1:Sm n a1)(h2:Sm n a2):Sm n (XZ a0 a1 a2 a3).1/\Sm (n+a2.length) (XZ a0 a1 a2 a3).2.1:=by
  have hto:Sm (n+a2.length) (Xs a1 (Xo a0 a1.Id a2 a3).1 a3).1:=
    ZH (Nat.add_le_add_left (N7 h0) n) (NK h1 (Wl h0 h2))
  have bad:Sm n a0/\Sm (n+a2.length) a1:=⟨h0,ZH (Nat.le_add_right _ _) h1⟩;have key:∀m v d l,Sm n (ZE.mk d l)->(∀r,Kn a0 a1 a2 m v d l= .inl r->r=(a0,a1,false))/\∀z,Kn a0 a1 a2 m v d l= .inr z->Sm n (ZE.mk z.1 z.2):=by
    intro m;induction m with
    |zero=>intro v d l _;exact⟨fun r h=>zA7,fun z h=>(by cases h;exact zH)⟩
    |succ m ih=>
      intro v d l hs;rw[Kn];let p:=fun w:Sum (ZE×ZE×Bool) (Int×List ZR)=>(∀r,w= .inl r->r=(a0,a1,false))/\∀z,w= .inr z->Sm n (ZE.mk z.1 z.2)
      exact ZP (p:=p) (ZP (p:=p) ⟨fun r h=>zBo,fun z h=>zA7⟩ (ih _ _ _ (P7 hb hs))) ⟨fun r h=>zA7,fun z h=>(by cases h;exact hs)⟩
  unfold XZ;let p:=fun w:ZE×ZE×Bool=>Sm n w.1/\Sm (n+a2.length) w.2.1
  refine ZP (p:=p) bad ?_;obtain⟨k1,k2⟩:=key (a2.length+1) 0 a0.Id a0.ZC h0;grind
theorem FH{a2:Int}(hb:n<=9223372036854775807)(h:Sm n a0)(hn:1<=n):Sm (n+1) (K3 a0 a1 a2 a3).1:=by
  have h1:Sm (n+1) a0:=ZH (Nat.le_succ n) h;have hm:=Gs (a0:=nth a0.ZB a1.toNat) (a1:=nth a0.ZB a2.toNat) (a2:=[a3]) (a3:=ZY a0.Frame.Methods a0.Frame.Now) hb (Zn (ZG.Z5 h)) (Zn (ZG.Z5 h)) ⟨hn,fun _ _=>trivial⟩;let p:=fun w:ZG×Bool=>Sm (n+1) w.1
  exact ZP (p:=p) h1 (ZP (p:=p) ⟨h1.1,h1.2.1,h1.2.2.1,xd (xd h1.2.2.2.1 (ZH (Nat.le_succ n) hm.1)) hm.2,h1.2.2.2.2⟩ h1)
theorem qi{a0:ZG}{a1 a2:Int}:∀(m v:Nat)(l:List Zm),(∀r,Xh a0 a1 a2 m v l= .inl r->r=(a0,false))/\∀z,Xh a0 a1 a2 m v l= .inr z->z.length<=l.length+((Zv a0).length-v)
  |0,v,l=>⟨fun r h=>zA7,fun z h=>(by cases h;exact Nat.zero_le _)⟩
  |m+1,v,l=>by
    rw[Xh];let p:=fun w:Sum (ZG×Bool) (List Zm)=>(∀r,w= .inl r->r=(a0,false))/\∀z,w= .inr z->z.length<=l.length+((Zv a0).length-v)
    refine Zx (p:=p) (fun hc=>?_) (fun _=>⟨fun r h=>zA7,fun z h=>(by cases h;exact Nat.le_add_right _ _)⟩);have hc:v<(Zv a0).length:=zBG
    refine ZP (p:=p) ⟨fun r h=>zBo,fun z h=>zA7⟩ ?_;obtain⟨k1,k2⟩:=qi (a0:=a0) (a1:=a1) (a2:=a2) m (v+1) (l++[(Xy a0.Frame.Z0 a0.Frame.ZD (Zm.mk (nth (Zv a0) v) 0 a2 (KV (nth (nth a0.ZB (ZO a0 a1).1.toNat).ZC (ZO a0 a1).2.toNat) (ZY a0.Frame.Methods a0.Frame.Now)) 0)).1]);grind
theorem O4{a2:Int}(h:Sm n a0):Sm (n+1) (QS a0 a1 a2).1:=by
  have h1:Sm (n+1) a0:=ZH (Nat.le_succ n) h;unfold QS;refine ZP (p:=fun w:ZG×Bool=>Sm (n+1) w.1) h1 ?_;obtain⟨k1,k2⟩:=qi (a0:=a0) (a1:=a1) (a2:=a2) ((Zv a0).length+1) 0 [];cases hh:Xh a0 a1 a2 ((Zv a0).length+1) 0 []with
  |inl r=>rw[k1 r hh];exact h1
  |inr z=>have hz:=k2 z hh;have hf:=Jl a0;have ha:=YX (Zb.XJ (ZG.Xk h));rw[List.length_nil]at hz;have hA:Sm n (nth a0.ZB (ZO a0 a1).1.toNat):=Zn (ZG.Z5 h);have hI:Sm n (nth (nth a0.ZB (ZO a0 a1).1.toNat).ZC (ZO a0 a1).2.toNat):=Zn (ZE.YC hA);refine Oo h1 (xd (ZE.YC (ZH (Nat.le_succ n) hA)) ⟨(ZH (Nat.le_succ n) hI).1,RB hI.2 ?_⟩);exact⟨zH,⟨by show z.length<=n+1;omega,fun _ _=>trivial⟩⟩
theorem S4{a1:Zt}(hb:n<=9223372036854775807)(h:Sm n a0)(he:Sm n a1)(hn:17<=n):Sm (n+1) (Y3 a0 a1).1:=by
  have h1:Sm (n+1) a0:=ZH (Nat.le_succ n) h;have up:∀w:ZG,Sm n w->Sm (n+1) w:=fun w hw=>ZH (Nat.le_succ n) hw;unfold Y3;let p:=fun w:ZG×Bool=>Sm (n+1) w.1
  exact ZP (p:=p) (up _ (EF h)) (ZP (p:=p) (EC h he.1 zAD) (ZP (p:=p) (Im h zAD) (ZP (p:=p) (up _ (Lm h)) (ZP (p:=p) (Gw h he.2 hn) (ZP (p:=p) (FH hb h zAD) (ZP (p:=p) (up _ (Ii h))
    (ZP (p:=p) (Hb h he.1 zAD) (ZP (p:=p) (O4 h) (ZP (p:=p) (F9 h zAD) h1)))))))))
theorem Ky(c:YI):(Z6 c).2.length=10:=by simp[Z6]
theorem Pd(h:4<=n):Sm n YR:=⟨h,fun _ _=>trivial⟩
theorem CC(h:4<=n):Sm n kW:=⟨h,fun _ _=>trivial⟩
theorem Dw(h:3<=n):Sm n jN:=⟨h,fun _ _=>trivial⟩
theorem WX(a0:Int)(a1:List ByteArray)(a2:Int):∀(m v:Nat)(l:List Int),(yI a0 a1 a2 m v l).length<=l.length+m
  |0,_,_=>Nat.zero_le _
  |m+1,v,l=>by
    rw[yI];refine ZP (p:=fun r:List Int=>r.length<=l.length+(m+1)) ?_ zAD;have:=WX a0 a1 a2 m (v+1) (l++[jb 1 (jc a2 [a0,v])])
    grind
theorem NN{a0:Int}{a1:List ByteArray}{a2:Int}(h:Sm n a1)(hn:a1.length+1<=n):Sm n (yA a0 a1 a2).1:=by
  unfold yA;have:=WX a0 a1 a2 (a1.length+1) 0 []
  refine ZP (p:=fun r:ZW×Bool=>Sm n r.1) ⟨Sz.zero n,Sz.zero n⟩ ⟨h,Nat.le_trans this (by simpa using hn),fun _ _=>trivial⟩
theorem Pu:∀(m:Nat)(l:List ByteArray)(i:Int)(b:List UInt8)(j:Nat)(h:Int),(∀x∈l,x.size<=11)->(kp m l i b j h).1.length<=l.length+m/\∀x∈(kp m l i b j h).1,x.size<=11
  |0,_,_,_,_,_,_=>⟨Nat.zero_le _,fun x hx=>by cases hx⟩
  |m+1,l,i,b,j,h,hl=>by
    rw[kp];refine ZP (p:=fun r:(List ByteArray)×List UInt8×Nat×Int=>r.1.length<=l.length+(m+1)/\∀x∈r.1,x.size<=11) ?_ ⟨by show l.length<=_;omega,hl⟩;have:=Pu m (l++[(yW (YI.mk b j h)).2]) (W (i-1)) (yW (YI.mk b j h)).1.b (yW (YI.mk b j h)).1.i (yW (YI.mk b j h)).1.h (fun x hx=>by
      rcases List.mem_append.1 hx with hx|hx
      · exact hl x hx
      · rw[List.mem_singleton.1 hx];exact OB _)
    grind
theorem LV{a0:YI}(h:20<=n):Sm n (X0 a0).2:=by
  unfold X0;have:=Pu 5 [] (W (1+(ZL a0 3).2)) (ZL a0 3).1.b (ZL a0 3).1.i (ZL a0 3).1.h (fun x hx=>by cases hx)
  simp only[List.length_nil]at this;exact NN ⟨zAD,fun x hx=>Nat.le_trans (this.2 x hx) zAD⟩ zAD
theorem F3{a0:ZX}{a1:ZU}(hn:n+1<=m)(h:Sm n a0)(hx:Sm m a1):Sm m (yu a0 a1).1:=by
  have h1:Sm m a0:=ZH zAD h;unfold yu;refine ZP (p:=fun r:ZX×Bool=>Sm m r.1) h1 ⟨⟨?_,fun y hy=>?_⟩,h1.2⟩
  · have:a0.ZM.length<=n:=h.1.1;simp only[List.length_append,List.length_singleton];omega
  · rcases List.mem_append.1 hy with hy|hy
    · exact h1.1.2 y hy
    · rw[List.mem_singleton.1 hy];exact hx
theorem S5{a0:ZX}{a1:Ze}(hn:n+1<=m)(h:Sm n a0)(hx:Sm m a1):Sm m (Qw a0 a1).1:=by
  have h1:Sm m a0:=ZH zAD h;unfold Qw;refine ZP (p:=fun r:ZX×Bool=>Sm m r.1) h1 ⟨h1.1,⟨?_,fun y hy=>?_⟩⟩
  · have:a0.ZQ.length<=n:=h.2.1;simp only[List.length_append,List.length_singleton];omega
  · rcases List.mem_append.1 hy with hy|hy
    · exact h1.2.2 y hy
    · rw[List.mem_singleton.1 hy];exact hx
theorem F2{a0:Int}(h:20<=n):Sm n (QG a0):=by
  have hw:∀(k:Int)(l:List Int),l.length<=1->Sm n (ZG.mk (Zb.mk yD YR kW k 0) jN ([-1,-1,-1]:List Int) ([ZE.mk 0 ([]:List ZR),ZE.mk 1 ([]:List ZR)]:List ZE) ([0,0,0,0]:List Int) l 1 ([]:List Int)):=fun k l hl=>by
    have h1:=Ui (n:=n) zAD;have h2:=Pd (n:=n) zAD;have h3:=CC (n:=n) zAD;have h4:=Dw (n:=n) zAD;have h5:Sm n ([ZE.mk 0 ([]:List ZR),ZE.mk 1 ([]:List ZR)]:List ZE):=⟨by simp;omega,fun y hy=>by
      rcases List.mem_cons.1 hy with rfl|hy
      · exact Sz.zero (α:=List ZR) _
      · rw[List.mem_singleton.1 hy];exact Sz.zero (α:=List ZR) _⟩
    have h6:∀l:List Int,l.length<=20->Sm n l:=fun l hl=>⟨zAD,fun _ _=>trivial⟩;simp only[ZG.Ua,Zb.Ua];grind
  unfold QG;grind
theorem Wt{x:ZE}(h:Sm n a0)(hx:Sm n x):Sm n (ZG.mk a0.Frame a0.Zf a0.Zy (a0.ZB.set i x) a0.Y9 a0.Yg a0.Next a0.YN):=
  ⟨h.1,h.2.1,h.2.2.1,xd h.2.2.2.1 hx,h.2.2.2.2⟩
theorem F6(h:Sm n a0):Sm n (xm a0 a1).1:=by refine ZP (p:=fun w:ZG×Bool=>Sm n w.1) h ?_;exact⟨h.1,h.2⟩
theorem Lv(h:Sm n a0):Sm n (ze a0 a1).1:=by refine ZP (p:=fun w:ZG×Bool=>Sm n w.1) h ?_;exact⟨h.1,h.2.1,xd h.2.2.1 trivial,h.2.2.2⟩
theorem FJ{a2:Int}{a3:ZW}(h:Sm n a0)(hd:Sm n a3)(hn:9<=n):Sm (n+1) (x1 a0 a1 a2 a3 a4 a5).1:=by have h1:Sm (n+1) a0:=ZH (Nat.le_succ n) h;have ha:Sm (n+1) (Q7 (nth a0.ZB a1.toNat) (Qr a0 a2 a3 a4 a5).1).1:=W8 (Zn (ZG.Z5 h)) (qK hd hn);refine ZP (p:=fun w:ZG×Bool=>Sm (n+1) w.1) h1 (ZP (p:=fun w:ZG×Bool=>Sm (n+1) w.1) h1 (ZP (p:=fun w:ZG×Bool=>Sm (n+1) w.1) h1 ?_));exact⟨h1.1,h1.2.1,h1.2.2.1,xd h1.2.2.2.1 ha,h1.2.2.2.2⟩
theorem GF{a2:Int}{a3:ZW}(h:Sm n a0)(hd:Sm n a3)(hn:9<=n):Sm (n+1) (yZ a0 a1 a2 a3).1:=by have h1:Sm (n+1) a0:=ZH (Nat.le_succ n) h;have ha:Sm (n+1) (Q7 (nth a0.ZB a1.toNat) (Qr a0 a2 a3 0 10000).1).1:=W8 (Zn (ZG.Z5 h)) (qK hd hn);refine ZP (p:=fun w:ZG×Bool=>Sm (n+1) w.1) h1 (ZP (p:=fun w:ZG×Bool=>Sm (n+1) w.1) h1 (ZP (p:=fun w:ZG×Bool=>Sm (n+1) w.1) h1 ?_));have:=YX (ZG.PY h);exact⟨h1.1,h1.2.1,h1.2.2.1,xd h1.2.2.2.1 ha,h1.2.2.2.2.1,h1.2.2.2.2.2.1,⟨by simp;omega,fun _ _=>trivial⟩⟩
theorem RM{a0:ZE}{a2:ZU}(h:Sm n a0)(hp:Sm (n+1) a2):Sm (n+1) (X9 a0 a1 a2).1:=by have h1:Sm (n+1) a0:=ZH (Nat.le_succ n) h;refine ZP (p:=fun w:ZE×Bool=>Sm (n+1) w.1) h1 ?_;refine xd (ZE.YC h1) ?_;have hi:Sm n (nth a0.ZC (Y2 a0 a1).toNat):=Zn (ZE.YC h);exact⟨(ZH (Nat.le_succ n) hi).1,F3 (Nat.le_refl _) hi.2 hp⟩
theorem Lw(h:Sm n a0)(hn:5<=n):Sm (n+1) (zY a0 a1).1:=by
  have h1:Sm (n+1) a0:=ZH (Nat.le_succ n) h;let p:=fun w:ZG×Bool=>Sm (n+1) w.1
  have k:∀i x,Sm (n+1) (ZG.mk a0.Frame a0.Zf a0.Zy (a0.ZB.set i (X9 (nth a0.ZB i) a1 (XQ x)).1) a0.Y9 a0.Yg a0.Next a0.YN):=fun i x=>
    Wt h1 (RM (Zn (ZG.Z5 h)) (yX zAD))
  exact ZP (p:=p) h1 (ZP (p:=p) h1 (ZP (p:=p) (ZP (p:=p) h1 (k _ _)) (ZP (p:=p) h1 (k _ _))))
theorem FY{a2:Int}(h:Sm n a0)(hn:5<=n):Sm (n+1) (xa a0 a1 a2).1:=by
  have h1:Sm (n+1) a0:=ZH (Nat.le_succ n) h;let p:=fun w:ZG×Bool=>Sm (n+1) w.1
  have k:∀i x,Sm (n+1) (ZG.mk a0.Frame a0.Zf a0.Zy (a0.ZB.set i (X9 (nth a0.ZB i) a1 (XQ x)).1) a0.Y9 a0.Yg a0.Next a0.YN):=fun i x=>
    Wt h1 (RM (Zn (ZG.Z5 h)) (yX zAD))
  exact ZP (p:=p) h1 (ZP (p:=p) h1 (ZP (p:=p) h1 (k _ _)))
theorem L2{a0:ZE}(h:Sm n a0):Sm n (qL a0 a1).1:=by
  have hi:=ZE.YC h;have key:∀m c v l,(∀x∈l,Sm n x)->l.length<=v->v<=a0.ZC.length->(KI a0 a1 m c v l).2.length<=a0.ZC.length/\∀x∈(KI a0 a1 m c v l).2,Sm n x:=by
    intro m;induction m with
    |zero=>intro c v l _ _ _;exact⟨Nat.zero_le _,fun x hx=>zBn⟩
    |succ m ih=>
      intro c v l hs hl hv;rw[KI];let p:=fun w:Int×List ZR=>w.2.length<=a0.ZC.length/\∀x∈w.2,Sm n x
      refine Zx (p:=p) (fun hc=>?_) (fun _=>⟨by show l.length<=_;omega,hs⟩);have hc:v<a0.ZC.length:=zBG
      refine ZP (p:=p) (ih _ _ _ hs zAD hc) (ih _ _ _ (fun x hx=>?_) zAx hc);rcases List.mem_append.1 hx with hx|hx
      · exact hs x hx
      · have e:=List.mem_singleton.1 hx;subst e;exact Zn hi
  have hk:=key (a0.ZC.length+1) 0 0 [] (fun x hx=>zBn) (Nat.zero_le _) (Nat.zero_le _);have:=YX hi;unfold qL;cases hh:KI a0 a1 (a0.ZC.length+1) 0 0 []with
  |mk z0 z1=>rw[hh]at hk;exact⟨by show z1.length<=n;have:=hk.1;simp only at this;omega,hk.2⟩
theorem Ls(h:Sm n a0):Sm n (za a0 a1).1:=
  ZP (p:=fun w:ZG×Bool=>Sm n w.1) h (Wt h (L2 (Zn (ZG.Z5 h))))
theorem MF{a0:ZE}{a2:List Zm}(h:Sm n a0)(hp:Sm n a2)(hn:17<=n):Sm (n+1) (Qm a0 a1 a2).1:=by
  have h1:Sm (n+1) a0:=ZH (Nat.le_succ n) h;have hi:=ZE.YC h;have key:∀m b v l,l.length=a0.ZC.length->(∀x∈l,Sm (n+1) x)->(Ka a0 a1 a2 m b v l).2.length<=a0.ZC.length/\∀x∈(Ka a0 a1 a2 m b v l).2,Sm (n+1) x:=by
    intro m;induction m with
    |zero=>intro b v l _ _;exact⟨Nat.zero_le _,fun x hx=>zBn⟩
    |succ m ih=>
      intro b v l hl hs;rw[Ka];let p:=fun w:Bool×List ZR=>w.2.length<=a0.ZC.length/\∀x∈w.2,Sm (n+1) x
      refine ZP (p:=p) (ih _ _ _ zB0 (fun x hx=>?_)) ⟨by show l.length<=_;omega,hs⟩;rcases List.mem_or_eq_of_mem_set hx with hx|rfl
      · exact hs x hx
      · have hx0:Sm (n+1) (nth l v):=by
          by_cases hv:v<l.length
          · have:nth l v=l[v]:=by simp[nth,List.getD_eq_getElem?_getD,List.getElem?_eq_getElem hv]
            rw[this];exact hs _ (List.getElem_mem hv)
          · have:nth l v=default:=zBX;rw[this];exact Sz.zero _
        have hv:Sm n (nth a0.ZC v):=Zn hi;refine⟨hx0.1,S5 (Nat.le_refl _) hv.2 ?_⟩;exact⟨Pt zAD,ZH (Nat.le_succ n) hp⟩
  have hk:=key (a0.ZC.length+1) (JP a0&&(decide ((a0.ZC.length:Int)>0))) 0 a0.ZC rfl (fun x hx=>ZH (Nat.le_succ n) (hi.2 x hx));have:=YX hi;unfold Qm;cases hh:Ka a0 a1 a2 (a0.ZC.length+1) (JP a0&&(decide ((a0.ZC.length:Int)>0))) 0 a0.ZC with
  |mk z0 z1=>rw[hh]at hk;exact ZP (p:=fun w:ZE×Bool=>Sm (n+1) w.1) h1 ⟨by show z1.length<=n+1;have:=hk.1;simp only at this;omega,hk.2⟩
theorem Uw{a0:ZG}{a2:List Int}:∀(m v:Nat)(q:List Int),(qn a0 a2 m v q).length<=q.length
  |0,_,_=>Nat.zero_le _
  |m+1,v,q=>by rw[qn];refine ZP (p:=fun w:List Int=>w.length<=q.length) ?_ (Nat.le_refl _);exact Nat.le_trans (Uw m (v+1) _) (by rw[List.length_set];exact Nat.le_refl _)
theorem T2{a0:ZG}{a1:Int}{a2:List Int}{a3:Int}:∀(m:Nat)(l:List Zm)(v:Nat),l.length<=v->v<=a2.length->
    (∀r,Qn a0 a1 a2 a3 m l v= .inl r->r=(a0,false))/\∀z,Qn a0 a1 a2 a3 m l v= .inr z->z.length<=a2.length
  |0,_,_,_,_=>⟨fun r h=>zA7,fun z h=>(by cases h;exact Nat.zero_le _)⟩
  |m+1,l,v,hl,hv=>by
    rw[Qn];let p:=fun w:Sum (ZG×Bool) (List Zm)=>(∀r,w= .inl r->r=(a0,false))/\∀z,w= .inr z->z.length<=a2.length
    have bad:p (.inl (a0,false)):=⟨fun r h=>zBo,fun z h=>zA7⟩;refine Zx (p:=p) (fun hc=>?_) (fun _=>⟨fun r h=>zA7,fun z h=>(by cases h;exact Nat.le_trans hl hv)⟩);have hc:v<a2.length:=zBG;have step:∀x,p (Qn a0 a1 a2 a3 m (l++[x]) (v+1)):=fun x=>
      T2 m (l++[x]) (v+1) zAx hc
    grind
theorem Hy(h:Sm n a0)(h2:Sm n a2)(hn:17<=n):Sm (n+1) (zU a0 a1 a2 a3).1:=by
  have h1:Sm (n+1) a0:=ZH (Nat.le_succ n) h;unfold zU;refine ZP (p:=fun w:ZG×Bool=>Sm (n+1) w.1) h1 ?_;obtain⟨k1,k2⟩:=T2 (a0:=a0) (a1:=a1) (a2:=a2) (a3:=a3) (a2.length+1) [] 0 (Nat.zero_le _) (Nat.zero_le _);cases hh:Qn a0 a1 a2 a3 (a2.length+1) [] 0 with
  |inl r=>rw[k1 r hh];exact h1
  |inr z=>have q1:=k2 z hh;have q2:=Uw (a0:=a0) (a2:=a2) (a2.length+1) 0 a0.Y9;have e2:=YX h2;have e3:=YX (ZG.DM h);have hs:Sm n z:=⟨zAD,fun _ _=>trivial⟩;refine ZP (p:=fun w:ZG×Bool=>Sm (n+1) w.1) h1 ?_;exact⟨h1.1,h1.2.1,h1.2.2.1,xd h1.2.2.2.1 (MF (Zn (ZG.Z5 h)) hs hn),⟨Nat.le_trans q2 (Nat.le_succ_of_le e3),fun _ _=>trivial⟩,h1.2.2.2.2.2⟩
theorem NQ{a0:ZE}{a1:Yk}{a2:Int}(h:Sm n a0)(hp:Sm n a1):Sm (n+a1.ZC.length) (QF a0 a1 a2).1:=by
  have h1:Sm (n+a1.ZC.length) a0:=ZH (Nat.le_add_right _ _) h;have key:∀m b v d l,Sm (n+v) (ZE.mk d l)->v<=a1.ZC.length->Sm (n+a1.ZC.length) (ZE.mk (Kx a1 m b v d l).2.1 (Kx a1 m b v d l).2.2):=by
    intro m;induction m with
    |zero=>intro b v d l _ _;exact zH
    |succ m ih=>
      intro b v d l hs hv;rw[Kx];let p:=fun w:Bool×Int×List ZR=>Sm (n+a1.ZC.length) (ZE.mk w.2.1 w.2.2)
      refine Zx (p:=p) (fun hc=>?_) (fun _=>ZH (Nat.add_le_add_left hv n) hs);have hc:v<a1.ZC.length:=by rw[Bool.and_eq_true]at hc;simpa using hc.1
      exact ih _ _ _ _ (W8 hs (ZH (Nat.le_add_right n v) (Zn (Yk.YC hp)))) hc
  have hk:=key (a1.ZC.length+1) (z6 a1 a2&&(a1.To==a0.Id)) 0 a0.Id a0.ZC h (Nat.zero_le _);unfold QF;grind
theorem ME{a0:ZE}(h:Sm n a0):(Xn a0 a1 a2 a3).1.ZC.length<=a2.length:=by unfold Xn;obtain⟨k1,k2⟩:=jz (a2:=a2) h (a2.length+1) 0 [] (fun x hx=>zBn) (Nat.zero_le _) (Nat.zero_le _);grind
theorem Gm{a0 a1:ZE}(h0:Sm n a0)(h1:Sm n a1)(h2:Sm n a2):Sm n (JR a0 a1 a2 a3).1/\Sm (n+a2.length) (JR a0 a1 a2 a3).2.1:=by
  have hto:Sm (n+a2.length) (QF a1 (Xn a0 a1.Id a2 a3).1 a3).1:=
    ZH (Nat.add_le_add_left (ME h0) n) (NQ h1 (Wb h0 h2))
  have bad:Sm n a0/\Sm (n+a2.length) a1:=⟨h0,ZH (Nat.le_add_right _ _) h1⟩;have key:∀m b v d l,Sm n (ZE.mk d l)->Sm n (ZE.mk (xF a0 a1 a2 a3 m b v d l).2.1 (xF a0 a1 a2 a3 m b v d l).2.2):=by
    intro m;induction m with
    |zero=>intro b v d l _;exact zH
    |succ m ih=>intro b v d l hs;rw[xF];exact ZP (p:=fun w:Bool×Int×List ZR=>Sm n (ZE.mk w.2.1 w.2.2)) (ih _ _ _ _ (Pm hs)) hs
  have hk:=key (a2.length+1) (QF a1 (Xn a0 a1.Id a2 a3).1 a3).2 0 a0.Id a0.ZC h0;unfold JR;grind
theorem Fp{a2:Int}(h:Sm n a0)(hn:1<=n):Sm (n+1) (xf a0 a1 a2 a3).1:=by
  have h1:Sm (n+1) a0:=ZH (Nat.le_succ n) h;have hm:=Gm (a0:=nth a0.ZB a1.toNat) (a1:=nth a0.ZB a2.toNat) (a2:=[a3]) (a3:=Zq a0.Frame.Methods a0.Frame.Now) (Zn (ZG.Z5 h)) (Zn (ZG.Z5 h)) ⟨hn,fun _ _=>trivial⟩;let p:=fun w:ZG×Bool=>Sm (n+1) w.1
  exact ZP (p:=p) h1 ⟨h1.1,h1.2.1,h1.2.2.1,xd (xd h1.2.2.2.1 (ZH (Nat.le_succ n) hm.1)) hm.2,h1.2.2.2.2⟩
theorem Wn{a0:ZG}{a1 a2:Int}:∀(m v:Nat)(l:List Zm),(∀r,QC a0 a1 a2 m v l= .inl r->r=(a0,false))/\∀z,QC a0 a1 a2 m v l= .inr z->z.length<=l.length+((YP a0).length-v)
  |0,v,l=>⟨fun r h=>zA7,fun z h=>(by cases h;exact Nat.zero_le _)⟩
  |m+1,v,l=>by
    rw[QC];let p:=fun w:Sum (ZG×Bool) (List Zm)=>(∀r,w= .inl r->r=(a0,false))/\∀z,w= .inr z->z.length<=l.length+((YP a0).length-v)
    refine Zx (p:=p) (fun hc=>?_) (fun _=>⟨fun r h=>zA7,fun z h=>(by cases h;exact Nat.le_add_right _ _)⟩);have hc:v<(YP a0).length:=zBG
    have step:∀x,p (QC a0 a1 a2 m (v+1) (l++[x])):=fun x=>by obtain⟨k1,k2⟩:=Wn (a0:=a0) (a1:=a1) (a2:=a2) m (v+1) (l++[x]);grind
    grind
theorem Nt{a2:Int}(h:Sm n a0):Sm (n+1) (Jb a0 a1 a2).1:=by
  have h1:Sm (n+1) a0:=ZH (Nat.le_succ n) h;unfold Jb;refine ZP (p:=fun w:ZG×Bool=>Sm (n+1) w.1) h1 ?_;obtain⟨k1,k2⟩:=Wn (a0:=a0) (a1:=a1) (a2:=a2) ((YP a0).length+1) 0 [];cases hh:QC a0 a1 a2 ((YP a0).length+1) 0 []with
  |inl r=>rw[k1 r hh];exact h1
  |inr z=>have hz:=k2 z hh;have hf:=Kf a0;have ha:=YX (Zb.XJ (ZG.Xk h));rw[List.length_nil]at hz;have hA:Sm n (nth a0.ZB (ZJ a0 a1).1.toNat):=Zn (ZG.Z5 h);have hI:Sm n (nth (nth a0.ZB (ZJ a0 a1).1.toNat).ZC (ZJ a0 a1).2.toNat):=Zn (ZE.YC hA);refine Wt h1 (xd (ZE.YC (ZH (Nat.le_succ n) hA)) ⟨(ZH (Nat.le_succ n) hI).1,S5 (Nat.le_refl _) hI.2 ?_⟩);exact⟨zH,⟨by show z.length<=n+1;omega,fun _ _=>trivial⟩⟩
theorem Tw{a1:Zt}(h:Sm n a0)(he:Sm n a1)(hn:17<=n):Sm (n+1) (Xj a0 a1).1:=by
  have h1:Sm (n+1) a0:=ZH (Nat.le_succ n) h;have up:∀w:ZG,Sm n w->Sm (n+1) w:=fun w hw=>ZH (Nat.le_succ n) hw;unfold Xj;let p:=fun w:ZG×Bool=>Sm (n+1) w.1
  exact ZP (p:=p) (up _ (F6 h)) (ZP (p:=p) (FJ h he.1 zAD) (ZP (p:=p) (Lw h zAD) (ZP (p:=p) (up _ (Lv h)) (ZP (p:=p) (Hy h he.2 hn) (ZP (p:=p) (Fp h zAD) (ZP (p:=p) (up _ (Ls h))
    (ZP (p:=p) (GF h he.1 zAD) (ZP (p:=p) (Nt h) (ZP (p:=p) (FY h zAD) h1)))))))))
theorem Tp(a1:List Zt)(N:Nat)(he:∀i,Sm N (nth a1 i))(h17:17<=N):∀(m v:Nat)(k:List Y6)(au:List Zo)(me:List YJ)(li nw:Int)(c:List YO)(en:List Int)(ar:List ZE)(sq ly:List Int)(nx:Int)(fo:List Int),a1.length<m+v->v<=a1.length->Sm (N+v) (ZG.mk (Zb.mk k au me li nw) c en ar sq ly nx fo)->
    Sm (N+a1.length) (match zy a1 m v k au me li nw c en ar sq ly nx fo with|(z1_0,z1_1,z1_2,z1_3,z1_4,z1_5,z1_6,z1_7,z1_8,z1_9,z1_10,z1_11)=>ZG.mk (Zb.mk z1_0 z1_1 z1_2 z1_3 z1_4) z1_5 z1_6 z1_7 z1_8 z1_9 z1_10 z1_11)
  |0,v,_,_,_,_,_,_,_,_,_,_,_,_,h,hv,_=>zAD
  |m+1,v,k,au,me,li,nw,c,en,ar,sq,ly,nx,fo,h,hv,hs=>by
    rw[zy];by_cases nn:v<a1.length
    · rw[decide_eq_true (show(v:Int)<(a1.length:Int)by omega),Xe];have ha:=Tw hs (ZH (Nat.le_add_right N v) (he v)) zAD
      exact Tp a1 N he h17 m (v+1) _ _ _ _ _ _ _ _ _ _ _ _ zAD nn ha
    · grind
theorem Hq{a1:List Zt}(h:Sm n a0)(he:Sm n a1)(hn:17<=n):Sm (n+a1.length) (Qz a0 a1):=
  Tp a1 n (fun _=>Zn he) hn (a1.length+1) 0 _ _ _ _ _ _ _ _ _ _ _ _ zAD (Nat.zero_le _) h
theorem TG{a0:YI}(h:20<=n):Sm n (XU a0 a1).2:=by
  have hd:Sm n (ZW.mk 0 ([]:List ByteArray) ([]:List Int)):=⟨zH,zH⟩;have hl:∀l:List Int,l.length<=20->Sm n l:=fun l hl=>⟨zAD,fun _ _=>trivial⟩;unfold XU;let p:=fun z:YI×Zt=>Sm n z.2
  refine ZP (p:=p) (ZP (p:=p) (ZP (p:=p) ?_ ?_) (ZP (p:=p) ?_ ?_)) (ZP (p:=p) (ZP (p:=p) ?_ ?_) (ZP (p:=p) ?_ ?_));all_goals exact⟨hd,hl _ (Nat.le_of_ble_eq_true rfl)⟩
theorem Iq{a0:YI}(h:20<=n):Sm n (Z6 a0).2:=by have hd:Sm n (ZW.mk 0 ([]:List ByteArray) ([]:List Int)):=⟨zH,zH⟩;have e0:∀a b,Sm n (Zt.mk a b 0 0 0 (ZW.mk 0 ([]:List ByteArray) ([]:List Int)) ([]:List Int)):=fun a b=>⟨hd,zH⟩;refine⟨by rw[Ky];omega,?_⟩;unfold Z6;exact O3 (O3 (O3 (all_cons (e0 _ _) (all_cons ⟨LV h,zH⟩ (all_cons (e0 _ _) (all_cons (e0 _ _) all_nil)))) (all_cons (TG h) (all_cons (e0 _ _) all_nil))) (all_cons (TG h) (all_cons (e0 _ _) all_nil))) (all_cons (TG h) (all_cons (e0 _ _) all_nil))
theorem Fe{a0:YI}(h:20<=n):Sm n (Xu a0).2:=by
  have hd:Sm n (ZW.mk 0 ([]:List ByteArray) ([]:List Int)):=⟨zH,zH⟩;have hi:Sm n ([1,2,3,4]:List Int):=⟨Nat.le_trans zAE h,fun _ _=>trivial⟩;have hx:=fun c=>LV (a0:=c) h;have L:∀(c:YI)(k a b e f:Int)(d:ZW)(ids:List Int),Sm n d->Sm n ids->Sm n ((c,Zt.mk k a b e f d ids):YI×Zt).2:=fun _ _ _ _ _ _ _ _ h1 h2=>⟨h1,h2⟩;unfold Xu;generalize ZL a0 16=q;iterate 13 (refine ZP (p:=fun z:YI×Zt=>Sm n z.2) ?_ ?_;(first|with_reducible exact L _ _ _ _ _ _ _ _ hd zH|with_reducible exact L _ _ _ _ _ _ _ _ (hx _) zH))
  exact L _ _ _ _ _ _ _ _ hd (KU (zC hi))
theorem UQ{p:Zt->Prop}(hp:∀c,p (Xu c).2):∀(m:Nat)(l:List Zt)(k:Int)(b:List UInt8)(i:Nat)(h:Int),(∀x∈l,p x)->∀x∈(Ko m l k b i h).1,p x
  |0,_,_,_,_,_,_=>all_nil
  |m+1,l,k,b,i,h,hl=>by rw[Ko];exact ZP (p:=fun z:(List Zt)×List UInt8×Nat×Int=>∀x∈z.1,p x) (UQ hp m _ _ _ _ _ (O3 hl (all_cons (hp _) all_nil))) hl
theorem Uv{p:Zt->Prop}(hp:∀c,p (Xu c).2):∀(m:Nat)(l:List Zt)(k:Int)(b:List UInt8)(i:Nat)(h:Int),(∀x∈l,p x)->∀x∈(Ks m l k b i h).1,p x
  |0,_,_,_,_,_,_=>all_nil
  |m+1,l,k,b,i,h,hl=>by rw[Ks];exact ZP (p:=fun z:(List Zt)×List UInt8×Nat×Int=>∀x∈z.1,p x) (Uv hp m _ _ _ _ _ (O3 hl (all_cons (hp _) all_nil))) hl
theorem UH:∀(m:Nat)(l:List Zt)(k:Int)(b:List UInt8)(i:Nat)(h:Int),k<=16777215->(Ko m l k b i h).1.length<=l.length+k.toNat
  |0,_,_,_,_,_,_=>Nat.zero_le _
  |m+1,l,k,b,i,h,hk=>by
    rw[Ko];by_cases hc:k>0
    · rw[decide_eq_true hc,Xe];have hw:W (k-1)=k-1:=zA3
      have:=UH m (l++[(Xu (YI.mk b i h)).2]) (W (k-1)) (Xu (YI.mk b i h)).1.b (Xu (YI.mk b i h)).1.i (Xu (YI.mk b i h)).1.h zAD;grind
    · rw[decide_eq_false hc,X8];exact Nat.le_add_right _ _
theorem Vu:∀(m:Nat)(l:List Zt)(k:Int)(b:List UInt8)(i:Nat)(h:Int),k<=16777215->(Ks m l k b i h).1.length<=l.length+k.toNat
  |0,_,_,_,_,_,_=>Nat.zero_le _
  |m+1,l,k,b,i,h,hk=>by
    rw[Ks];by_cases hc:k>0
    · rw[decide_eq_true hc,Xe];have hw:W (k-1)=k-1:=zA3
      have:=Vu m (l++[(Xu (YI.mk b i h)).2]) (W (k-1)) (Xu (YI.mk b i h)).1.b (Xu (YI.mk b i h)).1.i (Xu (YI.mk b i h)).1.h zAD;grind
    · rw[decide_eq_false hc,X8];exact Nat.le_add_right _ _
theorem Gf{a0:YI}(h:40<=n)(h0:0<a1)(h1:a1<=20):Sm n (jR a0 a1).2:=by have hp:=fun c=>Fe (n:=n) (a0:=c) zAD;have hc:=Iq (n:=n) (a0:=(YG a0 2).1) zAD;have hl:=Ky (YG a0 2).1;unfold jR;generalize YG a0 2=q at hc hl⊢;generalize Z6 q.1=r at hc hl⊢;generalize ZL r.1 (W ((r.2.length:Int)+1))=t;have z1:=Qp t.1 a1;have z2:=Qp q.1 a1;generalize ZL t.1 a1=u at z1⊢;generalize ZL q.1 a1=v at z2⊢;have k1:=UQ hp (u.2.toNat+2) (r.2.take t.2.toNat) u.2 u.1.b u.1.i u.1.h (KU hc).2;have k2:=UH (u.2.toNat+2) (r.2.take t.2.toNat) u.2 u.1.b u.1.i u.1.h zAD;have k3:=Uv hp (v.2.toNat+2) [] v.2 v.1.b v.1.i v.1.h all_nil;have k4:=Vu (v.2.toNat+2) [] v.2 v.1.b v.1.i v.1.h zAD;rw[List.length_take,hl]at k2;rw[List.length_nil]at k4;generalize Ko (u.2.toNat+2) (r.2.take t.2.toNat) u.2 u.1.b u.1.i u.1.h=y at k1 k2⊢;generalize Ks (v.2.toNat+2) [] v.2 v.1.b v.1.i v.1.h=z at k3 k4⊢;obtain⟨y1,y2,y3,y4⟩:=y;obtain⟨w1,w2,w3,w4⟩:=z;dsimp only at k1 k2 k3 k4⊢;have k5:y1.length<=n:=zAD;have k6:w1.length<=n:=zAD;exact ZP (p:=fun z:YI×(List Zt)=>Sm n z.2) ⟨k5,k1⟩ ⟨k6,k3⟩
theorem Ma{a0:Zb}{a1:ZX}(h:Ki a0 a1 a2=true):0<a1.ZQ.length:=by unfold Ki at h;simp only[Bool.and_eq_true,decide_eq_true_eq]at h;omega
theorem ZS{a0:List UInt8}(h:40<=n):Sm n (ZA a0).1/\Sm n (ZA a0).2:=by have k:=F2 (n:=n) (a0:=(ZL (Ws a0) 2).2) zAD;have k2:=Gf (n:=n) (a0:=(ZL (Ws a0) 2).1) (a1:=12) h zAE zAE;unfold ZA;grind
theorem Ug(a1:List Zt)(N:Nat)(hb:N+a1.length<=9223372036854775807)(he:∀i,Sm N (nth a1 i))(h17:17<=N):∀(m v:Nat)(k:List Y6)(au:List Zo)(me:List YJ)(li nw:Int)(c:List YO)(en:List Int)(ar:List ZE)(sq ly:List Int)(nx:Int)(fo:List Int),a1.length<m+v->v<=a1.length->Sm (N+v) (ZG.mk (Zb.mk k au me li nw) c en ar sq ly nx fo)->
    Sm (N+a1.length) (match zn a1 m v k au me li nw c en ar sq ly nx fo with|(z1_0,z1_1,z1_2,z1_3,z1_4,z1_5,z1_6,z1_7,z1_8,z1_9,z1_10,z1_11)=>ZG.mk (Zb.mk z1_0 z1_1 z1_2 z1_3 z1_4) z1_5 z1_6 z1_7 z1_8 z1_9 z1_10 z1_11)
  |0,v,_,_,_,_,_,_,_,_,_,_,_,_,h,hv,_=>zAD
  |m+1,v,k,au,me,li,nw,c,en,ar,sq,ly,nx,fo,h,hv,hs=>by
    rw[zn];by_cases nn:v<a1.length
    · rw[decide_eq_true (show(v:Int)<(a1.length:Int)by omega),Xe];have ha:=S4 zAD hs (ZH (Nat.le_add_right N v) (he v)) zAD
      exact Ug a1 N hb he h17 m (v+1) _ _ _ _ _ _ _ _ _ _ _ _ zAD nn ha
    · grind
theorem S0{a1:List Zt}(h:Sm n a0)(he:Sm n a1)(hn:17<=n)(hb:n<=1048576):Sm (n+a1.length) (ZI a0 a1):=
  Ug a1 n (by have:=YX he;omega) (fun _=>Zn he) hn (a1.length+1) 0 _ _ _ _ _ _ _ _ _ _ _ _ zAD (Nat.zero_le _) h
theorem tM{a0:List UInt8}{k:Int}(h:a0.length<=1048576)(h0:0<=k)(h1:k<=100):0<=XO a0 k:=by
  unfold XO;refine ZP (p:=fun x:Int=>0<=x) ?_ ?_
  · have:(nth a0 k.toNat).toNat<256:=UInt8.toNat_lt _;simp only[Yw];omega
  · refine Int.tmod_nonneg _ ?_;have e1:W (k*31)=k*31:=zA3
    have e2:W ((a0.length:Int)*7)=a0.length*7:=zA3;rw[e1,e2];have e3:W (k*31+(a0.length:Int)*7)=k*31+a0.length*7:=zA3;rw[e3];omega
theorem Tq{a0:List UInt8}{k m:Int}(h:a0.length<=1048576)(h0:0<=k)(h1:k<=100)(hm:0<m):0<=Int.tmod (XO a0 k) m/\Int.tmod (XO a0 k) m<m:=
  ⟨Int.tmod_nonneg _ (tM h h0 h1),Int.tmod_lt_of_pos _ hm⟩
theorem qh(w:ZG):∀(n:Nat)(l:List Int)(v:Nat),(∀x∈l,(XP w x).Code=1)->∀x∈KO w n l v,(XP w x).Code=1
  |0,l,v,h=>fun x hx=>zBn
  |n+1,l,v,h=>by
    rw[KO];refine ZP (p:=fun z:List Int=>∀x∈z,(XP w x).Code=1) (Zx (p:=fun z:List Int=>∀x∈z,(XP w x).Code=1) (fun hc=>?_) (fun _=>qh w n l (v+1) h)) h;refine qh w n _ (v+1) (fun x hx=>?_);rcases List.mem_append.1 hx with hx|hx
    · exact h x hx
    · rw[List.mem_singleton.1 hx];exact eq_of_beq hc
theorem Nc(h:k<(Zd w).length):(XP w (nth (Zd w) k)).Code=1:=
  qh w _ [] 0 (fun x hx=>by cases hx) _ (by rw[XM h];exact List.getElem_mem h)
theorem Xq(h:k<(Zd w).length):0<=(ZO w (nth (Zd w) k)).1:=by have hc:=Nc h;apply Classical.byContradiction;intro hn;unfold XP at hc;rw[show decide ((ZO w (nth (Zd w) k)).1<0)=true by simpa using hn]at hc;cases hc
theorem Ya{a0:List UInt8}:Sm 80 (ZI (ZA a0).1 ((ZA a0).2.take i)):=by have k:=ZS (n:=40) (a0:=a0) zAE;have k2:=KU (i:=i) k.2;have k3:=YX k2;exact ZH zAD (S0 k.1 k2 zAE zAE)
theorem xw{a0:List UInt8}:Sm 160 (ZI (ZI (ZA a0).1 ((ZA a0).2.take i)) ((ZA a0).2.drop j)):=by have k:=ZS (n:=40) (a0:=a0) zAE;have k2:=zC (i:=j) k.2;have k3:=YX k2;exact ZH zAD (S0 Ya (ZH zAE k2) zAE zAE)
theorem QJ{a0:List UInt8}:Sm 80 (Qz (ZA a0).1 ((ZA a0).2.take i)):=by have k:=ZS (n:=40) (a0:=a0) zAE;have k2:=KU (i:=i) k.2;have k3:=YX k2;exact ZH zAD (Hq k.1 k2 zAE)
theorem Z3{a0:List UInt8}:Sm 80 (ZI (ZA a0).1 [])/\Sm 80 (Qz (ZA a0).1 [])/\Sm 160 (ZI (ZI (ZA a0).1 []) (ZA a0).2):=
  ⟨Ya (i:=0),QJ (i:=0),xw (i:=0) (j:=0)⟩
theorem QW:Sm 40 ([]:List Zt):=⟨Nat.zero_le _,fun x hx=>by cases hx⟩
end Go.Mo
