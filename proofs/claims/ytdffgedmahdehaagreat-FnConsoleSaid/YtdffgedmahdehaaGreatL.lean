/- Plain lemmas on the models of the helpers. No condition. -/
import Derived.Test.YtdffgedmahdehaaGreatM
namespace Go.Mo
open Go.Vm
set_option linter.unusedSimpArgs false
set_option linter.unusedVariables false
variable{n i K j m v:Nat}{a1 a3 a4 a5:Int}{a0 w:ZF}{a2:List Int}{l:List ByteArray}{b a s:ByteArray}{x:YL}{p:Zo->Prop}{e:Zo}
theorem Jw(a0:List Yg)(a1:Int):Yt a0 a1<(a0.length:Int):=kS (F:=Sx a0 a1) (c:=fun J=>(nth a0 J).Number==a1) (fun _=>rfl) (fun _ _=>rfl) _ _
theorem Bn(a0:ZT):Li a0=a0:=rfl
theorem uH(a0:ZL):E1 a0=a0:=rfl
theorem Aj(a0:ZV):GV a0=a0:=rfl
theorem v8(a0:List ZV):IM a0=a0:=by have h:=ky (F:=P9 a0) (a:=a0) (g:=fun x=>x) (fun _=>rfl) (fun _ _ _=>rfl) (a0.length+1) [] 0 zAC zAC;simp only[List.nil_append,List.drop_zero]at h;unfold IM;rw[h]
theorem w7(a0:ZZ):GN a0=a0:=rfl
theorem Ae(a0:ZU):Mb a0=a0:=by have h:=ky (F:=fun n v i=>RO a0 n i v) (a:=a0.ZR) (g:=fun x=>x) (fun _=>rfl) (fun _ _ _=>rfl) (a0.ZR.length+1) [] 0 zAC zAC;simp only[List.nil_append,List.drop_zero]at h;unfold Mb;rw[h]
theorem Ao(a0:ZO):Gl a0=a0:=rfl
theorem Aw(a0:ZD):MV a0=a0:=by have h:=ky (F:=fun n v i=>S9 a0 n i v) (a:=a0.ZE) (g:=fun x=>x) (fun _=>rfl) (fun _ _ _=>rfl) (a0.ZE.length+1) [] 0 zAC zAC;simp only[List.nil_append,List.drop_zero]at h;unfold MV;rw[h]
theorem As(a0:ZF):MZ a0=a0:=by have h:=ky (F:=fun n v i=>S0 a0 n i v) (a:=a0.ZA) (g:=fun x=>x) (fun _=>rfl) (fun _ _ _=>rfl) (a0.ZA.length+1) [] 0 zAC zAC;simp only[List.nil_append,List.drop_zero]at h;unfold MZ;rw[h]
theorem CG(a0:ZF)(a1:Int):JE a0 a1<(a0.Zd.length:Int):=kS (F:=V2 a0 a1) (c:=fun J=>(nth a0.Zd J).Key==a1) (fun _=>rfl) (fun _ _=>rfl) _ _
theorem PB(a0:ZD)(a1:Int):Y1 a0 a1<(a0.ZE.length:Int):=kS (F:=U8 a0 a1) (c:=fun J=>(nth a0.ZE J).Id==a1) (fun _=>rfl) (fun _ _=>rfl) _ _
theorem PN(a0:List YL)(a1:Int):YI a0 a1<(a0.length:Int):=kS (F:=U5 a0 a1) (c:=fun J=>(nth a0 J).Zk==a1) (fun _=>rfl) (fun _ _=>rfl) _ _
theorem Qw(a0:List Za)(a1:Int):Zt a0 a1<(a0.length:Int):=kS (F:=xn a0 a1) (c:=fun J=>(nth a0 J).Id==a1) (fun _=>rfl) (fun _ _=>rfl) _ _
theorem Ft(a0:List Z9)(a1:Int):qz a0 a1<(a0.length:Int):=kS (F:=Wb a0 a1) (c:=fun J=>(nth a0 J).Id==a1) (fun _=>rfl) (fun _ _=>rfl) _ _
theorem D3(a0:ZT):MD a0=a0:=rfl
theorem C0(a0:List Int):IA a0=a0:=rfl
theorem HC(a0:ZL):SZ a0=a0:=rfl
theorem DE(a0:ZV):MQ a0=a0:=rfl
theorem FW(a0:List ZV):U7 a0=a0:=by have h:=ky (F:=VA a0) (a:=a0) (g:=fun x=>x) (fun _=>rfl) (fun _ _ _=>rfl) (a0.length+1) [] 0 zAC zAC;simp only[List.nil_append,List.drop_zero]at h;unfold U7;rw[h]
theorem EN(a0:List ZX):Oi a0=a0:=rfl
theorem H7(a0:ZZ):Rr a0=a0:=rfl
theorem EM(a0:ZU):TG a0=a0:=by have h:=ky (F:=fun n v i=>WS a0 n i v) (a:=a0.ZR) (g:=fun x=>x) (fun _=>rfl) (fun _ _ _=>rfl) (a0.ZR.length+1) [] 0 zAC zAC;simp only[List.nil_append,List.drop_zero]at h;unfold TG;rw[h]
theorem Bk(a0:ZO):Lq a0=a0:=rfl
theorem Gn(a0:ZD):UB a0=a0:=by have h:=ky (F:=fun n v i=>kJ a0 n i v) (a:=a0.ZE) (g:=fun x=>x) (fun _=>rfl) (fun _ _ _=>rfl) (a0.ZE.length+1) [] 0 zAC zAC;simp only[List.nil_append,List.drop_zero]at h;unfold UB;rw[h]
theorem CH(a0:ZF):Sp a0=a0:=by have h:=ky (F:=fun n v i=>V1 a0 n i v) (a:=a0.ZA) (g:=fun x=>x) (fun _=>rfl) (fun _ _ _=>rfl) (a0.ZA.length+1) [] 0 zAC zAC;simp only[List.nil_append,List.drop_zero]at h;unfold Sp;rw[h]
theorem Js(a0:List Yg)(a1:Int):YU a0 a1<(a0.length:Int):=kS (F:=Sw a0 a1) (c:=fun J=>(nth a0 J).Number==a1) (fun _=>rfl) (fun _ _=>rfl) _ _
theorem Jx(a0:ZD)(a1:Int):Z1 a0 a1<(a0.ZE.length:Int):=kS (F:=TI a0 a1) (c:=fun J=>(nth a0.ZE J).Id==a1) (fun _=>rfl) (fun _ _=>rfl) _ _
theorem BA(a0:List YL)(a1:Int):VI a0 a1<(a0.length:Int):=kS (F:=TH a0 a1) (c:=fun J=>(nth a0 J).Zk==a1) (fun _=>rfl) (fun _ _=>rfl) _ _
theorem X0(a0:List Za)(a1:Int):Zr a0 a1<(a0.length:Int):=kS (F:=xq a0 a1) (c:=fun J=>(nth a0 J).Id==a1) (fun _=>rfl) (fun _ _=>rfl) _ _
theorem Hc(a0:List Int)(a1:Int):yf a0 a1<(a0.length:Int):=kS (F:=RR a0 a1) (c:=fun J=>nth a0 J==a1) (fun _=>rfl) (fun _ _=>rfl) _ _
theorem kQ(a0:List Z9)(a1:Int):QF a0 a1<(a0.length:Int):=kS (F:=Wc a0 a1) (c:=fun J=>(nth a0 J).Id==a1) (fun _=>rfl) (fun _ _=>rfl) _ _
theorem Wr:∀(n:Nat)(x:Int)(l:List UInt8),(QS n x l).length<=l.length+n
  |0,x,l=>by show(default:List UInt8).length<=_;exact Nat.zero_le _
  |n+1,x,l=>by
    simp only[QS];cases decide (x.tmod 10<0)<;>simp only[cond_true,cond_false]<;>cases(W (x.tdiv 10)==0)<;>simp only[cond_true,cond_false]
    · refine Nat.le_trans (Wr n _ _) ?_;simp;omega
    · simp
    · refine Nat.le_trans (Wr n _ _) ?_;simp;omega
    · simp
theorem YY(a0:Int):(Z8 a0).size<=24:=by
  unfold Z8;have h:=Wr 21 a0 []
  simp only[List.length_nil]at h;cases decide (a0<0)<;>simp<;>omega
theorem Lb(h:7<=n):Sm n (qY x):=⟨by simp[qY];omega,fun _ _=>trivial⟩
@[simp] theorem ri (x : YL) : (qY x).length = 7 := rfl
theorem Rp(h:7<=n):Sm n (zE x):=⟨by simp[zE];omega,fun _ _=>trivial⟩
@[simp] theorem pt (x : YL) : (zE x).length = 7 := rfl
theorem Dw{x:ZX}(h:5<=n):Sm n (yj x):=⟨by simp[yj];omega,fun _ _=>trivial⟩
@[simp] theorem rO (x : ZX) : (yj x).length = 5 := rfl
theorem D6{x:ZX}(h:5<=n):Sm n (Ku x):=⟨by simp[Ku];omega,fun _ _=>trivial⟩
@[simp] theorem rP (x : ZX) : (Ku x).length = 5 := rfl
theorem Oz{x:Zx}(h:5<=n):Sm n (zj x):=⟨by simp[zj];omega,fun _ _=>trivial⟩
@[simp] theorem sV (x : Zx) : (zj x).length = 5 := rfl
theorem Oq{x:Zx}(h:5<=n):Sm n (Kd x):=⟨by simp[Kd];omega,fun _ _=>trivial⟩
@[simp] theorem s8 (x : Zx) : (Kd x).length = 5 := rfl
theorem Ts{x:Zs}(h:9<=n):Sm n (JY x):=⟨by simp[JY];omega,fun _ _=>trivial⟩
@[simp] theorem uc (x : Zs) : (JY x).length = 9 := rfl
theorem kc{x:Zs}(h:9<=n):Sm n (X9 x):=⟨by simp[X9];omega,fun _ _=>trivial⟩
@[simp] theorem ud (x : Zs) : (X9 x).length = 9 := rfl
theorem GJ{x:XQ}(h:6<=n):Sm n (zx x):=⟨by simp[zx];omega,fun _ _=>trivial⟩
@[simp] theorem tr (x : XQ) : (zx x).length = 6 := rfl
theorem CV{a:ZU}(h:kh a=true):0<a.ZM.length:=by
  unfold kh at h;split at h
  · rename_i r e;have:∀n v,VD a n v≠ .inl true:=by
      intro n;induction n with
      |zero=>intro v h;cases h
      |succ n ih=>intro v h;rw[VD]at h;grind
    subst h;exact absurd e (this _ _)
  · split at h
    · rename_i r e;have:∀n v,Wv a n v≠ .inl true:=by
        intro n;induction n with
        |zero=>intro v h;cases h
        |succ n ih=>intro v h;rw[Wv]at h;grind
      subst h;exact absurd e (this _ _)
    · simp only[Ye,Bool.and_eq_true,decide_eq_true_eq]at h;omega
theorem Dy{a:ZU}(h:kW a=true):0<a.ZM.length:=by
  unfold kW at h;generalize(match TL a (a.ZM.length+1) 0 with|.inl r1=>r1|.inr _=>(match U4 a (a.ZR.length+1) 0 with|.inl r2=>r2|.inr _=>true))=m at h;cases hh:ZP (a.ZM.length:Int) 1 12 with
  |false=>rw[hh]at h;simp at h
  |true=>simp only[ZP,Bool.and_eq_true,decide_eq_true_eq]at hh;omega
theorem GG{a:ZL}(h:yr a=true):a.Xl.length=a.Yf.length:=by
  unfold yr at h;split at h
  · rename_i r e;have:∀n v,qH a n v≠ .inl true:=by
      intro n;induction n with
      |zero=>intro v h;cases h
      |succ n ih=>intro v h;rw[qH]at h;grind
    subst h;exact absurd e (this _ _)
  · split at h
    · rename_i r e;have:∀n v,qh a n v≠ .inl true:=by
        intro n;induction n with
        |zero=>intro v h;cases h
        |succ n ih=>intro v h;rw[qh]at h;grind
      subst h;exact absurd e (this _ _)
    · simp only[Bool.and_eq_true,beq_iff_eq]at h;omega
theorem Gk{a:ZL}(h:JU a=true):a.Xl.length=a.Yf.length:=by unfold JU at h;grind
theorem XO(a0:ZF)(a1:Int)(h:0<=(ZH a0 a1).1):(ZH a0 a1).1.toNat<a0.ZA.length/\0<=(ZH a0 a1).2/\(ZH a0 a1).2.toNat<(nth a0.ZA (ZH a0 a1).1.toNat).ZE.length:=by
  have key:∀n v r,SE a0 a1 n v= .inl r->r.1.toNat<a0.ZA.length/\0<=r.2/\r.2.toNat<(nth a0.ZA r.1.toNat).ZE.length:=by
    intro n;induction n with
    |zero=>intro v r h;cases h
    |succ n ih=>
      intro v r h;rw[SE]at h;cases h1:decide ((v:Int)<(a0.ZA.length:Int))with
      |false=>rw[h1]at h;cases h
      |true=>
        rw[h1]at h;simp only[cond_true]at h;cases h2:decide (Y1 (nth a0.ZA v) a1>=0)with
        |false=>rw[h2]at h;exact ih _ _ h
        |true=>
          rw[h2]at h;cases h;simp at h1 h2;have:=PB (nth a0.ZA v) a1
          grind
  unfold ZH at h⊢;grind
theorem QH(a0:ZF)(a1:Int)(h:0<=(ZW a0 a1).1):(ZW a0 a1).1.toNat<a0.ZA.length/\0<=(ZW a0 a1).2/\(ZW a0 a1).2.toNat<(nth a0.ZA (ZW a0 a1).1.toNat).ZE.length:=by
  have key:∀n v r,Sc a0 a1 n v= .inl r->r.1.toNat<a0.ZA.length/\0<=r.2/\r.2.toNat<(nth a0.ZA r.1.toNat).ZE.length:=by
    intro n;induction n with
    |zero=>intro v r h;cases h
    |succ n ih=>
      intro v r h;rw[Sc]at h;cases h1:decide ((v:Int)<(a0.ZA.length:Int))with
      |false=>rw[h1]at h;cases h
      |true=>
        rw[h1]at h;simp only[cond_true]at h;cases h2:decide (Z1 (nth a0.ZA v) a1>=0)with
        |false=>rw[h2]at h;exact ih _ _ h
        |true=>
          rw[h2]at h;cases h;simp at h1 h2;have:=Jx (nth a0.ZA v) a1
          grind
  unfold ZW at h⊢;grind
theorem T7{a:Int}(hn:n<=9223372036854775807)(h:Ye a 0 (W ((n:Int)-1))=true):0<=a/\a<n:=by rw[DN n hn]at h;simp only[Ye,Bool.and_eq_true,decide_eq_true_eq]at h;omega
theorem jt{a:Int}(hn:n<=9223372036854775807)(h:ZP a 0 (W ((n:Int)-1))=true):0<=a/\a<n:=by rw[DN n hn]at h;simp only[ZP,Bool.and_eq_true,decide_eq_true_eq]at h;omega
@[simp] theorem oA (l : List UInt8) : (TY l).length = l.length := by
  have key:∀n (acc:List Int) v,l.length<n+v->v<=l.length->(UN l n acc v).length=acc.length+(l.length-v):=by
    intro n;induction n with
    |zero=>intro acc v h1 h2;omega
    |succ n ih=>intro acc v h1 h2;rw[UN];grind
  have:=key (l.length+1) [] 0 zAC zAC;simpa[TY]using this
theorem kD{a0:ZU}{a1:ZL}(h:Sm n a0):Sm n (jd a0 a1):=by
  have key:∀n (acc:List Int) v,a0.ZR.length<n+v->v<=a0.ZR.length->(xy a0 a1 n acc v).length=acc.length+(a0.ZR.length-v):=by
    intro n;induction n with
    |zero=>intro acc v h1 h2;omega
    |succ n ih=>intro acc v h1 h2;rw[xy];grind
  have h2:=key (a0.ZR.length+1) [] 0 zAC zAC;have h3:=YA (ZU.KE h);refine⟨?_,fun _ _=>trivial⟩;unfold jd;grind
theorem FY{a0:ZU}{a1:ZL}(h:Sm n a0):Sm n (jE a0 a1):=by
  have key:∀n (acc:List Int) v,a0.ZR.length<n+v->v<=a0.ZR.length->(qf a0 a1 n acc v).length=acc.length+(a0.ZR.length-v):=by
    intro n;induction n with
    |zero=>intro acc v h1 h2;omega
    |succ n ih=>intro acc v h1 h2;rw[qf];grind
  have h2:=key (a0.ZR.length+1) [] 0 zAC zAC;have h3:=YA (ZU.KE h);refine⟨?_,fun _ _=>trivial⟩;unfold jE;grind
theorem Xb(a0:ZV):(JJ a0=101->a0.YS.length=7)/\(JJ a0=102->a0.YS.length=5)/\(JJ a0=103->a0.YS.length=5)/\(JJ a0=104->a0.YS.length=9)/\(JJ a0=105->a0.YS.length=6):=by
  have key:∀v:Int,v≠0->JJ a0=v->nth a0.YS 0=v/\(a0.YS.length:Int)=nth ([7,5,5,9,6]:List Int) (W (v-101)).toNat:=by intro v hv h;unfold JJ at h;grind
  refine⟨fun h=>?_,fun h=>?_,fun h=>?_,fun h=>?_,fun h=>?_⟩<;>(have:=(key _ zAF h).2;simp[nth,Yd]at this;omega)
theorem Zj(a0:ZV):(XN a0=101->a0.YS.length=7)/\(XN a0=102->a0.YS.length=5)/\(XN a0=103->a0.YS.length=5)/\(XN a0=104->a0.YS.length=9)/\(XN a0=105->a0.YS.length=6):=by
  have key:∀v:Int,v≠0->XN a0=v->nth a0.YS 0=v/\(a0.YS.length:Int)=nth ([7,5,5,9,6]:List Int) (W (v-101)).toNat:=by intro v hv h;unfold XN at h;grind
  refine⟨fun h=>?_,fun h=>?_,fun h=>?_,fun h=>?_,fun h=>?_⟩<;>(have:=(key _ zAF h).2;simp[nth,Yd]at this;omega)
theorem RT(a0:Int)(a1:List Int)(h:a1.length<=1048576):2*(Si a0 a1).length=a1.length+a1.length%2:=by
  have key:∀n v i,a1.length+1<2*n+i->i<=a1.length+1->i%2=0->2*(Tg a0 a1 n v i).length=2*v.length+(a1.length+a1.length%2-i):=by
    intro n;induction n with
    |zero=>intro v i h1 h2;omega
    |succ n ih=>intro v i h1 h2 h3;unfold Tg;grind
  have:=key (a1.length+1) [] 0 zAC zAC zAC;unfold Si;rw[this];simp
theorem jL(a0:Int)(a1:List Int)(h:a1.length<=1048576):2*(zZ a0 a1).length=a1.length+a1.length%2:=by
  have key:∀n v i,a1.length+1<2*n+i->i<=a1.length+1->i%2=0->2*(yT a0 a1 n v i).length=2*v.length+(a1.length+a1.length%2-i):=by
    intro n;induction n with
    |zero=>intro v i h1 h2;omega
    |succ n ih=>intro v i h1 h2 h3;unfold yT;grind
  have:=key (a1.length+1) [] 0 zAC zAC zAC;unfold zZ;rw[this];simp
theorem RD(h:10<=n):Sm n xQ:=⟨h,fun _ _=>trivial⟩
theorem D1(h:10<=n):Sm n JD:=⟨h,fun _ _=>trivial⟩
theorem Wf{a0:ZD}(h:Sm n a0):Sm n (Yp a0 a1):=by
  refine⟨?_,fun _ _=>trivial⟩;have e:=uE (F:=xe a0 a1) (fun _ _=>rfl) (fun _ _ _=>rfl) (a0.ZE.length+1) [] 0
  have:(Yp a0 a1).length<=0+(a0.ZE.length-0):=e;have:=YA (show Sm n a0.ZE from h);omega
theorem kE(a0:ZD)(a1:Int):(Yp a0 a1).length=a0.ZE.length:=by
  have key:∀n v i,i<=a0.ZE.length->a0.ZE.length<n+i->(xe a0 a1 n v i).length=v.length+(a0.ZE.length-i):=by
    intro n;induction n with
    |zero=>intro v i h0 h;omega
    |succ n ih=>intro v i h0 h;rw[xe];grind
  have:=key (a0.ZE.length+1) [] 0 zAC zAC;exact this.trans zAE
theorem T1{a0:ZD}(h:Sm n a0):Sm n (Q6 a0 a1):=by
  refine⟨?_,fun _ _=>trivial⟩;have e:=uE (F:=UA a0 a1) (fun _ _=>rfl) (fun _ _ _=>rfl) (a0.ZE.length+1) [] 0
  have:(Q6 a0 a1).length<=0+(a0.ZE.length-0):=e;have:=YA (show Sm n a0.ZE from h);omega
theorem Jt(a0:ZF)(a1:Int)(h:(Yc a0 a1).2.2=true):0<=(Yc a0 a1).1/\(Yc a0 a1).1<(a0.ZA.length:Int)/\0<=(Yc a0 a1).2.1/\(Yc a0 a1).2.1<(a0.Zd.length:Int):=
  Ys (p:=fun(r:Int×Int×Bool)=>r.2.2=true->0<=r.1/\r.1<(a0.ZA.length:Int)/\0<=r.2.1/\r.2.1<(a0.Zd.length:Int)) (fun _ h=>by simp at h) (fun hc h=>by
    simp only[Bool.or_eq_false_iff,decide_eq_false_iff_not]at hc;have f:=QH a0 a1 zAC
    dsimp only at h⊢;rw[Bool.and_eq_true,decide_eq_true_eq]at h;have h2:=h.2
    exact⟨zAC,zAC,zAC,BA _ _⟩) h
theorem CL(h:7<=n):Sm n (Su x):=Lb h
theorem MP(h:7<=n):Sm n (zl x):=Rp h
theorem yR{x:Zx}(h:5<=n):Sm n (XF x):=Oz h
theorem Px{x:Zx}(h:5<=n):Sm n (z5 x):=Oq h
theorem CP{x:Zs}(h:9<=n):Sm n (kq x):=Ts h
theorem Yw{x:Zs}(h:9<=n):Sm n (XE x):=kc h
theorem Zf{a0:List Yg}{a1:Zx}(h:(Y3 a0 a1).2=true):0<=Yt a0 a1.YG:=by unfold Y3 at h;grind
theorem jN{a2:ZL}(h:Sm n a2)(hn:9<=n):Sm n (QZ a0 a1 a2 a3 a4).1:=by
  unfold QZ;cases((decide (Zp a0.Frame.Methods a0.Frame.Now<0))||(decide (JE a0 a1<0)))with
  |true=>exact⟨⟨zK,zK⟩,zK,zK⟩
  |false=>
    refine⟨h,⟨by simp;omega,fun y hy=>?_⟩,zK⟩;rcases List.mem_cons.1 hy with rfl|hy
    · exact CP zAC
    rcases List.mem_cons.1 hy with rfl|hy
    · exact CL zAC
    · cases hy
theorem OO{a0:ZD}{a1:ZO}(h:Sm n a0)(hx:Sm (n+1) a1):Sm (n+1) (K0 a0 a1).1:=by
  have h1:Sm (n+1) a0:=ZK (Nat.le_succ n) h;unfold K0;cases((decide (Z1 a0 a1.Id>=0))||(!(zg a0)))with
  |true=>exact h1
  |false=>
    simp only[cond_false];generalize RA a0 a1 (a0.ZE.length+1) 0=z;cases(!(zg (ZD.mk a0.Id ((a0.ZE.take z++([a1]:List ZO))++a0.ZE.drop z))))with
    |true=>exact h1
    |false=>
      refine⟨by have:=ZD.YD h;have:=this.1;simp;omega,fun y hy=>?_⟩;have hy':y∈a0.ZE.take z\/y=a1\/y∈a0.ZE.drop z:=by simpa using hy
      rcases hy' with hy|rfl|hy
      · exact h1.2 y (List.mem_of_mem_take hy)
      · exact hx
      · exact h1.2 y (List.mem_of_mem_drop hy)
theorem SW{n:Nat}{a0:ZD}{a1:ZO}(h:Sm n a0)(hx:Sm n a1):∀(m:Nat)(b:Bool)(i:Nat)(l:List ZO),l.length<=i+(bif b then 1 else 0)->i<=a0.ZE.length->(∀y∈l,Sm n y)->
    (zh a0 a1 m b i l).2.length<=a0.ZE.length+(bif(zh a0 a1 m b i l).1 then 1 else 0)/\∀y∈(zh a0 a1 m b i l).2,Sm n y
  |0,b,i,l,_,_,_=>⟨Nat.zero_le _,fun y hy=>by cases hy⟩
  |m+1,b,i,l,hl,hi,hs=>by
    unfold zh;cases hc:decide ((i:Int)<(a0.ZE.length:Int))with
    |false=>grind
    |true=>
      have hD:i<a0.ZE.length:=zBc;have hn:Sm n (nth a0.ZE i):=Zi h;simp only[cond_true];cases hd:((!b)&&(decide (a1.Id<(nth a0.ZE i).Id)))with
      |true=>
        have hb:b=false:=by cases b<;>simp_all
        subst hb;simp only[cond_true];refine SW h hx m true (i+1) _ zCI hD (fun y hy=>?_);grind
      |false=>simp only[cond_false];refine SW h hx m b (i+1) _ zCI hD (fun y hy=>?_);grind
theorem TR{a0:ZD}{a1:ZO}(h:Sm n a0)(hx:Sm n a1):Sm (n+1) (Qj a0 a1).1:=by
  have h1:Sm (n+1) a0:=ZK (Nat.le_succ n) h;unfold Qj;cases((!(JG a0))||(decide (Y1 a0 a1.Id>=0)))with
  |true=>exact h1
  |false=>
    have hz:=SW h hx (a0.ZE.length+1) false 0 [] (Nat.zero_le _) (Nat.zero_le _) (fun y hy=>by cases hy);have hlen:=(ZD.YD h).1;simp only[cond_false];generalize hq:zh a0 a1 (a0.ZE.length+1) false 0 []=z at hz⊢;obtain⟨z0,z1⟩:=z;cases z0 with
    |false=>
      simp only[Bool.not_false,cond_true];cases(!(JG (ZD.mk a0.Id (z1++([a1]:List ZO)))))with
      |true=>exact h1
      |false=>
        refine⟨by have:=hz.1;simp at this⊢;omega,fun y hy=>?_⟩;have hy':y∈z1\/y=a1:=by simpa using hy
        rcases hy' with hy|rfl
        · exact ZK (Nat.le_succ n) (hz.2 y hy)
        · exact ZK (Nat.le_succ n) hx
    |true=>
      simp only[Bool.not_true,cond_false];cases(!(JG (ZD.mk a0.Id z1)))with
      |true=>exact h1
      |false=>exact⟨by have:=hz.1;simp at this⊢;omega,fun y hy=>ZK (Nat.le_succ n) (hz.2 y hy)⟩
theorem Ow{n:Nat}{a0:ZF}{a1 a2:Int}{a3:ZL}{a4 a5:Int}(h:Sm n a0)(hd:Sm n a3)(hn:9<=n):∀(m v:Nat)(r:ZF×Bool),Jr a0 a1 a2 a3 a4 a5 m v= .inl r->Sm (n+1) r.1
  |0,v,r,e=>by cases e
  |m+1,v,r,e=>by
    have h1:Sm (n+1) a0:=ZK (Nat.le_succ n) h;unfold Jr at e;cases hc:decide ((v:Int)<(a0.Zd.length:Int))with
    |false=>rw[hc]at e;cases e
    |true=>
      rw[hc]at e;simp only[cond_true]at e;cases hk:((nth a0.Zd v).Key !=a2)with
      |true=>rw[hk]at e;exact Ow h hd hn m (v+1) r e
      |false=>
        rw[hk]at e;simp only[cond_false]at e;generalize hq:(ZO.mk a0.Next a5 a3 (Xe a0.Frame.Zz (Zs.mk a2 (nth a0.Zd v).Zk (Zc a0.Frame.Methods a0.Frame.Now) (Y5 (Zc a0.Frame.Methods a0.Frame.Now) a3) 1 a4 0 0 0)).1 (ZU.mk ([XE (Xe a0.Frame.Zz (Zs.mk a2 (nth a0.Zd v).Zk (Zc a0.Frame.Methods a0.Frame.Now) (Y5 (Zc a0.Frame.Methods a0.Frame.Now) a3) 1 a4 0 0 0)).1,zl (nth a0.Zd v)]:List ZV) ([]:List ZZ)))=it at e;have hit:Sm (n+1) it:=by
          rw[<-hq];refine⟨ZK (Nat.le_succ n) hd,⟨by simp;omega,fun y hy=>?_⟩,zK⟩;rcases List.mem_cons.1 hy with rfl|hy
          · exact Yw zAC
          rcases List.mem_cons.1 hy with rfl|hy
          · exact MP zAC
          · cases hy
        clear hq;cases hb:((!(Xe a0.Frame.Zz (Zs.mk a2 (nth a0.Zd v).Zk (Zc a0.Frame.Methods a0.Frame.Now) (Y5 (Zc a0.Frame.Methods a0.Frame.Now) a3) 1 a4 0 0 0)).2)||(!(K0 (nth a0.ZA a1.toNat) it).2))with
        |true=>rw[hb]at e;cases e;exact h1
        |false=>rw[hb]at e;cases e;exact⟨h1.1,h1.2.1,h1.2.2.1,qj h1.2.2.2.1 (OO (Zi h.2.2.2.1) hit),h1.2.2.2.2.1,h1.2.2.2.2.2.1,h1.2.2.2.2.2.2⟩
theorem Kk{a2:Int}{a3:ZL}(h:Sm n a0)(hd:Sm n a3)(hn:9<=n):Sm (n+1) (XP a0 a1 a2 a3 a4 a5).1:=by
  have h1:Sm (n+1) a0:=ZK (Nat.le_succ n) h;unfold XP;cases(((!(YH a0 a1))||(decide (YU a0.Frame.Zz a2<0)))||(decide (Zc a0.Frame.Methods a0.Frame.Now<0)))with
  |true=>exact h1
  |false=>
    simp only[cond_false];cases he:Jr a0 a1 a2 a3 a4 a5 (a0.Zd.length+1) 0 with
    |inl r=>exact Ow h hd hn _ _ r he
    |inr _=>exact h1
theorem ja(a0:Int):∀(m:Nat)(x:Int)(l:List Xk)(y:List Int),(yx a0 m x l y).length<=l.length+m
  |0,x,l,y=>Nat.zero_le _
  |m+1,x,l,y=>by
    simp only[yx];cases decide ((y.length:Int)>1)with
    |false=>simp
    |true=>
      simp only[cond_true];cases(Int.tmod x 2==1)with
      |true=>refine Nat.le_trans (ja a0 m _ _ _) ?_;simp;omega
      |false=>
        simp only[cond_false];cases decide (W (x+1)<(y.length:Int))with
        |true=>refine Nat.le_trans (ja a0 m _ _ _) ?_;simp;omega
        |false=>refine Nat.le_trans (ja a0 m _ _ _) ?_;omega
theorem LX{a0:Int}{a1:List Int}{a2:Int}(h:17<=n):Sm n (y6 a0 a1 a2):=by
  refine⟨?_,fun _ _=>trivial⟩;unfold y6;cases hc:((decide ((a1.length:Int)>16))||(!(Ye a2 0 (W ((a1.length:Int)-1)))))with
  |true=>exact Nat.zero_le _
  |false=>have h1:=ja a0 (a1.length+1) a2 [] a1;grind
theorem qo(a0:Int):∀(m:Nat)(y:List Int)(x:Int)(l:List Xk),(xD a0 m y x l).length<=l.length+m
  |0,y,x,l=>Nat.zero_le _
  |m+1,y,x,l=>by
    simp only[xD];cases decide ((y.length:Int)>1)with
    |false=>simp
    |true=>
      simp only[cond_true];cases(Int.tmod x 2==1)with
      |true=>refine Nat.le_trans (qo a0 m _ _ _) ?_;simp;omega
      |false=>
        simp only[cond_false];cases decide (W (x+1)<(y.length:Int))with
        |true=>refine Nat.le_trans (qo a0 m _ _ _) ?_;simp;omega
        |false=>refine Nat.le_trans (qo a0 m _ _ _) ?_;omega
theorem LQ{a0:Int}{a1:List Int}{a2:Int}(h:17<=n):Sm n (y8 a0 a1 a2):=by
  refine⟨?_,fun _ _=>trivial⟩;unfold y8;cases hc:((!(ZP a2 0 (W ((a1.length:Int)-1))))||(decide ((a1.length:Int)>16)))with
  |true=>exact Nat.zero_le _
  |false=>have h1:=qo a0 (a1.length+1) a1 a2 [];grind
theorem M6(a0:ZF)(a1:List Int):∀(m v:Nat),a1.length<m+v->(match T2 a0 a1 m v with|.inl r=>r|.inr _=>true)=true->∀j,v<=j->j<a1.length->0<=Zt a0.Frame.ZC (nth a1 j)/\Zt a0.Frame.ZC (nth a1 j)<(a0.XW.length:Int)/\0<=Yt a0.Frame.Zz (nth a0.Frame.ZC (Zt a0.Frame.ZC (nth a1 j)).toNat).Key
  |0,v,h,_=>fun j h1 h2=>zAC
  |m+1,v,h,e=>by
    intro j h1 h2;unfold T2 at e;have hc:decide ((v:Int)<(a1.length:Int))=true:=zAk
    rw[hc]at e;simp only[cond_true]at e;revert e;cases hA:(((decide (Zt a0.Frame.ZC (nth a1 v)<0))||(decide (Zt a0.Frame.ZC (nth a1 v)>=(a0.XW.length:Int))))||((decide ((v:Int)>0))&&(decide (nth a1 (v-1)>=nth a1 v))))with
    |true=>intro e;simp at e
    |false=>
      simp only[cond_false];cases hB:((decide (Yt a0.Frame.Zz (nth a0.Frame.ZC (Zt a0.Frame.ZC (nth a1 v)).toNat).Key<0))||(decide ((nth a0.Frame.Zz (Yt a0.Frame.Zz (nth a0.Frame.ZC (Zt a0.Frame.ZC (nth a1 v)).toNat).Key).toNat).OT>a0.Frame.Now)))with
      |true=>intro e;simp at e
      |false=>
        intro e;rcases Nat.eq_or_lt_of_le h1 with rfl|h1
        · grind
        · exact M6 a0 a1 m (v+1) zAC e j h1 h2
theorem JW{a1:List Int}(h:Nk a0 a1=true)(hj:j<a1.length):0<=Zt a0.Frame.ZC (nth a1 j)/\Zt a0.Frame.ZC (nth a1 j)<(a0.XW.length:Int)/\0<=Yt a0.Frame.Zz (nth a0.Frame.ZC (Zt a0.Frame.ZC (nth a1 j)).toNat).Key:=by refine M6 a0 a1 (a1.length+1) 0 zAC ?_ j (Nat.zero_le _) hj;unfold Nk at h;grind
def itn(l:List ZD):Nat:=cnL (fun a=>a.ZE.length) l
theorem vP{l:List ZD}(h:i<l.length):itn (l.drop i)=(nth l i).ZE.length+itn (l.drop (i+1)):=Pv _ h
theorem NP(a0:ZF):Yn a0=a0.ZA.flatMap (·.ZE):=by
  unfold Yn;have:=Iw (as:=a0.ZA) (fun a=>a.ZE) (F:=fun n i l=>RU a0 n l i) (fun _ _ _=>rfl) (a0.ZA.length+1) 0 [] zAC (Nat.zero_le _)
  simpa using this
theorem Rw(a0:ZF):(Yn a0).length=itn a0.ZA:=by rw[NP,HG];rfl
def stc(s:ZU):Nat:=cnL (fun r=>r.YK.length) s.ZR
def EC(e:Zh):Nat:=cnL stc e.Zg+cnL List.length e.Yl
theorem vM{l:List ZU}(h:i<l.length):cnL stc (l.drop i)=stc (nth l i)+cnL stc (l.drop (i+1)):=Pv _ h
theorem Hg{l:List ZZ}(h:i<l.length):cnL (fun r=>r.YK.length) (l.drop i)=(nth l i).YK.length+cnL (fun r=>r.YK.length) (l.drop (i+1)):=Pv _ h
theorem DC{l:List (List ZX)}(h:i<l.length):cnL List.length (l.drop i)=(nth l i).length+cnL List.length (l.drop (i+1)):=Pv _ h
theorem ji(a0:List ZX):∀(n:Nat)(i:Nat)(l:List ZX),i<=a0.length->(X8 a0 n i l).length<=l.length+(a0.length-i)
  |0,i,l,_=>Nat.zero_le _
  |n+1,i,l,hi=>by
    simp only[X8];by_cases h:i<a0.length
    · rw[show decide ((i:Int)<(a0.length:Int))=true by simpa using h];have h1:=ji a0 n (i+1) (l++[nth a0 i]) h
      have h2:=ji a0 n (i+1) l h;grind
    · grind
theorem Wy(a0 a1:List ZX):(Kn a0 a1).length<=a1.length+a0.length:=ji a0 (a0.length+1) 0 a1 (Nat.zero_le _)
def Xa(a0:ZF):List ZU:=(a0.ZA.flatMap (·.ZE)).map (·.ZN)
theorem KX(a0:ZF):xh a0 ((Yn a0).length+1) 0 []=Xa a0:=by have:=Iw (as:=Yn a0) (fun a=>[a.ZN]) (F:=xh a0) (fun _ _ _=>rfl) ((Yn a0).length+1) 0 [] zAC (Nat.zero_le _);rw[this,Xa,<-NP,vr];rfl
theorem Im(h:Sm n a0)(ht:itn a0.ZA<=1048576)(hk:1048576<=n):Sm n (Zh.mk (Xa a0) []):=by
  refine⟨⟨?_,fun x hx=>?_⟩,⟨Nat.zero_le _,fun x hx=>by cases hx⟩⟩
  · rw[Xa,List.length_map,HG];exact Nat.le_trans ht hk
  · simp only[Xa,List.mem_map,List.mem_flatMap]at hx;obtain⟨it,⟨ar,h1,h2⟩,rfl⟩:=hx;exact ZO.Yz ((ZD.YD ((ZF.Z6 h).2 _ h1)).2 _ h2)
theorem Py(a0:ZT)(a1:ZU)(a2:List Int):∀n v,jw a0 a1 a2 n v<=v
  |0,_=>Nat.zero_le _
  |n+1,v=>by simp only[jw];exact ZG (p:=fun r=>r<=v) (ZG (p:=fun r=>r<=v) (Nat.le_refl _) (Nat.le_trans (Py a0 a1 a2 n (v-1)) (Nat.sub_le _ _))) (Nat.le_refl _)
theorem F4(a0:ZT)(a1:ZU)(a2:List Int):0<=qR a0 a1 a2/\qR a0 a1 a2<=(a1.ZR.length:Int):=by have h:=Py a0 a1 a2 (a1.ZR.length+1) a1.ZR.length;simp only[qR];omega
theorem kd(a0:Int):(Kj a0).size<=24:=by unfold Kj;exact ZG (p:=fun r:ByteArray=>r.size<=24) (Nat.zero_le _) (VH zAF _)
theorem W7(a0:Int):(za a0).size<=24:=by unfold za;exact ZG (p:=fun r:ByteArray=>r.size<=24) (Nat.zero_le _) (VH zAF _)
theorem qU(a0:Xi):(X7 a0).size<=200:=by have h1:=kd a0.Code;have h2:=W7 a0.Reason;have h3:=YY a0.Span.Xv;have h4:=YY a0.Span.To;have e1:(⟨#[32]⟩:ByteArray).size=1:=rfl;have e2:(⟨#[45]⟩:ByteArray).size=1:=rfl;unfold X7;refine ZG (p:=fun r:ByteArray=>r.size<=200) (Nat.zero_le _) (ZG (p:=fun r:ByteArray=>r.size<=200) ?_ ?_)<;>simp only[ByteArray.size_append]<;>omega
theorem Ua(a0:List Zn):∀(n:Nat)(l:List Zn)(i:Nat)(x y:Int),i<=a0.length->(WG a0 n l i x y).1.length<=l.length+(a0.length-i)
  |0,_,_,_,_,_=>Nat.zero_le _
  |n+1,l,i,x,y,hi=>by
    simp only[WG];by_cases h:i<a0.length
    · rw[show decide ((i:Int)<(a0.length:Int))=true by simpa using h,cond_true];refine ZG (p:=fun(r:List Zn×Int×Int)=>r.1.length<=l.length+(a0.length-i)) ?_ ?_
      · have:=Ua a0 n (l++[nth a0 i]) (i+1) x y h;simp at this;omega
      · exact Nat.le_trans (Ua a0 n l (i+1) _ _ h) zAC
    · grind
theorem Uj(a0:List Zn):∀(n:Nat)(l:List Zn)(i:Nat),i<=a0.length->(ks a0 n l i).length<=l.length+(a0.length-i)
  |0,_,_,_=>Nat.zero_le _
  |n+1,l,i,hi=>by
    simp only[ks];by_cases h:i<a0.length
    · rw[show decide ((i:Int)<(a0.length:Int))=true by simpa using h,cond_true];refine ZG (p:=fun(r:List Zn)=>r.length<=l.length+(a0.length-i)) (Nat.le_trans (Uj a0 n l (i+1) h) zAC) ?_;have h2:=Ua l (l.length+1) [] 0 (nth a0 i).Xv (nth a0 i).To (Nat.zero_le _)
      refine Nat.le_trans (Uj a0 n _ (i+1) h) ?_;simp at h2⊢;omega
    · grind
theorem jF{a0:List Zn}(h:Sm n a0):Sm n (QL a0):=
  ⟨Nat.le_trans (Uj a0 (a0.length+1) [] 0 (Nat.zero_le _)) (by have:=h.1;simp;omega),fun _ _=>trivial⟩
theorem ZJ{a0:Int}{a2:List Zn}(h:Sm n a2):Sm (n+1) (Zy a0 a1 a2):=by
  unfold Zy;refine ZG (p:=fun r:List Zn=>Sm (n+1) r) ⟨?_,fun _ _=>trivial⟩ (ZK (Nat.le_succ n) h);have:=h.1
  simp;omega
theorem Ct{a0:YL}{a1:List Zx}(h:3<=n):Sm n (Vx a0 a1):=by
  have h0:Sm 0 ([]:List Zn):=⟨Nat.zero_le _,fun _ _=>trivial⟩;unfold Vx;refine ZG (p:=fun r:List Zn=>Sm n r) (ZG (p:=fun r:List Zn=>Sm n r) ?_ ?_) (ZG (p:=fun r:List Zn=>Sm n r) ?_ ?_)
  · exact jF (ZK h (ZJ (ZJ (ZJ h0))))
  · exact jF (ZK zAC (ZJ (ZJ h0)))
  · exact jF (ZK zAC (ZJ (ZJ h0)))
  · exact jF (ZK zAC (ZJ h0))
theorem tB{c d:Zn}(h:1<=n):Sm n (Md [c] [d]):=by show Sm n (QL (bif(qe c d).2 then[(qe c d).1]else[]));exact jF (ZG (p:=fun r:List Zn=>Sm n r) ⟨h,fun _ _=>trivial⟩ ⟨Nat.zero_le _,fun _ _=>trivial⟩)
theorem Dt{a0:YL}{a1:List Zx}(h:1<=n):Sm n (kr a0 a1):=by unfold kr;exact tB h
theorem HB{a0:List Yg}{a1:List XQ}{a2:Int}(h:a1.length<=n):Sm n (qB a0 a1 a2 a3):=
  jF ⟨Nat.le_trans (Nu (F:=yU a0 a1 a2 a3) (fun _ _=>rfl) (fun _ _ _=>rfl) (a1.length+1) [] 0) zAk,fun _ _=>trivial⟩
def pw(e:Zh):Nat:=cnL (fun s=>s.ZM.length) e.Zg
theorem sG{l:List ZU}(h:i<l.length):cnL (fun s:ZU=>s.ZM.length) (l.drop i)=(nth l i).ZM.length+cnL (fun s:ZU=>s.ZM.length) (l.drop (i+1)):=Pv _ h
theorem Yq{a0:List ZV}{a1:YL}(h:Sm n a0):Sm n (zu a0 a1):=
  ⟨Nat.le_trans (Nu (F:=xO a0 a1) (fun _ _=>rfl) (fun _ _ _=>rfl) (a0.length+1) [] 0) (by have:=h.1;simp;omega),fun _ _=>trivial⟩
theorem Y0{a0:List ZV}(h:Sm n a0):Sm n (W3 a0):=
  ⟨Nat.le_trans (Nu (F:=xz a0) (fun _ _=>rfl) (fun _ _ _=>rfl) (a0.length+1) [] 0) (by have:=h.1;simp;omega),fun _ _=>trivial⟩
theorem UR{n:Nat}(a0:Zh)(a1:ZL)(h:Sm n a0):∀(m:Nat)(l:List (List Int))(i:Nat),i<=a0.Zg.length->Sm n l->l.length+(a0.Zg.length-i)<=n->Sm n (zf a0 a1 m l i)
  |0,_,_,_,_,_=>⟨Nat.zero_le _,fun x hx=>by cases hx⟩
  |m+1,l,i,hi,hl,hk=>by
    simp only[zf];by_cases hv:i<a0.Zg.length
    · rw[show decide ((i:Int)<(a0.Zg.length:Int))=true by simpa using hv,cond_true];refine UR a0 a1 h m _ (i+1) hv ⟨by simp;omega,fun x hx=>?_⟩ zAk;rcases List.mem_append.1 hx with hx|hx
      · exact hl.2 x hx
      · rw[List.mem_singleton.1 hx];exact FY (Zi (Zh.Xc h))
    · grind
theorem Q0{a0:Zh}{a1:ZL}(h:Sm n a0):Sm n (zQ a0 a1):=
  UR a0 a1 h _ [] 0 (Nat.zero_le _) ⟨Nat.zero_le _,fun x hx=>by cases hx⟩ (by have z:=YA (Zh.Xc h);simp;omega)
theorem wH{z:Nat}{l:List ZV}{p:ZV}(hl:Sm K l)(hp:Sm K p)(hk:l.length+1<=K):Sm K ((l.take z++[p])++(l.drop z).take (l.length-z))/\((l.take z++[p])++(l.drop z).take (l.length-z)).length<=l.length+1:=by
  have h:((l.take z++[p])++(l.drop z).take (l.length-z)).length<=l.length+1:=zAk;refine⟨⟨Nat.le_trans h hk,fun x hx=>?_⟩,h⟩;simp only[List.mem_append,List.mem_singleton]at hx;rcases hx with(hx|rfl)|hx
  · exact hl.2 x (List.mem_of_mem_take hx)
  · exact hp
  · exact hl.2 x (List.mem_of_mem_drop (List.mem_of_mem_take hx))
theorem jj{K:Nat}(a0:ZT)(a1:Zh)(a2:List (List Int))(v:Nat)(h:Sm K a1):∀(n:Nat)(l:List ZV)(i:Nat),i<=(nth a1.Zg v).ZM.length->Sm K l->l.length+((nth a1.Zg v).ZM.length-i)<=K->Sm K (Jk a0 a1 a2 v n l i)/\(Jk a0 a1 a2 v n l i).length<=l.length+((nth a1.Zg v).ZM.length-i)
  |0,_,_,_,_,_=>⟨⟨Nat.zero_le _,fun x hx=>by cases hx⟩,Nat.zero_le _⟩
  |n+1,l,i,hi,hl,hk=>by
    simp only[Jk];by_cases hv:i<(nth a1.Zg v).ZM.length
    · rw[show decide ((i:Int)<((nth a1.Zg v).ZM.length:Int))=true by simpa using hv,cond_true];have hp:Sm K (nth (nth a1.Zg v).ZM i):=Zi (ZU.XV (Zi (Zh.Xc h)))
      refine ZG (p:=fun(r:List ZV)=>Sm K r/\r.length<=l.length+((nth a1.Zg v).ZM.length-i)) ?_ ?_
      · obtain⟨r1,r2⟩:=jj a0 a1 a2 v h n l (i+1) hv hl zAC;exact⟨r1,zAC⟩
      · obtain⟨q1,q2⟩:=wH (z:=qp a1 v l i (l.length+1) 0) hl hp zAC;obtain⟨r1,r2⟩:=jj a0 a1 a2 v h n _ (i+1) hv q1 zAC;exact⟨r1,zAC⟩
    · grind
theorem U1{K:Nat}(a0:ZT)(a1:Zh)(a2:List (List Int))(h:Sm K a1):∀(n:Nat)(l:List ZV)(i:Nat),i<=a1.Zg.length->Sm K l->l.length+cnL (fun s:ZU=>s.ZM.length) (a1.Zg.drop i)<=K->Sm K (yS a0 a1 a2 n l i)
  |0,_,_,_,_,_=>⟨Nat.zero_le _,fun x hx=>by cases hx⟩
  |n+1,l,i,hi,hl,hk=>by
    simp only[yS];by_cases hv:i<a1.Zg.length
    · rw[show decide ((i:Int)<(a1.Zg.length:Int))=true by simpa using hv,cond_true];have hd:=sG hv
      obtain⟨r1,r2⟩:=jj a0 a1 a2 i h ((nth a1.Zg i).ZM.length+1) l 0 (Nat.zero_le _) hl zAC;exact U1 a0 a1 a2 h n _ (i+1) hv r1 zAC
    · grind
theorem ZY{a0:ZT}{a1:Zh}{a2:List (List Int)}(h:Sm K a1)(hp:pw a1<=2097152)(hk:2097152<=K):Sm K (YB a0 a1 a2):=
  U1 a0 a1 a2 h _ [] 0 (Nat.zero_le _) ⟨Nat.zero_le _,fun x hx=>by cases hx⟩ (by rw[List.drop_zero];simp only[List.length_nil];exact Nat.le_trans (by rw[Nat.zero_add];exact hp) hk)
theorem Is(a0:ZT)(a1:ZO):(jV a0 a1).size<=400:=by
  have h1:=YY a1.Id;have h2:=YY a1.Sig.Key;have h3:=YY (a1.ZN.ZM.length:Int);have h4:=YY (a1.ZN.ZR.length:Int);have h5:=qU (JX a0 a1);unfold jV;simp only[ByteArray.size_append];show 1+_+2+_+1+_+1+_+1+_<=400
  omega
theorem Ur{l:List ByteArray}{b:ByteArray}(hb:b.size=1)(h:∀x∈l,x.size<=24):∀(n:Nat)(v:ByteArray)(i:Nat),(qP l b n v i).size<=v.size+25*(l.length-i)
  |0,v,i=>Nat.zero_le _
  |n+1,v,i=>by
    simp only[qP];by_cases hi:i<l.length
    · have hx:=VH h i;have h1:=Ur hb h n (v++b++nth l i) (i+1);have h2:=Ur hb h n (v++nth l i) (i+1);simp only[ByteArray.size_append]at h1 h2;rw[show decide ((i:Int)<(l.length:Int))=true by simpa using hi,Qy];refine ZG (p:=fun r:ByteArray=>r.size<=v.size+25*(l.length-i)) ?_ ?_<;>omega
    · rw[show decide ((i:Int)<(l.length:Int))=false by simpa using hi,Qo];omega
theorem Rt(hb:b.size=1)(h:∀x∈l,x.size<=24):(T5 l b).size<=25*l.length:=by have:=Ur hb h (l.length+1) ⟨#[]⟩ 0;have e:(⟨#[]⟩:ByteArray).size=0:=rfl;unfold T5;simp only;omega
theorem rE{α β:Type}[Inhabited α]{as:List α}(c:α->Bool)(g:α->β){F:Nat->Nat->List β->List β}(h1:∀n i l,F (n+1) i l=bif decide ((i:Int)<(as.length:Int))then(bif c (nth as i)then F n (i+1) (l++[g (nth as i)])else F n (i+1) l)else l)(n i:Nat)(l:List β)(h:as.length<n+i)(h2:i<=as.length):F n i l=l++(as.drop i).flatMap (fun a=>bif c a then[g a]else[]):=
  Iw (fun a=>bif c a then[g a]else[]) (F:=F) (fun n i l=>by rw[h1];cases decide ((i:Int)<(as.length:Int))<;>simp only[Qy,Qo];cases c (nth as i)<;>simp) n i l h h2
theorem B1{α β:Type}(f:α->List β)(h:∀x,(f x).length<=1):∀l:List α,(l.flatMap f).length<=l.length
  |[]=>Nat.zero_le _
  |x::l=>by have:=B1 f h l;have:=h x;simp only[List.flatMap_cons,List.length_append,List.length_cons];omega
theorem pI{α:Type}(c:Bool)(x:α):(bif c then[x]else[]).length<=1:=by cases c<;>simp
theorem HO(a0:ZF):Xt a0=(Yn a0).flatMap (fun x=>bif(Qp a0 x.Id).Code==1 then[x.Id]else[]):=by have:=rE (as:=Yn a0) (fun x=>(Qp a0 x.Id).Code==1) (fun x=>x.Id) (F:=fun n i l=>qX a0 n l i) (fun _ _ _=>rfl) ((Yn a0).length+1) 0 [] zAC (Nat.zero_le _);unfold Xt;rw[this];rfl
theorem H8(a0:ZF):(Xt a0).length<=itn a0.ZA:=by rw[HO,<-Rw];exact B1 _ (fun x=>pI _ _) _
theorem uW(x:Int):0<=Ba .i64 x 255/\Ba .i64 x 255<=255:=by
  have h:(BitVec.ofInt IntKind.i64.bits x&&&BitVec.ofInt IntKind.i64.bits 255).toNat<=255:=by rw[BitVec.toNat_and];exact Nat.le_trans Nat.and_le_right (Nat.le_of_ble_eq_true rfl)
  unfold Ba;rw[YQ zAC zAC];omega
theorem qn(c:Z3):0<=(Yi c).2/\(Yi c).2<=255:=by unfold Yi;exact ZG (p:=fun r:Z3×Int=>0<=r.2/\r.2<=255) (uW _) (uW _)
theorem Xp(c:Z3)(n:Int):0<=(ZI c n).2/\(0<n->(ZI c n).2<n):=by
  unfold ZI;refine Ys (p:=fun r:Z3×Int=>0<=r.2/\(0<n->r.2<n)) (fun h=>⟨Int.le_refl _,fun h0=>h0⟩) (fun h=>?_);have hn:0<n:=by simp at h;omega
  have h1:=qn c;have h2:=qn (Yi c).1;have h3:=qn (Yi (Yi c).1).1;refine ZG (p:=fun r:Z3×Int=>0<=r.2/\(0<n->r.2<n)) ⟨Int.tmod_nonneg _ h1.1,fun _=>Int.tmod_lt_of_pos _ hn⟩ ⟨Int.tmod_nonneg _ ?_,fun _=>Int.tmod_lt_of_pos _ hn⟩;simp only[Yd];omega
theorem IN(c:Z3)(n:Int):(ZI c n).2<=16777215:=by
  unfold ZI;have h1:=qn c
  have h2:=qn (Yi c).1;have h3:=qn (Yi (Yi c).1).1;refine ZG (p:=fun r:Z3×Int=>r.2<=16777215) (show(0:Int)<=16777215 by decide) (Ys (p:=fun r:Z3×Int=>r.2<=16777215) (fun h=>?_) (fun h=>?_))
  · have:(Int.tmod (Yi c).2 n).natAbs<=(Yi c).2.natAbs:=by rw[Int.natAbs_tmod];exact Nat.mod_le _ _
    grind
  · show Int.tmod _ _<=_;have hw:0<=W (W (W ((Yi c).2*65536)+W ((Yi (Yi c).1).2*256))+(Yi (Yi (Yi c).1).1).2)/\W (W (W ((Yi c).2*65536)+W ((Yi (Yi c).1).2*256))+(Yi (Yi (Yi c).1).1).2)<=16777215:=by simp only[Yd];omega
    have h4:(Int.tmod (W (W (W ((Yi c).2*65536)+W ((Yi (Yi c).1).2*256))+(Yi (Yi (Yi c).1).1).2)) n).natAbs<=(W (W (W ((Yi c).2*65536)+W ((Yi (Yi c).1).2*256))+(Yi (Yi (Yi c).1).1).2)).natAbs:=by rw[Int.natAbs_tmod];exact Nat.mod_le _ _
    have h5:=Int.tmod_nonneg n hw.1;omega
theorem M4(c:Z3):(yJ c).2.size<=11:=by unfold yJ U3;exact VH zAF _
theorem Kh(a0:ZF):(YP a0).length<=a0.Frame.ZC.length:=by have e:=Nu (F:=J9 a0) (fun _ _=>rfl) (fun _ _ _=>rfl) (a0.Frame.ZC.length+1) [] 0;have:(YP a0).length<=0+(a0.Frame.ZC.length-0):=e;omega
theorem Kf(a0:ZF):(YX a0).length<=a0.Frame.ZC.length:=by have e:=Nu (F:=J7 a0) (fun _ _=>rfl) (fun _ _ _=>rfl) (a0.Frame.ZC.length+1) [] 0;have:(YX a0).length<=0+(a0.Frame.ZC.length-0):=e;omega
theorem S7(a0:Yy)(a1:Int)(h:j0 a0 a1=true):a0.ZE.length<=8:=by
  unfold j0 at h;have hk:∀n v r,zP a0 n v= .inl r->r=false:=by
    intro n;induction n with
    |zero=>intro v r h;cases h
    |succ n ih=>intro v r h;rw[zP]at h;grind
  cases hh:zP a0 (a0.ZE.length+1) 0 with
  |inl r=>rw[hh]at h;have:=hk _ _ _ hh;subst this;cases h
  |inr u=>rw[hh]at h;simp only[ZP,Bool.and_eq_true,decide_eq_true_eq]at h;omega
theorem W2{n:Nat}{a0:ZD}{a2:List Int}(h:Sm n a0):∀(m v:Nat)(l:List ZO),(∀x∈l,Sm n x)->l.length<=v->v<=a2.length->
    (∀r,K7 a0 a2 m v l= .inl r->r=(Yy.mk 0 0 [] 0,false))/\∀z,K7 a0 a2 m v l= .inr z->z.length<=a2.length/\∀x∈z,Sm n x
  |0,v,l,_,_,_=>⟨fun r h=>zBV,fun z h=>zBh⟩
  |m+1,v,l,hs,hl,hv=>by
    rw[K7];let p:=fun w:Sum (Yy×Bool) (List ZO)=>(∀r,w= .inl r->r=(Yy.mk 0 0 [] 0,false))/\∀z,w= .inr z->z.length<=a2.length/\∀x∈z,Sm n x
    refine Ys (p:=p) (fun hc=>?_) (fun _=>⟨fun r h=>zBV,fun z h=>zCP⟩);have hc:v<a2.length:=zBc
    refine ZG (p:=p) ⟨fun r h=>zCL,fun z h=>zBV⟩ ?_;refine W2 h m (v+1) _ (fun x hx=>?_) zAk hc;rcases List.mem_append.1 hx with hx|hx
    · exact hs x hx
    · have e:=List.mem_singleton.1 hx;subst e;exact Zi (ZD.YD h)
theorem Ux{a0:ZD}(h:Sm n a0)(h2:Sm n a2):Sm n (X3 a0 a1 a2 a3).1:=by
  unfold X3;obtain⟨k1,k2⟩:=W2 (a2:=a2) h (a2.length+1) 0 [] (fun x hx=>zCB) (Nat.zero_le _) (Nat.zero_le _);have h0:Sm n (Yy.mk 0 0 [] 0):=by simp[Y9]
  cases hh:K7 a0 a2 (a2.length+1) 0 []with
  |inl r=>rw[k1 r hh];exact h0
  |inr z=>
    obtain⟨q1,q2⟩:=k2 z hh;have hz:Sm n z:=⟨by have:=YA h2;omega,q2⟩
    dsimp only;refine ZG (p:=fun w:Yy×Bool=>Sm n w.1) h0 ?_;simp[hz]
theorem LS{a0:ZD}(hb:n<=9223372036854775807)(h:Sm n a0):Sm n (qd a0 a1).1:=by
  unfold qd;by_cases hk:Z1 a0 a1<0
  · rw[decide_eq_true hk];exact h
  · rw[decide_eq_false hk];have hi:=ZD.YD h
    have hf:=Jx a0 a1;have hl:=YA hi;refine⟨?_,fun y hy=>?_⟩
    · have hm:(a0.ZE.take (Z1 a0 a1).toNat++a0.ZE.drop (W (Z1 a0 a1+1)).toNat).length<=n:=by have w:W (Z1 a0 a1+1)=Z1 a0 a1+1:=YQ zAC zAC;rw[w];simp;omega
      exact hm
    · have hy':y∈a0.ZE.take (Z1 a0 a1).toNat\/y∈a0.ZE.drop (W (Z1 a0 a1+1)).toNat:=List.mem_append.1 hy;rcases hy' with hy|hy
      · exact hi.2 y (List.mem_of_mem_take hy)
      · exact hi.2 y (List.mem_of_mem_drop hy)
theorem Iv(a0:Yy)(a1:Int)(h:z7 a0 a1=true):a0.ZE.length<=8:=by
  unfold z7 at h;have hk:∀n v r,zN a0 n v= .inl r->r=false:=by
    intro n;induction n with
    |zero=>intro v r h;cases h
    |succ n ih=>intro v r h;rw[zN]at h;grind
  cases hh:zN a0 (a0.ZE.length+1) 0 with
  |inl r=>rw[hh]at h;have:=hk _ _ _ hh;subst this;cases h
  |inr u=>rw[hh]at h;simp only[Ye,Bool.and_eq_true,decide_eq_true_eq]at h;omega
theorem We{n:Nat}{a0:ZD}{a2:List Int}(h:Sm n a0):∀(m v:Nat)(l:List ZO),(∀x∈l,Sm n x)->l.length<=v->v<=a2.length->
    (∀r,K6 a0 a2 m v l= .inl r->r=(Yy.mk 0 0 [] 0,false))/\∀z,K6 a0 a2 m v l= .inr z->z.length<=a2.length/\∀x∈z,Sm n x
  |0,v,l,_,_,_=>⟨fun r h=>zBV,fun z h=>zBh⟩
  |m+1,v,l,hs,hl,hv=>by
    rw[K6];let p:=fun w:Sum (Yy×Bool) (List ZO)=>(∀r,w= .inl r->r=(Yy.mk 0 0 [] 0,false))/\∀z,w= .inr z->z.length<=a2.length/\∀x∈z,Sm n x
    refine Ys (p:=p) (fun hc=>?_) (fun _=>⟨fun r h=>zBV,fun z h=>zCP⟩);have hc:v<a2.length:=zBc
    refine ZG (p:=p) ⟨fun r h=>zCL,fun z h=>zBV⟩ ?_;refine We h m (v+1) _ (fun x hx=>?_) zAk hc;rcases List.mem_append.1 hx with hx|hx
    · exact hs x hx
    · have e:=List.mem_singleton.1 hx;subst e;exact Zi (ZD.YD h)
theorem Uf{a0:ZD}(h:Sm n a0)(h2:Sm n a2):Sm n (XX a0 a1 a2 a3).1:=by
  unfold XX;obtain⟨k1,k2⟩:=We (a2:=a2) h (a2.length+1) 0 [] (fun x hx=>zCB) (Nat.zero_le _) (Nat.zero_le _);have h0:Sm n (Yy.mk 0 0 [] 0):=by simp[Y9]
  cases hh:K6 a0 a2 (a2.length+1) 0 []with
  |inl r=>rw[k1 r hh];exact h0
  |inr z=>
    obtain⟨q1,q2⟩:=k2 z hh;have hz:Sm n z:=⟨by have:=YA h2;omega,q2⟩
    dsimp only;refine ZG (p:=fun w:Yy×Bool=>Sm n w.1) h0 ?_;simp[hz]
theorem LN{a0:ZD}(h:Sm n a0):Sm n (ql a0 a1).1:=by
  have hi:=ZD.YD h;have hl:=YA hi;have key:∀m v l,(∀x∈l,Sm n x)->l.length<=v->v<=a0.ZE.length->(y5 a0 a1 m v l).length<=a0.ZE.length/\∀x∈y5 a0 a1 m v l,Sm n x:=by
    intro m;induction m with
    |zero=>intro v l _ _ _;exact⟨Nat.zero_le _,fun x hx=>zCB⟩
    |succ m ih=>
      intro v l hs hl hv;rw[y5];let p:=fun w:List ZO=>w.length<=a0.ZE.length/\∀x∈w,Sm n x
      refine Ys (p:=p) (fun hc=>?_) (fun _=>⟨zAC,hs⟩);have hc:v<a0.ZE.length:=zBc
      refine ZG (p:=p) (ih _ _ (fun x hx=>?_) zAk hc) (ih _ _ hs zAC hc);rcases List.mem_append.1 hx with hx|hx
      · exact hs x hx
      · have e:=List.mem_singleton.1 hx;subst e;exact Zi hi
  unfold ql;obtain⟨k1,k2⟩:=key (a0.ZE.length+1) 0 [] (fun x hx=>zCB) (Nat.zero_le _) (Nat.zero_le _);refine ZG (p:=fun w:ZD×Bool=>Sm n w.1) h ?_;exact⟨by dsimp only;omega,k2⟩
theorem BH(h:Sm n a0):Sm n (ka a0 a1).1:=by refine ZG (p:=fun w:ZF×Bool=>Sm n w.1) h ?_;exact⟨h.1,h.2⟩
theorem EJ(h:Sm n a0):Sm n (yq a0 a1).1:=by refine ZG (p:=fun w:ZF×Bool=>Sm n w.1) h ?_;exact⟨h.1,h.2.1,qj h.2.2.1 trivial,h.2.2.2⟩
theorem BO{a2:Int}{a3:ZL}(h:Sm n a0)(hd:Sm n a3)(hn:9<=n):Sm (n+1) (kU a0 a1 a2 a3 a4 a5).1:=
  ZG (p:=fun w:ZF×Bool=>Sm (n+1) w.1) (ZK (Nat.le_succ n) h) (Kk h hd hn)
theorem Hj(a0:ZF)(a1 a2:Int)(a3:ZL)(a4 a5:Int):(XP a0 a1 a2 a3 a4 a5).1.Ym=a0.Ym:=by
  have key:∀m v r,Jr a0 a1 a2 a3 a4 a5 m v= .inl r->r.1.Ym=a0.Ym:=by
    intro m;induction m with
    |zero=>intro v r h;cases h
    |succ m ih=>intro v r h;unfold Jr at h;grind
  unfold XP;grind
theorem Ew{a2:Int}{a3:ZL}(h:Sm n a0)(hd:Sm n a3)(hn:9<=n):Sm (n+1) (ym a0 a1 a2 a3).1:=by
  unfold ym;have hs:Sm (n+1) (XP a0 a1 a2 a3 0 10000).1:=Kk h hd hn
  refine ZG (p:=fun w:ZF×Bool=>Sm (n+1) w.1) (ZK (Nat.le_succ n) h) (ZG (p:=fun w:ZF×Bool=>Sm (n+1) w.1) ?_ hs);refine⟨hs.1,hs.2.1,hs.2.2.1,hs.2.2.2.1,hs.2.2.2.2.1,hs.2.2.2.2.2.1,⟨?_,fun _ _=>trivial⟩⟩;show(_++[a0.Next]).length<=n+1
  rw[Hj];have:=YA (ZF.Mg h)
  simp;omega
theorem C7{a0:ZU}{a1:ZV}(h:Sm n a0)(hp:Sm (n+1) a1):Sm (n+1) (qb a0 a1).1:=by
  have h1:Sm (n+1) a0:=ZK (Nat.le_succ n) h;refine ZG (p:=fun w:ZU×Bool=>Sm (n+1) w.1) h1 ?_;refine⟨⟨?_,fun x hx=>?_⟩,h1.2⟩
  · have:=h.1.1;simp;omega
  · rcases List.mem_append.1 hx with hx|hx
    · exact h1.1.2 x hx
    · have e:=List.mem_singleton.1 hx;subst e;exact hp
theorem Oo{a0:ZU}{a1:ZZ}(h:Sm n a0)(hp:Sm (n+1) a1):Sm (n+1) (Qr a0 a1).1:=by
  have h1:Sm (n+1) a0:=ZK (Nat.le_succ n) h;refine ZG (p:=fun w:ZU×Bool=>Sm (n+1) w.1) h1 ?_;refine⟨h1.1,⟨?_,fun x hx=>?_⟩⟩
  · have:=h.2.1;simp;omega
  · rcases List.mem_append.1 hx with hx|hx
    · exact h1.2.2 x hx
    · have e:=List.mem_singleton.1 hx;subst e;exact hp
theorem Ce{a0:ZD}{a2:ZV}(h:Sm n a0)(hp:Sm (n+1) a2):Sm (n+1) (qN a0 a1 a2).1:=by have h1:Sm (n+1) a0:=ZK (Nat.le_succ n) h;refine ZG (p:=fun w:ZD×Bool=>Sm (n+1) w.1) h1 ?_;refine qj (ZD.YD h1) ?_;have hi:Sm n (nth a0.ZE (Z1 a0 a1).toNat):=Zi (ZD.YD h);exact⟨(ZK (Nat.le_succ n) hi).1,C7 hi.2 hp⟩
theorem Lu{x:ZD}(h:Sm n a0)(hx:Sm n x):Sm n (ZF.mk a0.Frame a0.Zd a0.YW (a0.ZA.set i x) a0.XW a0.XA a0.Next a0.Ym):=
  ⟨h.1,h.2.1,h.2.2.1,qj h.2.2.2.1 hx,h.2.2.2.2⟩
theorem RZ{a2:Int}{a3:Zx}(h:Sm n a0)(hn:5<=n):Sm (n+1) (KP a0 a1 a2 a3).1:=by have h1:Sm (n+1) a0:=ZK (Nat.le_succ n) h;refine ZG (p:=fun w:ZF×Bool=>Sm (n+1) w.1) h1 ?_;exact Lu h1 (Ce (Zi (ZF.Z6 h)) (Px zAC))
theorem EO(h:Sm n a0)(hn:5<=n):Sm (n+1) (y9 a0 a1).1:=by
  have h1:Sm (n+1) a0:=ZK (Nat.le_succ n) h;let p:=fun w:ZF×Bool=>Sm (n+1) w.1
  exact ZG (p:=p) h1 (ZG (p:=p) h1 (ZG (p:=p) (RZ h hn) (RZ h hn)))
theorem Bl{a2:Int}(h:Sm n a0)(hn:5<=n):Sm (n+1) (kg a0 a1 a2).1:=by have h1:Sm (n+1) a0:=ZK (Nat.le_succ n) h;exact ZG (p:=fun w:ZF×Bool=>Sm (n+1) w.1) h1 (RZ h hn)
theorem Fz{a0:ZD}(h:Sm n a0):Sm n (jQ a0 a1).1:=by
  have hi:=ZD.YD h;have key:∀m v l,(∀x∈l,Sm n x)->l.length<=v->v<=a0.ZE.length->(J6 a0 a1 m v l).length<=a0.ZE.length/\∀x∈J6 a0 a1 m v l,Sm n x:=by
    intro m;induction m with
    |zero=>intro v l _ _ _;exact⟨Nat.zero_le _,fun x hx=>zCB⟩
    |succ m ih=>
      intro v l hs hl hv;rw[J6];let p:=fun w:List ZO=>w.length<=a0.ZE.length/\∀x∈w,Sm n x
      refine Ys (p:=p) (fun hc=>?_) (fun _=>⟨zAC,hs⟩);have hc:v<a0.ZE.length:=zBc
      refine ZG (p:=p) (ih _ _ (fun x hx=>?_) zAk hc) (ih _ _ hs zAC hc);rcases List.mem_append.1 hx with hx|hx
      · exact hs x hx
      · have e:=List.mem_singleton.1 hx;subst e;exact Zi hi
  obtain⟨k1,k2⟩:=key (a0.ZE.length+1) 0 [] (fun x hx=>zCB) (Nat.zero_le _) (Nat.zero_le _);have:=YA hi
  exact⟨by show(J6 a0 a1 (a0.ZE.length+1) 0 []).length<=n;omega,k2⟩
theorem Fh(h:Sm n a0):Sm n (yw a0 a1).1:=
  ZG (p:=fun w:ZF×Bool=>Sm n w.1) h (Lu h (Fz (Zi (ZF.Z6 h))))
theorem Hn{a0:ZD}{a2:List ZX}(h:Sm n a0)(hp:Sm n a2)(hn:17<=n):Sm (n+1) (Jy a0 a1 a2).1:=by
  have h1:Sm (n+1) a0:=ZK (Nat.le_succ n) h;have hi:=ZD.YD h;have key:∀m v l,l.length=a0.ZE.length->(∀x∈l,Sm (n+1) x)->(∀r,KW a0 a1 a2 m v l= .inl r->r=(a0,false))/\∀z,KW a0 a1 a2 m v l= .inr z->z.length<=a0.ZE.length/\∀x∈z,Sm (n+1) x:=by
    intro m;induction m with
    |zero=>intro v l _ _;exact⟨fun r h=>zBV,fun z h=>zBh⟩
    |succ m ih=>
      intro v l hl hs;rw[KW];let p:=fun w:Sum (ZD×Bool) (List ZO)=>(∀r,w= .inl r->r=(a0,false))/\∀z,w= .inr z->z.length<=a0.ZE.length/\∀x∈z,Sm (n+1) x
      refine ZG (p:=p) (ZG (p:=p) ⟨fun r h=>zCL,fun z h=>zBV⟩ (ih _ _ (by rw[List.length_set];exact hl) (fun x hx=>?_))) ⟨fun r h=>zBV,fun z h=>zCP⟩;rcases List.mem_or_eq_of_mem_set hx with hx|rfl
      · exact hs x hx
      · have hx0:Sm (n+1) (nth l v):=by
          by_cases hv:v<l.length
          · have:nth l v=l[v]:=by simp[nth,List.getD_eq_getElem?_getD,List.getElem?_eq_getElem hv]
            rw[this];exact hs _ (List.getElem_mem hv)
          · have:nth l v=default:=zBt;rw[this];exact Sz.zero _
        have hv:Sm n (nth a0.ZE v):=Zi hi;refine⟨hx0.1,Oo hv.2 ?_⟩;exact⟨LQ zAC,ZK (Nat.le_succ n) hp⟩
  unfold Jy;refine ZG (p:=fun w:ZD×Bool=>Sm (n+1) w.1) h1 ?_;obtain⟨k1,k2⟩:=key (a0.ZE.length+1) 0 a0.ZE rfl (fun x hx=>ZK (Nat.le_succ n) (hi.2 x hx));cases hh:KW a0 a1 a2 (a0.ZE.length+1) 0 a0.ZE with
  |inl r=>rw[k1 r hh];exact h1
  |inr z=>
    obtain⟨q1,q2⟩:=k2 z hh;have:=YA hi
    exact ZG (p:=fun w:ZD×Bool=>Sm (n+1) w.1) h1 ⟨by show z.length<=n+1;omega,q2⟩
theorem Vj{n:Nat}{a0:ZF}{a1:Int}{a2:List Int}{a3:Int}:∀(m:Nat)(l:List ZX)(v:Nat)(q:List Int),l.length<=v->v<=a2.length->
    (∀r,Ju a0 a1 a2 a3 m l v q= .inl r->r=(a0,false))/\∀z,Ju a0 a1 a2 a3 m l v q= .inr z->z.1.length<=a2.length/\z.2.length<=q.length
  |0,_,_,_,_,_=>⟨fun r h=>zBV,fun z h=>(by cases h;exact⟨Nat.zero_le _,Nat.zero_le _⟩)⟩
  |m+1,l,v,q,hl,hv=>by
    rw[Ju];let p:=fun w:Sum (ZF×Bool) (List ZX×List Int)=>(∀r,w= .inl r->r=(a0,false))/\∀z,w= .inr z->z.1.length<=a2.length/\z.2.length<=q.length
    have bad:p (.inl (a0,false)):=⟨fun r h=>zCL,fun z h=>zBV⟩;refine Ys (p:=p) (fun hc=>?_) (fun _=>⟨fun r h=>zBV,fun z h=>(by cases h;exact⟨Nat.le_trans hl hv,Nat.le_refl _⟩)⟩);have hc:v<a2.length:=zBc;have step:∀x i y,p (Ju a0 a1 a2 a3 m (l++[x]) (v+1) (q.set i y)):=fun x i y=>by obtain⟨k1,k2⟩:=Vj (n:=n) (a0:=a0) (a1:=a1) (a2:=a2) (a3:=a3) m (l++[x]) (v+1) (q.set i y) zAk hc;grind
    grind
theorem Ds(h:Sm n a0)(h2:Sm n a2)(hn:17<=n):Sm (n+1) (yi a0 a1 a2 a3).1:=by
  have h1:Sm (n+1) a0:=ZK (Nat.le_succ n) h;unfold yi;refine ZG (p:=fun w:ZF×Bool=>Sm (n+1) w.1) h1 ?_;obtain⟨k1,k2⟩:=Vj (n:=n) (a0:=a0) (a1:=a1) (a2:=a2) (a3:=a3) (a2.length+1) [] 0 a0.XW (Nat.zero_le _) (Nat.zero_le _);cases hh:Ju a0 a1 a2 a3 (a2.length+1) [] 0 a0.XW with
  |inl r=>rw[k1 r hh];exact h1
  |inr z=>
    obtain⟨q1,q2⟩:=k2 z hh;obtain⟨z0,z1⟩:=z;have e2:=YA h2
    have e3:=YA (ZF.wg h);have hs:Sm n z0:=⟨by simp only at q1;omega,fun _ _=>trivial⟩;refine ZG (p:=fun w:ZF×Bool=>Sm (n+1) w.1) h1 ?_;exact⟨h1.1,h1.2.1,h1.2.2.1,qj h1.2.2.2.1 (Hn (Zi (ZF.Z6 h)) hs hn),⟨by simp only at q2⊢;omega,fun _ _=>trivial⟩,h1.2.2.2.2.2⟩
theorem Iq{a0:ZD}{a1:Yy}{a2:Int}(h:Sm n a0)(hp:Sm n a1):Sm (n+a1.ZE.length) (QQ a0 a1 a2).1:=by
  have h1:Sm (n+a1.ZE.length) a0:=ZK (Nat.le_add_right _ _) h;have key:∀m v d l,Sm (n+v) (ZD.mk d l)->v<=a1.ZE.length->(∀r,K2 a0 a1 m v d l= .inl r->r=(a0,false))/\∀z,K2 a0 a1 m v d l= .inr z->Sm (n+a1.ZE.length) (ZD.mk z.1 z.2):=by
    intro m;induction m with
    |zero=>intro v d l _ _;exact⟨fun r h=>zBV,fun z h=>(by cases h;exact zK)⟩
    |succ m ih=>
      intro v d l hs hv;rw[K2];let p:=fun w:Sum (ZD×Bool) (Int×List ZO)=>(∀r,w= .inl r->r=(a0,false))/\∀z,w= .inr z->Sm (n+a1.ZE.length) (ZD.mk z.1 z.2)
      refine Ys (p:=p) (fun hc=>?_) (fun _=>⟨fun r h=>zBV,fun z h=>(by cases h;exact ZK (Nat.add_le_add_left hv n) hs)⟩);have hc:v<a1.ZE.length:=zBc
      exact ZG (p:=p) ⟨fun r h=>zCL,fun z h=>zBV⟩ (ih _ _ _ (OO hs (ZK (Nat.le_succ_of_le (Nat.le_add_right n v)) (Zi (Yy.YD hp)))) hc)
  unfold QQ;refine ZG (p:=fun w:ZD×Bool=>Sm (n+a1.ZE.length) w.1) h1 ?_;obtain⟨k1,k2⟩:=key (a1.ZE.length+1) 0 a0.Id a0.ZE h (Nat.zero_le _);grind
theorem Gf{a0:ZD}(h:Sm n a0):(X3 a0 a1 a2 a3).1.ZE.length<=a2.length:=by unfold X3;obtain⟨k1,k2⟩:=W2 (a2:=a2) h (a2.length+1) 0 [] (fun x hx=>zCB) (Nat.zero_le _) (Nat.zero_le _);grind
theorem CZ{a0 a1:ZD}(hb:n<=9223372036854775807)(h0:Sm n a0)(h1:Sm n a1)(h2:Sm n a2):Sm n (Xy a0 a1 a2 a3).1/\Sm (n+a2.length) (Xy a0 a1 a2 a3).2.1:=by
  have hto:Sm (n+a2.length) (QQ a1 (X3 a0 a1.Id a2 a3).1 a3).1:=
    ZK (Nat.add_le_add_left (Gf h0) n) (Iq h1 (Ux h0 h2))
  have bad:Sm n a0/\Sm (n+a2.length) a1:=⟨h0,ZK (Nat.le_add_right _ _) h1⟩;have key:∀m v d l,Sm n (ZD.mk d l)->(∀r,xY a0 a1 a2 m v d l= .inl r->r=(a0,a1,false))/\∀z,xY a0 a1 a2 m v d l= .inr z->Sm n (ZD.mk z.1 z.2):=by
    intro m;induction m with
    |zero=>intro v d l _;exact⟨fun r h=>zBV,fun z h=>(by cases h;exact zK)⟩
    |succ m ih=>
      intro v d l hs;rw[xY];let p:=fun w:Sum (ZD×ZD×Bool) (Int×List ZO)=>(∀r,w= .inl r->r=(a0,a1,false))/\∀z,w= .inr z->Sm n (ZD.mk z.1 z.2)
      exact ZG (p:=p) (ZG (p:=p) ⟨fun r h=>zCL,fun z h=>zBV⟩ (ih _ _ _ (LS hb hs))) ⟨fun r h=>zBV,fun z h=>(by cases h;exact hs)⟩
  unfold Xy;let p:=fun w:ZD×ZD×Bool=>Sm n w.1/\Sm (n+a2.length) w.2.1
  refine ZG (p:=p) bad ?_;obtain⟨k1,k2⟩:=key (a2.length+1) 0 a0.Id a0.ZE h0;grind
theorem Cw{a2:Int}(hb:n<=9223372036854775807)(h:Sm n a0)(hn:1<=n):Sm (n+1) (kn a0 a1 a2 a3).1:=by
  have h1:Sm (n+1) a0:=ZK (Nat.le_succ n) h;have hm:=CZ (a0:=nth a0.ZA a1.toNat) (a1:=nth a0.ZA a2.toNat) (a2:=[a3]) (a3:=Zc a0.Frame.Methods a0.Frame.Now) hb (Zi (ZF.Z6 h)) (Zi (ZF.Z6 h)) ⟨hn,fun _ _=>trivial⟩;let p:=fun w:ZF×Bool=>Sm (n+1) w.1
  exact ZG (p:=p) h1 (ZG (p:=p) ⟨h1.1,h1.2.1,h1.2.2.1,qj (qj h1.2.2.2.1 (ZK (Nat.le_succ n) hm.1)) hm.2,h1.2.2.2.2⟩ h1)
theorem jk{a0:ZF}{a1 a2:Int}:∀(m v:Nat)(l:List ZX),(∀r,Jj a0 a1 a2 m v l= .inl r->r=(a0,false))/\∀z,Jj a0 a1 a2 m v l= .inr z->z.length<=l.length+((YP a0).length-v)
  |0,v,l=>⟨fun r h=>zBV,fun z h=>(by cases h;exact Nat.zero_le _)⟩
  |m+1,v,l=>by
    rw[Jj];let p:=fun w:Sum (ZF×Bool) (List ZX)=>(∀r,w= .inl r->r=(a0,false))/\∀z,w= .inr z->z.length<=l.length+((YP a0).length-v)
    refine Ys (p:=p) (fun hc=>?_) (fun _=>⟨fun r h=>zBV,fun z h=>(by cases h;exact Nat.le_add_right _ _)⟩);have hc:v<(YP a0).length:=zBc
    refine ZG (p:=p) ⟨fun r h=>zCL,fun z h=>zBV⟩ ?_;obtain⟨k1,k2⟩:=jk (a0:=a0) (a1:=a1) (a2:=a2) m (v+1) (l++[(QC a0.Frame.Zz a0.Frame.ZC (ZX.mk (nth (YP a0) v) 0 a2 (Ky (nth (nth a0.ZA (ZW a0 a1).1.toNat).ZE (ZW a0 a1).2.toNat) (Zc a0.Frame.Methods a0.Frame.Now)) 0)).1]);grind
theorem Hk{a2:Int}(h:Sm n a0):Sm (n+1) (KB a0 a1 a2).1:=by
  have h1:Sm (n+1) a0:=ZK (Nat.le_succ n) h;unfold KB;refine ZG (p:=fun w:ZF×Bool=>Sm (n+1) w.1) h1 ?_;obtain⟨k1,k2⟩:=jk (a0:=a0) (a1:=a1) (a2:=a2) ((YP a0).length+1) 0 [];cases hh:Jj a0 a1 a2 ((YP a0).length+1) 0 []with
  |inl r=>rw[k1 r hh];exact h1
  |inr z=>have hz:=k2 z hh;have hf:=Kh a0;have ha:=YA (ZT.Yv (ZF.Yx h));rw[List.length_nil]at hz;have hA:Sm n (nth a0.ZA (ZW a0 a1).1.toNat):=Zi (ZF.Z6 h);have hI:Sm n (nth (nth a0.ZA (ZW a0 a1).1.toNat).ZE (ZW a0 a1).2.toNat):=Zi (ZD.YD hA);refine Lu h1 (qj (ZD.YD (ZK (Nat.le_succ n) hA)) ⟨(ZK (Nat.le_succ n) hI).1,Oo hI.2 ?_⟩);exact⟨zK,⟨by show z.length<=n+1;omega,fun _ _=>trivial⟩⟩
theorem Oy{a1:Zo}(hb:n<=9223372036854775807)(h:Sm n a0)(he:Sm n a1)(hn:17<=n):Sm (n+1) (QG a0 a1).1:=by
  have h1:Sm (n+1) a0:=ZK (Nat.le_succ n) h;have up:∀w:ZF,Sm n w->Sm (n+1) w:=fun w hw=>ZK (Nat.le_succ n) hw;unfold QG;let p:=fun w:ZF×Bool=>Sm (n+1) w.1
  exact ZG (p:=p) (up _ (BH h)) (ZG (p:=p) (BO h he.1 zAC) (ZG (p:=p) (EO h zAC) (ZG (p:=p) (up _ (EJ h)) (ZG (p:=p) (Ds h he.2 hn) (ZG (p:=p) (Cw hb h zAC) (ZG (p:=p) (up _ (Fh h))
    (ZG (p:=p) (Ew h he.1 zAC) (ZG (p:=p) (Hk h) (ZG (p:=p) (Bl h zAC) h1)))))))))
theorem Kz(c:Z3):(Z5 c).2.length=10:=by simp[Z5]
theorem Mu(h:4<=n):Sm n K3:=⟨h,fun _ _=>trivial⟩
theorem wY(h:4<=n):Sm n TX:=⟨h,fun _ _=>trivial⟩
theorem wW(h:3<=n):Sm n Ta:=⟨h,fun _ _=>trivial⟩
theorem UF(a0:Int)(a1:List ByteArray)(a2:Int):∀(m v:Nat)(l:List Int),(yb a0 a1 a2 m v l).length<=l.length+m
  |0,_,_=>Nat.zero_le _
  |m+1,v,l=>by
    rw[yb];refine ZG (p:=fun r:List Int=>r.length<=l.length+(m+1)) ?_ zAC;have:=UF a0 a1 a2 m (v+1) (l++[O1 1 (WB a2 [a0,v])])
    grind
theorem Ij{a0:Int}{a1:List ByteArray}{a2:Int}(h:Sm n a1)(hn:a1.length+1<=n):Sm n (yW a0 a1 a2).1:=by
  unfold yW;have:=UF a0 a1 a2 (a1.length+1) 0 []
  refine ZG (p:=fun r:ZL×Bool=>Sm n r.1) ⟨Sz.zero n,Sz.zero n⟩ ⟨h,Nat.le_trans this (by simpa using hn),fun _ _=>trivial⟩
theorem LL:∀(m:Nat)(l:List ByteArray)(i:Int)(b:List UInt8)(j:Nat)(h:Int),(∀x∈l,x.size<=11)->(VP m l i b j h).1.length<=l.length+m/\∀x∈(VP m l i b j h).1,x.size<=11
  |0,_,_,_,_,_,_=>⟨Nat.zero_le _,fun x hx=>by cases hx⟩
  |m+1,l,i,b,j,h,hl=>by
    rw[VP];refine ZG (p:=fun r:(List ByteArray)×List UInt8×Nat×Int=>r.1.length<=l.length+(m+1)/\∀x∈r.1,x.size<=11) ?_ ⟨by show l.length<=_;omega,hl⟩;have:=LL m (l++[(yJ (Z3.mk b j h)).2]) (W (i-1)) (yJ (Z3.mk b j h)).1.b (yJ (Z3.mk b j h)).1.i (yJ (Z3.mk b j h)).1.h (fun x hx=>by
      rcases List.mem_append.1 hx with hx|hx
      · exact hl x hx
      · rw[List.mem_singleton.1 hx];exact M4 _)
    grind
theorem FI{a0:Z3}(h:20<=n):Sm n (Xn a0).2:=by
  unfold Xn;have:=LL 5 [] (W (1+(ZI a0 3).2)) (ZI a0 3).1.b (ZI a0 3).1.i (ZI a0 3).1.h (fun x hx=>by cases hx)
  simp only[List.length_nil]at this;exact Ij ⟨zAC,fun x hx=>Nat.le_trans (this.2 x hx) zAC⟩ zAC
theorem Cv{a0:ZU}{a1:ZV}(hn:n+1<=m)(h:Sm n a0)(hx:Sm m a1):Sm m (yy a0 a1).1:=by
  have h1:Sm m a0:=ZK zAC h;unfold yy;refine ZG (p:=fun r:ZU×Bool=>Sm m r.1) h1 ⟨⟨?_,fun y hy=>?_⟩,h1.2⟩
  · have:a0.ZM.length<=n:=h.1.1;simp only[List.length_append,List.length_singleton];omega
  · rcases List.mem_append.1 hy with hy|hy
    · exact h1.1.2 y hy
    · rw[List.mem_singleton.1 hy];exact hx
theorem O0{a0:ZU}{a1:ZZ}(hn:n+1<=m)(h:Sm n a0)(hx:Sm m a1):Sm m (QV a0 a1).1:=by
  have h1:Sm m a0:=ZK zAC h;unfold QV;refine ZG (p:=fun r:ZU×Bool=>Sm m r.1) h1 ⟨h1.1,⟨?_,fun y hy=>?_⟩⟩
  · have:a0.ZR.length<=n:=h.2.1;simp only[List.length_append,List.length_singleton];omega
  · rcases List.mem_append.1 hy with hy|hy
    · exact h1.2.2 y hy
    · rw[List.mem_singleton.1 hy];exact hx
theorem Rn{a0:Int}(h:20<=n):Sm n (kV a0):=by
  have hw:∀(k:Int)(l:List Int),l.length<=1->Sm n (ZF.mk (ZT.mk xQ K3 TX k 0) Ta ([-1,-1,-1]:List Int) ([ZD.mk 0 ([]:List ZO),ZD.mk 1 ([]:List ZO)]:List ZD) ([0,0,0,0]:List Int) l 1 ([]:List Int)):=fun k l hl=>by
    have h1:=RD (n:=n) zAC;have h2:=Mu (n:=n) zAC;have h3:=wY (n:=n) zAC;have h4:=wW (n:=n) zAC;have h5:Sm n ([ZD.mk 0 ([]:List ZO),ZD.mk 1 ([]:List ZO)]:List ZD):=⟨by simp;omega,fun y hy=>by
      rcases List.mem_cons.1 hy with rfl|hy
      · exact Sz.zero (α:=List ZO) _
      · rw[List.mem_singleton.1 hy];exact Sz.zero (α:=List ZO) _⟩
    have h6:∀l:List Int,l.length<=20->Sm n l:=fun l hl=>⟨zAC,fun _ _=>trivial⟩;simp only[ZF.Uy,ZT.Uy];grind
  unfold kV;grind
theorem LG(a0:Int)(h:20<=n):Sm n (YC a0):=by
  have h1:Sm n JD:=⟨Nat.le_trans (show JD.length<=20 by decide) h,fun _ _=>trivial⟩;have h2:Sm n (Wt 5 0 ([]:List Za)):=⟨Nat.le_trans (show(Wt 5 0 ([]:List Za)).length<=20 by decide+kernel) h,fun _ _=>trivial⟩;have h3:Sm n Qq:=⟨Nat.le_trans (show Qq.length<=20 by decide) h,fun _ _=>trivial⟩;have h4:Sm n (WN 4 0 ([]:List YL)):=⟨Nat.le_trans (show(WN 4 0 ([]:List YL)).length<=20 by decide+kernel) h,fun _ _=>trivial⟩;have h5:Sm n ([ZD.mk 0 ([]:List ZO),ZD.mk 1 ([]:List ZO)]:List ZD):=⟨by simp;omega,fun y hy=>by
      rcases List.mem_cons.1 hy with rfl|hy
      · exact Sz.zero (α:=List ZO) _
      · rw[List.mem_singleton.1 hy];exact Sz.zero (α:=List ZO) _⟩
  have h6:∀l:List Int,l.length<=20->Sm n l:=fun l hl=>⟨zAC,fun _ _=>trivial⟩;unfold YC;refine ZG (p:=fun r:ZF=>Sm n r) ?_ ?_;all_goals
    simp only[ZF.Uy,ZT.Uy];simp only[h1,h2,h3,h4,h5,h6 _ (show([-1,-1,-1]:List Int).length<=20 by decide),h6 _ (show(List.replicate 4 (0:Int)).length<=20 by decide),h6 [1] zAF,h6 [] zAF,and_self]
theorem TS{x:ZD}(h:Sm n a0)(hx:Sm n x):Sm n (ZF.mk a0.Frame a0.Zd a0.YW (a0.ZA.set i x) a0.XW a0.XA a0.Next a0.Ym):=
  ⟨h.1,h.2.1,h.2.2.1,qj h.2.2.2.1 hx,h.2.2.2.2⟩
theorem Bj(h:Sm n a0):Sm n (VR a0 a1).1:=by refine ZG (p:=fun w:ZF×Bool=>Sm n w.1) h ?_;exact⟨h.1,h.2⟩
theorem EH(h:Sm n a0):Sm n (qw a0 a1).1:=by refine ZG (p:=fun w:ZF×Bool=>Sm n w.1) h ?_;exact⟨h.1,h.2.1,qj h.2.2.1 trivial,h.2.2.2⟩
theorem Cy{a2:Int}{a3:ZL}(h:Sm n a0)(hd:Sm n a3)(hn:9<=n):Sm (n+1) (VW a0 a1 a2 a3 a4 a5).1:=by have h1:Sm (n+1) a0:=ZK (Nat.le_succ n) h;have ha:Sm (n+1) (Qj (nth a0.ZA a1.toNat) (QZ a0 a2 a3 a4 a5).1).1:=TR (Zi (ZF.Z6 h)) (jN hd hn);refine ZG (p:=fun w:ZF×Bool=>Sm (n+1) w.1) h1 (ZG (p:=fun w:ZF×Bool=>Sm (n+1) w.1) h1 (ZG (p:=fun w:ZF×Bool=>Sm (n+1) w.1) h1 ?_));exact⟨h1.1,h1.2.1,h1.2.2.1,qj h1.2.2.2.1 ha,h1.2.2.2.2⟩
theorem DF{a2:Int}{a3:ZL}(h:Sm n a0)(hd:Sm n a3)(hn:9<=n):Sm (n+1) (WK a0 a1 a2 a3).1:=by have h1:Sm (n+1) a0:=ZK (Nat.le_succ n) h;have ha:Sm (n+1) (Qj (nth a0.ZA a1.toNat) (QZ a0 a2 a3 0 10000).1).1:=TR (Zi (ZF.Z6 h)) (jN hd hn);refine ZG (p:=fun w:ZF×Bool=>Sm (n+1) w.1) h1 (ZG (p:=fun w:ZF×Bool=>Sm (n+1) w.1) h1 (ZG (p:=fun w:ZF×Bool=>Sm (n+1) w.1) h1 ?_));have:=YA (ZF.Mg h);exact⟨h1.1,h1.2.1,h1.2.2.1,qj h1.2.2.2.1 ha,h1.2.2.2.2.1,h1.2.2.2.2.2.1,⟨by simp;omega,fun _ _=>trivial⟩⟩
theorem MI{a0:ZD}{a2:ZV}(h:Sm n a0)(hp:Sm (n+1) a2):Sm (n+1) (Xr a0 a1 a2).1:=by have h1:Sm (n+1) a0:=ZK (Nat.le_succ n) h;refine ZG (p:=fun w:ZD×Bool=>Sm (n+1) w.1) h1 ?_;refine qj (ZD.YD h1) ?_;have hi:Sm n (nth a0.ZE (Y1 a0 a1).toNat):=Zi (ZD.YD h);exact⟨(ZK (Nat.le_succ n) hi).1,Cv (Nat.le_refl _) hi.2 hp⟩
theorem ER(h:Sm n a0)(hn:5<=n):Sm (n+1) (jC a0 a1).1:=by
  have h1:Sm (n+1) a0:=ZK (Nat.le_succ n) h;let p:=fun w:ZF×Bool=>Sm (n+1) w.1
  have k:∀i x,Sm (n+1) (ZF.mk a0.Frame a0.Zd a0.YW (a0.ZA.set i (Xr (nth a0.ZA i) a1 (XF x)).1) a0.XW a0.XA a0.Next a0.Ym):=fun i x=>
    TS h1 (MI (Zi (ZF.Z6 h)) (yR zAC))
  exact ZG (p:=p) h1 (ZG (p:=p) h1 (ZG (p:=p) (ZG (p:=p) h1 (k _ _)) (ZG (p:=p) h1 (k _ _))))
theorem Br{a2:Int}(h:Sm n a0)(hn:5<=n):Sm (n+1) (VO a0 a1 a2).1:=by
  have h1:Sm (n+1) a0:=ZK (Nat.le_succ n) h;let p:=fun w:ZF×Bool=>Sm (n+1) w.1
  have k:∀i x,Sm (n+1) (ZF.mk a0.Frame a0.Zd a0.YW (a0.ZA.set i (Xr (nth a0.ZA i) a1 (XF x)).1) a0.XW a0.XA a0.Next a0.Ym):=fun i x=>
    TS h1 (MI (Zi (ZF.Z6 h)) (yR zAC))
  exact ZG (p:=p) h1 (ZG (p:=p) h1 (ZG (p:=p) h1 (k _ _)))
theorem Fq{a0:ZD}(h:Sm n a0):Sm n (jG a0 a1).1:=by
  have hi:=ZD.YD h;have key:∀m c v l,(∀x∈l,Sm n x)->l.length<=v->v<=a0.ZE.length->(J8 a0 a1 m c v l).2.length<=a0.ZE.length/\∀x∈(J8 a0 a1 m c v l).2,Sm n x:=by
    intro m;induction m with
    |zero=>intro c v l _ _ _;exact⟨Nat.zero_le _,fun x hx=>zCB⟩
    |succ m ih=>
      intro c v l hs hl hv;rw[J8];let p:=fun w:Int×List ZO=>w.2.length<=a0.ZE.length/\∀x∈w.2,Sm n x
      refine Ys (p:=p) (fun hc=>?_) (fun _=>⟨by show l.length<=_;omega,hs⟩);have hc:v<a0.ZE.length:=zBc
      refine ZG (p:=p) (ih _ _ _ hs zAC hc) (ih _ _ _ (fun x hx=>?_) zAk hc);rcases List.mem_append.1 hx with hx|hx
      · exact hs x hx
      · have e:=List.mem_singleton.1 hx;subst e;exact Zi hi
  have hk:=key (a0.ZE.length+1) 0 0 [] (fun x hx=>zCB) (Nat.zero_le _) (Nat.zero_le _);have:=YA hi;unfold jG;cases hh:J8 a0 a1 (a0.ZE.length+1) 0 0 []with
  |mk z0 z1=>rw[hh]at hk;exact⟨by show z1.length<=n;have:=hk.1;simp only at this;omega,hk.2⟩
theorem EX(h:Sm n a0):Sm n (jb a0 a1).1:=
  ZG (p:=fun w:ZF×Bool=>Sm n w.1) h (TS h (Fq (Zi (ZF.Z6 h))))
theorem H9{a0:ZD}{a2:List ZX}(h:Sm n a0)(hp:Sm n a2)(hn:17<=n):Sm (n+1) (QR a0 a1 a2).1:=by
  have h1:Sm (n+1) a0:=ZK (Nat.le_succ n) h;have hi:=ZD.YD h;have key:∀m b v l,l.length=a0.ZE.length->(∀x∈l,Sm (n+1) x)->(KV a0 a1 a2 m b v l).2.length<=a0.ZE.length/\∀x∈(KV a0 a1 a2 m b v l).2,Sm (n+1) x:=by
    intro m;induction m with
    |zero=>intro b v l _ _;exact⟨Nat.zero_le _,fun x hx=>zCB⟩
    |succ m ih=>
      intro b v l hl hs;rw[KV];let p:=fun w:Bool×List ZO=>w.2.length<=a0.ZE.length/\∀x∈w.2,Sm (n+1) x
      refine ZG (p:=p) (ih _ _ _ (by rw[List.length_set];exact hl) (fun x hx=>?_)) ⟨by show l.length<=_;omega,hs⟩;rcases List.mem_or_eq_of_mem_set hx with hx|rfl
      · exact hs x hx
      · have hx0:Sm (n+1) (nth l v):=by
          by_cases hv:v<l.length
          · have:nth l v=l[v]:=by simp[nth,List.getD_eq_getElem?_getD,List.getElem?_eq_getElem hv]
            rw[this];exact hs _ (List.getElem_mem hv)
          · have:nth l v=default:=zBt;rw[this];exact Sz.zero _
        have hv:Sm n (nth a0.ZE v):=Zi hi;refine⟨hx0.1,O0 (Nat.le_refl _) hv.2 ?_⟩;exact⟨LX zAC,ZK (Nat.le_succ n) hp⟩
  have hk:=key (a0.ZE.length+1) (JG a0&&(decide ((a0.ZE.length:Int)>0))) 0 a0.ZE rfl (fun x hx=>ZK (Nat.le_succ n) (hi.2 x hx));have:=YA hi;unfold QR;cases hh:KV a0 a1 a2 (a0.ZE.length+1) (JG a0&&(decide ((a0.ZE.length:Int)>0))) 0 a0.ZE with
  |mk z0 z1=>rw[hh]at hk;exact ZG (p:=fun w:ZD×Bool=>Sm (n+1) w.1) h1 ⟨by show z1.length<=n+1;have:=hk.1;simp only at this;omega,hk.2⟩
theorem RP{a0:ZF}{a2:List Int}:∀(m v:Nat)(q:List Int),(jn a0 a2 m v q).length<=q.length
  |0,_,_=>Nat.zero_le _
  |m+1,v,q=>by rw[jn];refine ZG (p:=fun w:List Int=>w.length<=q.length) ?_ (Nat.le_refl _);exact Nat.le_trans (RP m (v+1) _) (by rw[List.length_set];exact Nat.le_refl _)
theorem PY{a0:ZF}{a1:Int}{a2:List Int}{a3:Int}:∀(m:Nat)(l:List ZX)(v:Nat),l.length<=v->v<=a2.length->
    (∀r,Jp a0 a1 a2 a3 m l v= .inl r->r=(a0,false))/\∀z,Jp a0 a1 a2 a3 m l v= .inr z->z.length<=a2.length
  |0,_,_,_,_=>⟨fun r h=>zBV,fun z h=>(by cases h;exact Nat.zero_le _)⟩
  |m+1,l,v,hl,hv=>by
    rw[Jp];let p:=fun w:Sum (ZF×Bool) (List ZX)=>(∀r,w= .inl r->r=(a0,false))/\∀z,w= .inr z->z.length<=a2.length
    have bad:p (.inl (a0,false)):=⟨fun r h=>zCL,fun z h=>zBV⟩;refine Ys (p:=p) (fun hc=>?_) (fun _=>⟨fun r h=>zBV,fun z h=>(by cases h;exact Nat.le_trans hl hv)⟩);have hc:v<a2.length:=zBc;have step:∀x,p (Jp a0 a1 a2 a3 m (l++[x]) (v+1)):=fun x=>
      PY m (l++[x]) (v+1) zAk hc
    grind
theorem E2(h:Sm n a0)(h2:Sm n a2)(hn:17<=n):Sm (n+1) (qI a0 a1 a2 a3).1:=by
  have h1:Sm (n+1) a0:=ZK (Nat.le_succ n) h;unfold qI;refine ZG (p:=fun w:ZF×Bool=>Sm (n+1) w.1) h1 ?_;obtain⟨k1,k2⟩:=PY (a0:=a0) (a1:=a1) (a2:=a2) (a3:=a3) (a2.length+1) [] 0 (Nat.zero_le _) (Nat.zero_le _);cases hh:Jp a0 a1 a2 a3 (a2.length+1) [] 0 with
  |inl r=>rw[k1 r hh];exact h1
  |inr z=>have q1:=k2 z hh;have q2:=RP (a0:=a0) (a2:=a2) (a2.length+1) 0 a0.XW;have e2:=YA h2;have e3:=YA (ZF.wg h);have hs:Sm n z:=⟨zAC,fun _ _=>trivial⟩;refine ZG (p:=fun w:ZF×Bool=>Sm (n+1) w.1) h1 ?_;exact⟨h1.1,h1.2.1,h1.2.2.1,qj h1.2.2.2.1 (H9 (Zi (ZF.Z6 h)) hs hn),⟨Nat.le_trans q2 (Nat.le_succ_of_le e3),fun _ _=>trivial⟩,h1.2.2.2.2.2⟩
theorem HT{a0:ZD}{a1:Yy}{a2:Int}(h:Sm n a0)(hp:Sm n a1):Sm (n+a1.ZE.length) (Xw a0 a1 a2).1:=by
  have h1:Sm (n+a1.ZE.length) a0:=ZK (Nat.le_add_right _ _) h;have key:∀m b v d l,Sm (n+v) (ZD.mk d l)->v<=a1.ZE.length->Sm (n+a1.ZE.length) (ZD.mk (K1 a1 m b v d l).2.1 (K1 a1 m b v d l).2.2):=by
    intro m;induction m with
    |zero=>intro b v d l _ _;exact zK
    |succ m ih=>
      intro b v d l hs hv;rw[K1];let p:=fun w:Bool×Int×List ZO=>Sm (n+a1.ZE.length) (ZD.mk w.2.1 w.2.2)
      refine Ys (p:=p) (fun hc=>?_) (fun _=>ZK (Nat.add_le_add_left hv n) hs);have hc:v<a1.ZE.length:=by rw[Bool.and_eq_true]at hc;simpa using hc.1
      exact ih _ _ _ _ (TR hs (ZK (Nat.le_add_right n v) (Zi (Yy.YD hp)))) hc
  have hk:=key (a1.ZE.length+1) (z7 a1 a2&&(a1.To==a0.Id)) 0 a0.Id a0.ZE h (Nat.zero_le _);unfold Xw;grind
theorem GW{a0:ZD}(h:Sm n a0):(XX a0 a1 a2 a3).1.ZE.length<=a2.length:=by unfold XX;obtain⟨k1,k2⟩:=We (a2:=a2) h (a2.length+1) 0 [] (fun x hx=>zCB) (Nat.zero_le _) (Nat.zero_le _);grind
theorem CR{a0 a1:ZD}(h0:Sm n a0)(h1:Sm n a1)(h2:Sm n a2):Sm n (Q8 a0 a1 a2 a3).1/\Sm (n+a2.length) (Q8 a0 a1 a2 a3).2.1:=by
  have hto:Sm (n+a2.length) (Xw a1 (XX a0 a1.Id a2 a3).1 a3).1:=
    ZK (Nat.add_le_add_left (GW h0) n) (HT h1 (Uf h0 h2))
  have bad:Sm n a0/\Sm (n+a2.length) a1:=⟨h0,ZK (Nat.le_add_right _ _) h1⟩;have key:∀m b v d l,Sm n (ZD.mk d l)->Sm n (ZD.mk (xZ a0 a1 a2 a3 m b v d l).2.1 (xZ a0 a1 a2 a3 m b v d l).2.2):=by
    intro m;induction m with
    |zero=>intro b v d l _;exact zK
    |succ m ih=>intro b v d l hs;rw[xZ];exact ZG (p:=fun w:Bool×Int×List ZO=>Sm n (ZD.mk w.2.1 w.2.2)) (ih _ _ _ _ (LN hs)) hs
  have hk:=key (a2.length+1) (Xw a1 (XX a0 a1.Id a2 a3).1 a3).2 0 a0.Id a0.ZE h0;unfold Q8;grind
theorem BY{a2:Int}(h:Sm n a0)(hn:1<=n):Sm (n+1) (Vq a0 a1 a2 a3).1:=by
  have h1:Sm (n+1) a0:=ZK (Nat.le_succ n) h;have hm:=CR (a0:=nth a0.ZA a1.toNat) (a1:=nth a0.ZA a2.toNat) (a2:=[a3]) (a3:=Zp a0.Frame.Methods a0.Frame.Now) (Zi (ZF.Z6 h)) (Zi (ZF.Z6 h)) ⟨hn,fun _ _=>trivial⟩;let p:=fun w:ZF×Bool=>Sm (n+1) w.1
  exact ZG (p:=p) h1 ⟨h1.1,h1.2.1,h1.2.2.1,qj (qj h1.2.2.2.1 (ZK (Nat.le_succ n) hm.1)) hm.2,h1.2.2.2.2⟩
theorem U0{a0:ZF}{a1 a2:Int}:∀(m v:Nat)(l:List ZX),(∀r,JH a0 a1 a2 m v l= .inl r->r=(a0,false))/\∀z,JH a0 a1 a2 m v l= .inr z->z.length<=l.length+((YX a0).length-v)
  |0,v,l=>⟨fun r h=>zBV,fun z h=>(by cases h;exact Nat.zero_le _)⟩
  |m+1,v,l=>by
    rw[JH];let p:=fun w:Sum (ZF×Bool) (List ZX)=>(∀r,w= .inl r->r=(a0,false))/\∀z,w= .inr z->z.length<=l.length+((YX a0).length-v)
    refine Ys (p:=p) (fun hc=>?_) (fun _=>⟨fun r h=>zBV,fun z h=>(by cases h;exact Nat.le_add_right _ _)⟩);have hc:v<(YX a0).length:=zBc
    have step:∀x,p (JH a0 a1 a2 m (v+1) (l++[x])):=fun x=>by obtain⟨k1,k2⟩:=U0 (a0:=a0) (a1:=a1) (a2:=a2) m (v+1) (l++[x]);grind
    grind
theorem It{a2:Int}(h:Sm n a0):Sm (n+1) (zF a0 a1 a2).1:=by
  have h1:Sm (n+1) a0:=ZK (Nat.le_succ n) h;unfold zF;refine ZG (p:=fun w:ZF×Bool=>Sm (n+1) w.1) h1 ?_;obtain⟨k1,k2⟩:=U0 (a0:=a0) (a1:=a1) (a2:=a2) ((YX a0).length+1) 0 [];cases hh:JH a0 a1 a2 ((YX a0).length+1) 0 []with
  |inl r=>rw[k1 r hh];exact h1
  |inr z=>have hz:=k2 z hh;have hf:=Kf a0;have ha:=YA (ZT.Yv (ZF.Yx h));rw[List.length_nil]at hz;have hA:Sm n (nth a0.ZA (ZH a0 a1).1.toNat):=Zi (ZF.Z6 h);have hI:Sm n (nth (nth a0.ZA (ZH a0 a1).1.toNat).ZE (ZH a0 a1).2.toNat):=Zi (ZD.YD hA);refine TS h1 (qj (ZD.YD (ZK (Nat.le_succ n) hA)) ⟨(ZK (Nat.le_succ n) hI).1,O0 (Nat.le_refl _) hI.2 ?_⟩);exact⟨zK,⟨by show z.length<=n+1;omega,fun _ _=>trivial⟩⟩
theorem Pj{a1:Zo}(h:Sm n a0)(he:Sm n a1)(hn:17<=n):Sm (n+1) (Xm a0 a1).1:=by
  have h1:Sm (n+1) a0:=ZK (Nat.le_succ n) h;have up:∀w:ZF,Sm n w->Sm (n+1) w:=fun w hw=>ZK (Nat.le_succ n) hw;unfold Xm;let p:=fun w:ZF×Bool=>Sm (n+1) w.1
  exact ZG (p:=p) (up _ (Bj h)) (ZG (p:=p) (Cy h he.1 zAC) (ZG (p:=p) (ER h zAC) (ZG (p:=p) (up _ (EH h)) (ZG (p:=p) (E2 h he.2 hn) (ZG (p:=p) (BY h zAC) (ZG (p:=p) (up _ (EX h))
    (ZG (p:=p) (DF h he.1 zAC) (ZG (p:=p) (It h) (ZG (p:=p) (Br h zAC) h1)))))))))
theorem Pm(a1:List Zo)(N:Nat)(he:∀i,Sm N (nth a1 i))(h17:17<=N):∀(m v:Nat)(k:List Yg)(au:List Za)(me:List Z9)(li nw:Int)(c:List YL)(en:List Int)(ar:List ZD)(sq ly:List Int)(nx:Int)(fo:List Int),a1.length<m+v->v<=a1.length->Sm (N+v) (ZF.mk (ZT.mk k au me li nw) c en ar sq ly nx fo)->
    Sm (N+a1.length) (match jl a1 m v k au me li nw c en ar sq ly nx fo with|(ic,z1_1,z1_2,z1_3,z1_4,z1_5,z1_6,z1_7,z1_8,z1_9,z1_10,z1_11)=>ZF.mk (ZT.mk ic z1_1 z1_2 z1_3 z1_4) z1_5 z1_6 z1_7 z1_8 z1_9 z1_10 z1_11)
  |0,v,_,_,_,_,_,_,_,_,_,_,_,_,h,hv,_=>zAC
  |m+1,v,k,au,me,li,nw,c,en,ar,sq,ly,nx,fo,h,hv,hs=>by
    rw[jl];by_cases hD:v<a1.length
    · rw[decide_eq_true (show(v:Int)<(a1.length:Int)by omega),Qy];have ha:=Pj hs (ZK (Nat.le_add_right N v) (he v)) zAC
      exact Pm a1 N he h17 m (v+1) _ _ _ _ _ _ _ _ _ _ _ _ zAC hD ha
    · grind
theorem E4{a1:List Zo}(h:Sm n a0)(he:Sm n a1)(hn:17<=n):Sm (n+a1.length) (RW a0 a1):=
  Pm a1 n (fun _=>Zi he) hn (a1.length+1) 0 _ _ _ _ _ _ _ _ _ _ _ _ zAC (Nat.zero_le _) h
theorem R9{a0:Z3}(h:20<=n):Sm n (XI a0 a1).2:=by
  have hd:Sm n (ZL.mk 0 ([]:List ByteArray) ([]:List Int)):=⟨zK,zK⟩;have hl:∀l:List Int,l.length<=20->Sm n l:=fun l hl=>⟨zAC,fun _ _=>trivial⟩;unfold XI;let p:=fun z:Z3×Zo=>Sm n z.2
  refine ZG (p:=p) (ZG (p:=p) (ZG (p:=p) ?_ ?_) (ZG (p:=p) ?_ ?_)) (ZG (p:=p) (ZG (p:=p) ?_ ?_) (ZG (p:=p) ?_ ?_));all_goals exact⟨hd,hl _ (Nat.le_of_ble_eq_true rfl)⟩
theorem Fv{a0:Z3}(h:20<=n):Sm n (Z5 a0).2:=by have hd:Sm n (ZL.mk 0 ([]:List ByteArray) ([]:List Int)):=⟨zK,zK⟩;have e0:∀a b,Sm n (Zo.mk a b 0 0 0 (ZL.mk 0 ([]:List ByteArray) ([]:List Int)) ([]:List Int)):=fun a b=>⟨hd,zK⟩;refine⟨by rw[Kz];omega,?_⟩;unfold Z5;exact Hh (Hh (Hh (all_cons (e0 _ _) (all_cons ⟨FI h,zK⟩ (all_cons (e0 _ _) (all_cons (e0 _ _) all_nil)))) (all_cons (R9 h) (all_cons (e0 _ _) all_nil))) (all_cons (R9 h) (all_cons (e0 _ _) all_nil))) (all_cons (R9 h) (all_cons (e0 _ _) all_nil))
theorem ku(a0:YO){n:Nat}(hp:Sm n a0):∀(m:Nat)(b:ByteArray)(v:Nat),a0.Shown.length<m+v->v<=a0.Shown.length->(QM a0 m b v).size<=b.size+(n+3)*(a0.Shown.length-v)
  |0,b,v,h,hv=>zAC
  |m+1,b,v,h,hv=>by
    rw[QM];by_cases hD:v<a0.Shown.length
    · rw[decide_eq_true (show(v:Int)<(a0.Shown.length:Int)by omega),Qy];have e:a0.Shown.length-v=(a0.Shown.length-(v+1))+1:=zAC
      have hx:(nth a0.Yf v).size<=n:=Zi (YO.UG hp);rw[e,Nat.mul_succ];have s1:∀x:ByteArray,x.size<=n+3->(QM a0 m (b++x) (v+1)).size<=b.size+((n+3)*(a0.Shown.length-(v+1))+(n+3)):=fun x hx=>by have:=ku a0 hp m (b++x) (v+1) zAC hD;rw[ByteArray.size_append]at this;omega
      let p:=fun z:ByteArray=>z.size<=b.size+((n+3)*(a0.Shown.length-(v+1))+(n+3))
      refine ZG (p:=p) (s1 _ (show 2<=n+3 by omega)) (ZG (p:=p) (s1 _ ?_) (s1 _ (show 3<=n+3 by omega)));rw[ByteArray.size_append,ByteArray.size_append];show 2+_+1<=_
      omega
    · rw[decide_eq_false (show ¬(v:Int)<(a0.Shown.length:Int)by omega),Qo];omega
theorem NA{a0:YO}(hp:Sm n a0):(jT a0).size<=24+(n+3)*n:=by have h:=ku a0 hp (a0.Shown.length+1) (Z8 a0.KK) 0 zAC (Nat.zero_le _);have h2:=YY a0.KK;have h3:=Nat.mul_le_mul_left (n+3) (YA (YO.pd hp));exact Nat.le_trans h (Nat.add_le_add h2 h3)
theorem Bp{a0:Z3}(h:20<=n):Sm n (Xd a0).2:=by
  have hd:Sm n (ZL.mk 0 ([]:List ByteArray) ([]:List Int)):=⟨zK,zK⟩;have hi:Sm n ([1,2,3,4]:List Int):=⟨Nat.le_trans zAF h,fun _ _=>trivial⟩;have hx:=fun c=>FI (a0:=c) h;have L:∀(c:Z3)(k a b e f:Int)(d:ZL)(ids:List Int),Sm n d->Sm n ids->Sm n ((c,Zo.mk k a b e f d ids):Z3×Zo).2:=fun _ _ _ _ _ _ _ _ h1 h2=>⟨h1,h2⟩;unfold Xd;generalize ZI a0 16=q;iterate 13 (refine ZG (p:=fun z:Z3×Zo=>Sm n z.2) ?_ ?_;(first|with_reducible exact L _ _ _ _ _ _ _ _ hd zK|with_reducible exact L _ _ _ _ _ _ _ _ (hx _) zK))
  exact L _ _ _ _ _ _ _ _ hd (Ol (TT hi))
theorem RC{p:Zo->Prop}(hp:∀c,p (Xd c).2):∀(m:Nat)(l:List Zo)(k:Int)(b:List UInt8)(i:Nat)(h:Int),(∀x∈l,p x)->∀x∈(Kr m l k b i h).1,p x
  |0,_,_,_,_,_,_=>all_nil
  |m+1,l,k,b,i,h,hl=>by rw[Kr];exact ZG (p:=fun z:(List Zo)×List UInt8×Nat×Int=>∀x∈z.1,p x) (RC hp m _ _ _ _ _ (Hh hl (all_cons (hp _) all_nil))) hl
theorem RL{p:Zo->Prop}(hp:∀c,p (Xd c).2):∀(m:Nat)(l:List Zo)(k:Int)(b:List UInt8)(i:Nat)(h:Int),(∀x∈l,p x)->∀x∈(Kv m l k b i h).1,p x
  |0,_,_,_,_,_,_=>all_nil
  |m+1,l,k,b,i,h,hl=>by rw[Kv];exact ZG (p:=fun z:(List Zo)×List UInt8×Nat×Int=>∀x∈z.1,p x) (RL hp m _ _ _ _ _ (Hh hl (all_cons (hp _) all_nil))) hl
theorem SP:∀(m:Nat)(l:List Zo)(k:Int)(b:List UInt8)(i:Nat)(h:Int),k<=16777215->(Kr m l k b i h).1.length<=l.length+k.toNat
  |0,_,_,_,_,_,_=>Nat.zero_le _
  |m+1,l,k,b,i,h,hk=>by
    rw[Kr];by_cases hc:k>0
    · rw[decide_eq_true hc,Qy];have hw:W (k-1)=k-1:=by simp only[Yd];omega
      have:=SP m (l++[(Xd (Z3.mk b i h)).2]) (W (k-1)) (Xd (Z3.mk b i h)).1.b (Xd (Z3.mk b i h)).1.i (Xd (Z3.mk b i h)).1.h zAC;grind
    · rw[decide_eq_false hc,Qo];exact Nat.le_add_right _ _
theorem Sg:∀(m:Nat)(l:List Zo)(k:Int)(b:List UInt8)(i:Nat)(h:Int),k<=16777215->(Kv m l k b i h).1.length<=l.length+k.toNat
  |0,_,_,_,_,_,_=>Nat.zero_le _
  |m+1,l,k,b,i,h,hk=>by
    rw[Kv];by_cases hc:k>0
    · rw[decide_eq_true hc,Qy];have hw:W (k-1)=k-1:=by simp only[Yd];omega
      have:=Sg m (l++[(Xd (Z3.mk b i h)).2]) (W (k-1)) (Xd (Z3.mk b i h)).1.b (Xd (Z3.mk b i h)).1.i (Xd (Z3.mk b i h)).1.h zAC;grind
    · rw[decide_eq_false hc,Qo];exact Nat.le_add_right _ _
theorem Tz{a0:Z3}(h:40<=n)(h0:0<a1)(h1:a1<=20):Sm n (zk a0 a1).2:=by have hp:=fun c=>Bp (n:=n) (a0:=c) zAC;have hc:=Fv (n:=n) (a0:=(Zv a0 2).1) zAC;have hl:=Kz (Zv a0 2).1;unfold zk;generalize Zv a0 2=q at hc hl⊢;generalize Z5 q.1=r at hc hl⊢;generalize ZI r.1 (W ((r.2.length:Int)+1))=t;have z1:=Xp t.1 a1;have z2:=Xp q.1 a1;generalize ZI t.1 a1=u at z1⊢;generalize ZI q.1 a1=v at z2⊢;have k1:=RC hp (u.2.toNat+2) (r.2.take t.2.toNat) u.2 u.1.b u.1.i u.1.h (Ol hc).2;have k2:=SP (u.2.toNat+2) (r.2.take t.2.toNat) u.2 u.1.b u.1.i u.1.h zAC;have k3:=RL hp (v.2.toNat+2) [] v.2 v.1.b v.1.i v.1.h all_nil;have k4:=Sg (v.2.toNat+2) [] v.2 v.1.b v.1.i v.1.h zAC;rw[List.length_take,hl]at k2;rw[List.length_nil]at k4;generalize Kr (u.2.toNat+2) (r.2.take t.2.toNat) u.2 u.1.b u.1.i u.1.h=y at k1 k2⊢;generalize Kv (v.2.toNat+2) [] v.2 v.1.b v.1.i v.1.h=z at k3 k4⊢;obtain⟨y1,y2,y3,y4⟩:=y;obtain⟨w1,w2,w3,w4⟩:=z;dsimp only at k1 k2 k3 k4⊢;have k5:y1.length<=n:=zAC;have k6:w1.length<=n:=zAC;exact ZG (p:=fun z:Z3×(List Zo)=>Sm n z.2) ⟨k5,k1⟩ ⟨k6,k3⟩
theorem BQ{a0:Z3}(h:80<=n):Sm n (qk a0).2:=by have h1:=Rn (n:=40) (a0:=(ZI a0 2).2) zAF;have h2:=Tz (n:=40) (a0:=(ZI a0 2).1) (a1:=10) zAF zAF zAF;unfold qk;generalize kV (ZI a0 2).2=w at h1⊢;generalize zk (ZI a0 2).1 10=e at h2⊢;have h3:=E4 h1 h2 zAF;have h4:=YA h2;exact ZK zAC h3
theorem wz{α:Type}{c:α->Nat}{b:Nat}:∀l:List α,(∀x∈l,c x<=b)->cnL c l<=l.length*b
  |[],_=>Nat.zero_le _
  |x::l,h=>by have h1:=h x List.mem_cons_self;have h2:=wz l (fun y hy=>h y (List.mem_cons_of_mem _ hy));simp only[cnL,List.length_cons,Nat.succ_mul];omega
theorem wU(h:Sm n w):itn w.ZA<=w.ZA.length*n:=
  wz w.ZA (fun x hx=>YA (ZD.YD ((ZF.Z6 h).2 x hx)))
theorem wQ(h:Sm n w):EC (Zh.mk (Xa w) [])<=w.ZA.length*n*(n*n):=by
  have h1:cnL stc (Xa w)<=(Xa w).length*(n*n):=by
    refine wz _ (fun s hs=>?_);simp only[Xa,List.mem_map,List.mem_flatMap]at hs;obtain⟨it,⟨ar,h1,h2⟩,rfl⟩:=hs;have k:=ZO.Yz ((ZD.YD ((ZF.Z6 h).2 _ h1)).2 _ h2)
    have k1:=ZU.KE k;refine Nat.le_trans (wz it.ZN.ZR (b:=n) (fun r hr=>YA (ZZ.Mc (k1.2 r hr)))) (Nat.mul_le_mul_right n (YA k1))
  have h2:(Xa w).length<=w.ZA.length*n:=by rw[Xa,List.length_map,HG];exact wU h
  show cnL stc (Xa w)+0<=_;exact Nat.le_trans h1 (Nat.mul_le_mul_right _ h2)
theorem Ld(w:ZF)(e:Zo):(QG w e).1.ZA.length=w.ZA.length:=by
  let p:=fun r:ZF×Bool=>r.1.ZA.length=w.ZA.length
  have h0:p (w,false):=rfl;have ha:∀i id st,p (KP w i id st):=fun i id st=>by unfold KP;exact ZG (p:=p) h0 (List.length_set ..)
  have hs:∀i k d o t,p (XP w i k d o t):=fun i k d o t=>by
    unfold XP;refine ZG (p:=p) h0 ?_;have key:∀m v r,Jr w i k d o t m v= .inl r->p r:=by
      intro m;induction m with
      |zero=>intro v r h;cases h
      |succ m ih=>intro v r h;rw[Jr]at h;grind
    grind
  unfold QG;refine ZG (p:=p) (by unfold ka;exact ZG (p:=p) h0 rfl) ?_;refine ZG (p:=p) (by unfold kU;exact ZG (p:=p) h0 (hs _ _ _ _ _)) ?_;refine ZG (p:=p) (by unfold y9;exact ZG (p:=p) h0 (ZG (p:=p) h0 (ZG (p:=p) (ha _ _ _) (ha _ _ _)))) ?_;refine ZG (p:=p) (by unfold yq;exact ZG (p:=p) h0 rfl) ?_;refine ZG (p:=p) ?_ ?_
  · unfold yi;refine ZG (p:=p) h0 ?_;obtain⟨k1,_⟩:=Vj (n:=0) (a0:=w) (a1:=e.A) (a2:=e.Ids) (a3:=e.B) (e.Ids.length+1) [] 0 w.XW (Nat.zero_le _) (Nat.zero_le _);grind
  refine ZG (p:=p) (by unfold kn;exact ZG (p:=p) h0 (ZG (p:=p) (by show(List.set _ _ _).length=_;rw[List.length_set,List.length_set]) rfl)) ?_;refine ZG (p:=p) (by unfold yw;exact ZG (p:=p) h0 (List.length_set ..)) ?_;refine ZG (p:=p) ?_ ?_
  · unfold ym;grind
  refine ZG (p:=p) ?_ (ZG (p:=p) (by unfold kg;exact ZG (p:=p) h0 (ha _ _ _)) h0);unfold KB;refine ZG (p:=p) h0 ?_;obtain⟨k1,_⟩:=jk (a0:=w) (a1:=e.A) (a2:=e.B) ((YP w).length+1) 0 [];grind
theorem PU(e:Zh)(k:Nat):∀(m v:Nat)(l:List ZX),v<=(nth e.Zg k).ZR.length->(qu e k m v l).length<=l.length+cnL (fun r=>r.YK.length) ((nth e.Zg k).ZR.drop v)
  |0,v,l,_=>Nat.zero_le _
  |m+1,v,l,hv=>by
    rw[qu];by_cases h:v<(nth e.Zg k).ZR.length
    · rw[decide_eq_true (show(v:Int)<((nth e.Zg k).ZR.length:Int)by omega),Qy];have h1:=PU e k m (v+1) (Kn (nth (nth e.Zg k).ZR v).YK l) h
      have h2:=Wy (nth (nth e.Zg k).ZR v).YK l;have h3:=Hg h;omega
    · grind
theorem PX(e:Zh):∀(m v:Nat)(l:List ZX),v<=e.Zg.length->(jD e m v l).length<=l.length+cnL stc (e.Zg.drop v)
  |0,v,l,_=>Nat.zero_le _
  |m+1,v,l,hv=>by
    rw[jD];by_cases h:v<e.Zg.length
    · rw[decide_eq_true (show(v:Int)<(e.Zg.length:Int)by omega),Qy];have h0:=PU e v ((nth e.Zg v).ZR.length+1) 0 l (Nat.zero_le _)
      have h1:=PX e m (v+1) (qu e v ((nth e.Zg v).ZR.length+1) 0 l) h;have h3:=vM h;rw[List.drop_zero]at h0;have h4:stc (nth e.Zg v)=cnL (fun r=>r.YK.length) (nth e.Zg v).ZR:=rfl;grind
    · grind
theorem Uo(w:ZF):(yo w).length<=EC (Zh.mk (Xa w) []):=by
  show(SS (Zh.mk (xh w ((Yn w).length+1) 0 []) [])).length<=_;rw[KX];have h:=PX (Zh.mk (Xa w) []) ((Xa w).length+1) 0 [] (Nat.zero_le _)
  rw[List.drop_zero,List.length_nil]at h;dsimp only at h;have e3:∀l:List ZX,WU (Zh.mk (Xa w) []) (([]:List (List ZX)).length+1) 0 l=l:=fun l=>by rw[List.length_nil,WU];rfl
  unfold SS;dsimp only;rw[e3];show(jD (Zh.mk (Xa w) []) ((Xa w).length+1) 0 []).length<=cnL stc (Xa w)+0
  omega
theorem KJ(a0:ZT):∀(m:Nat)(l:List Int)(v:Nat),a0.ZC.length<m+v->v<=a0.ZC.length->l.length<=v->(Qd a0 m l v).length<=a0.ZC.length
  |0,l,v,h,hv,hl=>zAC
  |m+1,l,v,h,hv,hl=>by
    rw[Qd];refine Ys (p:=fun z:List Int=>z.length<=a0.ZC.length) (fun hc=>?_) (fun _=>zAC);have hD:v<a0.ZC.length:=zBc
    refine ZG (p:=fun z:List Int=>z.length<=a0.ZC.length) (KJ a0 m _ (v+1) zAC hD zAC) ?_;refine ZG (p:=fun z:List Int=>z.length<=a0.ZC.length) (KJ a0 m _ (v+1) zAC hD zBu) (KJ a0 m _ (v+1) zAC hD zAC)
theorem O8(a0:ZT):(Qe a0).length<=a0.ZC.length:=
  KJ a0 (a0.ZC.length+1) [] 0 zAC (Nat.zero_le _) (Nat.zero_le _)
theorem qJ{a0:ZT}(h:Sm n a0):Sm n (Qe a0):=by have k:=O8 a0;have k2:=YA (ZT.Yv h);exact⟨zAC,fun _ _=>trivial⟩
theorem xt:∀(n:Nat)(x:Int)(l:List UInt8),(∀d∈l,45<=d.toNat/\d.toNat<58)->∀d∈QS n x l,45<=d.toNat/\d.toNat<58
  |0,x,l,h=>fun d hd=>by cases hd
  |n+1,x,l,h=>by
    have hx:∀y:Int,48<=y->y<=57->∀d∈([UInt8.ofInt (W y)]:List UInt8)++l,45<=d.toNat/\d.toNat<58:=fun y h1 h2 d hd=>by
      rcases List.mem_append.1 hd with hd|hd
      · rw[List.mem_singleton.1 hd];have e:=pq (W y)
        have e2:W y=y:=by rw[Yd];omega
        rw[e2]at e⊢;have e3:IntKind.u8.wrap y=y:=by rw[IntKind.wrap_u8];omega
        rw[e3]at e;omega
      · exact h d hd
    rw[QS];refine Ys (p:=fun r:List UInt8=>∀d∈r,45<=d.toNat/\d.toNat<58) (fun h1=>?_) (fun h1=>?_)
    · have h1:=of_decide_eq_true h1;have hb:=Int.tmod_lt_of_pos (-x) (show(0:Int)<10 by decide);rw[Int.neg_tmod]at hb;have hw:48<=48+W (-Int.tmod x 10)/\48+W (-Int.tmod x 10)<=57:=by simp only[Yd];omega
      exact ZG (p:=fun r:List UInt8=>∀d∈r,45<=d.toNat/\d.toNat<58) (hx _ hw.1 hw.2) (xt n _ _ (hx _ hw.1 hw.2))
    · have h1:=of_decide_eq_false h1;have hb:=Int.tmod_lt_of_pos x (show(0:Int)<10 by decide);exact ZG (p:=fun r:List UInt8=>∀d∈r,45<=d.toNat/\d.toNat<58) (hx _ zAC zAC) (xt n _ _ (hx _ zAC zAC))
theorem ET(x:Int):∀d∈(Z8 x).data.toList,45<=d.toNat/\d.toNat<58:=by
  unfold Z8;have h:=xt 21 x [] (fun d hd=>by cases hd)
  generalize QS 21 x []=l at h⊢;refine ZG (p:=fun r:ByteArray=>∀d∈r.data.toList,45<=d.toNat/\d.toNat<58) (fun d hd=>?_) h;simp at hd;rcases hd with rfl|hd
  · decide
  · exact h d hd
def m3(lit:ByteArray)(i:Nat):Bool:=(List.range (i+1)).all (fun j=>(Z8 (j:Int)).data.toList !=(lit.data.toList.reverse.takeWhile (·!=32)).reverse)
theorem zL{w lit:ByteArray}{l:List Int}(h:(decide (((w++(⟨#[32]⟩:ByteArray))++(Z8 (l.length:Int)))=lit))=true)(k:m3 lit i=true):i<l.length:=by
  refine Nat.lt_of_not_le fun hc=>?_;have h:=of_decide_eq_true h
  have k:=List.all_eq_true.1 k l.length (List.mem_range.2 zAC);have hd:=ET (l.length:Int);subst h;generalize Z8 (l.length:Int)=f at k hd;have e:(((w++(⟨#[32]⟩:ByteArray))++f).data.toList.reverse.takeWhile (·!=32))=f.data.toList.reverse:=by
    simp only[ByteArray.data_append,Array.toList_append,List.reverse_append];rw[List.takeWhile_append_of_pos (fun d hh=>by
      have:=hd d (List.mem_reverse.1 hh);simp only[bne_iff_ne,ne_eq];rintro rfl;exact absurd this.1 zAF)]
    simp
  rw[e,List.reverse_reverse]at k;simp at k
theorem Ue(a0:List ByteArray):∀(n:Nat)(acc:List Int)(v:Nat),a0.length<n+v->v<=a0.length->∀l,J3 a0 n acc v= .inr l->l.length=acc.length+(a0.length-v)
  |0,acc,v,h1,h2=>zAC
  |n+1,acc,v,h1,h2=>by
    rw[J3];refine Ys (p:=fun r:Sum (List Int×Bool) (List Int)=>∀l,r= .inr l->l.length=acc.length+(a0.length-v)) (fun hc=>?_) (fun hc l h=>?_)
    · have hc:=of_decide_eq_true hc;refine ZG (p:=fun r:Sum (List Int×Bool) (List Int)=>∀l,r= .inr l->l.length=acc.length+(a0.length-v)) (fun l h=>by cases h) (fun l h=>?_);rw[Ue a0 n _ _ zAC zAC l h,List.length_append,List.length_singleton];omega
    · have hc:=of_decide_eq_false hc;cases h;omega
theorem xd(a0:List ByteArray)(h:(Ze a0).2=true):(Ze a0).1.length=a0.length:=by
  have hk:∀n acc v r,J3 a0 n acc v= .inl r->r.2=false:=by
    intro n;induction n with
    |zero=>intro acc v r h;cases h
    |succ n ih=>intro acc v r;rw[J3];refine ZG (p:=fun q:Sum (List Int×Bool) (List Int)=>q= .inl r->r.2=false) ?_ (fun h=>by cases h);exact ZG (p:=fun q:Sum (List Int×Bool) (List Int)=>q= .inl r->r.2=false) (fun h=>by cases h;rfl) (ih _ _ _)
  have hl:=Ue a0 (a0.length+1) [] 0 zAC (Nat.zero_le _);unfold Ze at h⊢;cases e:J3 a0 (a0.length+1) [] 0 with
  |inl r=>rw[e]at h;exact absurd (hk _ _ _ _ e) zCF
  |inr l=>simpa using hl l e
theorem Rj(a0:ByteArray):∀x∈Zq a0,0<x.size:=by
  have key:∀n (acc:List ByteArray) v,(∀x∈acc,0<x.size)->∀x∈zY a0 n acc v,0<x.size:=by
    intro n;induction n with
    |zero=>intro acc v _ x hx;cases hx
    |succ n ih=>
      intro acc v ha;rw[zY];refine ZG (p:=fun r:List ByteArray=>∀x∈r,0<x.size) (Ys (p:=fun r:List ByteArray=>∀x∈r,0<x.size) (fun hc=>ih _ _ fun x hx=>?_) (fun _=>ih _ _ ha)) ha;rcases List.mem_append.1 hx with hx|hx
      · exact ha x hx
      · rw[List.mem_singleton.1 hx];refine Nat.pos_of_ne_zero fun e=>?_;rw[show nth (Zb a0 32) v=(⟨#[]⟩:ByteArray)from ByteArray.ext (Array.eq_empty_of_size_eq_zero e)]at hc;cases hc
  exact key _ _ _ (fun x hx=>by cases hx)
theorem K4(c:Z3):(KI c).2.size<=24:=by unfold KI U3;exact VH zAF _
theorem Ps:∀(n:Nat)(v:ByteArray)(x:Int)(b:List UInt8)(i:Nat)(h:Int),(qC n v x b i h).1.size<=v.size+25*n
  |0,v,x,b,i,h=>Nat.zero_le _
  |n+1,v,x,b,i,h=>by
    rw[qC];have z:=K4 (Z3.mk b i h)
    refine ZG (p:=fun r:ByteArray×List UInt8×Nat×Int=>r.1.size<=v.size+25*(n+1)) (Nat.le_trans (Ps n _ _ _ _ _) ?_) (Nat.le_add_right _ _);simp only[ByteArray.size_append,show(⟨#[10]⟩:ByteArray).size=1 from rfl];omega
theorem Pu:∀(n:Nat)(v:ByteArray)(x:Int)(b:List UInt8)(i:Nat)(h:Int),(qm n v x b i h).1.size<=v.size+25*n
  |0,v,x,b,i,h=>Nat.zero_le _
  |n+1,v,x,b,i,h=>by
    rw[qm];have z:=K4 (Z3.mk b i h)
    refine ZG (p:=fun r:ByteArray×List UInt8×Nat×Int=>r.1.size<=v.size+25*(n+1)) (Nat.le_trans (Pu n _ _ _ _ _) ?_) (Nat.le_add_right _ _);simp only[ByteArray.size_append,show(⟨#[10]⟩:ByteArray).size=1 from rfl];omega
theorem DT(c:Z3)(h:0<a1/\a1<=1000):(Vh c a1).2.size<=30000:=by
  unfold Vh;have z:=Xp (Zv c 2).1 a1
  refine ZG (p:=fun r:Z3×ByteArray=>r.2.size<=30000) (Nat.le_trans (Ps _ _ _ _ _ _) ?_) (Nat.le_trans (Pu _ _ _ _ _ _) ?_)
  · rw[show ∀l,(ByteArray.mk l).size=l.size from fun _=>rfl];simp;omega
  · rw[show ∀l,(ByteArray.mk l).size=l.size from fun _=>rfl];simp;omega
theorem kp:∀(n:Nat)(v:ByteArray)(i:Nat),(Qx n v i).size<=v.size+6*n
  |0,v,i=>Nat.zero_le _
  |n+1,v,i=>by rw[Qx];refine ZG (p:=fun r:ByteArray=>r.size<=v.size+6*(n+1)) (Nat.le_trans (kp n _ _) ?_) (Nat.le_add_right _ _);simp only[ByteArray.size_append,show(⟨#[119,111,114,108,100,10]⟩:ByteArray).size=6 from rfl];omega
theorem xi(a0:List UInt8):(Zw a0).size<=30000:=by unfold Zw;exact ZG (p:=fun r:ByteArray=>r.size<=30000) (Nat.le_trans (kp _ _ _) zAF) (DT _ zAF)
theorem Wh:∀(n:Nat)(x:Int)(l:List UInt8),(n=21\/x.natAbs<10^n)->0<n->∃d t,QS n x l=d::t++l
  |0,x,l,h,hn=>zAC
  |n+1,x,l,h,_=>by
    rw[QS];have hr:∀c,(W (Int.tdiv x 10)==0)=false->∃d t,QS n (W (Int.tdiv x 10)) ([c]++l)=d::t++l:=fun c h2=>by obtain⟨d,t,e⟩:=Wh n _ ([c]++l) (sP h h2).2 (sP h h2).1;exact⟨d,t++[c],by rw[e];simp⟩
    refine ZG (p:=fun r:List UInt8=>∃d t,r=d::t++l) ?_ ?_<;>exact Ys (p:=fun r:List UInt8=>∃d t,r=d::t++l) (fun _=>⟨_,[],rfl⟩) (hr _)
theorem xN(x:Int):0<(Z8 x).size:=by
  obtain⟨d,t,e⟩:=Wh 21 x [] (.inl rfl) zAF;unfold Z8;rw[e];refine ZG (p:=fun r:ByteArray=>0<r.size) ?_ ?_
  · rw[ByteArray.size_append];exact Nat.add_pos_left zAF _
  · exact Nat.zero_lt_succ _
theorem Ns{l:List ByteArray}{b:ByteArray}(h:∀x∈l,0<x.size):∀(n:Nat)(v:ByteArray)(i:Nat),l.length<n+i->i<=l.length->(i<l.length\/0<v.size)->0<(qP l b n v i).size
  |0,v,i,hn,hv,hi=>zAC
  |n+1,v,i,hn,hv,hi=>by
    rw[qP];by_cases hD:i<l.length
    · have h1:0<(nth l i).size:=h _ (by rw[Gb hD];exact List.getElem_mem hD);rw[decide_eq_true (show(i:Int)<(l.length:Int)by omega),Qy];refine ZG (p:=fun r:ByteArray=>0<r.size) ?_ ?_<;>exact Ns h n _ _ zAC hD (.inr (by simp only[ByteArray.size_append];omega))
    · rw[decide_eq_false (show ¬(i:Int)<(l.length:Int)by omega),Qo];show 0<v.size
      omega
theorem WW(a0:ByteArray)(a1:Int):∀(n:Nat)(acc:List ByteArray)(f:Int)(v:Nat),a0.size+1<n+v->v<=a0.size+1->(∀x∈acc,x.size<=a0.size)->(Qg a0 a1 n acc f v).length<=acc.length+(a0.size+1-v)/\∀x∈Qg a0 a1 n acc f v,x.size<=a0.size
  |0,acc,f,v,h,hv,ha=>zAC
  |n+1,acc,f,v,h,hv,ha=>by
    rw[Qg];let p:=fun r:List ByteArray=>r.length<=acc.length+(a0.size+1-v)/\∀x∈r,x.size<=a0.size
    refine Ys (p:=p) (fun hc=>?_) (fun _=>⟨Nat.le_add_right _ _,ha⟩);have hc:=of_decide_eq_true hc
    refine ZG (p:=p) ?_ ?_
    · obtain⟨h1,h2⟩:=WW a0 a1 n (acc++[a0.extract f.toNat v]) (W ((v:Int)+1)) (v+1) zAC zAC (fun x hx=>by
        rcases List.mem_append.1 hx with hx|hx
        · exact ha x hx
        · rw[List.mem_singleton.1 hx,ByteArray.size_extract];omega)
      refine⟨?_,h2⟩;rw[List.length_append,List.length_singleton]at h1;omega
    · obtain⟨h1,h2⟩:=WW a0 a1 n acc f (v+1) zAC zAC ha;exact⟨zAC,h2⟩
theorem OX{a0:ByteArray}(h:a0.size+1<=n):Sm n (Zb a0 a1):=by obtain⟨h1,h2⟩:=WW a0 a1 (a0.size+2) [] 0 0 zAC (Nat.zero_le _) (fun x hx=>by cases hx);exact⟨Nat.le_trans h1 zAk,fun x hx=>Nat.le_trans (h2 x hx) zAC⟩
theorem QK{a0:ByteArray}(h:a0.size+1<=n):Sm n (Zq a0):=by
  obtain⟨g1,g2⟩:=OX (a1:=32) h;have key:∀m (acc:List ByteArray) v,(Zb a0 32).length<m+v->v<=(Zb a0 32).length->(∀x∈acc,x.size<=n)->(zY a0 m acc v).length<=acc.length+((Zb a0 32).length-v)/\∀x∈zY a0 m acc v,x.size<=n:=by
    intro m;induction m with
    |zero=>intro acc v h1 h2 _;omega
    |succ m ih=>
      intro acc v h1 h2 ha;rw[zY];let p:=fun r:List ByteArray=>r.length<=acc.length+((Zb a0 32).length-v)/\∀x∈r,x.size<=n
      refine Ys (p:=p) (fun hc=>?_) (fun _=>⟨Nat.le_add_right _ _,ha⟩);have hc:=of_decide_eq_true hc
      refine ZG (p:=p) ?_ ?_
      · obtain⟨k1,k2⟩:=ih (acc++[nth (Zb a0 32) v]) (v+1) zAC zAC (fun x hx=>by
          rcases List.mem_append.1 hx with hx|hx
          · exact ha x hx
          · rw[List.mem_singleton.1 hx];exact Zi (n:=n) ⟨g1,g2⟩)
        refine⟨?_,k2⟩;rw[List.length_append,List.length_singleton]at k1;omega
      · obtain⟨k1,k2⟩:=ih acc (v+1) zAC zAC ha;exact⟨zAC,k2⟩
  obtain⟨k1,k2⟩:=key ((Zb a0 32).length+1) [] 0 zAC (Nat.zero_le _) (fun x hx=>by cases hx);exact⟨Nat.le_trans k1 (by simp;exact g1),k2⟩
theorem O7(a0:List ByteArray):∀(n:Nat)(acc:List Int)(v:Nat)(r:(List Int)×Bool),J3 a0 n acc v= .inl r->r.1=[]
  |0,acc,v,r=>fun h=>zBV
  |n+1,acc,v,r=>by
    rw[J3];let p:=fun q:Sum (List Int×Bool) (List Int)=>q= .inl r->r.1=[]
    exact ZG (p:=p) (ZG (p:=p) (fun h=>by cases h;rfl) (O7 a0 n _ _ _)) (fun h=>by cases h)
theorem jW{a0:List ByteArray}(h:a0.length<=n):Sm n (Ze a0).1:=by
  refine⟨?_,fun _ _=>trivial⟩;have hl:=Ue a0 (a0.length+1) [] 0 zAC (Nat.zero_le _)
  unfold Ze;cases e:J3 a0 (a0.length+1) [] 0 with
  |inl r=>show r.1.length<=n;rw[O7 _ _ _ _ _ e];exact Nat.zero_le _
  |inr l=>show l.length<=n;rw[hl l e];simp;exact h
theorem UO(a0:Int)(a1:List ByteArray)(a2:Int):∀(m v:Nat)(l:List Int),(yK a0 a1 a2 m v l).length<=l.length+m
  |0,_,_=>Nat.zero_le _
  |m+1,v,l=>by
    rw[yK];refine ZG (p:=fun r:List Int=>r.length<=l.length+(m+1)) ?_ zAC;have:=UO a0 a1 a2 m (v+1) (l++[uM 1 (ko a2 [a0,v])])
    grind
theorem zW{a0:Int}{a1:List ByteArray}{a2:Int}(h:Sm n a1)(hn:a1.length+1<=n):Sm n (X5 a0 a1 a2).1:=by
  unfold X5;have:=UO a0 a1 a2 (a1.length+1) 0 []
  refine ZG (p:=fun r:ZL×Bool=>Sm n r.1) ⟨Sz.zero n,Sz.zero n⟩ (ZG (p:=fun r:ZL×Bool=>Sm n r.1) ⟨Sz.zero n,Sz.zero n⟩ ⟨h,Nat.le_trans this (by simpa using hn),fun _ _=>trivial⟩)
theorem MB(hb:n<=9223372036854775807)(h:Sm n w)(he:Sm n e)(hn:17<=n):Sm (n+1) (Y7 w e).1:=
  ZG (p:=fun r:ZF×ByteArray=>Sm (n+1) r.1) (ZK (Nat.le_succ n) h) (Oy hb h he hn)
theorem P6(hb:n<=9223372036854775807)(h:Sm n w)(hn:a.size<=200->a.size+5<=n)(h17:17<=n):Sm (n+1) (QU w a).1:=by
  have h1:Sm (n+1) w:=ZK (Nat.le_succ n) h;unfold QU;let p:=fun r:ZF×ByteArray=>Sm (n+1) r.1
  refine Ys (p:=p) (fun _=>h1) (fun hc=>?_);have hs:a.size<=200:=by have:=of_decide_eq_false (Bool.or_eq_false_iff.1 hc).1;omega
  have hn:=hn hs;have hw:Sm (a.size+1) (Zq a):=QK (Nat.le_refl _);generalize Zq a=ws at hw;have hN:∀l:List ByteArray,l.length<=a.size+1->Sm n (Ze l).1:=fun l hl=>jW zAC;have hl:=YA hw;have hd:Sm n (ZL.mk 0 [] []):=⟨Sz.zero n,Sz.zero n⟩;have hm:∀(t:Int)(k:Nat),Sm n (X5 t (ws.drop k) 11).1:=fun t k=>by
    have cU:(ws.drop k).length<=a.size+1:=by rw[List.length_drop];omega
    exact zW ⟨zAC,fun x hx=>Nat.le_trans (hw.2 x (List.mem_of_mem_drop hx)) zAC⟩ zAC
  have hg:∀k,p (KR w ws k):=fun k=>by unfold KR;refine ZG (p:=p) h1 (ZG (p:=p) h1 (ZG (p:=p) ?_ ?_))<;>exact ZG (p:=p) h1 (Oy hb h ⟨hm _ _,Sz.zero n⟩ zAC)
  have hr:p (Ko w ws):=by
    unfold Ko;have hi:Sm n (Ze (ws.drop 3)).1:=hN _ (by rw[List.length_drop];omega)
    refine ZG (p:=p) h1 (ZG (p:=p) ?_ ?_)<;>exact ZG (p:=p) h1 (MB hb h ⟨hd,hi⟩ zAC)
  have he:∀k x y z u,p (Y7 w (Zo.mk k x y z u (ZL.mk 0 [] []) [])):=fun k x y z u=>MB hb h ⟨hd,Sz.zero n⟩ zAC;refine ZG (p:=p) (hg 4) (ZG (p:=p) (hg 3) (ZG (p:=p) hr (ZG (p:=p) h1 ?_)));exact ZG (p:=p) (he _ _ _ _ _) (ZG (p:=p) (he _ _ _ _ _) (ZG (p:=p) (he _ _ _ _ _) (ZG (p:=p) (he _ _ _ _ _) (ZG (p:=p) (he _ _ _ _ _) (ZG (p:=p) (he _ _ _ _ _) (ZG (p:=p) (he _ _ _ _ _) h1))))))
theorem Pd(hb:n<=9223372036854775807)(h:Sm n w)(hn:210<=n):Sm (n+1) (Zm w a).1:=P6 hb h (fun _=>zAC) zAC
theorem Vr(a0:ByteArray)(a1:Int):∀(n:Nat)(acc:List ByteArray)(f:Int)(v:Nat),0<acc.length->v<=a0.size+1->a0.size+1<n+v->0<(Qg a0 a1 n acc f v).length
  |0,acc,f,v,h,hv,hn=>zAC
  |n+1,acc,f,v,h,hv,hn=>by
    rw[Qg];refine Ys (p:=fun r:List ByteArray=>0<r.length) (fun hc=>?_) (fun _=>h);have hc:=of_decide_eq_true hc
    exact ZG (p:=fun r:List ByteArray=>0<r.length) (Vr a0 a1 n _ _ _ (by rw[List.length_append];omega) zAC zAC) (Vr a0 a1 n _ _ _ h zAC zAC)
theorem Ot(a0:ByteArray)(a1:Int):∀(n:Nat)(acc:List ByteArray)(f:Int)(v:Nat),v<=a0.size->a0.size+1<n+v->0<(Qg a0 a1 n acc f v).length
  |0,acc,f,v,hv,hn=>zAC
  |n+1,acc,f,v,hv,hn=>by
    rw[Qg,decide_eq_true (show(v:Int)<=(a0.size:Int)by omega),Qy];refine Ys (p:=fun r:List ByteArray=>0<r.length) (fun _=>Vr a0 a1 n _ _ _ (by rw[List.length_append];exact Nat.lt_add_left _ (Nat.zero_lt_succ _)) zAC zAC) (fun hc=>?_);have:¬v=a0.size:=fun e=>by have:=(Bool.or_eq_false_iff.1 hc).1;simp at this;omega
    exact Ot a0 a1 n _ _ _ zAC zAC
theorem LH(a0:ByteArray)(a1:Int):0<(Zb a0 a1).length:=Ot a0 a1 (a0.size+2) [] 0 0 (Nat.zero_le _) zAC
theorem I4(w:ZF)(e:Zo):(Y7 w e).1.ZA.length=w.ZA.length:=
  ZG (p:=fun r:ZF×ByteArray=>r.1.ZA.length=w.ZA.length) rfl (Ld w e)
theorem jh(w:ZF)(a:ByteArray):(Zm w a).1.ZA.length=w.ZA.length:=by
  show(QU w a).1.ZA.length=_;unfold QU KR Ko;let p:=fun r:ZF×ByteArray=>r.1.ZA.length=w.ZA.length
  have h1:∀s,p (w,s):=fun _=>rfl;have h2:∀e,p (Y7 w e):=I4 w;have h3:∀e s,p ((QG w e).1,s):=fun e _=>Ld w e;refine ZG (p:=p) (h1 _) (ZG (p:=p) ?_ (ZG (p:=p) ?_ (ZG (p:=p) ?_ (ZG (p:=p) (h1 _) ?_))))
  · exact ZG (p:=p) (h1 _) (ZG (p:=p) (h1 _) (ZG (p:=p) (ZG (p:=p) (h1 _) (h3 _ _)) (ZG (p:=p) (h1 _) (h3 _ _))))
  · exact ZG (p:=p) (h1 _) (ZG (p:=p) (h1 _) (ZG (p:=p) (ZG (p:=p) (h1 _) (h3 _ _)) (ZG (p:=p) (h1 _) (h3 _ _))))
  · exact ZG (p:=p) (h1 _) (ZG (p:=p) (ZG (p:=p) (h1 _) (h2 _)) (ZG (p:=p) (h1 _) (h2 _)))
  · exact ZG (p:=p) (h2 _) (ZG (p:=p) (h2 _) (ZG (p:=p) (h2 _) (ZG (p:=p) (h2 _) (ZG (p:=p) (h2 _) (ZG (p:=p) (h2 _) (ZG (p:=p) (h2 _) (h1 _)))))))
theorem Kl(hn:n<=275)(h:Sm n w)(ha:w.ZA.length=2):itn w.ZA<=1048576/\EC (Zh.mk (Xa w) [])<=67108900:=by have h1:=wU h;have h2:=wQ h;rw[ha]at h1 h2;have h3:n*n<=275*275:=Nat.mul_le_mul hn hn;have h4:2*n*(n*n)<=2*275*(275*275):=Nat.mul_le_mul zAC h3;exact⟨zAC,zAC⟩
theorem Pr(x:Int):(YC x).ZA.length=2:=by unfold YC;grind
theorem Z4(a0:List UInt8):(Sm 80 (ZQ a0).1/\itn (ZQ a0).1.ZA<=1048576/\EC (Zh.mk (Xa (ZQ a0).1) [])<=67108900)/\(ZQ a0).2.size<=24:=by have h:Sm 80 (ZQ a0).1:=BQ zAF;have h0:(ZQ a0).1.ZA.length<=80:=YA (ZF.Z6 h);have h1:=wU h;have h2:=wQ h;have h3:(ZQ a0).1.ZA.length*80*(80*80)<=80*80*(80*80):=Nat.mul_le_mul_right _ (Nat.mul_le_mul_right _ h0);exact⟨⟨h,zAC,zAC⟩,K4 _⟩
theorem lD(h:Sm 80 w)(hs:a.size<=24):Sm 81 (Zm w a).1/\itn (Zm w a).1.ZA<=1048576/\EC (Zh.mk (Xa (Zm w a).1) [])<=67108900:=by
  have k:Sm (80+1) (QU w a).1:=P6 zAF h (fun _=>zAC) zAF;have k:Sm 81 (Zm w a).1:=k;have h0:(Zm w a).1.ZA.length<=80:=by rw[jh];exact YA (ZF.Z6 h)
  generalize(Zm w a).1=x at k h0⊢;have h1:=wU k
  have h2:=wQ k;have h3:x.ZA.length*81*(81*81)<=80*81*(81*81):=Nat.mul_le_mul_right _ (Nat.mul_le_mul_right _ h0);exact⟨k,zAC,zAC⟩
theorem QB(a0:List UInt8):Sm 1048576 (ZQ a0).2:=Nat.le_trans (Z4 a0).2 zAF
theorem YE(a0:List UInt8):Sm 81 (Zm (ZQ a0).1 (ZQ a0).2).1/\itn (Zm (ZQ a0).1 (ZQ a0).2).1.ZA<=1048576/\EC (Zh.mk (Xa (Zm (ZQ a0).1 (ZQ a0).2).1) [])<=67108900:=
  lD (Z4 a0).1.1 (Z4 a0).2
theorem we(h:Sm n s):Sm n (s.extract i j):=by
  have h:=Qh h;show(s.extract i j).size<=n
  rw[ByteArray.size_extract];omega
theorem tx{α:Type}[Inhabited α][Sz α]{l:List α}(h:Sm n l):Sm n l.tail:=by rw[<-List.drop_one];exact TT h
theorem MT{a0:ZU}{a1:YO}(h:Sm n a0):Sm n (KL a0 a1):=by
  have key:∀n (acc:List Int) v,a0.ZR.length<n+v->v<=a0.ZR.length->(KZ a0 a1 n acc v).length=acc.length+(a0.ZR.length-v):=by
    intro n;induction n with
    |zero=>intro acc v h1 h2;omega
    |succ n ih=>intro acc v h1 h2;rw[KZ];grind
  have h2:=key (a0.ZR.length+1) [] 0 zAC zAC;have h3:=YA (ZU.KE h);refine⟨?_,fun _ _=>trivial⟩;unfold KL;grind
theorem jg{n:Nat}(a0:Zh)(a1:YO)(h:Sm n a0):∀(m:Nat)(l:List (List Int))(i:Nat),i<=a0.Zg.length->Sm n l->l.length+(a0.Zg.length-i)<=n->Sm n (JQ a0 a1 m l i)
  |0,_,_,_,_,_=>⟨Nat.zero_le _,fun x hx=>by cases hx⟩
  |m+1,l,i,hi,hl,hk=>by
    simp only[JQ];by_cases hv:i<a0.Zg.length
    · rw[show decide ((i:Int)<(a0.Zg.length:Int))=true by simpa using hv,cond_true];refine jg a0 a1 h m _ (i+1) hv ⟨by simp;omega,fun x hx=>?_⟩ zAk;rcases List.mem_append.1 hx with hx|hx
      · exact hl.2 x hx
      · rw[List.mem_singleton.1 hx];exact MT (Zi (Zh.Xc h))
    · grind
theorem Xx{a0:Zh}{a1:YO}(h:Sm n a0):Sm n (J1 a0 a1):=
  jg a0 a1 h _ [] 0 (Nat.zero_le _) ⟨Nat.zero_le _,fun x hx=>by cases hx⟩ (by have z:=YA (Zh.Xc h);simp;omega)
theorem O4(l:List Int)(x:Int):(WD l x).length<=l.length+1:=by unfold WD;refine ZG (p:=fun r:List Int=>r.length<=l.length+1) (Nat.le_succ _) ?_;simp;omega
theorem RJ(a0:ZO):∀(n:Nat)(l:List Int)(v:Nat),v<=a0.ZN.ZR.length->(j7 a0 n l v).length<=l.length+(a0.ZN.ZR.length-v)
  |0,l,v,hv=>Nat.zero_le _
  |n+1,l,v,hv=>by
    rw[j7];refine Ys (p:=fun r:List Int=>r.length<=l.length+(a0.ZN.ZR.length-v)) (fun hc=>?_) (fun _=>Nat.le_add_right _ _);have hc:=of_decide_eq_true hc
    have h1:=RJ a0 n (WD l (nth a0.ZN.ZR v).Method) (v+1) zAC;have h2:=O4 l (nth a0.ZN.ZR v).Method;omega
theorem Wz{a0:ZO}(h:Sm n a0):Sm (n+1) (kv a0):=by
  refine⟨?_,fun _ _=>trivial⟩;have h1:=RJ a0 (a0.ZN.ZR.length+1) [a0.Sig.Method] 0 (Nat.zero_le _)
  have h2:=YA (ZU.KE (ZO.Yz h));exact Nat.le_trans h1 zAk
theorem CD(a1:YO):∀n (x:Int) v,a1.Shown.length<n+v->v<=a1.Shown.length->0<=x->x+(a1.Shown.length-v:Nat)<=1000->JM a1 n x v<=x+(a1.Shown.length-v:Nat)/\(JM a1 n x v=x+(a1.Shown.length-v:Nat)↔∀i,v<=i->i<a1.Shown.length->nth a1.Shown i=true)
  |0,x,v,h,hv,_,_=>zAC
  |n+1,x,v,h,hv,hx,hb=>by
    rw[JM];by_cases hD:v<a1.Shown.length
    · rw[decide_eq_true (show(v:Int)<(a1.Shown.length:Int)by omega),Qy];cases hs:nth a1.Shown v with
      |false=>
        rw[Qo];have hh:=CD a1 n x (v+1) zAC hD hx zAC
        refine⟨zAC,fun e=>zAC,fun e=>?_⟩;rw[e v (Nat.le_refl _) hD]at hs;cases hs
      |true=>
        rw[Qy,show W (x+1)=x+1 by rw[Yd];omega];have hh:=CD a1 n (x+1) (v+1) zAC hD zAC zAC
        refine⟨zAC,fun e i h1 h2=>?_,fun e=>?_⟩
        · rcases Nat.eq_or_lt_of_le h1 with rfl|h3
          · exact hs
          · exact hh.2.1 zAC i h3 h2
        · have:=hh.2.2 (fun i h1 h2=>e i zAC h2);omega
    · rw[decide_eq_false (show ¬(v:Int)<(a1.Shown.length:Int)by omega),Qo];exact⟨zAC,fun _ i h1 h2=>zAC,fun _=>zAC⟩
theorem nk{a:YO}(h:jO a=true):(a.Shown.length<=6/\a.Yf.length=a.Shown.length/\a.Xl.length=a.Shown.length/\a.Ja.length=a.Shown.length)/\∀i,i<a.Shown.length->nth a.Shown i=false->(nth a.Ja i).length=a.Methods.length:=by
  have key:∀n v p q r,JT a n v p q= .inr r->a.Shown.length<n+v->∀i,v<=i->i<a.Shown.length->nth a.Shown i=false->(nth a.Ja i).length=a.Methods.length:=by
    intro n;induction n with
    |zero=>intro v p q r _ hn i h1 h2;omega
    |succ n ih=>
      intro v p q r hr hn i h1 h2 h3;rw[JT]at hr;have hD:v<a.Shown.length:=zAC
      rw[decide_eq_true (show(v:Int)<(a.Shown.length:Int)by omega),Qy]at hr;rcases Nat.eq_or_lt_of_le h1 with rfl|h4
      · rw[h3,Qo]at hr;cases hc:(((!decide (nth a.Yf v=(⟨#[]⟩:ByteArray)))||(nth a.Xl v !=0))||(((nth a.Ja v).length:Int)!=(a.Methods.length:Int)))with
        |true=>rw[hc]at hr;cases hr
        |false=>have:=(Bool.or_eq_false_iff.1 hc).2;simp at this;omega
      · cases hs:nth a.Shown v with
        |true=>
          rw[hs,Qy]at hr;cases hc:decide (((nth a.Ja v).length:Int)>0)with
          |true=>rw[hc]at hr;cases hr
          |false=>rw[hc,Qo]at hr;exact ih _ _ _ _ hr zAC i h4 h2 h3
        |false=>
          rw[hs,Qo]at hr;cases hc:(((!decide (nth a.Yf v=(⟨#[]⟩:ByteArray)))||(nth a.Xl v !=0))||(((nth a.Ja v).length:Int)!=(a.Methods.length:Int)))with
          |true=>rw[hc]at hr;cases hr
          |false=>rw[hc,Qo]at hr;exact ih _ _ _ _ hr zAC i h4 h2 h3
  have hb:∀n v p q r,JT a n v p q= .inl r->r=false:=by
    intro n;induction n with
    |zero=>intro v p q r h;cases h
    |succ n ih=>
      intro v p q r;rw[JT];let P:=fun z:Sum Bool (List ByteArray×List Int)=>z= .inl r->r=false
      exact ZG (p:=P) (ZG (p:=P) (ZG (p:=P) (fun h=>by cases h;rfl) (ih _ _ _ _)) (ZG (p:=P) (fun h=>by cases h;rfl) (ih _ _ _ _))) (fun h=>by cases h)
  unfold jO at h;cases hc:((((!(ZP (a.Shown.length:Int) 1 6))||((a.Yf.length:Int)!=(a.Shown.length:Int)))||((a.Xl.length:Int)!=(a.Shown.length:Int)))||((a.Ja.length:Int)!=(a.Shown.length:Int)))with
  |true=>rw[hc]at h;cases h
  |false=>
    rw[hc,Qo]at h;simp only[ZP,Bool.or_eq_false_iff,Bool.not_eq_false',Bool.and_eq_true,decide_eq_true_eq,bne_eq_false_iff_eq]at hc;refine⟨⟨zAC,zAC,zAC,zAC⟩,fun i hi hs=>?_⟩;cases e:JT a (a.Shown.length+1) 0 [] []with
    |inl r=>rw[e,hb _ _ _ _ _ e]at h;cases h
    |inr r=>exact key _ _ _ _ _ e zAC i (Nat.zero_le _) hi hs
theorem Iy{a0:Int}{a1:YO}(h:((!(jO a1))||((decide ((yf a1.Methods a0)<0))&&(decide ((jH a1)<(a1.Shown.length:Int)))))=false)(hv:v<a1.Shown.length):v<a1.Yf.length/\v<a1.Xl.length/\v<a1.Ja.length/\(nth a1.Shown v=false->0<=yf a1.Methods a0/\(yf a1.Methods a0).toNat<(nth a1.Ja v).length):=by
  obtain⟨h1,h2⟩:=Bool.or_eq_false_iff.1 h;obtain⟨⟨k0,k1,k2,k3⟩,k4⟩:=nk (by simpa using h1);refine⟨zAC,zAC,zAC,fun hs=>?_⟩;have hc:=CD a1 (a1.Shown.length+1) 0 0 zAC (Nat.zero_le _) (Int.le_refl _) zAC
  have hn:¬JM a1 (a1.Shown.length+1) 0 0=0+(a1.Shown.length-0:Nat):=fun e=>by have:=hc.2.1 e v (Nat.zero_le _) hv;rw[hs]at this;cases this
  have hd:jH a1<(a1.Shown.length:Int):=by have e:jH a1=JM a1 (a1.Shown.length+1) 0 0:=rfl;omega
  rw[decide_eq_true hd,Bool.and_true]at h2;have h3:=of_decide_eq_false h2
  have h4:=Hc a1.Methods a0;rw[k4 v hv hs];exact⟨zAC,zAC⟩
theorem W0(a0:List Int)(a1:ZL)(i:Nat):∀(n:Nat)(l:List Int)(v:Nat),v<=a0.length->(K5 a0 a1 i n l v).length<=l.length+(a0.length-v)
  |0,l,v,hv=>Nat.zero_le _
  |n+1,l,v,hv=>by
    rw[K5];refine Ys (p:=fun r:List Int=>r.length<=l.length+(a0.length-v)) (fun hc=>?_) (fun _=>Nat.le_add_right _ _);have hc:=of_decide_eq_true hc
    have:=W0 a0 a1 i n (l++[je (nth a0 v) (nth a1.Yf i) (nth a1.Xl i)]) (v+1) zAC;rw[List.length_append,List.length_singleton]at this;omega
theorem xl{n:Nat}(a0:List Int)(a1:ZL)(a2:List Int)(h0:Sm n a0)(h1:Sm n a1):∀(m v:Nat)(s:List Bool)(p:List ByteArray)(q:List Int)(d:List (List Int)),v<=a1.Yf.length->s.length<=v->p.length<=v->q.length<=v->d.length<=v->(∀x∈p,x.size<=n)->(∀x∈d,x.length<=n)->(X4 a0 a1 a2 m v s p q d).1.length<=n/\Sm n (X4 a0 a1 a2 m v s p q d).2.1/\(X4 a0 a1 a2 m v s p q d).2.2.1.length<=n/\Sm n (X4 a0 a1 a2 m v s p q d).2.2.2
  |0,v,s,p,q,d,hv,_,_,_,_,_,_=>⟨Nat.zero_le _,Sz.zero n,Nat.zero_le _,Sz.zero n⟩
  |m+1,v,s,p,q,d,hv,k1,k2,k3,k4,k5,k6=>by
    have hp:=YA (ZL.UG h1);rw[X4];let P:=fun r:(List Bool)×List ByteArray×List Int×(List (List Int))=>r.1.length<=n/\Sm n r.2.1/\r.2.2.1.length<=n/\Sm n r.2.2.2
    refine Ys (p:=P) (fun hc=>?_) (fun _=>⟨by show s.length<=n;omega,⟨by show p.length<=n;omega,k5⟩,by show q.length<=n;omega,⟨by show d.length<=n;omega,fun x hx=>⟨k6 x hx,fun _ _=>trivial⟩⟩⟩);have hc:=of_decide_eq_true hc
    have hl:=W0 a0 a1 v (a0.length+1) [] 0 (Nat.zero_le _);have h2:=YA h0;refine ZG (p:=P) ?_ ?_
    · refine xl a0 a1 a2 h0 h1 m (v+1) _ _ _ _ zAC zAk zAk zAk zAk (fun x hx=>?_) (fun x hx=>?_)
      · rcases List.mem_append.1 hx with hx|hx
        · exact k5 x hx
        · rw[List.mem_singleton.1 hx];exact Nat.zero_le _
      · rcases List.mem_append.1 hx with hx|hx
        · exact k6 x hx
        · rw[List.mem_singleton.1 hx];exact Nat.le_trans hl zAk
    · refine xl a0 a1 a2 h0 h1 m (v+1) _ _ _ _ zAC zAk zAk zAk zAk (fun x hx=>?_) (fun x hx=>?_)
      · rcases List.mem_append.1 hx with hx|hx
        · exact k5 x hx
        · rw[List.mem_singleton.1 hx];exact Zi (ZL.UG h1)
      · rcases List.mem_append.1 hx with hx|hx
        · exact k6 x hx
        · rw[List.mem_singleton.1 hx];exact Nat.zero_le _
theorem Mt{a0:List Int}{a1:ZL}(h0:Sm n a0)(h1:Sm n a1):Sm n (Jh a0 a1 a2).1:=by obtain⟨k1,k2,k3,k4⟩:=xl a0 a1 a2 h0 h1 (a1.Yf.length+1) 0 [] [] [] [] (Nat.zero_le _) (Nat.le_refl _) (Nat.le_refl _) (Nat.le_refl _) (Nat.le_refl _) (fun x hx=>by cases hx) (fun x hx=>by cases hx);unfold Jh;refine ZG (p:=fun r:YO×Bool=>Sm n r.1) ⟨Sz.zero n,Sz.zero n,Sz.zero n,Sz.zero n,Sz.zero n⟩ ⟨h0,⟨k1,fun _ _=>trivial⟩,k2,⟨k3,fun _ _=>trivial⟩,k4⟩
theorem xP{a0:ZO}{a1:List Int}(h:Sm n a0):Sm (n+1) (JK a0 a1).1:=
  Mt (Wz h) (ZK (Nat.le_succ n) (ZO.KU h))
theorem vT(h:∀x∈l,x.size<=n)(i:Nat):(nth l i).size<=n:=by
  unfold nth;rw[List.getD_eq_getElem?_getD];cases e:l[i]? with
  |none=>exact Nat.zero_le _
  |some x=>exact h x (List.mem_of_getElem? e)
theorem XT{a0:ByteArray}(a1:Int)(h:Sm n a0):(∀i,Sm n (nth (Zb a0 a1) i))/\∀k i,Sm n (nth ((Zb a0 a1).take k) i):=by have hs:=(WW a0 a1 (a0.size+2) [] 0 0 zAC (Nat.zero_le _) (fun x hx=>by cases hx)).2;have h:=Qh h;have hs:∀x∈Zb a0 a1,x.size<=n:=fun x hx=>Nat.le_trans (hs x hx) h;exact⟨fun i=>vT hs i,fun k i=>vT (fun x hx=>hs x (List.mem_of_mem_take hx)) i⟩
theorem Ud(z:List Bool):∀(n:Nat)(l:List Int)(v:Nat),(WC z n l v).length<=l.length+n
  |0,l,v=>Nat.zero_le _
  |n+1,l,v=>by rw[WC];refine ZG (p:=fun z:List Int=>z.length<=l.length+(n+1)) (ZG (p:=fun z:List Int=>z.length<=l.length+(n+1)) ?_ (Nat.le_trans (Ud z n l (v+1)) zAC)) (Nat.le_add_right _ _);exact Nat.le_trans (Ud z n _ (v+1)) zBu
theorem OB(a0:List Yg)(a1:List Za)(a2:List ZX):Sm 101 (Vt a0 a1 a2):=
  ⟨Nat.le_trans (Ud _ 101 [] 0) (Nat.le_of_ble_eq_true rfl),fun _ _=>trivial⟩
theorem VV(a0:ZT)(a1:ZD)(a2:Int):∀(n:Nat)(l:List Int)(v:Nat),(jP a0 a1 a2 n l v).length<=l.length+n
  |0,l,v=>Nat.zero_le _
  |n+1,l,v=>by rw[jP];refine ZG (p:=fun z:List Int=>z.length<=l.length+(n+1)) (ZG (p:=fun z:List Int=>z.length<=l.length+(n+1)) ?_ (Nat.le_trans (VV a0 a1 a2 n l (v+1)) zAC)) (Nat.le_add_right _ _);exact Nat.le_trans (VV a0 a1 a2 n _ (v+1)) zBu
theorem PM{a0:ZT}{a1:ZD}{a2:Int}(h:Sm n a1):Sm (n+1) (ke a0 a1 a2):=
  ⟨Nat.le_trans (VV a0 a1 a2 _ [] 0) (by have:=YA (ZD.YD h);simp;omega),fun _ _=>trivial⟩
theorem IE{a0:ZL}(h:JU a0=true):a0.Xl.length=a0.Yf.length:=by
  unfold JU at h;cases hc:(((!(ZP a0.KK 0 999))||(!(ZP (a0.Yf.length:Int) 1 6)))||((a0.Xl.length:Int)!=(a0.Yf.length:Int)))with
  |true=>rw[hc]at h;cases h
  |false=>have h2:=(Bool.or_eq_false_iff.1 hc).2;rw[bne_eq_false_iff_eq]at h2;omega
end Go.Mo
