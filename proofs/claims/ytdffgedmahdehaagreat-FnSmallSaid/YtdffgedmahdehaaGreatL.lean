/- Plain lemmas on the models of the helpers. No condition. -/
import Derived.Test.YtdffgedmahdehaaGreatM
namespace Go.Mo
open Go.Vm
set_option linter.unusedSimpArgs false
set_option linter.unusedVariables false
variable{n m:Nat}{a0:ZL}{a2 a1 a a3 a5 k:Int}{x:XG}{a4 a6:List Int}{s:ZH}{d:ZP}
theorem Kv(a0:List Yt)(a1:Int):YB a0 a1<(a0.length:Int):=N1 (F:=xB a0 a1) (c:=fun J=>(nth a0 J).Number==a1) (fun _=>rfl) (fun _ _=>rfl) _ _
theorem PF(a0:ZM):VG a0=a0:=rfl
theorem OI(a0:List ZM):WT a0=a0:=by have h:=yQ (F:=qC a0) (a:=a0) (g:=fun x=>x) (fun _=>rfl) (fun _ _ _=>rfl) (a0.length+1) [] 0 fJ fJ;simp only[List.nil_append,List.drop_zero]at h;unfold WT;rw[h]
theorem PG(a0:ZE):W6 a0=a0:=rfl
theorem Rx(a0:ZH):jo a0=a0:=by have h:=yQ (F:=fun n v i=>y5 a0 n i v) (a:=a0.ZK) (g:=fun x=>x) (fun _=>rfl) (fun _ _ _=>rfl) (a0.ZK.length+1) [] 0 fJ fJ;simp only[List.nil_append,List.drop_zero]at h;unfold jo;rw[h]
theorem yU(a0:List ZZ)(a1:Int):Z6 a0 a1<(a0.length:Int):=N1 (F:=JW a0 a1) (c:=fun J=>(nth a0 J).Id==a1) (fun _=>rfl) (fun _ _=>rfl) _ _
theorem Pp(a0:ZP):Tv a0=a0:=rfl
theorem R2(a0:ZQ):Vn a0=a0:=rfl
theorem RS(a0:ZF):jx a0=a0:=by have h:=yQ (F:=fun n v i=>xD a0 n i v) (a:=a0.ZC) (g:=fun x=>x) (fun _=>rfl) (fun _ _ _=>rfl) (a0.ZC.length+1) [] 0 fJ fJ;simp only[List.nil_append,List.drop_zero]at h;unfold jx;rw[h]
theorem T8(a0:List Int):kg a0=a0:=rfl
theorem Wj(a0:ZP):ye a0=a0:=rfl
theorem TB(a0:ZM):jX a0=a0:=rfl
theorem UT(a0:List ZM):yI a0=a0:=by have h:=yQ (F:=Kw a0) (a:=a0) (g:=fun x=>x) (fun _=>rfl) (fun _ _ _=>rfl) (a0.length+1) [] 0 fJ fJ;simp only[List.nil_append,List.drop_zero]at h;unfold yI;rw[h]
theorem Ud(a0:List ZO):qQ a0=a0:=rfl
theorem VH(a0:ZE):xR a0=a0:=rfl
theorem UI(a0:ZH):yA a0=a0:=by have h:=yQ (F:=fun n v i=>Kz a0 n i v) (a:=a0.ZK) (g:=fun x=>x) (fun _=>rfl) (fun _ _ _=>rfl) (a0.ZK.length+1) [] 0 fJ fJ;simp only[List.nil_append,List.drop_zero]at h;unfold yA;rw[h]
theorem SQ(a0:ZQ):ka a0=a0:=rfl
theorem VR(a0:ZF):zV a0=a0:=by have h:=yQ (F:=fun n v i=>KN a0 n i v) (a:=a0.ZC) (g:=fun x=>x) (fun _=>rfl) (fun _ _ _=>rfl) (a0.ZC.length+1) [] 0 fJ fJ;simp only[List.nil_append,List.drop_zero]at h;unfold zV;rw[h]
theorem kR(h:7<=n):Sm n (Jb x):=⟨by simp[Jb];omega,fun _ _=>trivial⟩
@[simp] theorem Lj (x : XG) : (Jb x).length = 7 := rfl
theorem jV{x:ZO}(h:5<=n):Sm n (XQ x):=⟨by simp[XQ];omega,fun _ _=>trivial⟩
@[simp] theorem LB (x : ZO) : (XQ x).length = 5 := rfl
@[simp] theorem M8 (x : ZO) : (KY x).length = 5 := rfl
theorem qc{x:YK}(h:5<=n):Sm n (QE x):=⟨by simp[QE];omega,fun _ _=>trivial⟩
@[simp] theorem My (x : YK) : (QE x).length = 5 := rfl
theorem ym{x:ZY}(h:9<=n):Sm n (YZ x):=⟨by simp[YZ];omega,fun _ _=>trivial⟩
@[simp] theorem Ov (x : ZY) : (YZ x).length = 9 := rfl
@[simp] theorem Ot (x : ZY) : (X8 x).length = 9 := rfl
theorem xd{x:YW}(h:6<=n):Sm n (Xu x):=⟨by simp[Xu];omega,fun _ _=>trivial⟩
@[simp] theorem N2 (x : YW) : (Xu x).length = 6 := rfl
theorem Tt{a:ZH}(h:JE a=true):0<a.ZG.length:=by
  unfold JE at h;split at h
  · rename_i r e;have:∀n v,Jy a n v≠ .inl true:=by
      intro n;induction n with
      |zero=>intro v h;cases h
      |succ n ih=>intro v h;rw[Jy]at h;grind
    subst h;exact absurd e (this _ _)
  · split at h
    · rename_i r e;have:∀n v,J4 a n v≠ .inl true:=by
        intro n;induction n with
        |zero=>intro v h;cases h
        |succ n ih=>intro v h;rw[J4]at h;grind
      subst h;exact absurd e (this _ _)
    · simp only[Zt,Bool.and_eq_true,decide_eq_true_eq]at h;omega
theorem TZ{a:ZH}(h:JD a=true):0<a.ZG.length:=by
  unfold JD at h;generalize(match Js a (a.ZG.length+1) 0 with|.inl r1=>r1|.inr _=>(match J6 a (a.ZK.length+1) 0 with|.inl r2=>r2|.inr _=>true))=m at h;cases hh:Zc (a.ZG.length:Int) 1 12 with
  |false=>rw[hh]at h;simp at h
  |true=>simp only[Zc,Bool.and_eq_true,decide_eq_true_eq]at hh;omega
theorem VA{a:ZP}(h:YJ a=true):a.Yw.length=a.Zz.length:=by
  unfold YJ at h;split at h
  · rename_i r e;have:∀n v,XP a n v≠ .inl true:=by
      intro n;induction n with
      |zero=>intro v h;cases h
      |succ n ih=>intro v h;rw[XP]at h;grind
    subst h;exact absurd e (this _ _)
  · split at h
    · rename_i r e;have:∀n v,XT a n v≠ .inl true:=by
        intro n;induction n with
        |zero=>intro v h;cases h
        |succ n ih=>intro v h;rw[XT]at h;grind
      subst h;exact absurd e (this _ _)
    · simp only[Bool.and_eq_true,beq_iff_eq]at h;omega
theorem Vi{a:ZP}(h:QK a=true):a.Yw.length=a.Zz.length:=by unfold QK at h;grind
theorem yb(hn:n<=9223372036854775807)(h:Zt a 0 (W ((n:Int)-1))=true):0<=a/\a<n:=by rw[Ll n hn]at h;simp only[Zt,Bool.and_eq_true,decide_eq_true_eq]at h;omega
@[simp] theorem IJ (l : List UInt8) : (zO l).length = l.length := by
  have key:∀n (acc:List Int) v,l.length<n+v->v<=l.length->(Ji l n acc v).length=acc.length+(l.length-v):=by
    intro n;induction n with
    |zero=>intro acc v h1 h2;omega
    |succ n ih=>intro acc v h1 h2;rw[Ji];grind
  have:=key (l.length+1) [] 0 fJ fJ;simpa[zO]using this
theorem XF{a0:ZH}{a1:ZP}(h:Sm n a0):Sm n (YI a0 a1):=by
  have key:∀n (acc:List Int) v,a0.ZK.length<n+v->v<=a0.ZK.length->(Qd a0 a1 n acc v).length=acc.length+(a0.ZK.length-v):=by
    intro n;induction n with
    |zero=>intro acc v h1 h2;omega
    |succ n ih=>intro acc v h1 h2;rw[Qd];grind
  have h2:=key (a0.ZK.length+1) [] 0 fJ fJ;have h3:=JA (ZH.KK h);refine⟨?_,fun _ _=>trivial⟩;unfold YI;grind
theorem xC(a0:Int)(a1:List Int)(h:a1.length<=1048576):2*(za a0 a1).length=a1.length+a1.length%2:=by
  have key:∀n v i,a1.length+1<2*n+i->i<=a1.length+1->i%2=0->2*(Ke a0 a1 n v i).length=2*v.length+(a1.length+a1.length%2-i):=by
    intro n;induction n with
    |zero=>intro v i h1 h2;omega
    |succ n ih=>intro v i h1 h2 h3;unfold Ke;grind
  have:=key (a1.length+1) [] 0 fJ fJ fJ;unfold za;rw[this];simp
theorem Qt(a0:Int)(a1:List Int)(h:a1.length<=1048576):2*(Yr a0 a1).length=a1.length+a1.length%2:=by
  have key:∀n v i,a1.length+1<2*n+i->i<=a1.length+1->i%2=0->2*(XS a0 a1 n v i).length=2*v.length+(a1.length+a1.length%2-i):=by
    intro n;induction n with
    |zero=>intro v i h1 h2;omega
    |succ n ih=>intro v i h1 h2 h3;unfold XS;grind
  have:=key (a1.length+1) [] 0 fJ fJ fJ;unfold Yr;rw[this];simp
theorem Yj(h:10<=n):Sm n Zx:=⟨h,fun _ _=>trivial⟩
theorem Kl{a0:ZF}(h:Sm n a0):Sm n (Z0 a0 a1):=by
  refine⟨?_,fun _ _=>trivial⟩;have e:=OF (F:=JK a0 a1) (fun _ _=>rfl) (fun _ _ _=>rfl) (a0.ZC.length+1) [] 0
  have:(Z0 a0 a1).length<=0+(a0.ZC.length-0):=e;have:=JA (show Sm n a0.ZC from h);omega
theorem yh{a0:ZF}(h:Sm n a0):Sm n (Zo a0 a1):=by
  refine⟨?_,fun _ _=>trivial⟩;have e:=OF (F:=Xp a0 a1) (fun _ _=>rfl) (fun _ _ _=>rfl) (a0.ZC.length+1) [] 0
  have:(Zo a0 a1).length<=0+(a0.ZC.length-0):=e;have:=JA (show Sm n a0.ZC from h);omega
theorem qn(h:7<=n):Sm n (YX x):=kR h
theorem Yv{x:YK}(h:5<=n):Sm n (Y3 x):=qc h
theorem jY{x:ZY}(h:9<=n):Sm n (YE x):=ym h
theorem Wl{x:YW}(h:6<=n):Sm n (Ko x):=xd h
theorem UJ{x:ZO}(h:5<=n):Sm n (yC k x):=jV h
theorem yz{n:Nat}{a0:ZF}{a1:ZQ}(h:Sm n a0)(hx:Sm n a1):∀(m:Nat)(b:Bool)(i:Nat)(l:List ZQ),l.length<=i+(bif b then 1 else 0)->i<=a0.ZC.length->(∀y∈l,Sm n y)->
    (QF a0 a1 m b i l).2.length<=a0.ZC.length+(bif(QF a0 a1 m b i l).1 then 1 else 0)/\∀y∈(QF a0 a1 m b i l).2,Sm n y
  |0,b,i,l,_,_,_=>⟨Nat.zero_le _,fun y hy=>by cases hy⟩
  |m+1,b,i,l,hl,hi,hs=>by
    unfold QF;cases hc:decide ((i:Int)<(a0.ZC.length:Int))with
    |false=>grind
    |true=>
      have wO:i<a0.ZC.length:=by simpa using hc
      have hn:Sm n (nth a0.ZC i):=XR h;simp only[cond_true];cases hd:((!b)&&(decide (a1.Id<(nth a0.ZC i).Id)))with
      |true=>
        have hb:b=false:=by cases b<;>simp_all
        subst hb;simp only[cond_true];refine yz h hx m true (i+1) _ eU wO (fun y hy=>?_);grind
      |false=>simp only[cond_false];refine yz h hx m b (i+1) _ eU wO (fun y hy=>?_);grind
theorem Wc{a0:ZF}{a1:ZQ}(h:Sm n a0)(hx:Sm n a1):Sm (n+1) (Jv a0 a1).1:=by
  have h1:Sm (n+1) a0:=ZN (Nat.le_succ n) h;unfold Jv;cases((!(Yx a0))||(decide (qO a0 a1.Id>=0)))with
  |true=>exact h1
  |false=>
    have hz:=yz h hx (a0.ZC.length+1) false 0 [] (Nat.zero_le _) (Nat.zero_le _) (fun y hy=>by cases hy);have hlen:=(ZF.Yy h).1;simp only[cond_false];generalize hq:QF a0 a1 (a0.ZC.length+1) false 0 []=z at hz⊢;obtain⟨z0,z1⟩:=z;cases z0 with
    |false=>
      simp only[Bool.not_false,cond_true];cases(!(Yx (ZF.mk a0.Id (z1++([a1]:List ZQ)))))with
      |true=>exact h1
      |false=>
        refine⟨by have:=hz.1;simp at this⊢;omega,fun y hy=>?_⟩;have iz:y∈z1\/y=a1:=by simpa using hy
        rcases iz with hy|rfl
        · exact ZN (Nat.le_succ n) (hz.2 y hy)
        · exact ZN (Nat.le_succ n) hx
    |true=>
      simp only[Bool.not_true,cond_false];cases(!(Yx (ZF.mk a0.Id z1)))with
      |true=>exact h1
      |false=>exact⟨by have:=hz.1;simp at this⊢;omega,fun y hy=>ZN (Nat.le_succ n) (hz.2 y hy)⟩
theorem Jx(a0:Int):∀(m:Nat)(x:Int)(l:List Zs)(y:List Int),(Xl a0 m x l y).length<=l.length+m
  |0,x,l,y=>Nat.zero_le _
  |m+1,x,l,y=>by
    simp only[Xl];cases decide ((y.length:Int)>1)with
    |false=>simp
    |true=>
      simp only[cond_true];cases(Int.tmod x 2==1)with
      |true=>refine Nat.le_trans (Jx a0 m _ _ _) ?_;simp;omega
      |false=>
        simp only[cond_false];cases decide (W (x+1)<(y.length:Int))with
        |true=>refine Nat.le_trans (Jx a0 m _ _ _) ?_;simp;omega
        |false=>refine Nat.le_trans (Jx a0 m _ _ _) ?_;omega
theorem kN{a0:Int}{a1:List Int}(h:17<=n):Sm n (Y4 a0 a1 a2):=by
  refine⟨?_,fun _ _=>trivial⟩;unfold Y4;cases hc:((decide ((a1.length:Int)>16))||(!(Zt a2 0 (W ((a1.length:Int)-1)))))with
  |true=>exact Nat.zero_le _
  |false=>have h1:=Jx a0 (a1.length+1) a2 [] a1;grind
theorem J3(a0:Int):∀(m:Nat)(y:List Int)(x:Int)(l:List Zs),(Yp a0 m y x l).length<=l.length+m
  |0,y,x,l=>Nat.zero_le _
  |m+1,y,x,l=>by
    simp only[Yp];cases decide ((y.length:Int)>1)with
    |false=>simp
    |true=>
      simp only[cond_true];cases(Int.tmod x 2==1)with
      |true=>refine Nat.le_trans (J3 a0 m _ _ _) ?_;simp;omega
      |false=>
        simp only[cond_false];cases decide (W (x+1)<(y.length:Int))with
        |true=>refine Nat.le_trans (J3 a0 m _ _ _) ?_;simp;omega
        |false=>refine Nat.le_trans (J3 a0 m _ _ _) ?_;omega
theorem kF{a0:Int}{a1:List Int}(h:17<=n):Sm n (YH a0 a1 a2):=by
  refine⟨?_,fun _ _=>trivial⟩;unfold YH;cases hc:((!(Zc a2 0 (W ((a1.length:Int)-1))))||(decide ((a1.length:Int)>16)))with
  |true=>exact Nat.zero_le _
  |false=>have h1:=J3 a0 (a1.length+1) a1 a2 [];grind
theorem Oj(x:Int):0<=SU .i64 x 255/\SU .i64 x 255<=255:=by
  have h:(BitVec.ofInt IntKind.i64.bits x&&&BitVec.ofInt IntKind.i64.bits 255).toNat<=255:=by rw[BitVec.toNat_and];exact Nat.le_trans Nat.and_le_right (Nat.le_of_ble_eq_true rfl)
  unfold SU;rw[Ya fJ fJ];omega
theorem Jw(c:ZL):0<=(Zi c).2/\(Zi c).2<=255:=by unfold Zi;exact Zk (p:=fun r:ZL×Int=>0<=r.2/\r.2<=255) (Oj _) (Oj _)
theorem Z4(c:ZL)(n:Int):0<=(ZA c n).2/\(0<n->(ZA c n).2<n):=by
  unfold ZA;refine jP (p:=fun r:ZL×Int=>0<=r.2/\(0<n->r.2<n)) (fun h=>⟨Int.le_refl _,fun h0=>h0⟩) (fun h=>?_);have hn:0<n:=by simp at h;omega
  have h1:=Jw c;have h2:=Jw (Zi c).1;have h3:=Jw (Zi (Zi c).1).1;refine Zk (p:=fun r:ZL×Int=>0<=r.2/\(0<n->r.2<n)) ⟨Int.tmod_nonneg _ h1.1,fun _=>Int.tmod_lt_of_pos _ hn⟩ ⟨Int.tmod_nonneg _ ?_,fun _=>Int.tmod_lt_of_pos _ hn⟩;simp only[Y5];omega
theorem Rv(c:ZL)(n:Int):(ZA c n).2<=16777215:=by
  unfold ZA;have h1:=Jw c
  have h2:=Jw (Zi c).1;have h3:=Jw (Zi (Zi c).1).1;refine Zk (p:=fun r:ZL×Int=>r.2<=16777215) (show(0:Int)<=16777215 by decide) (jP (p:=fun r:ZL×Int=>r.2<=16777215) (fun h=>?_) (fun h=>?_))
  · have:(Int.tmod (Zi c).2 n).natAbs<=(Zi c).2.natAbs:=by rw[Int.natAbs_tmod];exact Nat.mod_le _ _
    grind
  · show Int.tmod _ _<=_;have hw:0<=W (W (W ((Zi c).2*65536)+W ((Zi (Zi c).1).2*256))+(Zi (Zi (Zi c).1).1).2)/\W (W (W ((Zi c).2*65536)+W ((Zi (Zi c).1).2*256))+(Zi (Zi (Zi c).1).1).2)<=16777215:=by simp only[Y5];omega
    have h4:(Int.tmod (W (W (W ((Zi c).2*65536)+W ((Zi (Zi c).1).2*256))+(Zi (Zi (Zi c).1).1).2)) n).natAbs<=(W (W (W ((Zi c).2*65536)+W ((Zi (Zi c).1).2*256))+(Zi (Zi (Zi c).1).1).2)).natAbs:=by rw[Int.natAbs_tmod];exact Nat.mod_le _ _
    have h5:=Int.tmod_nonneg n hw.1;omega
theorem kG(c:ZL):(XY c).2.size<=11:=by unfold XY jm;exact Hq fO _
theorem zz(a0:ZF)(a1:Int)(a2:List ZO):∀(m v:Nat)(l:List ZQ),m≠0->a0.ZC.length<m+v->(∀r,Zv a0 a1 a2 m v l= .inl r->r=(a0,false))/\∀z,Zv a0 a1 a2 m v l= .inr z->z.length=l.length
  |0,v,l,h,_=>absurd rfl h
  |m+1,v,l,_,h=>by
    rw[Zv];cases hc:decide ((v:Int)<(a0.ZC.length:Int))with
    |false=>rw[QZ];exact⟨fun r e=>(by cases e),fun z e=>(by cases e;rfl)⟩
    |true=>
      rw[Qr];simp only[decide_eq_true_eq]at hc;refine Zk (p:=fun q:Sum (ZF×Bool) (List ZQ)=>(∀r,q= .inl r->r=(a0,false))/\∀z,q= .inr z->z.length=l.length) ⟨fun r e=>(by cases e;rfl),fun z e=>(by cases e)⟩ ?_;have:=zz a0 a1 a2 m (v+1) (l.set v (ZQ.mk (nth l v).Id (nth l v).YL (nth l v).Doc (nth l v).Sig (Z2 (nth a0.ZC v).ZJ (ZE.mk ((nth a0.ZC v).ZJ.ZG.length:Int) a1 (XL a0 a1) (YH a1 (Zo a0 a1) (v:Int)) a2)).1)) fJ fJ
      rw[List.length_set]at this;exact this
theorem WS(a0:ZF)(a1:Int)(a2:List ZO):(ZS a0 a1 a2).1.ZC.length=a0.ZC.length:=by
  obtain⟨h1,h2⟩:=zz a0 a1 a2 (a0.ZC.length+1) 0 a0.ZC fJ fJ;unfold ZS;refine Zk (p:=fun q:ZF×Bool=>q.1.ZC.length=a0.ZC.length) rfl ?_;cases e:Zv a0 a1 a2 (a0.ZC.length+1) 0 a0.ZC with
  |inl r=>dsimp only;rw[h1 r e]
  |inr z=>exact Zk (p:=fun q:ZF×Bool=>q.1.ZC.length=a0.ZC.length) rfl (h2 z e)
theorem UR{a0:ZH}{a1:ZE}(h:Sm n a0)(hp:Sm (n+1) a1):Sm (n+1) (Z2 a0 a1).1:=by
  have h1:Sm (n+1) a0:=ZN (Nat.le_succ n) h;refine Zk (p:=fun w:ZH×Bool=>Sm (n+1) w.1) h1 ?_;refine⟨h1.1,⟨?_,fun x hx=>?_⟩⟩
  · have:=h.2.1;simp;omega
  · rcases List.mem_append.1 hx with hx|hx
    · exact h1.2.2 x hx
    · have e:=List.mem_singleton.1 hx;subst e;exact hp
theorem Qc{a0:ZF}{a2:List ZO}(h:Sm n a0)(hp:Sm n a2)(hn:17<=n):Sm (n+1) (ZS a0 a1 a2).1:=by
  have h1:Sm (n+1) a0:=ZN (Nat.le_succ n) h;have hi:=ZF.Yy h;have key:∀m v l,l.length=a0.ZC.length->(∀x∈l,Sm (n+1) x)->(∀r,Zv a0 a1 a2 m v l= .inl r->r=(a0,false))/\∀z,Zv a0 a1 a2 m v l= .inr z->z.length<=a0.ZC.length/\∀x∈z,Sm (n+1) x:=by
    intro m;induction m with
    |zero=>intro v l _ _;exact⟨fun r h=>(by cases h),fun z h=>(by cases h;exact⟨Nat.zero_le _,fun x hx=>(by cases hx)⟩)⟩
    |succ m ih=>
      intro v l hl hs;rw[Zv];let p:=fun w:Sum (ZF×Bool) (List ZQ)=>(∀r,w= .inl r->r=(a0,false))/\∀z,w= .inr z->z.length<=a0.ZC.length/\∀x∈z,Sm (n+1) x
      refine Zk (p:=p) (Zk (p:=p) ⟨fun r h=>(by cases h;rfl),fun z h=>(by cases h)⟩ (ih _ _ (by rw[List.length_set];exact hl) (fun x hx=>?_))) ⟨fun r h=>(by cases h),fun z h=>(by cases h;exact⟨fJ,hs⟩)⟩;rcases List.mem_or_eq_of_mem_set hx with hx|rfl
      · exact hs x hx
      · have nJ:Sm (n+1) (nth l v):=by
          by_cases hv:v<l.length
          · have:nth l v=l[v]:=by simp[nth,List.getD_eq_getElem?_getD,List.getElem?_eq_getElem hv]
            rw[this];exact hs _ (List.getElem_mem hv)
          · have:nth l v=default:=by simp[nth,List.getD_eq_getElem?_getD,List.getElem?_eq_none (Nat.le_of_not_lt hv)]
            rw[this];exact Sz.zero _
        have hv:Sm n (nth a0.ZC v):=XR hi;refine⟨nJ.1,UR hv.2 ?_⟩;exact⟨kF fJ,ZN (Nat.le_succ n) hp⟩
  unfold ZS;refine Zk (p:=fun w:ZF×Bool=>Sm (n+1) w.1) h1 ?_;obtain⟨k1,k2⟩:=key (a0.ZC.length+1) 0 a0.ZC rfl (fun x hx=>ZN (Nat.le_succ n) (hi.2 x hx));cases hh:Zv a0 a1 a2 (a0.ZC.length+1) 0 a0.ZC with
  |inl r=>rw[k1 r hh];exact h1
  |inr z=>
    obtain⟨q1,q2⟩:=k2 z hh;have:=JA hi
    exact Zk (p:=fun w:ZF×Bool=>Sm (n+1) w.1) h1 ⟨by show z.length<=n+1;omega,q2⟩
theorem PV{k:Nat}(h:((Zc a 1 16)&&(decide ((W (1*2^(min (IntKind.u64.wrap (k:Int)).toNat IntKind.i64.bits)))<a)))=true)(hk:k<=4):k+1<=4:=by
  simp only[Zc,Bool.and_eq_true,decide_eq_true_eq]at h;rcases Nat.lt_or_ge k 4 with h4|h4
  · exact h4
  · have:k=4:=fJ;subst this;have e:W (1*2^min (IntKind.u64.wrap ((4:Nat):Int)).toNat IntKind.i64.bits)=16:=fO;rw[e]at h;omega
theorem Y9(h:4<=n):Sm n Zm:=⟨h,fun _ _=>trivial⟩
theorem zT:YP.length=3:=rfl
theorem zl(a0:Int)(a1:List ByteArray)(a2:Int):∀(m v:Nat)(l:List Int),(Ye a0 a1 a2 m v l).length<=l.length+m
  |0,_,_=>Nat.zero_le _
  |m+1,v,l=>by
    rw[Ye];refine Zk (p:=fun r:List Int=>r.length<=l.length+(m+1)) ?_ fJ;have:=zl a0 a1 a2 m (v+1) (l++[Tx 1 (Jc a2 [a0,v])])
    grind
theorem We{a0:Int}{a1:List ByteArray}(h:Sm n a1)(hn:a1.length+1<=n):Sm n (XX a0 a1 a2).1:=by
  unfold XX;have:=zl a0 a1 a2 (a1.length+1) 0 []
  refine Zk (p:=fun r:ZP×Bool=>Sm n r.1) ⟨Sz.zero n,Sz.zero n⟩ ⟨h,Nat.le_trans this (by simpa using hn),fun _ _=>trivial⟩
theorem xJ:∀(m:Nat)(l:List ByteArray)(i:Int)(b:List UInt8)(j:Nat)(h:Int),(∀x∈l,x.size<=11)->(QY m l i b j h).1.length<=l.length+m/\∀x∈(QY m l i b j h).1,x.size<=11
  |0,_,_,_,_,_,_=>⟨Nat.zero_le _,fun x hx=>by cases hx⟩
  |m+1,l,i,b,j,h,hl=>by
    rw[QY];refine Zk (p:=fun r:(List ByteArray)×List UInt8×Nat×Int=>r.1.length<=l.length+(m+1)/\∀x∈r.1,x.size<=11) ?_ ⟨by show l.length<=_;omega,hl⟩;have:=xJ m (l++[(XY (ZL.mk b j h)).2]) (W (i-1)) (XY (ZL.mk b j h)).1.b (XY (ZL.mk b j h)).1.i (XY (ZL.mk b j h)).1.h (fun x hx=>by
      rcases List.mem_append.1 hx with hx|hx
      · exact hl x hx
      · rw[List.mem_singleton.1 hx];exact kG _)
    grind
theorem Vx(h:20<=n):Sm n (Z7 a0).2:=by
  unfold Z7;have:=xJ 5 [] (W (1+(ZA a0 3).2)) (ZA a0 3).1.b (ZA a0 3).1.i (ZA a0 3).1.h (fun x hx=>by cases hx)
  simp only[List.length_nil]at this;exact We ⟨fJ,fun x hx=>Nat.le_trans (this.2 x hx) fJ⟩ fJ
theorem yB(h:20<=n):Sm n (ZR a0).2.2:=Vx h
theorem QC(h:20<=n):Sm n (Qg a0).2:=by unfold Qg;refine Zk (p:=fun r:ZL×ZM=>Sm n r.2) (qn fJ) (Zk (p:=fun r:ZL×ZM=>Sm n r.2) (Yv fJ) (Zk (p:=fun r:ZL×ZM=>Sm n r.2) (UJ fJ) (Zk (p:=fun r:ZL×ZM=>Sm n r.2) (jY fJ) (Wl fJ))))
theorem xP{a0:ZH}{a1:ZM}(hn:n+1<=m)(h:Sm n a0)(hx:Sm m a1):Sm m (Xd a0 a1).1:=by
  have h1:Sm m a0:=ZN fJ h;unfold Xd;refine Zk (p:=fun r:ZH×Bool=>Sm m r.1) h1 ⟨⟨?_,fun y hy=>?_⟩,h1.2⟩
  · have:a0.ZG.length<=n:=h.1.1;simp only[List.length_append,List.length_singleton];omega
  · rcases List.mem_append.1 hy with hy|hy
    · exact h1.1.2 y hy
    · rw[List.mem_singleton.1 hy];exact hx
theorem XE{a0:ZH}{a1:ZE}(hn:n+1<=m)(h:Sm n a0)(hx:Sm m a1):Sm m (ZX a0 a1).1:=by
  have h1:Sm m a0:=ZN fJ h;unfold ZX;refine Zk (p:=fun r:ZH×Bool=>Sm m r.1) h1 ⟨h1.1,⟨?_,fun y hy=>?_⟩⟩
  · have:a0.ZK.length<=n:=h.2.1;simp only[List.length_append,List.length_singleton];omega
  · rcases List.mem_append.1 hy with hy|hy
    · exact h1.2.2 y hy
    · rw[List.mem_singleton.1 hy];exact hx
theorem qg(x:ZY)(c:XG):Sm 30 (ZH.mk ([YE x,YX c]:List ZM) ([]:List ZE)):=⟨⟨fM,fun y hy=>by
    rcases List.mem_cons.1 hy with rfl|hy
    · exact jY fJ
    · rw[List.mem_singleton.1 hy];exact qn fJ⟩,Sz.zero 30⟩
theorem UG(x:ZY)(c:XG)(s:YK):Sm 31 (Xd (ZH.mk ([YE x,YX c]:List ZM) ([]:List ZE)) (Y3 s)).1:=xP (n:=30) fJ (qg x c) (Yv fJ)
theorem Ju(x:ZY)(c:XG)(h:30<=n:=by decide):Sm n (ZH.mk ([YE x,YX c]:List ZM) ([]:List ZE)):=ZN h (qg x c)
theorem J7(x:ZY)(c:XG)(s:YK)(h:31<=n:=by decide):Sm n (Xd (ZH.mk ([YE x,YX c]:List ZM) ([]:List ZE)) (Y3 s)).1:=ZN h (UG x c s)
theorem yi(h:50<=n):Sm n (ZW a0).2.1/\Sm n (ZW a0).2.2.1:=by
  have h0:=qg;have h1:=UG;unfold ZW;refine Zk (p:=fun r:ZL×ZH×ZP×ZY=>Sm n r.2.1/\Sm n r.2.2.1) (Zk (p:=fun r:ZL×ZH×ZP×ZY=>Sm n r.2.1/\Sm n r.2.2.1) ⟨?_,?_⟩ ⟨?_,?_⟩) (Zk (p:=fun r:ZL×ZH×ZP×ZY=>Sm n r.2.1/\Sm n r.2.2.1) ⟨?_,?_⟩ ⟨?_,?_⟩)
  · exact xP (n:=31) fJ (h1 _ _ _) (QC fJ)
  · exact yB fJ
  · exact ZN (n:=31) fJ (h1 _ _ _)
  · exact yB fJ
  · exact xP (n:=30) fJ (h0 _ _) (QC fJ)
  · exact yB fJ
  · exact ZN (n:=30) fJ (h0 _ _)
  · exact yB fJ
theorem qV(h:50<=n):Sm n (ZW a0).2.2.1:=(yi h).2
theorem zp(a0:List Yt)(a1:List ZZ)(a2 a3:Int)(a4 a6:List Int)(a7 a8:Int):∀(m v:Nat)(l:List ZO),(Kj a0 a1 a2 a3 a4 a6 a7 a8 m v l).length<=l.length+m
  |0,_,_=>Nat.zero_le _
  |m+1,v,l=>by
    rw[Kj];refine Zk (p:=fun r:List ZO=>r.length<=l.length+(m+1)) (Zk (p:=fun r:List ZO=>r.length<=l.length+(m+1)) ?_ ?_) fJ
    · refine Nat.le_trans (zp a0 a1 a2 a3 a4 a6 a7 a8 m (v+1) _) ?_;simp only[List.length_append,List.length_singleton];omega
    · refine Nat.le_trans (zp a0 a1 a2 a3 a4 a6 a7 a8 m (v+1) _) ?_;omega
theorem z7{a0:List Yt}{a1:List ZZ}{a7 a8:Int}(h:17<=n)(h6:a6.length+1<=n):Sm n (KZ a0 a1 a2 a3 a4 a5 a6 a7 a8):=by
  unfold KZ;have:=zp a0 a1 a2 a3 a4 a6 a7 a8 (a6.length+1) 0 []
  exact⟨kN h,Nat.le_trans this (by simpa using h6),fun _ _=>trivial⟩
theorem j9{a1:ZH}{a2:ZP}{a4:Int}(hn:n+1<=m)(lq:17<=m)(h:Sm n a1):Sm m (Xf a0 a1 a2 a3 a4).2:=by
  unfold Xf;refine Zk (p:=fun r:ZL×ZH=>Sm m r.2) (ZN fJ h) (Zk (p:=fun r:ZL×ZH=>Sm m r.2) ?_ ?_)
  · exact XE hn h (z7 lq fc)
  · exact XE hn h (z7 lq fc)
theorem qy(a0:ZL):∀(m k:Nat)(x y:Int)(b:List UInt8)(i:Nat)(h:Int)(p:List ZM)(c:List ZE),17<=k->Sm k (ZH.mk p c)->Sm (k+m) (ZH.mk (Jp a0 m x y b i h p c).2.2.2.1 (Jp a0 m x y b i h p c).2.2.2.2)
  |0,k,_,_,_,_,_,_,_,_,_=>⟨Sz.zero _,Sz.zero _⟩
  |m+1,k,x,y,b,i,h,p,c,hk,hs=>by rw[Jp];refine Zk (p:=fun r:(List UInt8)×Nat×Int×List ZM×(List ZE)=>Sm (k+(m+1)) (ZH.mk r.2.2.2.1 r.2.2.2.2)) ?_ (ZN fJ hs);rw[show k+(m+1)=k+1+m by omega];exact qy a0 m (k+1) _ _ _ _ _ _ _ fJ (j9 (n:=k) (Nat.le_refl _) fJ hs)
theorem PI(h:Sm n s):Sm n (ZH.mk s.ZG s.ZK):=h
theorem R4(h:60<=n):Sm n (XA a0).2.1/\Sm n (XA a0).2.2.1:=by
  obtain⟨h1,hd⟩:=yi (n:=50) (a0:=a0) fJ;have h2:=fun x y b i h=>qy a0 5 50 x y b i h (ZW a0).2.1.ZG (ZW a0).2.1.ZK fJ (PI h1)
  have h3:=ZN (m:=n) fJ hd;unfold XA;generalize ZW a0=z at h2 h3⊢;have h4:=h2 (Zn z.1 ([10,25,30]:List Int)).2 (ZA (Zn z.1 ([10,25,30]:List Int)).1 4).2 (ZA (Zn z.1 ([10,25,30]:List Int)).1 4).1.b (ZA (Zn z.1 ([10,25,30]:List Int)).1 4).1.i (ZA (Zn z.1 ([10,25,30]:List Int)).1 4).1.h;generalize Jp a0 5 (Zn z.1 ([10,25,30]:List Int)).2 (ZA (Zn z.1 ([10,25,30]:List Int)).1 4).2 (ZA (Zn z.1 ([10,25,30]:List Int)).1 4).1.b (ZA (Zn z.1 ([10,25,30]:List Int)).1 4).1.i (ZA (Zn z.1 ([10,25,30]:List Int)).1 4).1.h z.2.1.ZG z.2.1.ZK=q at h4⊢;obtain⟨q1,q2,q3,q4,q5⟩:=q;exact⟨ZN (n:=50+5) fJ h4,h3⟩
theorem yH(h:60<=n):Sm n (Y7 a0).2:=by have h0:=R4 (a0:=a0) h;unfold Y7;simp only[ZQ.zy];exact⟨h0.2,h0.1⟩
theorem y4:∀(m k:Nat)(x:Int)(b:List UInt8)(i:Nat)(h y:Int)(l:List ZQ),60<=k->Sm k (ZF.mk y l)->Sm (k+m) (ZF.mk (Qj m x b i h y l).2.2.2.1 (Qj m x b i h y l).2.2.2.2)
  |0,k,_,_,_,_,_,_,_,_=>Sz.zero (α:=List ZQ) _
  |m+1,k,x,b,i,h,y,l,hk,hs=>by
    rw[Qj];refine Zk (p:=fun r:(List UInt8)×Nat×Int×Int×(List ZQ)=>Sm (k+(m+1)) (ZF.mk r.2.2.2.1 r.2.2.2.2)) ?_ (ZN (n:=k) fJ hs);have:=y4 m (k+1) (W (x-1)) (Y7 (ZL.mk b i h)).1.b (Y7 (ZL.mk b i h)).1.i (Y7 (ZL.mk b i h)).1.h (Jv (ZF.mk y l) (Y7 (ZL.mk b i h)).2).1.Id (Jv (ZF.mk y l) (Y7 (ZL.mk b i h)).2).1.ZC fJ (Wc hs (yH fJ))
    rw[show k+(m+1)=k+1+m by omega];exact this
theorem UP(h:70<=n):Sm n (QM a0).2:=by
  unfold QM;split;rename_i z1 z2 z3 z4 z5 e;have h2:=y4 5 60 (ZA (ZA a0 3).1 4).2 (ZA (ZA a0 3).1 4).1.b (ZA (ZA a0 3).1 4).1.i (ZA (ZA a0 3).1 4).1.h (ZA a0 3).2 [] fJ (Sz.zero (α:=List ZQ) _)
  rw[e]at h2;exact ZN (n:=60+5) fJ h2
theorem xm(a0:List Yt)(a1:List ZZ)(a2:List Int)(a3:Int)(a4:List Int)(a5:Int):∀(m:Nat)(l:List ZO)(v:Nat),v<=a2.length->(Q4 a0 a1 a2 a3 a4 a5 m l v).length+v<=l.length+a2.length
  |0,l,v,h=>by show 0+v<=_;omega
  |m+1,l,v,h=>by
    rw[Q4];have h1:=fun l hv=>xm a0 a1 a2 a3 a4 a5 m l (v+1) hv
    cases hc:(decide ((v:Int)<(a2.length:Int))&&decide ((v:Int)<(a4.length:Int)))with
    |false=>rw[QZ];omega
    |true=>
      rw[Qr];simp only[Bool.and_eq_true,decide_eq_true_eq]at hc;have h2:=h1 l fJ
      have h3:=h1 (l++[(Xt a0 a1 (ZO.mk (nth a2 v) a3 (nth a4 v) a5 0)).1]) fJ;rw[List.length_append,List.length_singleton]at h3;cases(Xt a0 a1 (ZO.mk (nth a2 v) a3 (nth a4 v) a5 0)).2
      · rw[QZ];omega
      · rw[Qr];omega
theorem q9(a0:List Yt)(a1:List ZZ)(a2:List Int)(a3:Int)(a4:List Int)(a5:Int):(KR a0 a1 a2 a3 a4 a5).length<=a2.length:=by
  have h:=xm a0 a1 a2 a3 a4 a5 (a2.length+1) [] 0 (Nat.zero_le _);rw[List.length_nil]at h;show(Q4 a0 a1 a2 a3 a4 a5 (a2.length+1) [] 0).length<=_
  omega
theorem yw{a0:List UInt8}(h:70<=n):Sm n (Za a0).1:=by unfold Za;exact UP h
theorem K4{n:Nat}(h:70<=n):∀(m:Nat)(l:List ZQ),Sm n l->Sm n (Xh m l)
  |0,l,_=>Sz.zero (α:=List ZQ) _
  |m+1,l,hs=>by
    rw[Xh];cases hc:decide (((nth l 0).ZJ.ZK.length:Int)<8)with
    |false=>exact hs
    |true=>
      rw[Qr];simp only[decide_eq_true_eq]at hc;have h0:=XR (i:=0) hs
      refine K4 h m _ (Hj hs ?_);simp only[ZQ.zy,ZH.zy];refine⟨ZQ.Vh h0,ZH.zM (ZQ.XJ h0),by rw[List.length_append,List.length_singleton];omega,fun y hy=>?_⟩;rcases List.mem_append.1 hy with hy|hy
      · exact(ZH.KK (ZQ.XJ h0)).2 y hy
      · rw[List.mem_singleton.1 hy];exact⟨⟨Nat.zero_le _,fun _ h=>by cases h⟩,⟨Nat.zero_le _,fun _ h=>by cases h⟩⟩
theorem Ze{a0:List UInt8}(h:70<=n):Sm n (ZB a0).1/\(ZB a0).2.2.length<=3:=by
  have h0:=yw (a0:=a0) h;unfold ZB;refine Zk (p:=fun r:ZF×Int×(List ZO)=>Sm n r.1/\r.2.2.length<=3) ?_ ?_
  · refine⟨?_,?_⟩
    · show Sm n (ZF.mk _ _);rw[ZF.zy];exact K4 h 9 _ (ZF.Yy h0)
    · dsimp only;exact q9 ..
  · refine⟨h0,?_⟩;dsimp only;exact q9 ..
theorem MR(p:Int):0<=kI p 2147483647/\kI p 2147483647<2147483647:=by
  unfold kI;rw[show(!(Zt 2147483647 1 1000000000000))=false by decide,cond_false];have h1:(Int.tmod p 2147483647).natAbs<2147483647:=by rw[Int.natAbs_tmod];exact Nat.mod_lt _ fO
  have hw:W (Int.tmod p 2147483647+2147483647)=Int.tmod p 2147483647+2147483647:=eM;grind
theorem WU(a:List Int):∀(n:Nat)(v:Int)(i:Nat),0<=v/\v<2147483647->0<=zb a n v i/\zb a n v i<2147483647
  |0,_,_,_=>⟨Int.le_refl 0,show(0:Int)<2147483647 by decide⟩
  |n+1,v,i,h=>by
    rw[zb];refine Zk (p:=fun r:Int=>0<=r/\r<2147483647) (WU a n _ (i+1) ?_) h;have h1:=MR (nth a i)
    have hw:W (W (W (v*1000003)+kI (nth a i) 2147483647)+13)=v*1000003+kI (nth a i) 2147483647+13:=eM;grind
theorem Tj(a:List Int):0<=qp a/\qp a<2147483647:=WU a (a.length+1) 11 0 ⟨fO,fO⟩
theorem xA:∀(m:Nat)(l:List Int)(i:Int)(b:List UInt8)(j:Nat)(h:Int),(JT m l i b j h).1.length<=l.length+m
  |0,_,_,_,_,_=>Nat.zero_le _
  |m+1,l,i,b,j,h=>by rw[JT];refine Zk (p:=fun r:(List Int)×List UInt8×Nat×Int=>r.1.length<=l.length+(m+1)) (Nat.le_trans (xA m _ _ _ _ _) ?_) (by show l.length<=_;omega);simp only[List.length_append,List.length_singleton];omega
theorem K3(h:10<=n):Sm n (Z3 a0 4).2:=by
  have h1:=Z4 a0 4;have h2:=xA ((ZA a0 4).2.toNat+2) [] (ZA a0 4).2 (ZA a0 4).1.b (ZA a0 4).1.i (ZA a0 4).1.h;unfold Z3;generalize JT ((ZA a0 4).2.toNat+2) [] (ZA a0 4).2 (ZA a0 4).1.b (ZA a0 4).1.i (ZA a0 4).1.h=z at h2⊢;obtain⟨z1,z2,z3,z4⟩:=z;simp only[List.length_nil]at h2;refine⟨?_,fun _ _=>trivial⟩;show z1.length<=n
  omega
theorem qh:∀(m:Nat)(l:List ByteArray)(i:Int)(b:List UInt8)(j:Nat)(h:Int),i<m->0<=i->i<=100->l.length<=(QY m l i b j h).1.length/\(0<i->l.length<(QY m l i b j h).1.length)
  |0,l,i,b,j,h,hi,_,_=>fJ
  |m+1,l,i,b,j,h,hi,_,h2=>by
    rw[QY];by_cases hp:i>0
    · rw[show decide (i>0)=true by simpa using hp,cond_true];have hw:W (i-1)=i-1:=eM
      rw[hw];have h3:=qh m (l++([(XY (ZL.mk b j h)).2]:List ByteArray)) (i-1) (XY (ZL.mk b j h)).1.b (XY (ZL.mk b j h)).1.i (XY (ZL.mk b j h)).1.h fJ fJ fJ
      grind
    · grind
theorem Mx{x b:Int}(h1:a<=x)(h2:x<=b):Zt x a b=true:=by simp[Zt];omega
theorem zF(a0:Int)(a1:List ByteArray)(a2:Int):∀(m v:Nat)(l:List Int),a1.length<m+v->v<=a1.length->l.length=v->(∀x∈l,1<=x/\x<=1000000000000)->(Ye a0 a1 a2 m v l).length=a1.length/\∀x∈Ye a0 a1 a2 m v l,1<=x/\x<=1000000000000
  |0,v,l,h1,h2,_,_=>fJ
  |m+1,v,l,h1,h2,h3,h4=>by
    rw[Ye];by_cases hv:v<a1.length
    · rw[show decide ((v:Int)<(a1.length:Int))=true by simpa using hv,cond_true];refine zF a0 a1 a2 m (v+1) _ fJ hv (by rw[List.length_append,List.length_singleton,h3]) (fun x hx=>?_);rcases List.mem_append.1 hx with hx|hx
      · exact h4 x hx
      · rw[List.mem_singleton.1 hx];have:=Tj ((([a2]:List Int)++([a0,(v:Int)]:List Int))++([a2]:List Int))
        unfold Tx;refine jP (p:=fun r:Int=>1<=r/\r<=1000000000000) (fun hc=>?_) (fun _=>⟨fO,fO⟩);simp only[decide_eq_true_eq]at hc;unfold Jc at hc⊢;omega
    · grind
theorem UQ(ht:0<=d.zj/\d.zj<=999)(h1:1<=d.Zz.length/\d.Zz.length<=6)(h2:∀x∈d.Zz,x.size<=40)(h3:d.Yw.length=d.Zz.length)(h4:∀x∈d.Yw,1<=x/\x<=1000000000000):YJ d=true:=by
  have k1:∀n v,XP d n v= .inr ():=by
    intro n;induction n with
    |zero=>intro v;rfl
    |succ n ih=>
      intro v;rw[XP];by_cases hv:v<d.Zz.length
      · have:=h2 _ (by rw[U0 hv];exact List.getElem_mem hv:nth d.Zz v∈d.Zz);grind
      · grind
  have k2:∀n v,XT d n v= .inr ():=by
    intro n;induction n with
    |zero=>intro v;rfl
    |succ n ih=>
      intro v;rw[XT];by_cases hv:v<d.Yw.length
      · have:=h4 _ (by rw[U0 hv];exact List.getElem_mem hv:nth d.Yw v∈d.Yw);rw[Mx this.1 this.2,Bool.not_true,cond_false,ih];cases decide ((v:Int)<(d.Yw.length:Int))<;>rfl
      · grind
  unfold YJ;rw[k1,k2];simp only[Zt,Bool.and_eq_true,decide_eq_true_eq,beq_iff_eq];omega
theorem TK(a0:ZL):YJ (Z7 a0).2=true:=by
  have h0:=Z4 a0 3;have hw:W (1+(ZA a0 3).2)=1+(ZA a0 3).2:=eM;have h1:=xJ 5 [] (W (1+(ZA a0 3).2)) (ZA a0 3).1.b (ZA a0 3).1.i (ZA a0 3).1.h (fun x hx=>by cases hx);have h2:=qh 5 [] (W (1+(ZA a0 3).2)) (ZA a0 3).1.b (ZA a0 3).1.i (ZA a0 3).1.h (by rw[hw];omega) (by rw[hw];omega) (by rw[hw];omega);unfold Z7;generalize QY 5 [] (W (1+(ZA a0 3).2)) (ZA a0 3).1.b (ZA a0 3).1.i (ZA a0 3).1.h=z at h1 h2⊢;obtain⟨z1,z2,z3,z4⟩:=z;simp only[List.length_nil]at h1 h2;have h3:=h2.2 (by rw[hw];omega);show YJ (XX (ZA (ZL.mk z2 z3 z4) 5).2 z1 11).1=true
  have ht:=Z4 (ZL.mk z2 z3 z4) 5;generalize(ZA (ZL.mk z2 z3 z4) 5).2=t at ht⊢;have hv:=zF t z1 11 (z1.length+1) 0 [] fJ (Nat.zero_le _) rfl (fun x hx=>by cases hx);unfold XX;generalize Ye t z1 11 (z1.length+1) 0 []=q at hv⊢;have hd:YJ (ZP.mk t z1 q)=true:=UQ (d:=ZP.mk t z1 q) (by show 0<=t/\t<=999;omega) (by show 1<=z1.length/\z1.length<=6;omega) (fun x hx=>Nat.le_trans (h1.2 x hx) fO) hv.1 hv.2;show YJ (bif((!(YJ (ZP.mk t z1 q)))||(!(yK 11)))then(ZP.mk 0 ([]:List ByteArray) ([]:List Int),false)else(ZP.mk t z1 q,true)).1=true
  rw[hd];exact hd
theorem kC(a0:ZL):(ZR a0).2.1.YC=1+(ZA (Z7 a0).1 3).2:=by
  have h0:=Z4 (Z7 a0).1 3;have hk:=Z4 (ZA (Z7 a0).1 3).1 3;have hd:=TK a0;unfold ZR Jr Jt;generalize(ZA (ZA (Z7 a0).1 3).1 3)=c at hk⊢;generalize hy:(ZA (Z7 a0).1 3).2=n at h0⊢;have w1:W (11+n)=11+n:=eM;have w2:W (1+n)=1+n:=eM;have w3:W (1+c.2)=1+c.2:=eM;rw[w1,w2,w3];have hg:0<=Yl (1+n) (Z7 a0).2/\Yl (1+n) (Z7 a0).2<2147483647:=by unfold Yl;rw[hd];exact Tj _
  generalize Yl (1+n) (Z7 a0).2=g at hg⊢;have hs:KG (ZY.mk (11+n) (1+n) (1+n) g (1+c.2) 0 0 0 0)=true:=by simp only[KG,Zt,Bool.and_eq_true,decide_eq_true_eq];omega
  have hf:decide (YB Zx (11+n)<0)=false:=by have:n=0\/n=1\/n=2:=fJ;rcases this with rfl|rfl|rfl<;>decide
  rw[hs];simp only[hf];rfl
end Go.Mo
