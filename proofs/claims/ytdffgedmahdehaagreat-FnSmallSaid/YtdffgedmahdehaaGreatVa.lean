/- An abstract machine Uw the model of Go, by value, and that it is sound: part Va. No condition. -/
import Derived.WalkKit
import Derived.Below
set_option linter.unusedVariables false
set_option linter.unusedSimpArgs false
namespace Go.Vm
theorem fJ{p:Prop}(h:p:=by omega):p:=h
theorem fM{p:Prop}(h:p:=by simp):p:=h
theorem fN{p:Prop}(h:p:=by first|exact sg u0|exact ZN (n:=70) (by decide) (Ze (by decide)).1|exact ZN (n:=71) (by decide) (Qc (n:=70) (Ze (by decide)).1 ⟨Nat.le_trans (Ze (n:=70) (by decide)).2 (by decide),fun _ _=>trivial⟩ (by decide))|exact⟨Nat.le_trans (Ze (n:=70) (by decide)).2 (by decide),fun _ _=>trivial⟩):p:=h
theorem fO{p:Prop}(h:p:=by decide):p:=h
theorem fP{p:Prop}(h:p:=by(first|(exact Xw (s:=(nth a0.ZC U).ZJ) (by decide) (show Sm 2314240 _ by simp(maxDischargeDepth:=12) [u0]) (by simp))|(refine XF ?_;exact Xw (s:=(nth a0.ZC U).ZJ) (by decide) (show Sm 2314240 _ by simp(maxDischargeDepth:=12) [u0]) (by simp))|(exact ZN (n:=2314240) (by decide) (xs u0)))):p:=h
theorem fQ{p:Prop}(h:p:=by first|(simp(maxDischargeDepth:=12) [Z9];omega)|(simp(maxDischargeDepth:=12) [ZN (m:=2322432) (by decide) u0];done)):p:=h
theorem fR{p:Prop}(h:p:=by(have cc:a0.ZK.length<=2318336:=JA (xs u0);have z0:=oR;simp at z0;have z:=yb (by omega) z0.1;have z2:=z0.2;(try have w3:IntKind.i64.wrap (a2-1)=a2-1:=Ya (by omega) (by omega));(try have w4:W (a2-1)=a2-1:=w3);omega)):p:=h
theorem fS{p:Prop}(h:p:=by first|(simp(maxDischargeDepth:=12) [Z9];omega)|(simp(maxDischargeDepth:=12) [ZN (m:=68719476736) (by decide) u0];done)):p:=h
theorem fT{p:Prop}(h:p:=by first|with_reducible exact QC (by decide)|with_reducible exact Yv (by decide)|with_reducible exact Ju _ _|with_reducible exact J7 _ _ _):p:=h
theorem fU{p:Prop}(h:p:=by first|rfl|trivial):p:=h
theorem fV{p:Prop}(h:p:=by simp[Op.operands]):p:=h
theorem fW{p:Prop}(h:p:=by simp(maxDischargeDepth:=12) [Yj];try omega):p:=h
theorem fX{p:Prop}(h:p:=by first|exact XE (n:=2310144) (by decide) u0 ⟨Sz.zero (α:=List Zs) _,Sz.zero (α:=List ZO) _⟩|exact XF (XE (n:=2310144) (by decide) u0 ⟨Sz.zero (α:=List Zs) _,Sz.zero (α:=List ZO) _⟩)):p:=h
theorem fY{p:Prop}(h:p:=by first|omega|(have tm:=Int.tmod_eq_emod_of_nonneg (b:=2) (show 0<=U by omega);(try simp only[Y5,show ∀x,IntKind.i64.wrap x=W x from fun _=>rfl]at*);(try simp at*);omega)):p:=h
theorem fZ{p:Prop}(h:p:=by first|omega|(have tm:=Int.tmod_eq_emod_of_nonneg (b:=2) (show 0<=J by omega);(try simp only[Y5,show ∀x,IntKind.i64.wrap x=W x from fun _=>rfl]at*);(try simp at*);omega)):p:=h
theorem fa{p:Prop}(h:p:=by simp(maxDischargeDepth:=12) [QB,Z9,ZN (m:=2318336) (by decide) u0,ZN (m:=2318336) (by decide) u1,ZN (m:=2318336) (by decide) u2,ZN (m:=2318336) (by decide) u3];try omega):p:=h
theorem fb{p:Prop}(h:p:=by simp[At.ref]):p:=h
theorem fc{p:Prop}(h:p:=by simp;omega):p:=h
theorem fe{p:Prop}(h:p:=by simp[List.getD_eq_getElem?_getD,List.getElem?_eq_getElem hi]):p:=h
theorem ff{p:Prop}(h:p:=by simp[w1]):p:=h
theorem fg{p:Prop}(h:p:=by simp(maxDischargeDepth:=12) [Z9];try omega):p:=h
theorem fh{p:Prop}(h:p:=by simp(maxDischargeDepth:=12) [QB,Z9,XF,Yj,Y9,K3,z7,ZN (m:=2326528) (by decide) u0,ZN (m:=2326528) (by decide) u1];try omega):p:=h
theorem fi{p:Prop}(h:p:=by rw[ho];simp):p:=h
theorem fj{p:Prop}(h:p:=by first|exact XE (n:=2310144) (by decide) u0 ⟨Sz.zero (α:=List Zs) _,Sz.zero (α:=List ZO) _⟩|exact sg u1):p:=h
theorem fk{p:Prop}(h:p:=by simp(maxDischargeDepth:=12) [QB,Z9,ZN (m:=2314240) (by decide) u0,ZN (m:=2314240) (by decide) u1];try omega):p:=h
theorem fl{p:Prop}(h:p:=by injection wo with wo;injection wo with wo;injection wo with wo;exact wo.symm):p:=h
theorem fm{p:Prop}(h:p:=by simp(maxDischargeDepth:=12) [Yj,ZN (m:=2314240) (by decide) u0,ZN (m:=2314240) (by decide) u1];try omega):p:=h
theorem fo{p:Prop}(h:p:=by simp(maxDischargeDepth:=12) [Y9,ZN (m:=2314240) (by decide) u0,ZN (m:=2314240) (by decide) u1];try omega):p:=h
theorem fp{p:Prop}(h:p:=by simp(maxDischargeDepth:=12) [K3,ZN (m:=2314240) (by decide) u0,ZN (m:=2314240) (by decide) u1];try omega):p:=h
theorem fq{p:Prop}(h:p:=by simp(maxDischargeDepth:=12) [Kl,ZN (m:=2318336) (by decide) u0,ZN (m:=2318336) (by decide) u1];try omega):p:=h
theorem fr{p:Prop}(h:p:=by first|omega|(simp;done)|(simp;omega)):p:=h
theorem ft{p:Prop}(h:p:=by rw[<-Nat.succ_mul];exact Nat.mul_le_mul_right _ hi):p:=h
theorem fu{p:Prop}(h:p:=by intro q hq;cases hq):p:=h
theorem fv{p:Prop}(h:p:=by have:=(List.getElem?_eq_some_iff.1 hq).1;omega):p:=h
theorem fx{p:Prop}(h:p:=by have:=wC _ _ _ ht e;simpa[At.ref]using this):p:=h
theorem fy{p:Prop}(h:p:=by first|with_reducible exact qV (by decide)|with_reducible exact ZN (by omega) j1.2.2.2.2):p:=h
theorem fz{p:Prop}(h:p:=by first|with_reducible exact ZN (by omega) j1.2.2.2.2|with_reducible exact yH (by decide)):p:=h
theorem eA{p:Prop}(h:p:=by simp at hy⊢;exact .inr hy):p:=h
theorem eC{p:Prop}(h:p:=by rw[St.Xj];simp[wO,Zq]):p:=h
theorem eD{p:Prop}(h:p:=by cases hb;exact⟨cells,[],rfl,by simp[place],.nil,(by intro q hq;cases hq),rfl⟩):p:=h
theorem eE{p:Prop}(h:p:=by simp(maxDischargeDepth:=12) [QB,Z9,ZN (m:=2318336) (by decide) u0];try omega):p:=h
theorem eF{p:Prop}(h:p:=by cases‹List (DataW H)›<;>exact h.elim):p:=h
theorem eH{p:Prop}(h:p:=by rw[h];rfl):p:=h
theorem eJ{p:Prop}(h:p:=by rw[ha];simp):p:=h
theorem eK{p:Prop}(h:p:=by cases qs<;>simp[Zr,Zu,Qx u _ ds]):p:=h
theorem eM{p:Prop}(h:p:=by simp only[Y5];omega):p:=h
theorem eN{p:Prop}(h:p:=by rw[Nat.add_mul,Nat.add_mul];omega):p:=h
theorem eO{p:Prop}(h:p:=by rw[List.length_take];omega):p:=h
theorem eQ{p:Prop}(h:p:=by apply Array.toList_inj.1;simpa using ha):p:=h
theorem eR{p:Prop}(h:p:=by simp[Region.wanted,hg]):p:=h
theorem eS{p:Prop}(h:p:=by simpa using h):p:=h
theorem eT{p:Prop}(h:p:=by simpa[At.ref]using hx):p:=h
theorem eU{p:Prop}(h:p:=by simp at hl⊢;omega):p:=h
theorem eV{p:Prop}(h:p:=by rw[St.Xj,if_neg (fun hh=>wC hh.1)]):p:=h
theorem eW{p:Prop}(h:p:=by simp[Program.bytesOf,hi]):p:=h
theorem eY{p:Prop}(h:p:=by unfold xS at hl;rw[hl];simp):p:=h
theorem eZ{p:Prop}(h:p:=by rw[sS];exact hz):p:=h
theorem ea{p:Prop}(h:p:=by rw[sT];exact hz):p:=h
theorem eb{p:Prop}(h:p:=by cases qs<;>exact hf):p:=h
theorem ec{p:Prop}(h:p:=by simpa[Zq]using h):p:=h
theorem ed{p:Prop}(h:p:=by rw[Yz];exact h):p:=h
theorem ee{p:Prop}(h:p:=by rw[vB];simp):p:=h
theorem ef{p:Prop}(h:p:=by simp[hr]):p:=h
theorem eg{p:Prop}(h:p:=by(intro z;simp;(repeat(with_reducible refine Go.Mo.sd ?_));exact z.h)):p:=h
theorem eh{p:Prop}(h:p:=by((try dsimp only);first|omega|(simp at*;omega))):p:=h
theorem ei{p:Prop}(h:p:=by(intro z;simp[G,Go.Vm.ZI];(repeat(with_reducible refine Go.Mo.sdg ?_));exact z.h)):p:=h
theorem ej{p:Prop}(h:p:=by(intro h;(try simp only[beq_true,beq_false,Bool.not_eq_true',Bool.not_eq_false',Bool.true_and,Bool.and_true]at h);exact h)):p:=h
variable{v val u:Value}{w w':World}{B X S X':Nat->Prop}{P:Program}{o:Oper}{d size t n f i j b off len cap:Nat}{x y:Operand}{a:Act}{vs cs:List Value}{k kk:IntKind}{op:BinOp}{q p:Bool}{c:Call}{parts:Array (Nat×Operand)}{lo hi:Option Operand}{base:Option Addr}{code:BoundsCode}
inductive D where
 |int (k:IntKind) (n:Int)
 |bool (b:Bool)
 |str (s:ByteArray)
 |sl (size:Nat) (rows:List (List D))
 |unk
 deriving Inhabited
variable{rows res s:List (List D)}{ds:List D}
def D.scalar:D->Bool
 |.sl _ _=>false
 |_=>true
abbrev CS:=Nat->Nat->Prop
variable{T T0 T':CS}
inductive Rd(T:CS)(w:World):Value->D->Prop
 |int (k:IntKind) (n:Int):Rd T w (.int k n) (.int k n)
 |bool (b:Bool):Rd T w (.bool b) (.bool b)
 |str (s:ByteArray):Rd T w (.string s) (.str s)
 |unk (v:Value) (h:v.oneCell'=true):Rd T w v .unk
 |nil (size:Nat):Rd T w (.slice none 0 0) (.sl size [])
 |sl (a:Addr) (len cap size:Nat) (rows:List (List D)) (g:Nat->Value)
   (hl:rows.length=len) (hc:len<=cap) (hm:cap<=maxLen) (hz:∀r∈rows,r.length=size) (hs:rows.flatten≠[]->a.spot=none)
   (hg:∀k d,rows.flatten[k]?=some d->w.cell? ⟨a.block,a.off+k,none⟩=some (g k)/\T a.block (a.off+k))
   (hr:∀k d,rows.flatten[k]?=some d->Rd T w (g k) d):Rd T w (.slice (some a) len cap) (.sl size rows)
theorem Rd.mono(hT:∀b k v,T b k->w.cell? ⟨b,k,none⟩=some v->w'.cell? ⟨b,k,none⟩=some v/\T' b k)
  {d:D} (h:Rd T w v d):Rd T' w' v d:=by
 induction h with
 |int k n=>exact .int k n
 |bool b=>exact .bool b
 |str s=>exact .str s
 |unk v h=>exact .unk v h
 |nil s=>exact .nil s
 |sl a len cap size rows g hl hc hm hz hs hg hr ih=>exact .sl a len cap size rows g hl hc hm hz hs (fun k d hk=>hT _ _ _ (hg k d hk).2 (hg k d hk).1) (fun k d hk=>ih k d hk)
theorem Rd.YN{d:D}(h:Rd T w v d):v.oneCell'=true:=by cases h<;>first|rfl|assumption
inductive At where
 |any
 |d (x:D)
 |nil (size:Nat)
 |sref (t j lo len:Nat)
 |ptr (t j i c:Nat)
 |bptr (t c:Nat)
 |fn (f t:Nat)
 |rptr (r:List D) (c:Nat)
 |tref (t j i c:Nat) (o:Option Nat)
 deriving Inhabited
inductive V where
 |any
 |one (x:At)
 |agg (xs:List At)
 |tup (xs:List V)
 |cnd (g:Bool) (x:V)
 |fix (v:Value) (x:V)
 deriving Inhabited
inductive Ob where
 |none
 |box (cells:List At)
 |arr (q:Bool) (size:Nat) (rows:List (List D))
 |lit (size:Nat) (rows:List (List At))
 deriving Inhabited
variable{ve:Nat->Nat->Ob}
structure Hd where
 v:Value
 n:Nat->Value
 u:Nat->Prop
variable{h h':Nat->Nat->Hd}{hd:Hd}
abbrev Ent:=V×List Ob
abbrev St:=List Ent
variable{σ:St}
def St.get(σ:St)(t:Nat):V:=match σ[t]? with|some e=>e.1|none=>.any
def Zq(os:List Ob)(j:Nat):Ob:=match os[j]? with|some o=>o|none=>.none
def St.ob(σ:St)(t j:Nat):Ob:=match σ[t]? with|some e=>Zq e.2 j|none=>.none
def St.put:St->Nat->V->St
 |[],_,_=>[]
 |e::σ,0,v=>(v,e.2)::σ
 |e::σ,t+1,v=>e::St.put σ t v
def St.ZT:St->Nat->Nat->Ob->St
 |[],_,_,_=>[]
 |e::σ,0,j,o=>(e.1,e.2.set j o)::σ
 |e::σ,t+1,j,o=>e::St.ZT σ t j o
def St.new:St->Nat->V->List Ob->St
 |[],_,_,_=>[]
 |_::σ,0,v,os=>(v,os)::σ
 |e::σ,t+1,v,os=>e::St.new σ t v os
theorem St.YY(σ:St)(t:Nat)(v:V):(σ.put t v).length=σ.length:=by
 induction σ generalizing t with
 |nil=>rfl
 |cons e σ ih=>cases t<;>simp[St.put,ih]
theorem St.YD(σ:St)(t j:Nat)(o:Ob):(σ.ZT t j o).length=σ.length:=by
 induction σ generalizing t with
 |nil=>rfl
 |cons e σ ih=>cases t<;>simp[St.ZT,ih]
theorem St.yj(σ:St)(t:Nat)(v:V)(os:List Ob):(σ.new t v os).length=σ.length:=by
 induction σ generalizing t with
 |nil=>rfl
 |cons e σ ih=>cases t<;>simp[St.new,ih]
theorem St.Xm(σ:St)(t:Nat)(v:V)(u:Nat):(σ.put t v).get u=if u=t/\t<σ.length then v else σ.get u:=by
 induction σ generalizing t u with
 |nil=>simp[St.put,St.get]
 |cons e σ ih=>
  cases t with
  |zero=>cases u<;>simp[St.put,St.get]
  |succ t=>cases u with
   |zero=>simp[St.put,St.get]
   |succ u=>have:=ih t u;simp only[St.get,St.put]at this⊢;simpa using this
theorem St.YV(σ:St)(t:Nat)(v:V):(σ.put t v).ob=σ.ob:=by
 funext u j;induction σ generalizing t u with
 |nil=>simp[St.put,St.ob]
 |cons e σ ih=>
  cases t with
  |zero=>cases u<;>simp[St.put,St.ob]
  |succ t=>cases u with
   |zero=>simp[St.put,St.ob]
   |succ u=>have:=ih t u;simp only[St.ob,St.put]at this⊢;simpa using this
theorem St.Yf(σ:St)(t j:Nat)(o:Ob)(u:Nat):(σ.ZT t j o).get u=σ.get u:=by
 induction σ generalizing t u with
 |nil=>simp[St.ZT,St.get]
 |cons e σ ih=>
  cases t with
  |zero=>cases u<;>simp[St.ZT,St.get]
  |succ t=>cases u with
   |zero=>simp[St.ZT,St.get]
   |succ u=>have:=ih t u;simp only[St.get,St.ZT]at this⊢;simpa using this
theorem OU(os:List Ob)(j:Nat)(o:Ob)(i:Nat):Zq (os.set j o) i=if i=j/\j<os.length then o else Zq os i:=by
 unfold Zq;rw[List.getElem?_set];by_cases h:j=i
 ·subst h;by_cases h2:j<os.length
  ·simp[h2]
  ·simp[h2]
 ·simp[h,Ne.symm h]
theorem St.YU(σ:St)(t j:Nat)(o:Ob)(u i:Nat)(hl:σ.ob t j≠ .none):(σ.ZT t j o).ob u i=if u=t/\i=j then o else σ.ob u i:=by
 induction σ generalizing t u with
 |nil=>simp[St.ob]at hl
 |cons e σ ih=>
  cases t with
  |zero=>
   have hj:j<e.2.length:=by
    simp only[St.ob,List.getElem?_cons_zero,Zq]at hl;rcases Nat.lt_or_ge j e.2.length with h|h
    ·exact h
    ·simp[List.getElem?_eq_none h]at hl
   cases u with
   |zero=>simp[St.ZT,St.ob,OU,hj]
   |succ u=>simp[St.ZT,St.ob]
  |succ t=>cases u with
   |zero=>simp[St.ZT,St.ob]
   |succ u=>have:=ih t u (by simpa[St.ob]using hl);simp only[St.ob,St.ZT]at this⊢;simpa using this
theorem St.y6(σ:St)(t:Nat)(v:V)(os:List Ob)(u:Nat):(σ.new t v os).get u=if u=t/\t<σ.length then v else σ.get u:=by
 induction σ generalizing t u with
 |nil=>simp[St.new,St.get]
 |cons e σ ih=>
  cases t with
  |zero=>cases u<;>simp[St.new,St.get]
  |succ t=>cases u with
   |zero=>simp[St.new,St.get]
   |succ u=>have:=ih t u;simp only[St.get,St.new]at this⊢;simpa using this
theorem St.Xj(σ:St)(t:Nat)(v:V)(os:List Ob)(u j:Nat):(σ.new t v os).ob u j=if u=t/\t<σ.length then Zq os j else σ.ob u j:=by
 induction σ generalizing t u with
 |nil=>simp[St.new,St.ob]
 |cons e σ ih=>
  cases t with
  |zero=>cases u<;>simp[St.new,St.ob]
  |succ t=>cases u with
   |zero=>simp[St.new,St.ob]
   |succ u=>have:=ih t u;simp only[St.ob,St.new]at this⊢;simpa using this
def Pb(h:Value)(len:Nat):Value:=match h with|.slice b _ c=>.slice b len c|v=>v
def Lt(h:Value)(size n lo len:Nat)(v:Value):Prop:=
 lo+len<=n/\(len=n->lo=0->v=h)/\(lo=0->v=Pb h len)/\∃base cap,v= .slice base len cap/\len<=cap/\cap<=maxLen/\(base=none->cap=0)/\(0<len->∃b tT,h= .slice (some ⟨b,0,none⟩) n tT/\base=some ⟨b,lo*size,none⟩)
def Gi:Option Nat->Value->Value->Prop
 |none,x,v=>v=x
 |some k,x,v=>∃b n cap,x= .slice (some ⟨b,0,none⟩) n cap/\v= .pointer (some ⟨b,k,none⟩)
def Zf(T:CS)(h:Nat->Nat->Hd)(ob:Nat->Nat->Ob)(w:World):At->Value->Prop
 |.any,v=>v.oneCell'=true
 |.d x,v=>Rd T w v x
 |.nil _,v=>v= .slice none 0 0
 |.sref t j lo len,v=>v.oneCell'=true/\(∀q size rows,ob t j= .arr q size rows->Lt (h t j).v size rows.length lo len v)/\(∀size rows,ob t j= .lit size rows->Lt (h t j).v size rows.length lo len v)
 |.ptr t j i c,v=>v.oneCell'=true/\(∀q size rows,ob t j= .arr q size rows->∃b n cap,(h t j).v= .slice (some ⟨b,0,none⟩) n cap/\v= .pointer (some ⟨b,i*size+c,none⟩))
 |.bptr t c,v=>v.oneCell'=true/\∀cells,ob t 0= .box cells->∃b,(h t 0).v= .pointer (some ⟨b,0,none⟩)/\v= .pointer (some ⟨b,c,none⟩)
 |.fn f t,v=>v.oneCell'=true/\∀cells,ob t 0= .box cells->∃b,(h t 0).v= .pointer (some ⟨b,0,none⟩)/\v= .func (.func f) #[] #[.pointer (some ⟨b,0,none⟩)]
 |.rptr r c,v=>∃b off,∃g:Nat->Value,v= .pointer (some ⟨b,off+c,none⟩)/\∀k d,r[k]?=some d->w.cell? ⟨b,off+k,none⟩=some (g k)/\T b (off+k)/\Rd T w (g k) d
 |.tref t j i c o,v=>v.oneCell'=true/\∀size rows,ob t j= .arr true size rows->Gi o ((h t j).n (i*size+c)) v
theorem Zf.YN{ob:Nat->Nat->Ob}{x:At}(r:Zf T h ob w x v):v.oneCell'=true:=by
 cases x with
 |any=>exact r
 |d x=>exact Rd.YN r
 |nil s=>cases r;rfl
 |sref=>exact r.1
 |ptr=>exact r.1
 |bptr=>exact r.1
 |fn=>exact r.1
 |tref=>exact r.1
 |rptr r' c=>obtain⟨b,off,g,rfl,_⟩:=r;rfl
inductive ZU{α β:Type}(R:α->β->Prop):List α->List β->Prop
 |nil:ZU R [] []
 |cons {a b l m}:R a b->ZU R l m->ZU R (a::l) (b::m)
theorem ZU.imp{α β:Type}{R S:α->β->Prop}(h:∀a b,R a b->S a b){l:List α}{m:List β}(x:ZU R l m):ZU S l m:=by
 induction x with
 |nil=>exact .nil
 |cons r _ ih=>exact .cons (h _ _ r) ih
theorem ZU.length{α β:Type}{R:α->β->Prop}{l:List α}{m:List β}(x:ZU R l m):l.length=m.length:=by
 induction x with
 |nil=>rfl
 |cons r _ ih=>simp[ih]
theorem ZU.get{α β:Type}{R:α->β->Prop}{l:List α}{m:List β}(x:ZU R l m):∀(i:Nat)(a:α),l[i]?=some a->∃b,m[i]?=some b/\R a b:=by
 induction x with
 |nil=>intro i a h;simp at h
 |cons r _ ih=>
  intro i a h;cases i with
  |zero=>simp at h;subst h;exact⟨_,fM,r⟩
  |succ i=>simpa using ih i a eS
theorem ZU.get'{α β:Type}{R:α->β->Prop}{l:List α}{m:List β}(x:ZU R l m):∀(i:Nat)(b:β),m[i]?=some b->∃a,l[i]?=some a/\R a b:=by
 induction x with
 |nil=>intro i a h;simp at h
 |cons r _ ih=>
  intro i a h;cases i with
  |zero=>simp at h;subst h;exact⟨_,fM,r⟩
  |succ i=>simpa using ih i a eS
theorem ZU.Jq{α β:Type}{R:α->β->Prop}{l:List α}{m:List β}(hl:l.length=m.length)(h:∀(i:Nat)(a:α)(b:β),l[i]?=some a->m[i]?=some b->R a b):ZU R l m:=by
 induction l generalizing m with
 |nil=>cases m with
  |nil=>exact .nil
  |cons b m=>simp at hl
 |cons a l ih=>cases m with
  |nil=>simp at hl
  |cons b m=>exact .cons (h 0 a b fM fM) (ih (by simpa using hl) (fun i a b ha hb=>h (i+1) a b (by simpa using ha) (by simpa using hb)))
theorem ZU.append{α β:Type}{R:α->β->Prop}{l l':List α}{m m':List β}(x:ZU R l m)(y:ZU R l' m'):ZU R (l++l') (m++m'):=by
 induction x with
 |nil=>exact y
 |cons r _ ih=>exact .cons r ih
theorem ZU.take{α β:Type}{R:α->β->Prop}{l:List α}{m:List β}(x:ZU R l m)(n:Nat):ZU R (l.take n) (m.take n):=by
 induction x generalizing n with
 |nil=>simpa using ZU.nil
 |cons r _ ih=>cases n with
  |zero=>simpa using ZU.nil
  |succ n=>simpa using ZU.cons r (ih n)
theorem ZU.drop{α β:Type}{R:α->β->Prop}{l:List α}{m:List β}(x:ZU R l m)(n:Nat):ZU R (l.drop n) (m.drop n):=by
 induction x generalizing n with
 |nil=>simpa using ZU.nil
 |cons r x ih=>cases n with
  |zero=>simpa using ZU.cons r x
  |succ n=>simpa using ih n
theorem ZU.set{α β:Type}{R:α->β->Prop}{l:List α}{m:List β}(x:ZU R l m)(i:Nat){a:α}{b:β}(r:R a b):ZU R (l.set i a) (m.set i b):=by
 induction x generalizing i with
 |nil=>simpa using ZU.nil
 |cons r' x ih=>cases i with
  |zero=>simpa using ZU.cons r x
  |succ i=>simpa using ZU.cons r' (ih i)
theorem ZU.mem{α β:Type}{R:α->β->Prop}{l:List α}{m:List β}(x:ZU R l m){b:β}(h:b∈m):∃a,a∈l/\R a b:=by obtain⟨i,hi⟩:=List.mem_iff_getElem?.1 h;obtain⟨a,ha,r⟩:=x.get' i b hi;exact⟨a,List.mem_of_getElem? ha,r⟩
def X0(T:CS)(h:Nat->Nat->Hd)(ob:Nat->Nat->Ob)(w:World):V->Value->Prop
 |.any,_=>True
 |.one x,v=>Zf T h ob w x v
 |.agg xs,v=>∃cs:Array Value,v= .agg cs/\ZU (Zf T h ob w) xs cs.toList
 |.tup _,_=>False
 |.cnd _ _,_=>False
 |.fix _ _,_=>False
def Yu(T:CS)(h:Nat->Nat->Hd)(ob:Nat->Nat->Ob)(w:World):V->Value->Prop
 |.tup xs,v=>∃vs:Array Value,v= .tuple vs/\ZU (X0 T h ob w) xs vs.toList
 |.cnd g x,v=>(g=true->X0 T h ob w x v)/\(g=false->v=undef)
 |.any,_=>True
 |.one x,v=>Zf T h ob w x v
 |.agg xs,v=>X0 T h ob w (.agg xs) v
 |.fix u x,v=>v=u/\X0 T h ob w x v
theorem X0.up{ob:Nat->Nat->Ob}{x:V}(r:X0 T h ob w x v):Yu T h ob w x v:=by cases x<;>first|exact r|exact r.elim
def blk:Value->Option Nat
 |.slice (some a) _ _=>some a.block
 |.pointer (some a)=>some a.block
 |_=>none
def Hd.of(v:Value):Hd:=⟨v,fun _=>undef,fun b=>blk v=some b⟩
inductive Own(w:World):Value->D->(Nat->Prop)->Prop
 |int (k:IntKind) (n:Int) (S:Nat->Prop):Own w (.int k n) (.int k n) S
 |bool (b:Bool) (S:Nat->Prop):Own w (.bool b) (.bool b) S
 |str (s:ByteArray) (S:Nat->Prop):Own w (.string s) (.str s) S
 |unk (v:Value) (h:v.oneCell'=true) (S:Nat->Prop):Own w v .unk S
 |sl (v:Value) (size:Nat) (rows:List (List D)) (S:Nat->Prop) (e:TypeId) (xs:List Value) (Sk:Nat->Nat->Prop) (ho:w.ownsRow 0 e size v rows.length xs) (hz:∀r∈rows,r.length=size)
   (hb:∀b,blk v=some b->S b) (hl:xs.length=rows.flatten.length) (hk:∀k x d,xs[k]?=some x->rows.flatten[k]?=some d->Own w x d (Sk k))
   (hs:∀k b,Sk k b->S b/\blk v≠some b) (hd:∀i j b,Sk i b->Sk j b->i=j):Own w v (.sl size rows) S
def Qk(w:World)(xs:List Value)(ds:List D)(S:Nat->Prop):Prop:=
 xs.length=ds.length/\∃Sk:Nat->Nat->Prop,(∀k x d,xs[k]?=some x->ds[k]?=some d->Own w x d (Sk k))/\(∀k b,Sk k b->S b)/\(∀i j b,Sk i b->Sk j b->i=j)
def Xo(T:CS)(h:Nat->Nat->Hd)(ob:Nat->Nat->Ob)(w:World)(hd:Hd):Ob->Prop
 |.none=>True
 |.box cells=>∃b cs e,hd.v= .pointer (some ⟨b,0,none⟩)/\w.heap[b]?=some (.cells cs e (0,0))/\ZU (Zf T h ob w) cells cs.toList
 |.arr false size rows=>∃e xs,w.ownsRow 0 e size hd.v rows.length xs/\(∀r∈rows,r.length=size)/\ZU (Rd T w) xs rows.flatten
 |.arr true size rows=>∃e xs,w.ownsRow 0 e size hd.v rows.length xs/\(∀r∈rows,r.length=size)/\Qk w xs rows.flatten (fun b=>hd.u b/\blk hd.v≠some b)/\(∀k x d,xs[k]?=some x->rows.flatten[k]?=some d->d.scalar=false->hd.n k=x)
 |.lit size rows=>∃e xs,w.ownsRow 0 e size hd.v rows.length xs/\(∀r∈rows,r.length=size)/\ZU (Zf T h ob w) rows.flatten xs
def Tof(T0:CS)(X:Nat->Prop):CS:=fun b k=>T0 b k\/X b
structure YL(B:Nat->Prop)(w w':World):Prop where
 os:w'.os=w.os
 tape:w'.tape=w.tape
 output:w'.output=w.output
 size:w.heap.size<=w'.heap.size
 block:∀k,B k->w'.heap[k]?=w.heap[k]?
theorem YL.refl(B:Nat->Prop)(w:World):YL B w w:=⟨rfl,rfl,rfl,Nat.le_refl _,fun _ _=>rfl⟩
theorem YL.trans{a b c:World}(h:YL B a b)(k:YL B b c):YL B a c:=
 ⟨k.os.trans h.os,k.tape.trans h.tape,k.output.trans h.output,Nat.le_trans h.size k.size,fun i hi=>(k.block i hi).trans (h.block i hi)⟩
theorem YL.WH(h:RowKit.Below w.heap.size w w')(hB:∀b,B b->b<w.heap.size):YL B w w':=⟨h.os,h.tape,h.output,h.size,fun k hk=>h.block k (hB k hk)⟩
structure Rel(T0:CS)(B:Nat->Prop)(σ:St)(a:Act)(w:World)(X:Nat->Prop)(h:Nat->Nat->Hd):Prop where
 size:a.tmps.size=σ.length
 defers:a.defers=[]
 hB:∀b,B b->b<w.heap.size
 hX:∀b,X b->¬B b/\b<w.heap.size
 hT:∀b k,T0 b k->B b
 slot:∀t,t<σ.length->Yu (Tof T0 X) h σ.ob w (σ.get t) (a.tmps.getD t undef)
 obj:∀t j,Xo (Tof T0 X) h σ.ob w (h t j) (σ.ob t j)
 ub:∀t j b,σ.ob t j≠ .none->blk (h t j).v=some b->(h t j).u b
 own:∀t j b,σ.ob t j≠ .none->(h t j).u b->¬B b/\¬X b/\b<w.heap.size
 inj:∀t j t' j' b,σ.ob t j≠ .none->σ.ob t' j'≠ .none->(h t j).u b->(h t' j').u b->t=t'/\j=j'
def Xx(T0:CS)(B:Nat->Prop)(σ:St)(a:Act)(w:World):Prop:=∃X h,Rel T0 B σ a w X h
theorem Rel.Hn(r:Rel T0 B σ a w X h)(ho:σ.ob t j≠ .none)(hb:blk (h t j).v=some b):¬B b/\¬X b/\b<w.heap.size:=
 r.own t j b ho (r.ub t j b ho hb)
section
variable{ob:Nat->Nat->Ob}
theorem Zf.mono(hT:∀b k v,T b k->w.cell? ⟨b,k,none⟩=some v->w'.cell? ⟨b,k,none⟩=some v/\T' b k){x:At}
  (r:Zf T h ob w x v):Zf T' h ob w' x v:=by
 cases x with
 |any=>exact r
 |d x=>exact Rd.mono hT r
 |nil s=>exact r
 |sref t j lo len=>exact r
 |ptr t j i c=>exact r
 |bptr t c=>exact r
 |fn f t=>exact r
 |tref t j i c o=>exact r
 |rptr rr c=>obtain⟨b,off,g,e,hk⟩:=r;exact⟨b,off,g,e,fun k d hd=>⟨(hT _ _ _ (hk k d hd).2.1 (hk k d hd).1).1,(hT _ _ _ (hk k d hd).2.1 (hk k d hd).1).2,Rd.mono hT (hk k d hd).2.2⟩⟩
theorem X0.mono(hT:∀b k v,T b k->w.cell? ⟨b,k,none⟩=some v->w'.cell? ⟨b,k,none⟩=some v/\T' b k){x:V}
  (r:X0 T h ob w x v):X0 T' h ob w' x v:=by
 cases x with
 |any=>exact r
 |one x=>exact Zf.mono hT r
 |agg xs=>obtain⟨cs,e,r⟩:=r;exact⟨cs,e,r.imp fun _ _=>Zf.mono hT⟩
 |tup xs=>exact r.elim
 |cnd g x=>exact r.elim
 |fix u x=>exact r.elim
theorem Yu.mono(hT:∀b k v,T b k->w.cell? ⟨b,k,none⟩=some v->w'.cell? ⟨b,k,none⟩=some v/\T' b k){x:V}
  (r:Yu T h ob w x v):Yu T' h ob w' x v:=by
 cases x with
 |any=>exact r
 |one x=>exact Zf.mono hT r
 |agg xs=>exact X0.mono (x:=.agg xs) hT r
 |tup xs=>obtain⟨vs,e,r⟩:=r;exact⟨vs,e,r.imp fun _ _=>X0.mono hT⟩
 |cnd g x=>exact⟨fun hg=>X0.mono hT (r.1 hg),r.2⟩
 |fix u x=>exact⟨r.1,X0.mono hT r.2⟩
end
def unc:V->V
 |.cnd _ x=>x
 |.fix _ x=>x
 |x=>x
def gOf:V->Bool
 |.cnd g _=>g
 |_=>true
def ZD(P:Program)(t:TypeId):TypeId:=
 match P.underlying t with
 |some (.slice e)=>e
 |some (.array _ e)=>e
 |_=>0
def Zy(P:Program)(t:TypeId):Bool:=
 match P.underlying t with
 |some (.slice e)=>(P.info? e).isSome
 |_=>false
def UK(P:Program)(t:TypeId):Option Nat:=
 match P.underlying t with
 |some (.array n e)=>if(P.info? e).isSome then some n else none
 |_=>none
def xW(P:Program)(t:TypeId):Bool:=
 match P.underlying t with
 |some (.struct _)|some (.array _ _)=>true
 |_=>false
def Kk(P:Program)(t:TypeId):Bool:=
 (P.underlying t).isSome&&(P.info? t).isSome&&(xW P t||P.cellsOf t==1)
def Yg(P:Program)(t:TypeId)(f:Nat):Nat:=
 match P.underlying t with
 |some (.struct fs)=>(match fs[f]? with|some fd=>fd.offset|none=>0)
 |_=>0
def J0(P:Program)(t:TypeId)(f:Nat):TypeId:=
 match P.underlying t with
 |some (.struct fs)=>(match fs[f]? with|some fd=>fd.type|none=>0)
 |_=>0
def Kr(P:Program)(t:TypeId)(f:Nat):Bool:=
 match P.underlying t with
 |some (.struct fs)=>(match fs[f]? with|some fd=>(P.info? fd.type).isSome&&decide (P.cellsOf fd.type≠0)|none=>false)
 |_=>false
def Nl(P:Program)(t:TypeId):Option IntKind:=
 match P.underlying t with
 |some (.int k)=>some k
 |_=>none
def qF(P:Program)(t:TypeId):Bool:=
 match P.underlying t with
 |some .string=>true
 |_=>false
def V4(P:Program)(t:TypeId):Bool:=
 match P.underlying t with
 |some .bool=>true
 |_=>false
def cst(P:Program)(ty:TypeId):Value->V
 |.int k n=>.one (.d (.int k n))
 |.bool b=>.one (.d (.bool b))
 |.string s=>.one (.d (.str s))
 |.slice none 0 0=>.one (.nil (P.cellsOf (ZD P ty)))
 |_=>.any
def look(P:Program)(σ:St)(ty:TypeId):Operand->V
 |.tmp t=>σ.get t
 |.const v=>cst P ty v
 |_=>.any
theorem Rel.get(r:Rel T0 B σ a w X h)(t:Nat):Yu (Tof T0 X) h σ.ob w (σ.get t) (a.tmps.getD t undef):=by
 rcases Nat.lt_or_ge t σ.length with hl|hl
 ·exact r.slot t hl
 ·simp[St.get,List.getElem?_eq_none hl,Yu]
theorem IS(T:CS)(h:Nat->Nat->Hd)(ob:Nat->Nat->Ob)(w:World)(ty:TypeId)(v:Value):Yu T h ob w (cst P ty v) v:=by
 unfold cst;split
 ·exact .int _ _
 ·exact .bool _
 ·exact .str _
 ·rfl
 ·trivial
theorem Rel.look(r:Rel T0 B σ a w X h)(ty:TypeId)(x:Operand):Yu (Tof T0 X) h σ.ob w (look P σ ty x) (a.eval x):=by
 cases x with
 |tmp t=>exact r.get t
 |const v=>exact IS _ _ _ _ _ _
 |global g=>trivial
 |func f=>trivial
theorem Yu.unc{ob:Nat->Nat->Ob}{x:V}(r:Yu T h ob w x v)(hg:gOf x=true):Yu T h ob w (unc x) v:=by
 cases x with
 |cnd g x=>exact X0.up (r.1 hg)
 |fix u x=>exact X0.up r.2
 |_=>exact r
theorem Rel.arg(r:Rel T0 B σ a w X h)(ty:TypeId)(x:Operand){v:V}(he:Vm.unc (Vm.look P σ ty x)=v)(hg:gOf (Vm.look P σ ty x)=true):Yu (Tof T0 X) h σ.ob w v (a.eval x):=by subst he;exact(r.look ty x).unc hg
theorem Rel.put(r:Rel T0 B σ a w X h)(d:Nat)(v:V)(val:Value)(hv:Yu (Tof T0 X) h σ.ob w v val):Rel T0 B (σ.put d v) (a.put (some d) val) w X h:=by
 refine⟨by simp[Act.put,r.size,St.YY],r.defers,r.hB,r.hX,r.hT,fun t ht=>?_,fun t j=>?_,fun t j b=>?_,fun t j b=>?_,fun t j t' j' b=>?_⟩
 ·rw[St.YV,St.Xm];rw[St.YY]at ht;by_cases hd:t=d/\d<σ.length
  ·obtain⟨rfl,hl⟩:=hd;simp only[hl,and_self,if_true];have:(a.tmps.setIfInBounds t val).getD t undef=val:=by simp[r.size,hl]
   simp only[Act.put,this];exact hv
  ·rw[if_neg hd];have wC:d≠t:=fun e=>hd ⟨e.symm,e▸ht⟩
   have:(a.tmps.setIfInBounds d val).getD t undef=a.tmps.getD t undef:=by simp[Array.getElem?_setIfInBounds_ne wC]
   simp only[Act.put,this];exact r.slot t ht
 ·rw[St.YV];exact r.obj t j
 ·rw[St.YV];exact r.ub t j b
 ·rw[St.YV];exact r.own t j b
 ·rw[St.YV];exact r.inj t j t' j' b
def ldV(P:Program)(T:TypeId)(xs:List At):V:=if xW P T then .agg xs else(match xs with|[x]=>.one x|_=>.any)
def SU(k:IntKind)(x y:Int):Int:=k.wrap (BitVec.ofInt k.bits x&&&BitVec.ofInt k.bits y).toNat
def iOr(k:IntKind)(x y:Int):Int:=k.wrap (BitVec.ofInt k.bits x|||BitVec.ofInt k.bits y).toNat
def L6(k:IntKind)(x y:Int):Int:=k.wrap (BitVec.ofInt k.bits x^^^BitVec.ofInt k.bits y).toNat
def TL(op:BinOp)(k:IntKind)(x y:Int)(v:V):Prop:=
 match op with
 |.eql=>v= .one (.d (.bool (x==y)))
 |.neq=>v= .one (.d (.bool (x !=y)))
 |.lss=>v= .one (.d (.bool (decide (x<y))))
 |.leq=>v= .one (.d (.bool (decide (x<=y))))
 |.gtr=>v= .one (.d (.bool (decide (x>y))))
 |.geq=>v= .one (.d (.bool (decide (x>=y))))
 |.add=>v= .one (.d (.int k (k.wrap (x+y))))
 |.sub=>v= .one (.d (.int k (k.wrap (x-y))))
 |.mul=>v= .one (.d (.int k (k.wrap (x*y))))
 |.quo=>y≠0/\v= .one (.d (.int k (k.wrap (x.tdiv y))))
 |.rem=>y≠0/\v= .one (.d (.int k (x.tmod y)))
 |.and=>v= .one (.d (.int k (SU k x y)))
 |.or=>v= .one (.d (.int k (iOr k x y)))
 |.xor=>v= .one (.d (.int k (L6 k x y)))
 |.shl=>0<=y/\v= .one (.d (.int k (k.wrap (x*2^min y.toNat k.bits))))
 |.shr=>0<=y/\v= .one (.d (.int k (x.fdiv (2^min y.toNat k.bits))))
 |_=>False
def TJ(op:BinOp)(x y:ByteArray)(v:V):Prop:=
 match op with
 |.add=>((x.size+y.size:Nat):Int)<=9223372036854775807/\v= .one (.d (.str (x++y)))
 |.eql=>v= .one (.d (.bool (decide (x=y))))
 |.neq=>v= .one (.d (.bool (!decide (x=y))))
 |_=>False
def Wf(op:BinOp)(x y:Bool)(v:V):Prop:=
 match op with
 |.eql=>v= .one (.d (.bool (x==y)))
 |.neq=>v= .one (.d (.bool (!(x==y))))
 |_=>False
theorem NP{x y:Int}{v:V}{t:TypeId}(hk:(op= .shl\/op= .shr)\/kk=k)(hb:TL op k x y v)(w:World):
  ∃d,v= .one (.d d)/\∃val,(binOp op t (.int k x) (.int kk y)).run P w= .ok val w/\∀T w',Rd T w' val d:=by
 cases op<;>simp only[TL]at hb;case shl=>obtain⟨h0,rfl⟩:=hb;exact⟨_,rfl,_,by simp[binOp,Op.shift,Int.not_lt.2 h0],fun _ _=>.int _ _⟩
 case shr=>obtain⟨h0,rfl⟩:=hb;exact⟨_,rfl,_,by simp[binOp,Op.shift,Int.not_lt.2 h0],fun _ _=>.int _ _⟩
 all_goals(have gI:kk=k:=by rcases hk with(hk|hk)|hk<;>first|exact hk|cases hk)
 all_goals subst gI
 case quo=>obtain⟨h0,rfl⟩:=hb;exact⟨_,rfl,_,by simp[binOp,Op.intDiv,h0],fun _ _=>.int _ _⟩
 case rem=>obtain⟨h0,rfl⟩:=hb;exact⟨_,rfl,_,by simp[binOp,Op.intDiv,h0],fun _ _=>.int _ _⟩
 case add=>subst hb;exact⟨_,rfl,_,by simp[binOp,Op.intArith],fun _ _=>.int _ _⟩
 case sub=>subst hb;exact⟨_,rfl,_,by simp[binOp,Op.intArith],fun _ _=>.int _ _⟩
 case mul=>subst hb;exact⟨_,rfl,_,by simp[binOp,Op.intArith],fun _ _=>.int _ _⟩
 case and=>subst hb;exact⟨_,rfl,_,by simp[binOp,Op.intBits,SU],fun _ _=>.int _ _⟩
 case or=>subst hb;exact⟨_,rfl,_,by simp[binOp,Op.intBits,iOr],fun _ _=>.int _ _⟩
 case xor=>subst hb;exact⟨_,rfl,_,by simp[binOp,Op.intBits,L6],fun _ _=>.int _ _⟩
 all_goals(subst hb;exact⟨_,rfl,.bool _,by simp only[binOp,Op.intCmp,ne_eq,not_true_eq_false,if_false];rfl,fun _ _=>.bool _⟩)
theorem Oz(x y:ByteArray):(x.toList==y.toList)=decide (x=y):=by
 rw[ByteArray.toList_eq,ByteArray.toList_eq,Bool.eq_iff_iff];simp only[beq_iff_eq,decide_eq_true_eq];constructor
 ·intro hh;cases x;cases y;simp_all
 ·rintro rfl;rfl
theorem NJ{x y:ByteArray}{v:V}{t:TypeId}(hb:TJ op x y v)(w:World):
  ∃d,v= .one (.d d)/\∃val,(binOp op t (.string x) (.string y)).run P w= .ok val w/\∀T w',Rd T w' val d:=by
 cases op<;>simp only[TJ]at hb;case add=>obtain⟨h0,rfl⟩:=hb;exact⟨_,rfl,_,by simp only[binOp,Op.stringOp];rw[if_neg (by simp[IntKind.max,IntKind.signed,IntKind.bits];omega)];rfl,fun _ _=>.str _⟩
 case eql=>subst hb;exact⟨_,rfl,.bool _,by simp only[binOp,Op.stringOp,Oz];rfl,fun _ _=>.bool _⟩
 case neq=>subst hb;exact⟨_,rfl,.bool _,by simp only[binOp,Op.stringOp,Oz];rfl,fun _ _=>.bool _⟩
theorem run_equalIn_bool{t:TypeId}(hu:P.underlying t=some .bool)(d:Nat)(x y:Bool)(w:World):(Op.equalIn (d+1) t (.bool x) (.bool y)).run P w= .ok (x==y) w:=by simp[Op.equalIn,run_underlying hu]
theorem OZ{x y:Bool}{v:V}{t:TypeId}(ht:V4 P t=true)(hb:Wf op x y v)(w:World):
  ∃d,v= .one (.d d)/\∃val,(binOp op t (.bool x) (.bool y)).run P w= .ok val w/\∀T w',Rd T w' val d:=by
 have hu:P.underlying t=some .bool:=by unfold V4 at ht;split at ht<;>first|assumption|cases ht
 cases op<;>simp only[Wf]at hb;case eql=>subst hb;exact⟨_,rfl,_,by simp only[binOp,Op.equal,Op.maxDepth,Sem.run_bind,run_equalIn_bool hu 9999,Result.andThen_ok,Sem.run_pure],fun _ _=>.bool _⟩
 case neq=>subst hb;exact⟨_,rfl,_,by simp only[binOp,Op.equal,Op.maxDepth,Sem.run_bind,run_equalIn_bool hu 9999,Result.andThen_ok,Sem.run_pure],fun _ _=>.bool _⟩
def yo(P:Program)(σ:St)(x:Operand)(k:IntKind)(n:Int):Prop:=gOf (look P σ 0 x)=true/\unc (look P σ 0 x)= .one (.d (.int k n))
def bnd(P:Program)(σ:St)(vT:Nat):Option Operand->Nat->Prop
 |none,n=>n=vT
 |some x,n=>∃k i,gOf (look P σ 0 x)=true/\unc (look P σ 0 x)= .one (.d (.int k i))/\0<=i/\n=i.toNat
def cut{α:Type}(xs:List α)(off n:Nat):List α:=(xs.drop off).take n
def zk(P:Program):Nat->TypeId->Option (List At)
 |0,_=>none
 |n+1,t=>
  match P.underlying t with
  |some .bool=>some [.d (.bool false)]
  |some (.int k)=>some [.d (.int k 0)]
  |some .string=>some [.d (.str ⟨#[]⟩)]
  |some (.slice e)=>some [.nil (P.cellsOf e)]
  |some (.struct fs)=>(fs.toList.mapM (fun f=>zk P n f.type)).map List.flatten
  |some (.array m e)=>(zk P n e).map (fun r=>(List.replicate m r).flatten)
  |_=>none
def zAt:At->Value->Bool
 |.d (.bool b),.bool b'=>b==b'
 |.d (.int k n),.int k' n'=>k==k'&&n==n'
 |.d (.str s),.string s'=>s.data.toList==s'.data.toList
 |.nil _,.slice none 0 0=>true
 |_,_=>false
def Md:List At->List Value->Bool
 |[],[]=>true
 |x::xs,v::vs=>zAt x v&&Md xs vs
 |_,_=>false
def YR(P:Program)(t:TypeId):Bool:=
 match zk P 12 t,P.info? t with
 |some row,some i=>(match i.zero with|some z=>Md row z.cells.toList&&i.size==row.length|none=>false)
 |_,_=>false
theorem Iy{x:At}(hz:zAt x v=true)(T:CS)(h:Nat->Nat->Hd)(ob:Nat->Nat->Ob)(w:World):Zf T h ob w x v:=by
 unfold zAt at hz;split at hz
 ·simp at hz;subst hz;exact .bool _
 ·simp at hz;obtain⟨rfl,rfl⟩:=hz;exact .int _ _
 ·rename_i s s';simp at hz;have:s=s':=by cases s;cases s';simp_all
  subst this;exact .str _
 ·rfl
 ·cases hz
theorem IA{xs:List At}(hz:Md xs vs=true)(T:CS)(h:Nat->Nat->Hd)(ob:Nat->Nat->Ob)(w:World):ZU (Zf T h ob w) xs vs:=by
 induction xs generalizing vs with
 |nil=>cases vs with
  |nil=>exact .nil
  |cons v vs=>simp[Md]at hz
 |cons x xs ih=>cases vs with
  |nil=>simp[Md]at hz
  |cons v vs=>simp[Md]at hz;exact .cons (Iy hz.1 _ _ _ _) (ih hz.2)
theorem Us{t:TypeId}{row:List At}(hz:YR P t=true)(hr:zk P 12 t=some row):
  ∃i z,P.info? t=some i/\i.zero=some z/\i.size=row.length/\(∀T h ob w,ZU (Zf T h ob w) row z.cells.toList):=by
 unfold YR at hz;rw[hr]at hz;split at hz
 ·rename_i wN i vU hi;cases vU;split at hz
  ·rename_i z uv;simp at hz;exact⟨i,z,hi,uv,hz.2,fun T h ob w=>IA hz.1 T h ob w⟩
  ·cases hz
 ·cases hz
def V.cells:V->List At
 |.one c=>[c]
 |.agg xs=>xs
 |_=>[]
def V.flat:V->Bool
 |.one _=>true
 |.agg _=>true
 |_=>false
def place{α:Type}(r:List α)(off:Nat)(xs:List α):List α:=r.take off++xs++r.drop (off+xs.length)
def KH(P:Program)(T:TypeId)(i:Nat):Nat:=match P.underlying T with|some (.array _ e)=>i*P.cellsOf e|_=>Yg P T i
def bTy(P:Program)(T:TypeId)(i:Nat):TypeId:=match P.underlying T with|some (.array _ e)=>e|_=>J0 P T i
def bOk(P:Program)(T:TypeId)(i:Nat):Bool:=match P.underlying T with
 |some (.array _ e)=>(P.info? e).isSome
 |some (.struct fs)=>fs.all (fun f=>(P.info? f.type).isSome)&&decide (i<fs.size)
 |_=>false
def xX(P:Program)(σ:St)(T:TypeId):List (Nat×Operand)->List At->List At->Prop
 |[],r,out=>out=r
 |(i,x)::ps,r,out=>bOk P T i=true/\gOf (look P σ (bTy P T i) x)=true/\(unc (look P σ (bTy P T i) x)).flat=true/\
   (unc (look P σ (bTy P T i) x)).cells.length=P.cellsOf (bTy P T i)/\KH P T i+P.cellsOf (bTy P T i)<=r.length/\
   xX P σ T ps (place r (KH P T i) (unc (look P σ (bTy P T i) x)).cells) out
def jv(P:Program)(t:TypeId):Bool:=match P.underlying t with|some .bool=>true|some (.int _)=>true|some .string=>true|_=>false
def yq(P:Program):List Field->Nat->Bool
 |[],_=>true
 | f :: fs, i => decide (f.name ≠ "_") && f.offset == i && jv P f.type && yq P fs (i + 1)
def xt(P:Program):List Field->Nat->Bool
 |[],_=>true
 | f :: fs, i => decide (f.name ≠ "_") && f.offset == i && (if jv P f.type then xt P fs (i + 1) else (match P.underlying f.type with | some (.struct gs) => Kk P f.type && xW P f.type && P.cellsOf f.type == gs.size && decide (0 < gs.size) && !P.stoodInHeld f.type && yq P gs.toList 0 && xt P fs (i + gs.size) | _ => false))
def RK(P:Program)(f:Field):List TypeId:=if jv P f.type then[f.type]else(match P.underlying f.type with|some (.struct gs)=>gs.toList.map (·.type)|_=>[])
def QO(P:Program)(T:TypeId):List TypeId:=(P.fieldsOf T).toList.flatMap (RK P)
def j5(P:Program)(t:TypeId):Bool:=match P.underlying t with
 |some (.struct fs)=>!P.stoodInHeld t&&!P.eqGuardType P.depth t&&xt P fs.toList 0
 |_=>false
def IP(P:Program)(t:TypeId):At->At->Option Bool
 |.d (.int k a),.d (.int k' b)=>if k=k'/\(Nl P t).isSome then some (a==b)else none
 |.d (.bool a),.d (.bool b)=>if V4 P t then some (a==b)else none
 |.d (.str a),.d (.str b)=>if qF P t then some (decide (a=b))else none
 |_,_=>none
def Yb(P:Program):List TypeId->List At->List At->Option Bool
 |[],_,_=>some true
 |f::fs,x::xs,y::ys=>(match IP P f x y,Yb P fs xs ys with|some p,some q=>some (p&&q)|_,_=>none)
 |_,_,_=>none
def OO(P:Program)(op:BinOp)(T:TypeId)(x y v:V):Prop:=
 match x,y with
 |.one (.d (.int k m)),.one (.d (.int k' n))=>((op= .shl\/op= .shr)\/k'=k)/\TL op k m n v
 |.one (.d (.str m)),.one (.d (.str n))=>TJ op m n v
 |.one (.d (.bool m)),.one (.d (.bool n))=>V4 P T=true/\Wf op m n v
 |.agg xs,.agg ys=>j5 P T=true/\∃q,Yb P (QO P T) xs ys=some q/\((op= .eql/\v= .one (.d (.bool q)))\/(op= .neq/\v= .one (.d (.bool (!q)))))
 |_,_=>False
def zq(t j i:Nat):Nat->List D->List At
 |_,[]=>[]
 |c,x::xs=>(match x with|.sl _ _=>.tref t j i c none|x=>.d x)::zq t j i (c+1) xs
def qM(q:Bool)(t j i c:Nat)(xs:List D):List At:=match q with|true=>zq t j i c xs|false=>xs.map .d
def Zj(P:Program)(σ:St)(op:Op)(ty:TypeId)(v:V):Prop:=
 match op with
 |.move x=>v=look P σ ty x
 |.assign x=>v=look P σ ty x
 |.pick c a b=>∃bc p q,gOf (look P σ ty c)=true/\unc (look P σ ty c)= .one (.d (.bool bc))/\(bc=true->unc (look P σ ty a)= .one (.d (.bool p)))/\(bc=false->unc (look P σ ty b)= .one (.d (.bool q)))/\
   (bc=true->gOf (look P σ ty a)=true)/\(bc=false->gOf (look P σ ty b)=true)/\v= .one (.d (.bool (cond bc p q)))
 |.load T x=>gOf (look P σ 0 x)=true/\Kk P T=true/\
   (match unc (look P σ 0 x)with
   |.one (.bptr t c)=>∃cells,σ.ob t 0= .box cells/\c+P.cellsOf T<=cells.length/\v=ldV P T (cut cells c (P.cellsOf T))
   |.one (.ptr t j i c)=>∃q size rows,σ.ob t j= .arr q size rows/\i<rows.length/\c+P.cellsOf T<=size/\v=ldV P T (qM q t j i c (cut (rows.getD i []) c (P.cellsOf T)))
   |.one (.rptr r c)=>c+P.cellsOf T<=r.length/\v=ldV P T ((cut r c (P.cellsOf T)).map .d)
   |.one (.tref t j i c (some k))=>∃size rows s,σ.ob t j= .arr true size rows/\i<rows.length/\(rows.getD i [])[c]?=some (.sl 1 s)/\P.cellsOf T=1/\k<s.length/\(s.getD k []).all D.scalar=true/\v=ldV P T ((s.getD k []).map .d)
   |_=>False)
 |.fieldAddr T x f=>gOf (look P σ 0 x)=true/\Kr P T f=true/\
   (match unc (look P σ 0 x)with
   |.one (.bptr t c)=>(∃cells,σ.ob t 0= .box cells)/\v= .one (.bptr t (c+Yg P T f))
   |.one (.ptr t j i c)=>(∃q size rows,σ.ob t j= .arr q size rows)/\v= .one (.ptr t j i (c+Yg P T f))
   |.one (.rptr r c)=>v= .one (.rptr r (c+Yg P T f))
   |.one (.tref t j i c (some k))=>(∃size rows,σ.ob t j= .arr true size rows)/\v= .one (.tref t j i c (some (k+Yg P T f)))
   |_=>False)
 |.nilCheck x=>gOf (look P σ 0 x)=true/\
   (match unc (look P σ 0 x)with
   |.one (.bptr t c)=>(∃cells,σ.ob t 0= .box cells)/\v= .one (.bptr t c)
   |_=>False)
 |.indexAddr T x ix=>∃k i,yo P σ ix k i/\0<=i/\gOf (look P σ 0 x)=true/\
   (match unc (look P σ 0 x)with
   |.one (.d (.sl size rows))=>Zy P T=true/\size=P.cellsOf (ZD P T)/\0<size/\i<(rows.length:Int)/\v= .one (.rptr (rows.getD i.toNat []) 0)
   |.one (.sref t j lo len)=>Zy P T=true/\0<P.cellsOf (ZD P T)/\(∃q rows,σ.ob t j= .arr q (P.cellsOf (ZD P T)) rows)/\i<(len:Int)/\v= .one (.ptr t j (lo+i.toNat) 0)
   |.one (.bptr t c)=>(∃cells,σ.ob t 0= .box cells)/\(∃n,UK P T=some n/\1<n/\i<(n:Int))/\v= .one (.bptr t (c+i.toNat*P.cellsOf (ZD P T)))
   |.one (.tref t j m c none)=>Zy P T=true/\0<P.cellsOf (ZD P T)/\(∃size rows s,σ.ob t j= .arr true size rows/\m<rows.length/\(rows.getD m [])[c]?=some (.sl (P.cellsOf (ZD P T)) s)/\i<(s.length:Int))/\v= .one (.tref t j m c (some (i.toNat*P.cellsOf (ZD P T))))
   |_=>False)
 |.index T x ix=>∃k i,yo P σ ix k i/\0<=i/\gOf (look P σ 0 x)=true/\
   (match unc (look P σ 0 x)with
   |.one (.d (.str s))=>qF P T=true/\i<(s.size:Int)/\v= .one (.d (.int .u8 (s.data.toList.getD i.toNat 0).toNat))
   |.agg xs=>(∃n,UK P T=some n/\i<(n:Int))/\Kk P (ZD P T)=true/\i.toNat*P.cellsOf (ZD P T)+P.cellsOf (ZD P T)<=xs.length/\v=ldV P (ZD P T) (cut xs (i.toNat*P.cellsOf (ZD P T)) (P.cellsOf (ZD P T)))
   |_=>False)
 |.slice T x lo hi none=>gOf (look P σ 0 x)=true/\
   (match unc (look P σ 0 x)with
   |.one (.d (.str s))=>qF P T=true/\∃l h,bnd P σ 0 lo l/\bnd P σ s.size hi h/\l<=h/\h<=s.size/\v= .one (.d (.str (s.extract l h)))
   |.one (.d (.sl size rows))=>Zy P T=true/\size=P.cellsOf (ZD P T)/\∃l h,bnd P σ 0 lo l/\bnd P σ rows.length hi h/\l<=h/\h<=rows.length/\v= .one (.d (.sl size (cut rows l (h-l))))
   |.one (.sref t j o len)=>Zy P T=true/\(∃q rows,σ.ob t j= .arr q (P.cellsOf (ZD P T)) rows)/\∃l h,bnd P σ 0 lo l/\bnd P σ len hi h/\l<=h/\h<=len/\v= .one (.sref t j (o+l) (h-l))
   |_=>False)
 |.binOp op T x y _=>gOf (look P σ T x)=true/\gOf (look P σ T y)=true/\
   OO P op T (unc (look P σ T x)) (unc (look P σ T y)) v
 |.unOp op _ x=>gOf (look P σ 0 x)=true/\
   (match op,unc (look P σ 0 x)with
   |.not,.one (.d (.bool b))=>v= .one (.d (.bool (!b)))
   |.neg,.one (.d (.int k n))=>v= .one (.d (.int k (k.wrap (-n))))
   |_,_=>False)
 |.convert S T x=>gOf (look P σ 0 x)=true/\(P.underlying S).isSome=true/\
   (match unc (look P σ 0 x)with
   |.one (.d (.int _ n))=>∃k,Nl P T=some k/\v= .one (.d (.int k (k.wrap n)))
   |_=>False)
 |.extract x i=>gOf (look P σ 0 x)=true/\
   (match unc (look P σ 0 x)with
   |.tup xs=>xs[i]?=some v/\v.flat=true
   |_=>False)
 |.field T x f=>gOf (look P σ 0 x)=true/\Kr P T f=true/\Kk P (J0 P T f)=true/\
   (match unc (look P σ 0 x)with
   |.agg xs=>Yg P T f+P.cellsOf (J0 P T f)<=xs.length/\v=ldV P (J0 P T f) (cut xs (Yg P T f) (P.cellsOf (J0 P T f)))
   |_=>False)
 |.build T parts=>YR P T=true/\xW P T=true/\∃z out,zk P 12 T=some z/\xX P σ T parts.toList z out/\v= .agg out
 |.call c=>
   (match c.callee,c.args.toList,c.argTypes.toList with
   |.builtin .len,[x],[t]=>gOf (look P σ t x)=true/\
     (match unc (look P σ t x)with
     |.one (.d (.str s))=>qF P t=true/\v= .one (.d (.int .i64 s.size))
     |.one (.d (.sl _ rows))=>Zy P t=true/\v= .one (.d (.int .i64 rows.length))
     |.one (.nil _)=>Zy P t=true/\v= .one (.d (.int .i64 0))
     |.one (.sref u j _ len)=>Zy P t=true/\((∃q size rows,σ.ob u j= .arr q size rows)\/∃size rows,σ.ob u j= .lit size rows)/\v= .one (.d (.int .i64 len))
     |.one (.tref u j i c none)=>Zy P t=true/\∃size rows n s,σ.ob u j= .arr true size rows/\i<rows.length/\(rows.getD i [])[c]?=some (.sl n s)/\v= .one (.d (.int .i64 s.length))
     |_=>False)
   |.builtin .max,[x,y],_=>∃k m n,yo P σ x k m/\yo P σ y k n/\v= .one (.d (.int k (if n>m then n else m)))
   |.builtin .min,[x,y],_=>∃k m n,yo P σ x k m/\yo P σ y k n/\v= .one (.d (.int k (if n<m then n else m)))
   |_,_,_=>False)
 |_=>False
theorem KL(b off n:Nat):(⟨b,off,none⟩:Addr).add n=⟨b,off+n,none⟩:=by unfold Addr.add;split<;>simp_all
theorem yd{T:TypeId}(ht:Kk P T=true):∃d i,P.underlying T=some d/\P.info? T=some i/\i.size=P.cellsOf T/\(xW P T=true\/P.cellsOf T=1):=by simp only[Kk,Bool.and_eq_true,Bool.or_eq_true,beq_iff_eq]at ht;obtain⟨⟨h1,h2⟩,h3⟩:=ht;obtain⟨d,hd⟩:=Option.isSome_iff_exists.1 h1;obtain⟨i,hi⟩:=Option.isSome_iff_exists.1 h2;exact⟨d,i,hd,hi,by simp[Program.cellsOf,hi],h3⟩
theorem jk{T:TypeId}{d:TypeDesc}(hd:P.underlying T=some d)(w:World):(isAgg T).run P w= .ok (xW P T) w:=by unfold isAgg xW;rw[hd];simp only[Sem.run_bind,run_underlying hd,Result.andThen_ok];cases d<;>simp
theorem XW{T:TypeId}{i:TypeInfo}(hi:P.info? T=some i)(w:World):(sizeOf T).run P w= .ok (P.cellsOf T) w:=by simp[sizeOf,typeInfo,hi,Program.cellsOf]
theorem Lw{T:TypeId}(ht:Kk P T=true)(hl:cs.length=P.cellsOf T)(hc:∀j v,cs[j]?=some v->w.cell? ⟨b,off+j,none⟩=some v):
  ∃val,(Instr.loadAt T (.pointer (some ⟨b,off,none⟩))).run P w= .ok val w/\(xW P T=true->val= .agg cs.toArray)/\(xW P T=false->cs=[val]):=by
 obtain⟨d,i,hd,hi,vK,w5⟩:=yd ht;cases tB:xW P T with
 |true=>
  refine⟨.agg cs.toArray,?_,fun _=>rfl,(fun hh=>by cases hh)⟩;have:=run_loadCells_list (P:=P) w ⟨b,off,none⟩ cs (fun j v hv=>by rw[KL];exact hc j v hv)
  simp only[Instr.loadAt,Instr.sureAddr,loadVar,Sem.run_bind,Sem.run_pure,Result.andThen_ok,jk hd,tB,if_true,XW hi,<-hl,this]
 |false=>
  rcases w5 with w5|w5
  ·rw[tB]at w5;cases w5
  ·rw[w5]at hl;obtain⟨val,rfl⟩:=List.length_eq_one_iff.1 hl;refine⟨val,?_,(fun hh=>by cases hh),fun _=>rfl⟩;have l4:=hc 0 val fM
   simp only[Nat.add_zero]at l4;simp[Instr.loadAt,Instr.sureAddr,loadVar,jk hd,tB,load,Sem.run,l4]
theorem Nt{T:TypeId}(fA:Kk P T=true){ob:Nat->Nat->Ob}{xs:List At}(hx:ZU (Zf T' h ob w) xs cs)
  (h1:xW P T=true->val= .agg cs.toArray) (h2:xW P T=false->cs=[val]):Yu T' h ob w (ldV P T xs) val:=by
 unfold ldV;cases tB:xW P T with
 |true=>simp only[if_true];exact⟨_,h1 tB,by simpa using hx⟩
 |false=>
  simp only[Bool.false_eq_true,if_false];rw[h2 tB]at hx;cases hx with
  |cons r hx=>cases hx;exact r
theorem ZU.cut{α β:Type}{R:α->β->Prop}{l:List α}{m:List β}(x:ZU R l m)(o n:Nat):ZU R (Vm.cut l o n) (Vm.cut m o n):=(x.drop o).take n
theorem Yi{α:Type}(l:List α)(o n:Nat)(hl:o+n<=l.length):(cut l o n).length=n:=by simp[cut];omega
theorem KO{α:Type}(l:List α)(o n j:Nat)(v:α)(hv:(cut l o n)[j]?=some v):l[o+j]?=some v:=by
 simp only[cut,List.getElem?_take,List.getElem?_drop]at hv;split at hv
 ·exact hv
 ·cases hv
theorem zg{α:Type}:∀(rows:List (List α))(size:Nat),(∀r∈rows,r.length=size)->∀(i:Nat)(r:List α),rows[i]?=some r->∀(j:Nat)(d:α),r[j]?=some d->rows.flatten[i*size+j]?=some d
 |[],_,_,i,r,hr,_,_,_=>by simp at hr
 |r0::rows,size,hz,0,r,hr,j,d,hd=>by
  simp at hr;subst hr;have hj:j<r0.length:=(List.getElem?_eq_some_iff.1 hd).1
  simp[List.getElem?_append_left hj,hd]
 |r0::rows,size,hz,i+1,r,hr,j,d,hd=>by
  have ih:=zg rows size (fun r hr=>hz r ef) i r (by simpa using hr) j d hd;have h0:r0.length=size:=hz r0 fM;rw[List.flatten_cons,List.getElem?_append_right (by rw[h0,Nat.add_mul];omega),h0];have:(i+1)*size+j-size=i*size+j:=by rw[Nat.add_mul];omega
  rw[this];exact ih
theorem Zg{α:Type}(rows:List (List α))(size:Nat)(hz:∀r∈rows,r.length=size):rows.flatten.length=rows.length*size:=by
 induction rows with
 |nil=>simp
 |cons r rows ih=>rw[List.flatten_cons,List.length_append,ih (fun r hr=>hz r ef),hz r fM,List.length_cons,Nat.add_mul];omega
theorem Rd.row(r:Rd T w v (.sl size rows))(i:Nat)(hi:i<rows.length)(vK:0<size):
  ∃a len cap,v= .slice (some a) len cap/\len=rows.length/\a.spot=none/\
   ∃g:Nat->Value,∀k d,(rows.getD i [])[k]?=some d->w.cell? ⟨a.block,a.off+i*size+k,none⟩=some (g k)/\T a.block (a.off+i*size+k)/\Rd T w (g k) d:=by
 cases r with
 |nil=>simp at hi
 |sl a len cap size rows g hl hc hm hz hs hg hr=>
  have wg:rows[i]?=some (rows.getD i []):=fe;have wC:rows.flatten≠[]:=by
   have hlen:=Zg rows size hz;have hp:0<rows.length*size:=Nat.mul_pos fJ vK;intro he;have h0:rows.flatten.length=0:=by rw[he];rfl
   omega
  refine⟨a,len,cap,rfl,hl.symm,hs wC,fun k=>g (i*size+k),fun k d hd=>?_⟩;have hf:=zg rows size hz i _ wg k d hd
  have h1:=hg _ _ hf;rw[Nat.add_assoc];exact⟨h1.1,h1.2,hr _ _ hf⟩
theorem SF(r:Rd T w v (.sl size rows)):∀x∈rows,x.length=size:=by
 cases r with
 |nil=>intro x hx;cases hx
 |sl a len cap size rows g hl hc hm hz hs hg hr=>exact hz
theorem ND(r:Rd T w v (.sl size rows)):∃base cap,v= .slice base rows.length cap/\rows.length<=cap/\cap<=maxLen:=by
 cases r with
 |nil=>exact⟨none,0,rfl,fM,by simp[maxLen]⟩
 |sl a len cap size rows g hl hc hm hz hs hg hr=>exact⟨some a,cap,by rw[hl],fJ,hm⟩
theorem YM{t:TypeId}(ht:Zy P t=true):∃i,P.underlying t=some (.slice (ZD P t))/\P.info? (ZD P t)=some i/\i.size=P.cellsOf (ZD P t):=by
 unfold Zy at ht;split at ht
 ·rename_i e he;obtain⟨i,hi⟩:=Option.isSome_iff_exists.1 ht;have:ZD P t=e:=by simp[ZD,he]
  rw[this];exact⟨i,he,hi,by simp[Program.cellsOf,hi]⟩
 ·cases ht
theorem Tm{t:TypeId}(ht:UK P t=some n):∃i,P.underlying t=some (.array n (ZD P t))/\P.info? (ZD P t)=some i/\i.size=P.cellsOf (ZD P t):=by
 unfold UK at ht;split at ht
 ·rename_i m e he;split at ht
  ·rename_i hh;cases ht;obtain⟨i,hi⟩:=Option.isSome_iff_exists.1 hh;have:ZD P t=e:=by simp[ZD,he]
   rw[this];exact⟨i,he,hi,by simp[Program.cellsOf,hi]⟩
  ·cases ht
 ·cases ht
theorem kB{t:TypeId}(ht:Kr P t f=true):∃fs fd i,P.underlying t=some (.struct fs)/\fs[f]?=some fd/\fd.offset=Yg P t f/\fd.type=J0 P t f/\P.info? fd.type=some i/\i.size≠0:=by
 unfold Kr at ht;split at ht
 ·rename_i fs he;split at ht
  ·rename_i fd hf;simp at ht;obtain⟨i,hi⟩:=Option.isSome_iff_exists.1 ht.1;exact⟨fs,fd,i,he,hf,by simp[Yg,he,hf],by simp[J0,he,hf],hi,by simpa[Program.cellsOf,hi]using ht.2⟩
  ·cases ht
 ·cases ht
theorem KS{t:TypeId}(ht:qF P t=true):P.underlying t=some .string:=by unfold qF at ht;split at ht<;>first|assumption|cases ht
theorem TM{t:TypeId}(ht:Nl P t=some k):P.underlying t=some (.int k):=by
 unfold Nl at ht;split at ht
 ·cases ht;assumption
 ·cases ht
theorem qD{n:Int}(r:Rd T w v (.int k n)):v= .int k n:=by cases r;rfl
theorem K9{b:Bool}(r:Rd T w v (.bool b)):v= .bool b:=by cases r;rfl
theorem jT{s:ByteArray}(r:Rd T w v (.str s)):v= .string s:=by cases r;rfl
theorem JY(r:Rel T0 B σ a w X h){n:Int}(hx:yo P σ x k n):a.eval x= .int k n:=
 qD (r.arg 0 x hx.2 hx.1)
theorem Own.YN{d:D}(h:Own w v d S):v.oneCell'=true:=by
 cases h with
 |int=>rfl
 |bool=>rfl
 |str=>rfl
 |unk _ h=>exact h
 |sl v size rows S e xs Sk ho hz hb hl hk hs hd=>rcases ho.2 with⟨rfl,_⟩|⟨g,cap,cur,rfl,_⟩<;>rfl
theorem TV{t j i:Nat}:∀{xs:List D}{c k:Nat}{x:At},(zq t j i c xs)[k]?=some x->∃d,xs[k]?=some d/\x=(match d with|.sl _ _=>.tref t j i (c+k) none|d=>.d d)
 |[],c,k,x,hx=>by simp[zq]at hx
 |d::xs,c,0,x,hx=>by simp only[zq,List.getElem?_cons_zero]at hx;cases hx;exact⟨d,fM,by cases d<;>simp⟩
 |d::xs,c,k+1,x,hx=>by simp only[zq,List.getElem?_cons_succ]at hx;obtain⟨d',wL,rfl⟩:=TV hx;exact⟨d',by simpa using wL,by cases d'<;>simp;omega⟩
theorem kQ{t j i:Nat}:∀(c:Nat)(xs:List D),(zq t j i c xs).length=xs.length
 |_,[]=>rfl
 |c,d::xs=>by simp[zq,kQ (c+1) xs]
theorem SP(q:Bool)(t j i c:Nat)(xs:List D):(qM q t j i c xs).length=xs.length:=by cases q<;>simp[qM,kQ]
theorem Rel.box(r:Rel T0 B σ a w X h){cells:List At}(ho:σ.ob t 0= .box cells){c:Nat}(hv:Zf (Tof T0 X) h σ.ob w (.bptr t c) v):
  ∃b cs e,(h t 0).v= .pointer (some ⟨b,0,none⟩)/\v= .pointer (some ⟨b,c,none⟩)/\w.heap[b]?=some (.cells cs e (0,0))/\ZU (Zf (Tof T0 X) h σ.ob w) cells cs.toList:=by
 obtain⟨b,hb,rfl⟩:=hv.2 cells ho;have wW:=r.obj t 0
 rw[ho]at wW;obtain⟨b',cs,e,wP,hh,wE⟩:=wW;rw[hb]at wP;cases wP;exact⟨b,cs,e,hb,rfl,hh,wE⟩
theorem Qp{cs:Array Value}{e:TypeId}{f:Nat×Nat}(hh:w.heap[b]?=some (.cells cs e f))(k:Nat)(v:Value)(hv:cs.toList[k]?=some v):w.cell? ⟨b,k,none⟩=some v:=by simp only[World.cell?,hh];simpa using hv
theorem Rel.arr(r:Rel T0 B σ a w X h)(ho:σ.ob t j= .arr q size rows){c:Nat}(hv:Zf (Tof T0 X) h σ.ob w (.ptr t j i c) v):
  ∃b cap cur e xs,(h t j).v= .slice (some ⟨b,0,none⟩) rows.length cap/\v= .pointer (some ⟨b,i*size+c,none⟩)/\w.heap[b]?=some (.cells cur e (0,0))/\rows.length<=cap/\cap<=maxLen/\cur.size=cap*size/\
   cur.toList.take (rows.length*size)=xs/\(∀r∈rows,r.length=size)/\xs.length=rows.flatten.length/\(q=false->ZU (Rd (Tof T0 X) w) xs rows.flatten)/\
   (q=true->Qk w xs rows.flatten (fun b=>(h t j).u b/\blk (h t j).v≠some b)/\∀k x d,xs[k]?=some x->rows.flatten[k]?=some d->d.scalar=false->(h t j).n k=x):=by
 obtain⟨b,n,cap,hb,rfl⟩:=hv.2 q size rows ho;have wW:=r.obj t j
 rw[ho]at wW;cases q with
 |false=>
  obtain⟨e,xs,wI,hz,wE⟩:=wW;rcases wI.2 with⟨h0,_⟩|⟨g,p7,cur,hg,_,hh,hle,uE,uM,uw⟩
  ·rw[hb]at h0;cases h0
  ·rw[hb]at hg;cases hg;exact⟨b,cap,cur,e,xs,hb,rfl,hh,hle,uE,uM,uw,hz,wE.length,fun _=>wE,fun hh=>by cases hh⟩
 |true=>
  obtain⟨e,xs,wI,hz,wE,hn⟩:=wW;rcases wI.2 with⟨h0,_⟩|⟨g,p7,cur,hg,_,hh,hle,uE,uM,uw⟩
  ·rw[hb]at h0;cases h0
  ·rw[hb]at hg;cases hg;exact⟨b,cap,cur,e,xs,hb,rfl,hh,hle,uE,uM,uw,hz,wE.1,(fun hh=>by cases hh),fun _=>⟨wE,hn⟩⟩
theorem Own.hdr(h:Own w v (.sl n s) S)(hp:0<s.length):∃b cap,v= .slice (some ⟨b,0,none⟩) s.length cap:=by
 cases h with
 |sl v size rows S e xs Sk ho hz hb hl hk hs hd=>
  obtain⟨_,⟨_,h0⟩|⟨g,cap,cur,hv,_⟩⟩:=ho
  ·omega
  ·exact⟨g,cap,hv⟩
theorem Rel.nest(r:Rel T0 B σ a w X h){c:Nat}(ho:σ.ob t j= .arr true size rows)(hi:i<rows.length)(wF:(rows.getD i [])[c]?=some (.sl n s)):∃v0 S,(h t j).n (i*size+c)=v0/\Own w v0 (.sl n s) S:=by
 have h0:=r.obj t j;rw[ho]at h0;obtain⟨e,vs,uX,hz,⟨hl,Sk,o1,o2,o3⟩,hn⟩:=h0;have wg:rows[i]?=some (rows.getD i []):=fe;have vo:rows.flatten[i*size+c]?=some (.sl n s):=zg rows size hz i _ wg c _ wF;have wO:i*size+c<vs.length:=by rw[hl];exact(List.getElem?_eq_some_iff.1 vo).1
 have nu:vs[i*size+c]?=some vs[i*size+c]:=List.getElem?_eq_getElem wO;exact⟨_,_,hn _ _ _ nu vo rfl,o1 _ _ _ nu vo⟩
theorem O7(r:Rel T0 B σ a w X h){T:TypeId}{v:V}(wA:o.op= .load T x)(hs:Zj P σ o.op o.type v):
  ∃val,(execOp a.eval o).run P w= .ok (.value val) w/\Yu (Tof T0 X) h σ.ob w v val:=by
 simp only[wA,Zj]at hs;obtain⟨hg,uA,hs⟩:=hs;have hx:=r.arg (P:=P) 0 x rfl hg
 have key:∀(b off:Nat)(xs:List At)(cs:List Value),a.eval x= .pointer (some ⟨b,off,none⟩)->v=ldV P T xs->cs.length=P.cellsOf T->
   (∀j u,cs[j]?=some u->w.cell? ⟨b,off+j,none⟩=some u)->ZU (Zf (Tof T0 X) h σ.ob w) xs cs->∃val,(execOp a.eval o).run P w= .ok (.value val) w/\Yu (Tof T0 X) h σ.ob w v val:=by
  intro b off xs cs he hv hl hc wE;obtain⟨val,hr,h1,h2⟩:=Lw (P:=P) uA hl hc;refine⟨val,?_,?_⟩
  ·simp only[execOp,wA,he,Sem.run_bind,hr,Result.andThen_ok,Sem.run_pure]
  ·rw[hv];exact Nt uA wE h1 h2
 split at hs
 ·rename_i t c heq;rw[heq]at hx;obtain⟨cells,ho,hle,hv⟩:=hs;obtain⟨b,cs,e,hb,he,hh,wE⟩:=r.box ho hx;have hlen:=wE.length
  refine key b c _ (cut cs.toList c (P.cellsOf T)) he hv (Yi _ _ _ fJ) (fun j u hu=>Qp hh _ _ (KO _ _ _ _ _ hu)) (wE.cut _ _)
 ·rename_i t j i c heq;rw[heq]at hx;obtain⟨q,size,rows,ho,hi,hle,hv⟩:=hs;obtain⟨b,cap,cur,e,xs,hb,he,hh,vh,uE,uM,uw,hz,rC,wE,wI⟩:=r.arr ho hx;have wg:rows[i]?=some (rows.getD i []):=fe
  have tG:(rows.getD i []).length=size:=hz _ (List.mem_of_getElem? wg);have vV:=Zg rows size hz;have hmul:i*size+size<=rows.length*size:=ft;have sA:∀k d',(cut (rows.getD i []) c (P.cellsOf T))[k]?=some d'->rows.flatten[i*size+c+k]?=some d':=by
   intro k d' wL;have h2:=zg rows size hz i _ wg (c+k) d' (KO _ _ _ _ _ wL)
   rw[show i*size+c+k=i*size+(c+k)by omega];exact h2
  refine key b (i*size+c) _ (cut xs (i*size+c) (P.cellsOf T)) he hv (Yi _ _ _ fJ) (fun j u hu=>?_) ?_
  ·have h1:=KO _ _ _ _ _ hu;refine Qp hh _ _ ?_;rw[<-uw,List.getElem?_take]at h1;split at h1
   ·exact h1
   ·cases h1
  ·refine ZU.Jq (by rw[Yi _ _ _ fJ,SP,Yi _ _ _ fJ]) (fun k x u hx hu=>?_);have h1:=KO _ _ _ _ _ hu
   cases q with
   |false=>
    obtain⟨d,hd,hr⟩:=(wE rfl).get _ _ h1;simp only[qM]at hx;rw[List.getElem?_map]at hx;cases wL:(cut (rows.getD i []) c (P.cellsOf T))[k]? with
    |none=>rw[wL]at hx;cases hx
    |some d'=>rw[wL]at hx;cases hx;rw[sA k d' wL]at hd;cases hd;exact hr
   |true=>
    obtain⟨⟨_,Sk,wI,_,_⟩,hn⟩:=wI rfl;simp only[qM]at hx;obtain⟨d',wL,rfl⟩:=TV hx;have wV:=wI _ _ _ h1 (sA k d' wL)
    cases d' with
    |sl s rs=>
     refine⟨wV.YN,fun wi wQ ug=>?_⟩;rw[ho]at ug;cases ug;show _=_
     rw[<-hn _ _ _ h1 (sA k _ wL) rfl,Nat.add_assoc]
    |int k n=>cases wV;exact .int _ _
    |bool b=>cases wV;exact .bool _
    |str s=>cases wV;exact .str _
    |unk=>exact .unk _ wV.YN
 ·rename_i rr c heq;rw[heq]at hx;obtain⟨hle,hv⟩:=hs;obtain⟨b,off,g,he,hk⟩:=hx;refine key b (off+c) _ ((List.range (P.cellsOf T)).map fun j=>g (c+j)) he hv fM (fun j u hu=>?_) ?_
  ·rw[List.getElem?_map]at hu;rcases Nat.lt_or_ge j (P.cellsOf T)with hj|hj
   ·rw[List.getElem?_range hj]at hu;cases hu;have hd:=hk (c+j) (rr[c+j]'fJ) (List.getElem?_eq_getElem _)
    rw[Nat.add_assoc];exact hd.1
   ·rw[List.getElem?_eq_none (by simpa using hj)]at hu;cases hu
  ·refine ZU.Jq (by rw[List.length_map,Yi _ _ _ fJ];simp) (fun k x u hx hu=>?_);rw[List.getElem?_map]at hx hu;cases wL:(cut rr c (P.cellsOf T))[k]? with
   |none=>rw[wL]at hx;cases hx
   |some d'=>
    rw[wL]at hx;cases hx;have lM:k<P.cellsOf T:=by have:=(List.getElem?_eq_some_iff.1 wL).1;rw[Yi _ _ _ fJ]at this;exact this
    rw[List.getElem?_range lM]at hu;cases hu;exact(hk (c+k) d' (KO _ _ _ _ _ wL)).2.2
 ·rename_i t j i c k heq;rw[heq]at hx;obtain⟨size,rows,s,ho,hi,wF,l0,gN,vH,hv⟩:=hs;obtain⟨v0,S,hn,wI⟩:=r.nest ho hi wF;obtain⟨b,len,tT,ra,he⟩:=hx.2 _ _ ho;rw[hn]at ra;cases wI with
  |sl v wi wQ S e xs Sk ug hz hb hl hk wJ hd=>
   rcases ug.2 with⟨rfl,h0⟩|⟨g,cap,cur,rfl,_,hh,vr,uE,uM,uw⟩
   ·omega
   ·cases ra;have wg:s[k]?=some (s.getD k []):=by simp[List.getD_eq_getElem?_getD,List.getElem?_eq_getElem gN]
    have tG:(s.getD k []).length=1:=hz _ (List.mem_of_getElem? wg);have vV:=Zg s 1 hz;refine key b k _ (cut xs k (P.cellsOf T)) he hv (Yi _ _ _ fJ) (fun j u hu=>?_) ?_
    ·have h1:=KO _ _ _ _ _ hu;refine Qp hh _ _ ?_;rw[<-uw,List.getElem?_take]at h1;split at h1
     ·exact h1
     ·cases h1
    ·refine ZU.Jq (by rw[List.length_map,Yi _ _ _ fJ];omega) (fun q x u hx hu=>?_);rw[List.getElem?_map]at hx;cases wL:(s.getD k [])[q]? with
     |none=>rw[wL]at hx;cases hx
     |some d'=>
      rw[wL]at hx;cases hx;have hq:q=0:=by have:=(List.getElem?_eq_some_iff.1 wL).1;omega
      subst hq;have hf:=zg s 1 hz k _ wg 0 d' wL
      rw[Nat.mul_one]at hf;have nv:=hk _ _ _ (KO _ _ _ _ _ hu) hf
      have gS:d'.scalar=true:=List.all_eq_true.1 vH d' (List.mem_of_getElem? wL);cases d' with
      |sl s' rs=>cases gS
      |int k' n'=>cases nv;exact .int _ _
      |bool b'=>cases nv;exact .bool _
      |str s'=>cases nv;exact .str _
      |unk=>exact .unk _ nv.YN
 ·exact hs.elim
theorem xH{T:TypeId}(hf:Kr P T f=true)(b off:Nat):(Instr.fieldAt T (.pointer (some ⟨b,off,none⟩)) f).run P w= .ok (.pointer (some ⟨b,off+Yg P T f,none⟩)) w:=by
 obtain⟨fs,fd,i,hu,pR,oG,uA,hi,wC⟩:=kB hf;have wq:P.cellsOf fd.type≠0:=by simpa[Program.cellsOf,hi]using wC
 simp[Instr.fieldAt,run_underlying hu,pR,Instr.sureAddr,fieldPlace,XW hi,wq,KL,oG]
theorem UO(r:Rel T0 B σ a w X h){T:TypeId}{v:V}(wA:o.op= .fieldAddr T x f)(hs:Zj P σ o.op o.type v):
  ∃val,(execOp a.eval o).run P w= .ok (.value val) w/\Yu (Tof T0 X) h σ.ob w v val:=by
 simp only[wA,Zj]at hs;obtain⟨hg,hf,hs⟩:=hs;have hx:=r.arg (P:=P) 0 x rfl hg
 split at hs
 ·rename_i t c heq;rw[heq]at hx;obtain⟨⟨cells,ho⟩,rfl⟩:=hs;obtain⟨b,hb,he⟩:=hx.2 cells ho;refine⟨.pointer (some ⟨b,c+Yg P T f,none⟩),by simp only[execOp,wA,he,Sem.run_bind,xH hf,Result.andThen_ok,Sem.run_pure],rfl,fun wG _=>⟨b,hb,rfl⟩⟩
 ·rename_i t j i c heq;rw[heq]at hx;obtain⟨⟨q,size,rows,ho⟩,rfl⟩:=hs;obtain⟨b,n,cap,hb,he⟩:=hx.2 q size rows ho;refine⟨.pointer (some ⟨b,i*size+c+Yg P T f,none⟩),by simp only[execOp,wA,he,Sem.run_bind,xH hf,Result.andThen_ok,Sem.run_pure],rfl,fun q' wi wQ wV=>?_⟩;rw[ho]at wV;cases wV;exact⟨b,n,cap,hb,by rw[Nat.add_assoc]⟩
 ·rename_i rr c heq;rw[heq]at hx;subst hs;obtain⟨b,off,g,he,hk⟩:=hx;exact⟨.pointer (some ⟨b,off+c+Yg P T f,none⟩),by simp only[execOp,wA,he,Sem.run_bind,xH hf,Result.andThen_ok,Sem.run_pure],b,off,g,by rw[Nat.add_assoc],hk⟩
 ·rename_i t j i c k heq;rw[heq]at hx;obtain⟨⟨size,rows,ho⟩,rfl⟩:=hs;obtain⟨b,n,cap,hb,he⟩:=hx.2 size rows ho;refine⟨.pointer (some ⟨b,k+Yg P T f,none⟩),by simp only[execOp,wA,he,Sem.run_bind,xH hf,Result.andThen_ok,Sem.run_pure],rfl,fun wi wQ wV=>?_⟩;rw[ho]at wV;cases wV;exact⟨b,n,cap,hb,rfl⟩
 ·exact hs.elim
theorem Uy(r:Rel T0 B σ a w X h){v:V}(wA:o.op= .nilCheck x)(hs:Zj P σ o.op o.type v):
  ∃val,(execOp a.eval o).run P w= .ok (.value val) w/\Yu (Tof T0 X) h σ.ob w v val:=by
 simp only[wA,Zj]at hs;obtain⟨hg,hs⟩:=hs;have hx:=r.arg (P:=P) 0 x rfl hg
 split at hs
 ·rename_i t c heq;rw[heq]at hx;obtain⟨⟨cells,ho⟩,rfl⟩:=hs;obtain⟨b,hb,he⟩:=hx.2 cells ho;exact⟨.pointer (some ⟨b,c,none⟩),by simp only[execOp,wA,he,Sem.run_pure],rfl,fun wG _=>⟨b,hb,rfl⟩⟩
 ·exact hs.elim
theorem ja{T:TypeId}(ht:Zy P T=true)(ad:Addr)(sN:ad.spot=none)(len cap:Nat)(k:IntKind)(i:Int)(h0:0<=i)(hl:i<(len:Int)):
  (Instr.indexAt T (.slice (some ad) len cap) (.int k i)).run P w= .ok (.pointer (some ⟨ad.block,ad.off+i.toNat*P.cellsOf (ZD P T),none⟩)) w:=by
 obtain⟨ti,hu,hi,vK⟩:=YM ht;obtain⟨b,off,sp⟩:=ad;simp at sN;subst sN;simp[Instr.indexAt,asIntOf,run_underlying hu,h0,hl,XW hi,KL]
theorem Ro{T:TypeId}(ht:UK P T=some n)(fB:1<n)(b off:Nat)(k:IntKind)(i:Int)(h0:0<=i)(hl:i<(n:Int)):
  (Instr.indexAt T (.pointer (some ⟨b,off,none⟩)) (.int k i)).run P w= .ok (.pointer (some ⟨b,off+i.toNat*P.cellsOf (ZD P T),none⟩)) w:=by
 obtain⟨ti,hu,hi,vK⟩:=Tm ht;simp[Instr.indexAt,Instr.sureAddr,asIntOf,run_underlying hu,h0,hl,XW hi,KL]
theorem Ug(r:Rel T0 B σ a w X h){T:TypeId}{ix:Operand}{v:V}(wA:o.op= .indexAddr T x ix)(hs:Zj P σ o.op o.type v):
  ∃val,(execOp a.eval o).run P w= .ok (.value val) w/\Yu (Tof T0 X) h σ.ob w v val:=by
 simp only[wA,Zj]at hs;obtain⟨k,i,lI,h0,hg,hs⟩:=hs;have hx:=r.arg (P:=P) 0 x rfl hg
 have rk:=JY r lI;split at hs
 ·rename_i size rows heq;rw[heq]at hx;obtain⟨ht,rfl,w7,wO,rfl⟩:=hs;have na:i.toNat<rows.length:=fJ
  obtain⟨ad,len,cap,he,hlen,sN,g,hk⟩:=Rd.row (show Rd _ _ _ _ from hx) i.toNat na w7;refine⟨.pointer (some ⟨ad.block,ad.off+i.toNat*P.cellsOf (ZD P T),none⟩),by simp only[execOp,wA,he,rk,Sem.run_bind,ja ht ad sN len cap k i h0 fJ,Result.andThen_ok,Sem.run_pure],ad.block,ad.off+i.toNat*P.cellsOf (ZD P T),g,fM,hk⟩
 ·rename_i t j lo len heq;rw[heq]at hx;obtain⟨ht,w7,⟨q,rows,ho⟩,wO,rfl⟩:=hs;obtain⟨hle,_,_,base,cap,he,vh,_,_,hb⟩:=hx.2.1 _ _ rows ho;obtain⟨b,tT,hh,rU⟩:=hb fJ;rw[rU]at he;refine⟨.pointer (some ⟨b,lo*P.cellsOf (ZD P T)+i.toNat*P.cellsOf (ZD P T),none⟩),by simp only[execOp,wA,he,rk,Sem.run_bind,ja ht ⟨b,lo*P.cellsOf (ZD P T),none⟩ rfl len cap k i h0 wO,Result.andThen_ok,Sem.run_pure],rfl,fun q' wi wQ wV=>?_⟩;rw[ho]at wV;cases wV;exact⟨b,rows.length,tT,hh,by simp[Nat.add_mul]⟩
 ·rename_i t c heq;rw[heq]at hx;obtain⟨⟨cells,ho⟩,⟨n,hn,h1,wO⟩,rfl⟩:=hs;obtain⟨b,hb,he⟩:=hx.2 cells ho;exact⟨.pointer (some ⟨b,c+i.toNat*P.cellsOf (ZD P T),none⟩),by simp only[execOp,wA,he,rk,Sem.run_bind,Ro hn h1 b c k i h0 wO,Result.andThen_ok,Sem.run_pure],rfl,fun wG _=>⟨b,hb,rfl⟩⟩
 ·rename_i t j m c heq;rw[heq]at hx;obtain⟨ht,w7,⟨size,rows,s,ho,hm,wF,wO⟩,rfl⟩:=hs;obtain⟨v0,S,hn,wI⟩:=r.nest ho hm wF;have he:a.eval x=v0:=by rw[<-hn];exact hx.2 size rows ho
  obtain⟨b,cap,ra⟩:=wI.hdr fJ;rw[ra]at he hn;refine⟨.pointer (some ⟨b,0+i.toNat*P.cellsOf (ZD P T),none⟩),by simp only[execOp,wA,he,rk,Sem.run_bind,ja ht ⟨b,0,none⟩ rfl s.length cap k i h0 wO,Result.andThen_ok,Sem.run_pure],rfl,fun wi wQ wV=>?_⟩;rw[ho]at wV;cases wV;exact⟨b,s.length,cap,hn,fM⟩
 ·exact hs.elim
theorem Ty{T:TypeId}(ht:Kk P T=true){cs:Array Value}(hl:off+P.cellsOf T<=cs.size):
  ∃val,(part T cs off).run P w= .ok val w/\(xW P T=true->val= .agg (cut cs.toList off (P.cellsOf T)).toArray)/\(xW P T=false->cut cs.toList off (P.cellsOf T)=[val]):=by
 obtain⟨d,i,hd,hi,vK,w5⟩:=yd ht;cases tB:xW P T with
 |true=>
  refine⟨.agg (cs.extract off (off+P.cellsOf T)),?_,fun _=>?_,(fun hh=>by cases hh)⟩
  ·simp only[part,Sem.run_bind,jk hd,tB,Result.andThen_ok,if_true,XW hi,Sem.run_pure]
  ·congr 1;apply Array.toList_inj.1;simp[cut,Array.toList_extract,List.extract_eq_take_drop]
 |false=>
  rcases w5 with w5|w5
  ·rw[tB]at w5;cases w5
  ·rw[w5]at hl⊢;have wO:off<cs.size:=fJ
   refine⟨cs[off],?_,(fun hh=>by cases hh),fun _=>?_⟩
   ·simp[part,jk hd,tB,Array.getElem?_eq_getElem wO]
   ·have:cut cs.toList off 1=[cs.toList[off]'(by simpa using wO)]:=by simp only[cut];rw[List.drop_eq_getElem_cons (by simpa using wO)];simp
    rw[this];simp
theorem Pa{T:TypeId}(ht:Kk P T=true){xs:List At}{x:Value}(hx:Yu (Tof T0 X) h σ.ob w (.agg xs) x)(hl:off+P.cellsOf T<=xs.length):
  ∃cs:Array Value,x= .agg cs/\∃val,(part T cs off).run P w= .ok val w/\Yu (Tof T0 X) h σ.ob w (ldV P T (cut xs off (P.cellsOf T))) val:=by
 obtain⟨cs,rfl,wE⟩:=hx;obtain⟨val,hr,h1,h2⟩:=Ty (P:=P) (w:=w) ht (cs:=cs) (off:=off) (by have:=wE.length;simp at this;omega);exact⟨cs,rfl,val,hr,Nt ht (wE.cut _ _) h1 h2⟩
theorem OQ(r:Rel T0 B σ a w X h){T:TypeId}{ix:Operand}{v:V}(wA:o.op= .index T x ix)(hs:Zj P σ o.op o.type v):
  ∃val,(execOp a.eval o).run P w= .ok (.value val) w/\Yu (Tof T0 X) h σ.ob w v val:=by
 simp only[wA,Zj]at hs;obtain⟨k,i,lI,h0,hg,hs⟩:=hs;have hx:=r.arg (P:=P) 0 x rfl hg
 have rk:=JY r lI;split at hs
 ·rename_i s heq;rw[heq]at hx;obtain⟨ht,wO,rfl⟩:=hs;have he:=jT hx
  have na:i.toNat<s.size:=fJ;refine⟨.int .u8 (s.data.toList.getD i.toNat 0).toNat,?_,.int _ _⟩;have vD:s[i.toNat]?=some (s.data.toList.getD i.toNat 0):=by
   rw[List.getD_eq_getElem?_getD];have h1:s.data.toList[i.toNat]?=some (s.data[i.toNat]'na):=by rw[List.getElem?_eq_getElem (by simpa using na)];simp
   rw[h1,getElem?_pos s i.toNat na];rfl
  simp[execOp,wA,he,rk,Instr.index,asIntOf,run_underlying (KS ht),h0,vD]
 ·rename_i xs heq;rw[heq]at hx;obtain⟨⟨n,hn,wO⟩,ht,hl,rfl⟩:=hs;obtain⟨ti,hu,hi,vK⟩:=Tm hn;obtain⟨cs,he,val,hr,hv⟩:=Pa ht hx hl;refine⟨val,?_,hv⟩;simp[execOp,wA,he,rk,Instr.index,asIntOf,run_underlying hu,h0,wO,XW hi,hr]
 ·exact hs.elim
theorem OR(r:Rel T0 B σ a w X h){T:TypeId}{v:V}(wA:o.op= .field T x f)(hs:Zj P σ o.op o.type v):
  ∃val,(execOp a.eval o).run P w= .ok (.value val) w/\Yu (Tof T0 X) h σ.ob w v val:=by
 simp only[wA,Zj]at hs;obtain⟨hg,hf,ht,hs⟩:=hs;have hx:=r.arg (P:=P) 0 x rfl hg
 split at hs
 ·rename_i xs heq;rw[heq]at hx;obtain⟨hl,rfl⟩:=hs;obtain⟨fs,fd,i,hu,pR,oG,uA,hi,wC⟩:=kB hf;obtain⟨cs,he,val,hr,hv⟩:=Pa ht hx hl;refine⟨val,?_,hv⟩;rw[<-oG,<-uA]at hr;simp[execOp,wA,he,Instr.field,run_underlying hu,pR,asAgg,hr]
 ·exact hs.elim
theorem Ru(r:Rel T0 B σ a w X h){vT y:Nat}{x:Option Operand}(hb:bnd P σ vT x n)(hy:n<=y)(wC:x≠none):
  (Instr.sliceBound ((x.map a.eval).getD undef) y code).run P w= .ok n w:=by
 cases x with
 |none=>exact absurd rfl wC
 |some x=>
  obtain⟨k,i,hg,hx,h0,rfl⟩:=hb;have he:=qD (r.arg (P:=P) 0 x hx hg)
  have:i<=(y:Int):=fJ;simp[he,Instr.sliceBound,asIntOf,h0,this]
theorem kX(r:Rel T0 B σ a w X h){sl:Bool}{l hh:Nat}(ud:bnd P σ 0 lo l)(tr:bnd P σ len hi hh)(h1:l<=hh)(h2:hh<=cap):
  (Instr.sliceBounds sl len cap (lo.map a.eval) (hi.map a.eval) none).run P w= .ok (l,hh,cap) w:=by
 unfold Instr.sliceBounds;cases hi with
 |none=>
  cases tr;cases lo with
  |none=>cases ud;simp
  |some x=>have:=Ru (w:=w) r (code:=.sliceB) ud h1 fM;simp at this;simp[this]
 |some y=>
  have hb:=Ru (w:=w) r (code:=if sl then .sliceAcap else .sliceAlen) tr h2 fM;simp at hb;cases lo with
  |none=>cases ud;simp[hb]
  |some x=>have:=Ru (w:=w) r (code:=.sliceB) ud h1 fM;simp at this;simp[this,hb]
theorem Kc{α:Type}(rows:List (List α))(size l n:Nat)(hz:∀r∈rows,r.length=size)(k:Nat)(d:α)(hd:(cut rows l n).flatten[k]?=some d):rows.flatten[l*size+k]?=some d:=by
 induction rows generalizing l with
 |nil=>simp[cut]at hd
 |cons r rows ih=>
  have hr:r.length=size:=hz r fM;cases l with
  |zero=>
   simp only[cut,List.drop_zero,Nat.zero_mul,Nat.zero_add]at hd⊢;have oI:(r::rows).flatten=((r::rows).take n).flatten++((r::rows).drop n).flatten:=by rw[<-List.flatten_append,List.take_append_drop]
   rw[oI,List.getElem?_append_left (List.getElem?_eq_some_iff.1 hd).1];exact hd
  |succ l=>have:=ih l (fun r hr=>hz r ef) (by simpa[cut]using hd);rw[List.flatten_cons,List.getElem?_append_right (by rw[hr,Nat.add_mul];omega),hr];rw[show(l+1)*size+k-size=l*size+k by rw[Nat.add_mul];omega];exact this
theorem Rd.cut(hv:v= .slice base len cap)(r:Rd T w v (.sl size rows))(l hh:Nat)(h1:l<=hh)(h2:hh<=rows.length)(gJ:0<size\/True):
  Rd T w (.slice (if cap=l then base else base.map (·.add (l*size))) (hh-l) (cap-l)) (.sl size (Vm.cut rows l (hh-l))):=by
 subst hv;cases r with
 |nil=>
  simp at h2;subst h2;have:l=0:=fJ
  subst this;simp[Vm.cut];exact .nil _
 |sl a len cap size rows g hl hc hm hz hs hg hr=>
  have hlen:(Vm.cut rows l (hh-l)).length=hh-l:=Yi _ _ _ fJ;have ue:∀r∈Vm.cut rows l (hh-l),r.length=size:=fun r hr=>hz r (List.mem_of_mem_drop (List.mem_of_mem_take hr));by_cases wb:cap=l
  ·have h0:hh-l=0:=fJ;have uj:Vm.cut rows l (hh-l)=[]:=List.eq_nil_of_length_eq_zero fJ;rw[if_pos wb,uj,h0];exact .sl a 0 (cap-l) size [] g rfl (Nat.zero_le _) fJ (by intro r hr;cases hr) fM fM fM
  ·rw[if_neg wb];refine .sl (a.add (l*size)) (hh-l) (cap-l) size _ (fun k=>g (l*size+k)) hlen fJ fJ ue (fun wC=>?_) (fun k d hd=>?_) (fun k d hd=>hr _ _ (Kc rows size l _ hz k d hd))
   ·have:rows.flatten≠[]:=by
     intro he;apply wC;cases wk:(Vm.cut rows l (hh-l)).flatten with
     |nil=>rfl
     |cons d ds=>have:=Kc rows size l (hh-l) hz 0 d (by rw[wk];rfl);rw[he]at this;simp at this
    have sN:=hs this;unfold Addr.add;split<;>simp[sN]
   ·have sN:a.spot=none:=hs (by
     intro he;have:=Kc rows size l (hh-l) hz k d hd
     rw[he]at this;simp at this)
    have:=hg _ _ (Kc rows size l (hh-l) hz k d hd);obtain⟨b,off,sp⟩:=a;simp at sN;subst sN;rw[KL];simp only[Nat.add_assoc]at this⊢;exact this
theorem OA(r:Rel T0 B σ a w X h){T:TypeId}{v:V}(wA:o.op= .slice T x lo hi none)(hs:Zj P σ o.op o.type v):
  ∃val,(execOp a.eval o).run P w= .ok (.value val) w/\Yu (Tof T0 X) h σ.ob w v val:=by
 simp only[wA,Zj]at hs;obtain⟨hg,hs⟩:=hs;have hx:=r.arg (P:=P) 0 x rfl hg
 split at hs
 ·rename_i s heq;rw[heq]at hx;obtain⟨ht,l,hh,ud,tr,h1,h2,rfl⟩:=hs;have he:=jT hx
  have hb:=kX (w:=w) r (sl:=false) ud tr h1 h2;refine⟨.string (s.extract l hh),?_,.str _⟩;simp[execOp,wA,he,Instr.sliceAt,Instr.slice,run_underlying (KS ht),hb]
 ·rename_i size rows heq;rw[heq]at hx;obtain⟨ht,rfl,l,hh,ud,tr,h1,h2,rfl⟩:=hs;obtain⟨ti,hu,vW,vK⟩:=YM ht;obtain⟨base,cap,he,vh,uE⟩:=ND (show Rd _ _ _ _ from hx);have hb:=kX (w:=w) r (sl:=true) (cap:=cap) ud tr h1 fJ
  refine⟨_,?_,Rd.cut he hx l hh h1 h2 (.inr trivial)⟩;simp[execOp,wA,he,Instr.sliceAt,Instr.slice,run_underlying hu,hb,XW vW]
 ·rename_i t j fC len heq;rw[heq]at hx;obtain⟨ht,⟨q,rows,ho⟩,l,hh,ud,tr,h1,h2,rfl⟩:=hs;obtain⟨ti,hu,vW,vK⟩:=YM ht;obtain⟨hle,uI,tA,base,cap,he,vh,uE,sQ,mm⟩:=hx.2.1 _ _ rows ho;have hb:=kX (w:=w) r (sl:=true) (cap:=cap) ud tr h1 fJ
  refine⟨.slice (if cap=l then base else base.map (·.add (l*P.cellsOf (ZD P T)))) (hh-l) (cap-l),?_,rfl,fun q' wi wQ wV=>?_,fun wi wQ wV=>by rw[ho]at wV;cases wV⟩
  ·simp[execOp,wA,he,Instr.sliceAt,Instr.slice,run_underlying hu,hb,XW vW]
  ·rw[ho]at wV;cases wV;refine⟨fJ,fun lG nY=>?_,fun nY=>?_,_,cap-l,rfl,fJ,fJ,fun hn=>?_,fun w7=>?_⟩
   ·have hl:l=0:=fJ;subst hl;have:len=rows.length:=fJ;have hv:=uI this fJ;rw[<-hv,he];simp only[Nat.sub_zero,Nat.zero_mul];have h3:hh=len:=fJ;rw[h3];congr 1;split
    ·rfl
    ·cases base<;>simp[Addr.add]
   ·have hl:l=0:=fJ;subst hl;have hv:=tA fJ;rw[he]at hv;have lN:(if cap=0 then base else base.map (·.add (0*P.cellsOf (ZD P T))))=base:=by
     split
     ·rfl
     ·cases base<;>simp[Addr.add]
    rw[lN];unfold Pb at hv⊢;revert hv;cases(h t j).v with
    |slice b n c=>intro hv;cases hv;simp
    |_=>intro hv;cases hv
   ·have nP:base=none:=by
     by_cases wb:cap=l
     ·rw[if_pos wb]at hn;exact hn
     ·rw[if_neg wb]at hn;simpa using hn
    have:=sQ nP;omega
   ·obtain⟨b,tT,rV,rU⟩:=mm fJ;refine⟨b,tT,rV,?_⟩;rw[if_neg fJ,rU];simp[KL,Nat.add_mul]
 ·exact hs.elim
theorem NG{α:Type}(l:List α)(k:Nat)(v:α)(vs:List α)(hk:k+(vs.length+1)<=l.length):place (l.set k v) (k+1) vs=place l k (v::vs):=by
 unfold place;have h1:(l.set k v).take (k+1)=l.take k++[v]:=by rw[List.take_set,List.take_succ_eq_append_getElem fJ];rw[List.set_append_right _ _ fc];simp[Nat.min_eq_left (show k<=l.length by omega)]
 have h2:(l.set k v).drop (k+1+vs.length)=l.drop (k+(vs.length+1)):=by rw[List.drop_set_of_lt fJ];congr 1;omega
 rw[h1,h2];simp
theorem Vy(off:Nat):∀(vs:List Value)(j:Nat)(cs:Array Value),off+j+vs.length<=cs.size->
  ((vs.zipIdx j).foldl (fun cs x=>cs.setIfInBounds (off+x.2) x.1) cs).toList=place cs.toList (off+j) vs
 |[],j,cs,_=>by simp[place]
 |v::vs,j,cs,hl=>by rw[List.zipIdx_cons,List.foldl_cons,Vy off vs (j+1) _ eU];rw[Array.toList_setIfInBounds,show off+(j+1)=off+j+1 by omega,NG _ _ _ _ eU]
theorem qR(off:Nat)(vs cs:Array Value)(hl:off+vs.size<=cs.size):
  (vs.zipIdx.foldl (fun cs x=>cs.setIfInBounds (off+x.2) x.1) cs).toList=place cs.toList off vs.toList:=by
 rw[<-Array.foldl_toList,Array.toList_zipIdx,Vy off vs.toList 0 cs (by simpa using hl)];rfl
theorem Yo{α:Type}(r:List α)(off:Nat)(xs:List α)(hl:off+xs.length<=r.length):(place r off xs).length=r.length:=by simp[place];omega
theorem ZU.place{α β:Type}{R:α->β->Prop}{l:List α}{m:List β}(x:ZU R l m)(off:Nat){l':List α}{m':List β}(y:ZU R l' m'):ZU R (Vm.place l off l') (Vm.place m off m'):=by unfold Vm.place;rw[y.length];exact((x.take _).append y).append (x.drop _)
theorem yx{ob:Nat->Nat->Ob}{x:V}(hf:x.flat=true)(hv:Yu T' h ob w x v):ZU (Zf T' h ob w) x.cells v.cells.toList:=by
 cases x with
 |one c=>
  have h1:=Zf.YN (show Zf _ _ _ _ _ _ from hv);have:v.cells=#[v]:=by cases v<;>first|rfl|(simp[Value.oneCell']at h1)
  rw[this];exact .cons hv .nil
 |agg xs=>obtain⟨cs,rfl,wE⟩:=hv;exact wE
 |any=>cases hf
 |tup xs=>cases hf
 |cnd g x=>cases hf
 |fix u x=>cases hf
theorem Ti(r:Rel T0 B σ a w X h)(T:TypeId)(pl:Nat->Option (Nat×Nat))(tq:∀i,bOk P T i=true->pl i=some (KH P T i,P.cellsOf (bTy P T i))):
  ∀(ps:List (Nat×Operand))(row out:List At)(cells:Array Value),ZU (Zf (Tof T0 X) h σ.ob w) row cells.toList->xX P σ T ps row out->
   ∃wG,Instr.fill pl cells (ps.map fun x=>(x.1,a.eval x.2))=some wG/\ZU (Zf (Tof T0 X) h σ.ob w) out wG.toList
 |[],row,out,cells,wE,hb=>by cases hb;exact⟨cells,rfl,wE⟩
 |(i,x)::ps,row,out,cells,wE,hb=>by
  obtain⟨wT,hg,hf,hlen,hle,hb⟩:=hb;have hx:=yx hf (r.arg (P:=P) (bTy P T i) x rfl hg)
  have rH:=hx.length;have nY:=wE.length;have e1:cells.toList.length=cells.size:=Array.length_toList;have e2:(a.eval x).cells.toList.length=(a.eval x).cells.size:=Array.length_toList;have tO:=wE.place (KH P T i) hx;have heq:=qR (KH P T i) (a.eval x).cells cells fJ;rw[<-heq]at tO;obtain⟨wG,h1,h2⟩:=Ti r T pl tq ps _ out _ tO hb;refine⟨wG,?_,h2⟩;have vK:(a.eval x).cells.size=P.cellsOf (bTy P T i):=fJ;simp only[List.map_cons,Instr.fill,tq i wT];rw[if_neg (by simp[vK];omega)];exact h1
theorem run_places(fs:List Field)(sc:∀f∈fs,(P.info? f.type).isSome=true)(w:World):
  (fs.mapM (m:=Sem) fun f=>do pure (f.offset,<-sizeOf f.type)).run P w= .ok (fs.map fun f=>(f.offset,P.cellsOf f.type)) w:=by
 induction fs with
 |nil=>simp
 |cons f fs ih=>obtain⟨i,hi⟩:=Option.isSome_iff_exists.1 (sc f fM);simp only[List.mapM_cons,Sem.run_bind,XW hi,Result.andThen_ok,Sem.run_pure,ih (fun f hf=>sc f (by simp[hf])),List.map_cons]
theorem OB(r:Rel T0 B σ a w X h){T:TypeId}{v:V}(wA:o.op= .build T parts)(hs:Zj P σ o.op o.type v):
  ∃val,(execOp a.eval o).run P w= .ok (.value val) w/\Yu (Tof T0 X) h σ.ob w v val:=by
 simp only[wA,Zj]at hs;obtain⟨hz,tB,z,out,uG,hb,rfl⟩:=hs;obtain⟨i,zv,hi,lJ,vK,uF⟩:=Us hz uG;have uK:(zeroValue T).run P w= .ok zv w:=by simp[zeroValue,typeInfo,hi,lJ]
 have uZ:(parts.map fun(x:Nat×Operand)=>(x.1,a.eval x.2)).toList=parts.toList.map fun x=>(x.1,a.eval x.2):=fM;unfold xW at tB;split at tB
 ·rename_i fs hu;by_cases wx:∀f∈fs.toList,(P.info? f.type).isSome=true
  ·have tq:∀i,bOk P T i=true->(fs.toList.map fun f=>(f.offset,P.cellsOf f.type)).toArray[i]?=some (KH P T i,P.cellsOf (bTy P T i)):=by
    intro i wT;simp only[bOk,hu,Bool.and_eq_true,decide_eq_true_eq]at wT;have wO:=wT.2
    simp[KH,bTy,hu,Yg,J0,wO]
   obtain⟨wG,h1,h2⟩:=Ti r T _ tq parts.toList z out zv.cells (uF _ _ _ _) hb;refine⟨.agg wG,?_,wG,rfl,h2⟩;have hm:=run_places (P:=P) fs.toList wx w
   have:(fs.mapM (m:=Sem) fun f=>do pure (f.offset,<-sizeOf f.type)).run P w= .ok (fs.toList.map fun f=>(f.offset,P.cellsOf f.type)).toArray w:=by rw[Array.mapM_eq_mapM_toList];change((fs.toList.mapM (m:=Sem) fun f=>do pure (f.offset,<-sizeOf f.type))>>=fun l=>pure l.toArray).run P w=_;simp only[Sem.run_bind,hm,Result.andThen_ok,Sem.run_pure]
   simp only[execOp,wA,Instr.build,Sem.run_bind,uK,Result.andThen_ok,run_underlying hu,this,uZ,h1,Sem.run_pure]
  · -- no part can be placed:then there are none
   have uj:parts.toList=[]:=by
    cases hp:parts.toList with
    |nil=>rfl
    |cons p ps=>
     obtain⟨i,x⟩:=p;rw[hp]at hb;have wT:=hb.1
     simp only[bOk,hu,Bool.and_eq_true]at wT;exact absurd (by intro f hf;exact Array.all_eq_true'.1 wT.1 f (by simpa using hf)) wx
   exfalso;rw[show(12:Nat)=11+1 from rfl,zk,hu]at uG;simp only[Option.map_eq_some_iff]at uG;obtain⟨rs,uO,_⟩:=uG;apply wx;intro f hf;have:∀(l:List Field)(rs:List (List At)),l.mapM (fun f=>zk P 11 f.type)=some rs->∀f∈l,(P.info? f.type).isSome=true:=by
    intro l;induction l with
    |nil=>intro rs _ f hf;cases hf
    |cons g l ih=>
     intro rs uO f hf;simp only[List.mapM_cons,Option.bind_eq_bind,Option.bind_eq_some_iff]at uO;obtain⟨r0,um,oO,pr,_⟩:=uO;rcases List.mem_cons.1 hf with rfl|hf
     ·rw[show(11:Nat)=10+1 from rfl,zk]at um;cases nx:P.info? f.type with
      |some i=>rfl
      |none=>simp[Program.underlying,nx]at um
     ·exact ih oO pr f hf
   exact this fs.toList rs uO f hf
 ·rename_i n e hu;cases rk:P.info? e with
  |none=>exfalso;rw[show(12:Nat)=11+1 from rfl,zk,hu]at uG;simp only[Option.map_eq_some_iff]at uG;obtain⟨r0,um,_⟩:=uG;rw[show(11:Nat)=10+1 from rfl,zk]at um;simp[Program.underlying,rk]at um
  |some ie=>
   have tq:∀i,bOk P T i=true->(fun i=>some (i*P.cellsOf e,P.cellsOf e)) i=some (KH P T i,P.cellsOf (bTy P T i)):=by intro i _;simp[KH,bTy,hu]
   obtain⟨wG,h1,h2⟩:=Ti r T _ tq parts.toList z out zv.cells (uF _ _ _ _) hb;refine⟨.agg wG,?_,wG,rfl,h2⟩;simp only[execOp,wA,Instr.build,Sem.run_bind,uK,Result.andThen_ok,run_underlying hu,XW rk,uZ,h1,Sem.run_pure]
 ·cases tB
theorem yE{t:TypeId}(ht:jv P t=true){cs:Array Value}(hv:cs[i]?=some v):(part t cs i).run P w= .ok v w:=by unfold jv at ht;split at ht<;>first|(rename_i hu;simp[part,isAgg,run_underlying hu,hv])|cases ht
theorem Pr{t:TypeId}{ob:Nat->Nat->Ob}{x y:At}(hp:IP P t x y=some p)(hx:Zf T' h ob w x u)(hy:Zf T' h ob w y v)(d:Nat)(w':World):
  (Op.equalIn (d+1) t u v).run P w'= .ok p w':=by
 unfold IP at hp;split at hp
 ·rename_i k a' k' b';split at hp
  ·rename_i hc;obtain⟨rfl,hi⟩:=hc;obtain⟨k2,tn⟩:=Option.isSome_iff_exists.1 hi;cases hp;rw[qD hx,qD hy];exact Go.run_equalIn_int w' d t _ _ _ _ (TM tn)
  ·cases hp
 ·split at hp
  ·rename_i hc;cases hp;rw[K9 hx,K9 hy];have hu:P.underlying t=some .bool:=by unfold V4 at hc;split at hc<;>first|assumption|cases hc
   exact Go.run_equalIn_bool' w' d t _ _ hu
  ·cases hp
 ·split at hp
  ·rename_i hc;cases hp;rw[jT hx,jT hy];rw[Go.run_equalIn_string w' d t _ _ (KS hc),Oz]
  ·cases hp
 ·cases hp
theorem Ww{T':CS}{ob:Nat->Nat->Ob}(d:Nat)(cs ds:Array Value)(w':World):∀(fs:List Field)(i:Nat)(xs ys:List At)(q:Bool),yq P fs i=true->Yb P (fs.map (·.type)) xs ys=some q->
  ZU (Zf T' h ob w) xs (cs.toList.drop i)->ZU (Zf T' h ob w) ys (ds.toList.drop i)->(Op.eqFields (d+1) cs ds fs).run P w'= .ok q w'
 |[],i,xs,ys,q,_,hq,_,_=>by simp[Yb]at hq;subst hq;simp[Op.eqFields]
 |f::fs,i,[],ys,q,_,hq,_,_=>by simp[Yb]at hq
 |f::fs,i,x::xs,[],q,_,hq,_,_=>by simp[Yb]at hq
 |f::fs,i,x::xs,y::ys,q,wT,hq,hx,hy=>by
  simp only[yq,Bool.and_eq_true,decide_eq_true_eq,beq_iff_eq]at wT;obtain⟨⟨⟨hn,ho⟩,vH⟩,wT⟩:=wT;simp only[List.map_cons,Yb]at hq;split at hq
  ·rename_i p q' hp tU;cases hq;cases hcd:cs.toList.drop i with
   |nil=>rw[hcd]at hx;cases hx
   |cons u us=>
    cases uf:ds.toList.drop i with
    |nil=>rw[uf]at hy;cases hy
    |cons v vs=>
     rw[hcd]at hx;rw[uf]at hy;cases hx with
     |cons lK hx=>
      cases hy with
      |cons lL hy=>
       have hu:cs[i]?=some u:=by
        have:(cs.toList.drop i)[0]?=some u:=by rw[hcd];rfl
        simpa using this
       have hv:ds[i]?=some v:=by
        have:(ds.toList.drop i)[0]?=some v:=by rw[uf];rfl
        simpa using this
       have gT:cs.toList.drop (i+1)=us:=by rw[<-List.drop_drop,hcd];rfl
       have nu:ds.toList.drop (i+1)=vs:=by rw[<-List.drop_drop,uf];rfl
       have ih:=Ww d cs ds w' fs (i+1) xs ys q' wT tU (by rw[gT];exact hx) (by rw[nu];exact hy);subst ho;simp only[Op.eqFields,if_pos hn,Sem.run_bind,yE vH hu,yE vH hv,Result.andThen_ok,Pr hp lK lL d w'];cases p
       ·simp
       ·simpa using ih
  ·cases hq
theorem kb(P:Program):∀(ts:List TypeId)(xs ys:List At)(q:Bool),Yb P ts xs ys=some q->ts.length<=xs.length/\ts.length<=ys.length
 |[],_,_,_,_=>⟨Nat.zero_le _,Nat.zero_le _⟩
 |t::ts,[],_,_,h=>by simp[Yb]at h
 |t::ts,x::xs,[],_,h=>by simp[Yb]at h
 |t::ts,x::xs,y::ys,q,h=>by
  simp only[Yb]at h;split at h
  ·rename_i p q' hp tU;have:=kb P ts xs ys q' tU
   simp only[List.length_cons];omega
  ·cases h
theorem Vt(P:Program):∀(ts:List TypeId)(xs ys:List At)(m:Nat),ts.length<=m->Yb P ts (xs.take m) (ys.take m)=Yb P ts xs ys
 |[],_,_,_,_=>by simp[Yb]
 |t::ts,_,_,0,h=>by simp at h
 |t::ts,[],_,m+1,_=>by simp[Yb]
 |t::ts,x::xs,[],m+1,_=>by simp[Yb]
 |t::ts,x::xs,y::ys,m+1,h=>by simp only[List.take_succ_cons,Yb];rw[Vt P ts xs ys m eS]
theorem Td(P:Program):∀(ts us:List TypeId)(xs ys:List At)(q:Bool),Yb P (ts++us) xs ys=some q->∃p q',Yb P ts xs ys=some p/\Yb P us (xs.drop ts.length) (ys.drop ts.length)=some q'/\q=(p&&q')
 |[],us,xs,ys,q,h=>⟨true,q,by simp[Yb],by simpa using h,fM⟩
 |t::ts,us,[],_,_,h=>by simp[Yb]at h
 |t::ts,us,x::xs,[],_,h=>by simp[Yb]at h
 |t::ts,us,x::xs,y::ys,q,h=>by
  simp only[List.cons_append,Yb]at h;split at h
  ·rename_i p q0 hp lH;obtain⟨p2,q2,h1,h2,h3⟩:=Td P ts us xs ys q0 lH;cases h;exact⟨p&&p2,q2,by simp only[Yb,hp,h1],by simpa using h2,by rw[h3,Bool.and_assoc]⟩
  ·cases h
theorem kv{T':CS}{ob:Nat->Nat->Ob}(d:Nat)(cs ds:Array Value)(w':World):∀(fs:List Field)(i:Nat)(xs ys:List At)(q:Bool),xt P fs i=true->Yb P (fs.flatMap (RK P)) xs ys=some q->
  ZU (Zf T' h ob w) xs (cs.toList.drop i)->ZU (Zf T' h ob w) ys (ds.toList.drop i)->(Op.eqFields (d+2) cs ds fs).run P w'= .ok q w'
 |[],i,xs,ys,q,_,hq,_,_=>by simp[Yb]at hq;subst hq;simp[Op.eqFields]
 |f::fs,i,xs,ys,q,wT,hq,hx,hy=>by
  simp only[xt,Bool.and_eq_true,decide_eq_true_eq,beq_iff_eq]at wT;obtain⟨⟨hn,ho⟩,wT⟩:=wT;subst ho;rw[List.flatMap_cons]at hq;obtain⟨p,q',hp,tU,rfl⟩:=Td P _ _ _ _ _ hq;cases vH:jv P f.type with
  |true=>
   rw[vH,if_pos rfl]at wT;have hl:RK P f=[f.type]:=by unfold RK;rw[vH,if_pos rfl]
   rw[hl]at hp tU;have vo:=Ww (P:=P) (d+1) cs ds w' [f] f.offset xs ys p (by simp only[yq,Bool.and_eq_true,decide_eq_true_eq,beq_iff_eq];exact⟨⟨⟨hn,trivial⟩,vH⟩,trivial⟩) hp hx hy
   have ih:=kv d cs ds w' fs (f.offset+1) (xs.drop 1) (ys.drop 1) q' wT tU (by rw[<-List.drop_drop];exact hx.drop 1) (by rw[<-List.drop_drop];exact hy.drop 1);simp only[Op.eqFields,if_pos hn]at vo⊢;have hlen:=kb P _ _ _ _ hp;have rC:=hx.length;have vt:=hy.length;simp only[List.length_cons,List.length_nil,List.length_drop,Array.length_toList]at hlen rC vt;have hu:cs[f.offset]?=some (cs[f.offset]'fJ):=Array.getElem?_eq_getElem _;have hv:ds[f.offset]?=some (ds[f.offset]'fJ):=Array.getElem?_eq_getElem _;simp only[Sem.run_bind,yE vH hu,yE vH hv,Result.andThen_ok]at vo⊢;cases xs with
   |nil=>simp at hlen
   |cons x xs=>
    cases ys with
    |nil=>simp at hlen
    |cons y ys=>
     obtain⟨u,gO,lK⟩:=hx.get 0 x rfl;obtain⟨v,vF,lL⟩:=hy.get 0 y rfl;simp only[Yb]at hp;split at hp
     ·rename_i p0 q0 gL lH;cases lH;cases hp;have e1:cs[f.offset]'fJ=u:=by
       have:cs[f.offset]?=some u:=by simpa using gO
       rw[hu]at this;exact Option.some.inj this
      have e2:ds[f.offset]'fJ=v:=by
       have:ds[f.offset]?=some v:=by simpa using vF
       rw[hv]at this;exact Option.some.inj this
      rw[e1,e2,Pr gL lK lL (d+1) w',Result.andThen_ok];cases p0
      ·simp
      ·simpa using ih
     ·cases hp
  |false=>
   rw[vH,if_neg fM]at wT;cases hu:P.underlying f.type with
   |none=>rw[hu]at wT;cases wT
   |some de=>
    rw[hu]at wT;cases de with
    |struct gs=>
     simp only[Bool.and_eq_true,beq_iff_eq,Bool.not_eq_true',decide_eq_true_eq]at wT;obtain⟨⟨⟨⟨⟨⟨uA,tB⟩,wb⟩,nj⟩,wY⟩,gP⟩,wT⟩:=wT;have hl:RK P f=gs.toList.map (·.type):=by unfold RK;rw[vH,if_neg fM,hu]
     rw[hl]at hp tU;rw[List.length_map,Array.length_toList]at tU;have hf:P.fieldsOf f.type=gs:=by simp[Program.fieldsOf,hu]
     have hlen:=kb P _ _ _ _ hp;have rC:=hx.length;have vt:=hy.length;simp only[List.length_map,Array.length_toList,List.length_drop]at hlen rC vt;have ih:=kv d cs ds w' fs (f.offset+gs.size) (xs.drop gs.size) (ys.drop gs.size) q' wT tU (by rw[<-List.drop_drop];exact hx.drop gs.size) (by rw[<-List.drop_drop];exact hy.drop gs.size);obtain⟨va,gQ,nZ,_⟩:=Ty (P:=P) (w:=w') uA (cs:=cs) (off:=f.offset) (by rw[wb];omega);obtain⟨vb,mK,vP,_⟩:=Ty (P:=P) (w:=w') uA (cs:=ds) (off:=f.offset) (by rw[wb];omega);rw[wb]at nZ vP;have rb:(Op.equalIn (d+2) f.type va vb).run P w'= .ok p w':=by
      rw[nZ tB,vP tB,show d+2=(d+1)+1 from rfl,Go.run_equalIn_struct w' (d+1) f.type _ _ (by rw[hf];exact hu) wY,hf];refine Ww (P:=P) (h:=h) (w:=w) (T':=T') (ob:=ob) d _ _ w' gs.toList 0 (xs.take gs.size) (ys.take gs.size) p gP ?_ ?_ ?_
      ·rw[Vt P _ _ _ _ fM];exact hp
      ·simpa[cut]using hx.take gs.size
      ·simpa[cut]using hy.take gs.size
     simp only[Op.eqFields,if_pos hn,Sem.run_bind,gQ,mK,Result.andThen_ok,rb];cases p
     ·simp
     ·simpa using ih
    |_=>cases wT
theorem MV{T:TypeId}{ob:Nat->Nat->Ob}{xs ys:List At}(wT:j5 P T=true)(hq:Yb P (QO P T) xs ys=some q)
  (hx:Yu T' h ob w (.agg xs) u) (hy:Yu T' h ob w (.agg ys) v) (op:BinOp) (x y:Operand) (w':World):
  (eqGuard op T x y u v).run P w'= .ok () w'/\(binOp .eql T u v).run P w'= .ok (.bool q) w'/\(binOp .neq T u v).run P w'= .ok (.bool (!q)) w':=by
 obtain⟨cs,rfl,uM⟩:=hx;obtain⟨ds,rfl,sb⟩:=hy;unfold j5 at wT;split at wT
 ·rename_i fs hu;simp only[Bool.and_eq_true,Bool.not_eq_true']at wT;have hf:P.fieldsOf T=fs:=by simp[Program.fieldsOf,hu]
  have v5:P.underlying T=some (.struct (P.fieldsOf T)):=by rw[hf];exact hu
  have wU:(Op.equalIn 10000 T (.agg cs) (.agg ds)).run P w'= .ok q w':=by rw[show(10000:Nat)=9999+1 from rfl,Go.run_equalIn_struct w' 9999 T cs ds v5 wT.1.1,show(9999:Nat)=9997+2 from rfl];exact kv 9997 cs ds w' _ 0 xs ys q (by rw[hf];exact wT.2) hq (by simpa using uM) (by simpa using sb)
  refine⟨Go.run_eqGuard_agg w' op T x y cs ds wT.1.2,?_,?_⟩
  ·rw[Go.run_eql_struct,wU];rfl
  ·rw[Go.run_neq_struct,wU];rfl
 ·cases wT
theorem Uq(r:Rel T0 B σ a w X h){v:V}(wA:o.op= .move x\/o.op= .assign x)(hs:Zj P σ o.op o.type v):
  ∃val,(execOp a.eval o).run P w= .ok (.value val) w/\Yu (Tof T0 X) h σ.ob w v val:=by
 rcases wA with wA|wA<;>
 ·simp only[wA,Zj]at hs;subst hs;exact⟨a.eval x,by simp[execOp,wA],r.look _ x⟩
theorem O2(r:Rel T0 B σ a w X h){c:Operand}{v:V}(wA:o.op= .pick c x y)(hs:Zj P σ o.op o.type v):
  ∃val,(execOp a.eval o).run P w= .ok (.value val) w/\Yu (Tof T0 X) h σ.ob w v val:=by
 simp only[wA,Zj]at hs;obtain⟨bc,p,q,hg,hc,hp,hq,nj,gR,rfl⟩:=hs;have he:=K9 (r.arg (P:=P) o.type c hc hg)
 cases bc with
 |true=>have hx:=K9 (r.arg (P:=P) o.type x (hp rfl) (nj rfl));exact⟨.bool p,by simp[execOp,wA,he,asBool,hx],.bool _⟩
 |false=>have hy:=K9 (r.arg (P:=P) o.type y (hq rfl) (gR rfl));exact⟨.bool q,by simp[execOp,wA,he,asBool,hy],.bool _⟩
theorem K7(op:BinOp)(T:TypeId)(x y:Operand)(hv:∀cs,v≠ .agg cs)(hn:v≠ .nilIface):(eqGuard op T x y v u).run P w= .ok () w:=by unfold eqGuard;cases op<;>simp<;>(split<;>first|exact absurd rfl hn|exact absurd rfl (hv _)|simp)
theorem MT(r:Rel T0 B σ a w X h){T T':TypeId}{v:V}(wA:o.op= .binOp op T x y T')(hs:Zj P σ o.op o.type v):
  ∃val,(execOp a.eval o).run P w= .ok (.value val) w/\Yu (Tof T0 X) h σ.ob w v val:=by
 simp only[wA,Zj]at hs;obtain⟨tc,te,hs⟩:=hs;have hx:=r.arg (P:=P) T x rfl tc
 have hy:=r.arg (P:=P) T y rfl te;unfold OO at hs;split at hs
 ·rename_i k m k' n heq ui;rw[heq]at hx;rw[ui]at hy;have ex:=qD hx
  have ey:=qD hy;obtain⟨d,rfl,val,hr,hd⟩:=NP (P:=P) (t:=T) hs.1 hs.2 w;refine⟨val,?_,hd _ _⟩;simp only[execOp,wA,ex,ey,Sem.run_bind,K7 op T x y (v:=.int k m) (u:=.int k' n) fM fM,Result.andThen_ok,hr,Sem.run_pure]
 ·rename_i m n heq ui;rw[heq]at hx;rw[ui]at hy;have ex:=jT hx
  have ey:=jT hy;obtain⟨d,rfl,val,hr,hd⟩:=NJ (P:=P) (t:=T) hs w;refine⟨val,?_,hd _ _⟩;simp only[execOp,wA,ex,ey,Sem.run_bind,K7 op T x y (v:=.string m) (u:=.string n) fM fM,Result.andThen_ok,hr,Sem.run_pure]
 ·rename_i m n heq ui;rw[heq]at hx;rw[ui]at hy;have ex:=K9 hx
  have ey:=K9 hy;obtain⟨d,rfl,val,hr,hd⟩:=OZ (P:=P) (t:=T) hs.1 hs.2 w;refine⟨val,?_,hd _ _⟩;simp only[execOp,wA,ex,ey,Sem.run_bind,K7 op T x y (v:=.bool m) (u:=.bool n) fM fM,Result.andThen_ok,hr,Sem.run_pure]
 ·rename_i xs ys heq ui;rw[heq]at hx;rw[ui]at hy;obtain⟨wT,q,hq,hs⟩:=hs;obtain⟨h1,h2,h3⟩:=MV (P:=P) wT hq hx hy op x y w;rcases hs with⟨rfl,rfl⟩|⟨rfl,rfl⟩
  ·exact⟨.bool q,by simp only[execOp,wA,Sem.run_bind,h1,Result.andThen_ok,h2,Sem.run_pure],.bool _⟩
  ·exact⟨.bool (!q),by simp only[execOp,wA,Sem.run_bind,h1,Result.andThen_ok,h3,Sem.run_pure],.bool _⟩
 ·exact hs.elim
theorem IC(r:Rel T0 B σ a w X h){op:UnOp}{T:TypeId}{v:V}(wA:o.op= .unOp op T x)(hs:Zj P σ o.op o.type v):
  ∃val,(execOp a.eval o).run P w= .ok (.value val) w/\Yu (Tof T0 X) h σ.ob w v val:=by
 simp only[wA,Zj]at hs;obtain⟨hg,hs⟩:=hs;have hx:=r.arg (P:=P) 0 x rfl hg
 split at hs
 ·rename_i b heq;rw[heq]at hx;subst hs;have he:=K9 hx
  exact⟨.bool (!b),by simp[execOp,wA,he,Op.unary],.bool _⟩
 ·rename_i k n heq;rw[heq]at hx;subst hs;have he:=qD hx
  exact⟨.int k (k.wrap (-n)),by simp[execOp,wA,he,Op.unary,Op.intArith],.int _ _⟩
 ·exact hs.elim
theorem SJ(r:Rel T0 B σ a w X h){S T:TypeId}{v:V}(wA:o.op= .convert S T x)(hS:(P.underlying S).isSome=true)(hs:Zj P σ o.op o.type v):
  ∃val,(execOp a.eval o).run P w= .ok (.value val) w/\Yu (Tof T0 X) h σ.ob w v val:=by
 simp only[wA,Zj]at hs;obtain⟨hg,_,hs⟩:=hs;have hx:=r.arg (P:=P) 0 x rfl hg
 split at hs
 ·rename_i k' n heq;rw[heq]at hx;obtain⟨k,hk,rfl⟩:=hs;have he:=qD hx
  obtain⟨d,hd⟩:=Option.isSome_iff_exists.1 hS;exact⟨.int k (k.wrap n),by simp[execOp,wA,he,convert,run_underlying hd,run_underlying (TM hk),Conv.intToInt],.int _ _⟩
 ·exact hs.elim
theorem SE(r:Rel T0 B σ a w X h){v:V}(wA:o.op= .extract x i)(hs:Zj P σ o.op o.type v):
  ∃val,(execOp a.eval o).run P w= .ok (.value val) w/\Yu (Tof T0 X) h σ.ob w v val:=by
 simp only[wA,Zj]at hs;obtain⟨hg,hs⟩:=hs;have hx:=r.arg (P:=P) 0 x rfl hg
 split at hs
 ·rename_i xs heq;rw[heq]at hx;obtain⟨vs,he,wE⟩:=hx;obtain⟨val,uV,hr⟩:=wE.get i v hs.1;have:vs[i]?=some val:=by simpa using uV
  exact⟨val,by simp[execOp,wA,he,Instr.extract,this],hr.up⟩
 ·exact hs.elim
theorem PO(r:Rel T0 B σ a w X h){v:V}(wA:o.op= .call c)(hs:Zj P σ o.op o.type v):
  ∃val,(execOp a.eval o).run P w= .ok (.value val) w/\Yu (Tof T0 X) h σ.ob w v val:=by
 simp only[wA,Zj]at hs;obtain⟨callee,args,argTypes⟩:=c;simp only at hs;split at hs
 ·rename_i x t ha ht;obtain rfl:args=#[x]:=eQ;obtain rfl:argTypes=#[t]:=by apply Array.toList_inj.1;simpa using ht
  obtain⟨hg,hs⟩:=hs;have hx:=r.arg (P:=P) t x rfl hg
  split at hs
  ·rename_i s heq;rw[heq]at hx;obtain⟨wY,rfl⟩:=hs;have he:=jT hx
   exact⟨.int .i64 s.size,by simp[execOp,wA,resolve,invoke,builtin,he,Builtin.len_,run_underlying (KS wY),goInt],.int _ _⟩
  ·rename_i size rows heq;rw[heq]at hx;obtain⟨wY,rfl⟩:=hs;obtain⟨ti,hu,_,_⟩:=YM wY;obtain⟨base,cap,he,_,_⟩:=ND (show Rd _ _ _ _ from hx);exact⟨.int .i64 rows.length,by simp[execOp,wA,resolve,invoke,builtin,he,Builtin.len_,run_underlying hu,goInt],.int _ _⟩
  ·rename_i size heq;rw[heq]at hx;obtain⟨wY,rfl⟩:=hs;obtain⟨ti,hu,_,_⟩:=YM wY;have he:a.eval x= .slice none 0 0:=hx
   exact⟨.int .i64 0,by simp[execOp,wA,resolve,invoke,builtin,he,Builtin.len_,run_underlying hu,goInt],.int _ _⟩
  ·rename_i u j lo len heq;rw[heq]at hx;obtain⟨wY,ho,rfl⟩:=hs;obtain⟨ti,hu,_,_⟩:=YM wY;have rV:∃base cap,a.eval x= .slice base len cap:=by
    rcases ho with⟨q,size,rows,ho⟩|⟨size,rows,ho⟩
    ·obtain⟨_,_,_,base,cap,he,_,_,_,_⟩:=hx.2.1 _ _ _ ho;exact⟨base,cap,he⟩
    ·obtain⟨_,_,_,base,cap,he,_,_,_,_⟩:=hx.2.2 _ _ ho;exact⟨base,cap,he⟩
   obtain⟨base,cap,he⟩:=rV;exact⟨.int .i64 len,by simp[execOp,wA,resolve,invoke,builtin,he,Builtin.len_,run_underlying hu,goInt],.int _ _⟩
  ·rename_i u j i c heq;rw[heq]at hx;obtain⟨wY,size,rows,n,s,ho,hi,wF,rfl⟩:=hs;obtain⟨ti,hu,_,_⟩:=YM wY;obtain⟨v0,S,hn,wI⟩:=r.nest ho hi wF;have pK:a.eval x=_:=hx.2 _ _ ho
   rw[hn]at pK;have he:∃base cap,a.eval x= .slice base s.length cap:=by
    rw[pK];cases wI with
    |sl v size rows S e xs Sk ug hz hb hl hk hs hd=>
     rcases ug.2 with⟨rfl,h0⟩|⟨g,cap,cur,rfl,_⟩
     ·exact⟨none,0,by rw[h0]⟩
     ·exact⟨_,cap,rfl⟩
   obtain⟨base,cap,he⟩:=he;exact⟨.int .i64 s.length,by simp[execOp,wA,resolve,invoke,builtin,he,Builtin.len_,run_underlying hu,goInt],.int _ _⟩
  ·exact hs.elim
 ·rename_i x y ha;obtain rfl:args=#[x,y]:=eQ;obtain⟨k,m,n,hx,hy,rfl⟩:=hs;have ex:=JY r hx
  have ey:=JY r hy;exact⟨.int k (if n>m then n else m),by simp[execOp,wA,resolve,invoke,builtin,ex,ey,Builtin.max_,Builtin.max2],.int _ _⟩
 ·rename_i x y ha;obtain rfl:args=#[x,y]:=eQ;obtain⟨k,m,n,hx,hy,rfl⟩:=hs;have ex:=JY r hx
  have ey:=JY r hy;exact⟨.int k (if n<m then n else m),by simp[execOp,wA,resolve,invoke,builtin,ex,ey,Builtin.min_,Builtin.min2],.int _ _⟩
 ·exact hs.elim
theorem V1(r:Rel T0 B σ a w X h){v:V}(hs:Zj P σ o.op o.type v):
  ∃val,(execOp a.eval o).run P w= .ok (.value val) w/\Yu (Tof T0 X) h σ.ob w v val:=by
 cases wA:o.op with
 |move x=>exact Uq r (.inl wA) hs
 |assign x=>exact Uq r (.inr wA) hs
 |pick c x y=>exact O2 r wA hs
 |load T x=>exact O7 r wA hs
 |fieldAddr T x f=>exact UO r wA hs
 |nilCheck x=>exact Uy r wA hs
 |indexAddr T x i=>exact Ug r wA hs
 |index T x i=>exact OQ r wA hs
 |field T x f=>exact OR r wA hs
 |slice T x lo hi m=>
  cases m with
  |none=>exact OA r wA hs
  |some m=>rw[wA]at hs;exact hs.elim
 |binOp op T x y T'=>exact MT r wA hs
 |unOp op T x=>exact IC r wA hs
 |convert S T x=>rw[wA]at hs;exact SJ r wA hs.2.1 (by rw[wA];exact hs)
 |extract x i=>exact SE r wA hs
 |call c=>exact PO r wA hs
 |build T ps=>exact OB r wA hs
 |_=>rw[wA]at hs;exact hs.elim
def At.ref(d:Nat):At->Bool
 |.sref t _ _ _=>t==d
 |.ptr t _ _ _=>t==d
 |.bptr t _=>t==d
 |.fn _ t=>t==d
 |.tref t _ _ _ _=>t==d
 |_=>false
def Zd(d:Nat):List At->Bool
 |[]=>false
 |x::xs=>x.ref d||Zd d xs
def V.Wr(d:Nat):V->Bool
 |.one x=>x.ref d
 |.agg xs=>Zd d xs
 |_=>false
def xl(d:Nat):List V->Bool
 |[]=>false
 |x::xs=>x.Wr d||xl d xs
def V.ref(d:Nat):V->Bool
 |.tup xs=>xl d xs
 |.cnd _ x=>x.Wr d||(match x with|.tup xs=>xl d xs|_=>false)
 |.one x=>x.ref d
 |.agg xs=>Zd d xs
 |.fix _ x=>x.Wr d||(match x with|.tup xs=>xl d xs|_=>false)
 |.any=>false
def Zu(d:Nat):List Ob->Bool
 |[]=>false
 |.box cells::os=>Zd d cells||Zu d os
 |.lit _ rows::os=>Zd d rows.flatten||Zu d os
 |_::os=>Zu d os
def Qo(d:Nat):Nat->St->Bool
 |_,[]=>true
 |k,e::σ=>(k==d||(!e.1.ref d&&!Zu d e.2))&&Qo d (k+1) σ
def St.fresh(σ:St)(d:Nat):Bool:=decide (d<σ.length)&&Qo d 0 σ
theorem JS{d:Nat}:∀{σ:St}{k:Nat},Qo d k σ=true->∀t e,σ[t]?=some e->k+t≠d->e.1.ref d=false/\Zu d e.2=false
 |[],_,_,t,e,he,_=>by simp at he
 |e0::σ,k,hf,t,e,he,wC=>by
  simp only[Qo,Bool.and_eq_true,Bool.or_eq_true,beq_iff_eq,Bool.not_eq_true']at hf;cases t with
  |zero=>
   simp at he;subst he;rcases hf.1 with h|h
   ·omega
   ·exact h
  |succ t=>exact JS hf.2 t e (by simpa using he) fJ
theorem St.ML(hf:σ.fresh d=true)(t:Nat)(wC:t≠d):(σ.get t).ref d=false:=by
 simp only[St.fresh,Bool.and_eq_true]at hf;unfold St.get;cases he:σ[t]? with
 |none=>rfl
 |some e=>exact(JS hf.2 t e he fJ).1
theorem RB{d:Nat}:∀{os:List Ob},Zu d os=false->∀j cells,Zq os j= .box cells->Zd d cells=false
 |[],_,j,cells,h=>by simp[Zq]at h
 |o::os,hr,j,cells,h=>by
  cases j with
  |zero=>simp[Zq]at h;subst h;simp[Zu]at hr;exact hr.1
  |succ j=>have:Zq os j= .box cells:=ec;refine RB (os:=os) ?_ j cells this;cases o<;>simp_all[Zu]
theorem TY{d:Nat}:∀{os:List Ob},Zu d os=false->∀j size rows,Zq os j= .lit size rows->Zd d rows.flatten=false
 |[],_,j,_,_,h=>by simp[Zq]at h
 |o::os,hr,j,size,rows,h=>by
  cases j with
  |zero=>simp[Zq]at h;subst h;simp[Zu]at hr;exact hr.1
  |succ j=>have:Zq os j= .lit size rows:=ec;refine TY (os:=os) ?_ j size rows this;cases o<;>simp_all[Zu]
theorem St.MN(hf:σ.fresh d=true)(t j:Nat)(wC:t≠d)(size:Nat)(rows:List (List At))(ho:σ.ob t j= .lit size rows):Zd d rows.flatten=false:=by
 simp only[St.fresh,Bool.and_eq_true]at hf;unfold St.ob at ho;cases he:σ[t]? with
 |none=>rw[he]at ho;cases ho
 |some e=>rw[he]at ho;exact TY (JS hf.2 t e he fJ).2 j size rows ho
theorem St.L8(hf:σ.fresh d=true)(t j:Nat)(wC:t≠d)(cells:List At)(ho:σ.ob t j= .box cells):Zd d cells=false:=by
 simp only[St.fresh,Bool.and_eq_true]at hf;unfold St.ob at ho;cases he:σ[t]? with
 |none=>rw[he]at ho;cases ho
 |some e=>rw[he]at ho;exact RB (JS hf.2 t e he fJ).2 j cells ho
theorem St.JG(hf:σ.fresh d=true):d<σ.length:=by simp only[St.fresh,Bool.and_eq_true,decide_eq_true_eq]at hf;exact hf.1
def Cpt(h h':Nat->Nat->Hd)(ob ve:Nat->Nat->Ob)(t j:Nat):Prop:=
 (∀q size rows,ve t j= .arr q size rows->h' t j=h t j/\∃wM,ob t j= .arr q size wM/\wM.length=rows.length)/\
 (∀size rows,ve t j= .lit size rows->h' t j=h t j/\∃wM,ob t j= .lit size wM/\wM.length=rows.length)/\
 (∀cells,ve t j= .box cells->h' t j=h t j/\∃vO,ob t j= .box vO)
theorem Cpt.same{ob:Nat->Nat->Ob}(hh:h' t j=h t j)(ho:ve t j=ob t j):Cpt h h' ob ve t j:=
 ⟨fun q size rows e=>⟨hh,rows,by rw[<-ho];exact e,rfl⟩,fun size rows e=>⟨hh,rows,by rw[<-ho];exact e,rfl⟩,fun cells e=>⟨hh,cells,by rw[<-ho];exact e⟩⟩
section
variable{ob:Nat->Nat->Ob}
theorem Zf.carry(hT:∀b k v,T b k->w.cell? ⟨b,k,none⟩=some v->w'.cell? ⟨b,k,none⟩=some v/\T' b k)(hc:∀t j,t≠d->Cpt h h' ob ve t j)
  {x:At} (hx:x.ref d=false) (r:Zf T h ob w x v):Zf T' h' ve w' x v:=by
 cases x with
 |any=>exact r
 |d x=>exact Rd.mono hT r
 |nil s=>exact r
 |sref t j lo len=>
  have ht:t≠d:=eT;refine⟨r.1,fun q size rows ho=>?_,fun size rows ho=>?_⟩
  ·obtain⟨hh,wM,vB,hl⟩:=(hc t j ht).1 q size rows ho;rw[hh,<-hl];exact r.2.1 q size wM vB
  ·obtain⟨hh,wM,vB,hl⟩:=(hc t j ht).2.1 size rows ho;rw[hh,<-hl];exact r.2.2 size wM vB
 |ptr t j i c=>have ht:t≠d:=eT;refine⟨r.1,fun q size rows ho=>?_⟩;obtain⟨hh,wM,vB,hl⟩:=(hc t j ht).1 q size rows ho;rw[hh];exact r.2 q size wM vB
 |bptr t c=>have ht:t≠d:=eT;refine⟨r.1,fun cells ho=>?_⟩;obtain⟨hh,vO,vB⟩:=(hc t 0 ht).2.2 cells ho;rw[hh];exact r.2 vO vB
 |fn f t=>have ht:t≠d:=eT;refine⟨r.1,fun cells ho=>?_⟩;obtain⟨hh,vO,vB⟩:=(hc t 0 ht).2.2 cells ho;rw[hh];exact r.2 vO vB
 |tref t j i c o=>have ht:t≠d:=eT;refine⟨r.1,fun size rows ho=>?_⟩;obtain⟨hh,wM,vB,hl⟩:=(hc t j ht).1 true size rows ho;rw[hh];exact r.2 size wM vB
 |rptr rr c=>obtain⟨b,off,g,e,hk⟩:=r;exact⟨b,off,g,e,fun k d hd=>⟨(hT _ _ _ (hk k d hd).2.1 (hk k d hd).1).1,(hT _ _ _ (hk k d hd).2.1 (hk k d hd).1).2,Rd.mono hT (hk k d hd).2.2⟩⟩
theorem yN(hT:∀b k v,T b k->w.cell? ⟨b,k,none⟩=some v->w'.cell? ⟨b,k,none⟩=some v/\T' b k)(hc:∀t j,t≠d->Cpt h h' ob ve t j)
  {xs:List At} (hx:Zd d xs=false) (r:ZU (Zf T h ob w) xs vs):ZU (Zf T' h' ve w') xs vs:=by
 induction r with
 |nil=>exact .nil
 |cons r _ ih=>simp only[Zd,Bool.or_eq_false_iff]at hx;exact .cons (Zf.carry hT hc hx.1 r) (ih hx.2)
theorem X0.carry(hT:∀b k v,T b k->w.cell? ⟨b,k,none⟩=some v->w'.cell? ⟨b,k,none⟩=some v/\T' b k)(hc:∀t j,t≠d->Cpt h h' ob ve t j)
  {x:V} (hx:x.Wr d=false) (r:X0 T h ob w x v):X0 T' h' ve w' x v:=by
 cases x with
 |any=>exact r
 |one x=>exact Zf.carry hT hc hx r
 |agg xs=>obtain⟨cs,e,r⟩:=r;exact⟨cs,e,yN hT hc hx r⟩
 |tup xs=>exact r.elim
 |cnd g x=>exact r.elim
 |fix u x=>exact r.elim
theorem Yu.carry(hT:∀b k v,T b k->w.cell? ⟨b,k,none⟩=some v->w'.cell? ⟨b,k,none⟩=some v/\T' b k)(hc:∀t j,t≠d->Cpt h h' ob ve t j)
  {x:V} (hx:x.ref d=false) (r:Yu T h ob w x v):Yu T' h' ve w' x v:=by
 cases x with
 |any=>exact r
 |one x=>exact Zf.carry hT hc hx r
 |agg xs=>obtain⟨cs,e,r⟩:=r;exact⟨cs,e,yN hT hc hx r⟩
 |tup xs=>
  obtain⟨vs,e,r⟩:=r;refine⟨vs,e,?_⟩;clear e;generalize vs.toList=vl at r;simp only[V.ref]at hx;induction r with
  |nil=>exact .nil
  |cons r _ ih=>simp only[xl,Bool.or_eq_false_iff]at hx;exact .cons (X0.carry hT hc hx.1 r) (ih hx.2)
 |cnd g x=>simp only[V.ref,Bool.or_eq_false_iff]at hx;exact⟨fun hg=>X0.carry hT hc hx.1 (r.1 hg),r.2⟩
 |fix u x=>simp only[V.ref,Bool.or_eq_false_iff]at hx;exact⟨r.1,X0.carry hT hc hx.1 r.2⟩
end
theorem Rel.Tlt(r:Rel T0 B σ a w X h){k:Nat}(hb:Tof T0 X b k):b<w.heap.size:=by
 rcases hb with hb|hb
 ·exact r.hB b (r.hT b k hb)
 ·exact(r.hX b hb).2
theorem Ka{e:TypeId}{xs:List Value}(hb:∀b,blk v=some b->w'.heap[b]?=w.heap[b]?)(ho:w.ownsRow 0 e size v n xs):w'.ownsRow 0 e size v n xs:=by
 refine⟨ho.1,?_⟩;rcases ho.2 with hn|⟨g,cap,cur,rfl,h0,hg,rest⟩
 ·exact .inl hn
 ·exact .inr ⟨g,cap,cur,rfl,h0,by rw[hb g rfl];exact hg,rest⟩
theorem Own.Uu{d:D}(hb:∀b,S b->w'.heap[b]?=w.heap[b]?)(ho:Own w v d S):Own w' v d S:=by
 induction ho with
 |int k n S=>exact .int k n S
 |bool b S=>exact .bool b S
 |str s S=>exact .str s S
 |unk v h S=>exact .unk v h S
 |sl v size rows S e xs Sk ho hz wP hl hk hs hd ih=>exact .sl v size rows S e xs Sk (Ka (fun b h=>hb b (wP b h)) ho) hz wP hl (fun k x d hx wL=>ih k x d hx wL (fun b h=>hb b (hs k b h).1)) hs hd
theorem Own.mono{d:D}{S':Nat->Prop}(hS:∀b,S b->S' b)(ho:Own w v d S):Own w v d S':=by
 cases ho with
 |int k n S=>exact .int k n S'
 |bool b S=>exact .bool b S'
 |str s S=>exact .str s S'
 |unk v h S=>exact .unk v h S'
 |sl v size rows S e xs Sk ho hz wP hl hk hs hd=>exact .sl v size rows S' e xs Sk ho hz (fun b h=>hS b (wP b h)) hl hk (fun k b h=>⟨hS b (hs k b h).1,(hs k b h).2⟩) hd
theorem Qk.Uu{xs:List Value}(hb:∀b,S b->w'.heap[b]?=w.heap[b]?)(ho:Qk w xs ds S):Qk w' xs ds S:=by obtain⟨hl,Sk,h1,h2,h3⟩:=ho;exact⟨hl,Sk,fun k x d hx hd=>(h1 k x d hx hd).Uu (fun b h=>hb b (h2 k b h)),h2,h3⟩
theorem Xo.Uu{ob:Nat->Nat->Ob}{o:Ob}
  (hT:∀b k v,T b k->w.cell? ⟨b,k,none⟩=some v->w'.cell? ⟨b,k,none⟩=some v/\T' b k) (hc:∀t j,t≠d->Cpt h h' ob ve t j)
  (vR:o≠ .none->∀b,blk hd.v=some b->hd.u b) (hb:o≠ .none->∀b,hd.u b->w'.heap[b]?=w.heap[b]?) (hr:Zu d [o]=false) (r:Xo T h ob w hd o):Xo T' h' ve w' hd o:=by
 cases o with
 |none=>trivial
 |box cells=>obtain⟨b,cs,e,hv,hh,wE⟩:=r;simp only[Zu,Bool.or_false]at hr;exact⟨b,cs,e,hv,by rw[hb fM b (vR fM b (by rw[hv];rfl))];exact hh,yN hT hc hr wE⟩
 |arr q size rows=>
  have hk:∀{e:TypeId}{n:Nat}{xs:List Value},w.ownsRow 0 e size hd.v n xs->w'.ownsRow 0 e size hd.v n xs:=fun ho=>Ka (fun b h=>hb fM b (vR fM b h)) ho;cases q with
  |false=>obtain⟨e,xs,ho,hz,wE⟩:=r;exact⟨e,xs,hk ho,hz,wE.imp fun _ _=>Rd.mono hT⟩
  |true=>obtain⟨e,xs,ho,hz,wE,hn⟩:=r;exact⟨e,xs,hk ho,hz,wE.Uu (fun b h=>hb fM b h.1),hn⟩
 |lit size rows=>obtain⟨e,xs,ho,hz,wE⟩:=r;simp only[Zu,Bool.or_false]at hr;exact⟨e,xs,Ka (fun b h=>hb fM b (vR fM b h)) ho,hz,yN hT hc hr wE⟩
theorem St.Mc(hf:σ.fresh d=true)(t j:Nat)(wC:t≠d):Zu d [σ.ob t j]=false:=by
 cases ho:σ.ob t j with
 |none=>rfl
 |box cells=>simp[Zu,St.L8 hf t j wC cells ho]
 |arr q size rows=>rfl
 |lit size rows=>simp only[Zu,St.MN hf t j wC size rows ho,Bool.or_false]
theorem Rel.IY(r:Rel T0 B σ a w X h)(hf:σ.fresh d=true)(M:Nat->Prop)(vK:w.heap.size<=w'.heap.size)(hg:∀k,k<w.heap.size->¬M k->w'.heap[k]?=w.heap[k]?)
  (hm:∀b,M b->¬B b/\¬X b/\∀t j,t≠d->σ.ob t j≠ .none->¬(h t j).u b) (hX:∀b,X b->X' b) (sh:∀b,X' b->X b\/(w.heap.size<=b/\b<w'.heap.size))
  (v:V) (val:Value) (os:List Ob) (hd:Nat->Hd)
  (hv:Yu (Tof T0 X') (fun t j=>if t=d then hd j else h t j) (σ.new d v os).ob w' v val)
  (nX:∀j,Xo (Tof T0 X') (fun t j=>if t=d then hd j else h t j) (σ.new d v os).ob w' (hd j) (Zq os j))
  (vR:∀j b,Zq os j≠ .none->blk (hd j).v=some b->(hd j).u b)
  (wI:∀j b,Zq os j≠ .none->(hd j).u b->(w.heap.size<=b\/M b)/\¬X' b/\b<w'.heap.size)
  (rT:∀j j' b,Zq os j≠ .none->Zq os j'≠ .none->(hd j).u b->(hd j').u b->j=j'):
  Rel T0 B (σ.new d v os) (a.put (some d) val) w' X' (fun t j=>if t=d then hd j else h t j):=by
 have wO:=St.JG hf;have gU:∀b k,Tof T0 X b k->¬M b:=by
  intro b k hb nt;rcases hb with hb|hb
  ·exact(hm b nt).1 (r.hT b k hb)
  ·exact(hm b nt).2.1 hb
 have hT:∀b k v,Tof T0 X b k->w.cell? ⟨b,k,none⟩=some v->w'.cell? ⟨b,k,none⟩=some v/\Tof T0 X' b k:=by intro b k v hb wF;refine⟨?_,hb.imp id (hX b)⟩;rw[World.cell?_of_block (hg b (r.Tlt hb) (gU b k hb))];exact wF
 have hc:∀t j,t≠d->Cpt h (fun t j=>if t=d then hd j else h t j) σ.ob (σ.new d v os).ob t j:=by
  intro t j wC;have he:(σ.new d v os).ob t j=σ.ob t j:=eV
  exact Cpt.same (by simp[wC]) he
 refine⟨by simp[Act.put,r.size,St.yj],r.defers,fun b hb=>Nat.lt_of_lt_of_le (r.hB b hb) vK,fun b hb=>?_,r.hT,fun t ht=>?_,fun t j=>?_,fun t j b ho hb=>?_,fun t j b ho hb=>?_,fun t j t' j' b ho wV hb wP=>?_⟩
 ·rcases sh b hb with hb|hb
  ·have:=r.hX b hb;exact⟨this.1,fJ⟩
  ·exact⟨fun uo=>by have:=r.hB b uo;omega,hb.2⟩
 ·rw[St.yj]at ht;rw[St.y6];by_cases wL:t=d
  ·subst wL;simp only[wO,and_self,if_true];have:(a.tmps.setIfInBounds t val).getD t undef=val:=by simp[r.size,wO]
   simp only[Act.put,this];exact hv
  ·rw[if_neg (fun hh=>wL hh.1)];have:(a.tmps.setIfInBounds d val).getD t undef=a.tmps.getD t undef:=by simp[Array.getElem?_setIfInBounds_ne (Ne.symm wL)]
   simp only[Act.put,this];exact Yu.carry hT hc (St.ML hf t wL) (r.slot t ht)
 ·rw[St.Xj];by_cases wL:t=d
  ·subst wL;simp only[wO,and_self,if_true];exact nX j
  ·have wC:¬(t=d/\d<σ.length):=fun hh=>wL hh.1;rw[if_neg wC];simp only[if_neg wL];exact Xo.Uu hT hc (fun ho b=>r.ub t j b ho) (fun ho b hu=>hg b (r.own t j b ho hu).2.2 (fun nt=>(hm b nt).2.2 t j wL ho hu)) (St.Mc hf t j wL) (r.obj t j)
 ·rw[St.Xj]at ho;by_cases wL:t=d
  ·subst wL;simp only[wO,and_self,if_true]at ho hb⊢;exact vR j b ho hb
  ·rw[if_neg (fun hh=>wL hh.1)]at ho;simp only[wL,if_false]at hb⊢;exact r.ub t j b ho hb
 ·rw[St.Xj]at ho;by_cases wL:t=d
  ·subst wL;simp only[wO,and_self,if_true]at ho hb;have h1:=wI j b ho hb
   refine⟨?_,h1.2.1,h1.2.2⟩;rcases h1.1 with h2|h2
   ·exact fun uo=>by have:=r.hB b uo;omega
   ·exact(hm b h2).1
  ·rw[if_neg (fun hh=>wL hh.1)]at ho;simp only[wL,if_false]at hb;have:=r.own t j b ho hb
   refine⟨this.1,fun hx=>?_,fJ⟩;rcases sh b hx with hx|hx
   ·exact this.2.1 hx
   ·omega
 ·rw[St.Xj]at ho wV;by_cases hd1:t=d
  ·by_cases tg:t'=d
   ·subst hd1;subst tg;simp only[wO,and_self,if_true]at ho hb wV wP;exact⟨rfl,rT j j' b ho wV hb wP⟩
   ·subst hd1;simp only[wO,and_self,if_true]at ho hb;rw[if_neg (fun hh=>tg hh.1)]at wV;simp only[tg,if_false]at wP;have h1:=wI j b ho hb
    have h2:=r.own t' j' b wV wP;rcases h1.1 with h3|h3
    ·omega
    ·exact absurd wP ((hm b h3).2.2 t' j' tg wV)
  ·by_cases tg:t'=d
   ·subst tg;simp only[wO,and_self,if_true]at wV wP;rw[if_neg (fun hh=>hd1 hh.1)]at ho;simp only[hd1,if_false]at hb;have h1:=wI j' b wV wP
    have h2:=r.own t j b ho hb;rcases h1.1 with h3|h3
    ·omega
    ·exact absurd hb ((hm b h3).2.2 t j hd1 ho)
   ·rw[if_neg (fun hh=>hd1 hh.1)]at ho;rw[if_neg (fun hh=>tg hh.1)]at wV;simp only[hd1,tg,if_false]at hb wP;exact r.inj t j t' j' b ho wV hb wP
theorem Rel.new(r:Rel T0 B σ a w X h)(hf:σ.fresh d=true)(hg:w.grownBy w' none)(hX:∀b,X b->X' b)(sh:∀b,X' b->X b\/(w.heap.size<=b/\b<w'.heap.size))
  (v:V) (val:Value) (os:List Ob) (hd:Nat->Hd)
  (hv:Yu (Tof T0 X') (fun t j=>if t=d then hd j else h t j) (σ.new d v os).ob w' v val)
  (nX:∀j,Xo (Tof T0 X') (fun t j=>if t=d then hd j else h t j) (σ.new d v os).ob w' (hd j) (Zq os j))
  (vR:∀j b,Zq os j≠ .none->blk (hd j).v=some b->(hd j).u b)
  (wI:∀j b,Zq os j≠ .none->(hd j).u b->w.heap.size<=b/\¬X' b/\b<w'.heap.size)
  (rT:∀j j' b,Zq os j≠ .none->Zq os j'≠ .none->(hd j).u b->(hd j').u b->j=j'):
  Rel T0 B (σ.new d v os) (a.put (some d) val) w' X' (fun t j=>if t=d then hd j else h t j):=
 r.IY hf (fun _=>False) hg.size (fun k hk _=>hg.block k hk fM) (fun _ hh=>hh.elim) hX sh v val os hd hv nX vR (fun j b h1 h2=>⟨.inl (wI j b h1 h2).1,(wI j b h1 h2).2⟩) rT
open Go.RowKit
def Qq(v:Value)(cs:List Value):Prop:=(∃c,cs=[c]/\v=c/\c.oneCell'=true)\/(cs.length≠1/\v= .agg cs.toArray)
def qz:List Value->Value
 |[v]=>v
 |vs=>.tuple vs.toArray
def XN(T:CS)(w:World)(v:Value):D->Prop
 |.sl size rows=>∃e xs,w.ownsRow 0 e size v rows.length xs/\(∀r∈rows,r.length=size)/\ZU (Rd T w) xs rows.flatten
 |d=>Rd T w v d
def J5(own:Bool)(T:CS)(w:World)(v:Value)(d:D):Prop:=if own then XN T w v d else Rd T w v d
def j4(P:Program)(f:FuncId):Bool:=
 match P.funcs[f]? with
 | some fn => fn.body.isSome && fn.name != "runtime.NumGoroutine"
 |none=>false
def GI(B N:Nat)(Y:Nat->Prop)(cs:List Value)(ds:List D):Prop:=
 (∀(i:Nat)(c:Value)(d:D)(b:Nat),cs[i]?=some c->ds[i]?=some d->d.scalar=false->blk c=some b->B<=b/\b<N/\¬Y b)/\
 (∀(i j:Nat)(c c':Value)(d d':D)(b:Nat),cs[i]?=some c->ds[i]?=some d->cs[j]?=some c'->ds[j]?=some d'->d.scalar=false->d'.scalar=false->blk c=some b->blk c'=some b->i=j)
def GJ(own:Bool)(T:CS)(w:World)(res:List (List D))(e:Ending)(w':World):Prop:=
 ∃(vs:List Value)(wc:List (List Value))(Y:Nat->Prop),e= .returned (qz vs)/\Below w.heap.size w w'/\(∀b,Y b->w.heap.size<=b/\b<w'.heap.size)/\
  ZU Qq vs wc/\ZU (fun cs row=>ZU (J5 own (Tof T Y) w') cs row) wc res/\(own=true->GI w.heap.size w'.heap.size Y wc.flatten res.flatten)
def Y0(P:Program)(f:FuncId)(own:Bool)(args res:List (List D)):Prop:=
 j4 P f=true/\∀(T:CS)(w:World)(wm:List Value),(∀b k,T b k->b<w.heap.size)->ZU (fun v row=>∃cs,Qq v cs/\ZU (Rd T w) cs row) wm args->
  Calls P f wm.toArray w (GJ own T w res)
def vOf:List At->V
 |[x]=>.one x
 |xs=>.agg xs
def yV(t:Nat):Nat->List D->List At
 |_,[]=>[]
 |k,.sl _ rows::ds=>.sref t k 0 rows.length::yV t (k+1) ds
 |k,d::ds=>.d d::yV t (k+1) ds
def JV:List D->List Ob
 |[]=>[]
 |.sl size rows::ds=>.arr false size rows::JV ds
 |_::ds=>.none::JV ds
def Si(t:Nat):Nat->List (List D)->List V
 |_,[]=>[]
 |k,r::rs=>vOf (yV t k r)::Si t (k+r.length) rs
def Kp(t:Nat):List (List D)->V
 |[r]=>vOf (yV t 0 r)
 |rs=>.tup (Si t 0 rs)
def Ki:List (List D)->V
 |[r]=>vOf (r.map .d)
 |rs=>.tup (rs.map fun r=>vOf (r.map .d))
def Qn(σ:St):At->Option D
 |.d x=>some x
 |.nil s=>some (.sl s [])
 |.sref t j lo len=>(match σ.ob t j with|.arr _ size rows=>some (.sl size (cut rows lo len))|_=>none)
 |_=>none
def rowOf(σ:St):List At->Option (List D)
 |[]=>some []
 |x::xs=>(match Qn σ x,rowOf σ xs with|some d,some ds=>some (d::ds)|_,_=>none)
def V.X3(σ:St):V->Option (List D)
 |.one x=>rowOf σ [x]
 |.agg [_]=>none
 |.agg xs=>rowOf σ xs
 |_=>none
def Yq(P:Program)(σ:St):List Operand->List TypeId->List (List D)->Prop
 |[],_,rs=>rs=[]
 |x::xs,t::ts,rs=>gOf (look P σ t x)=true/\∃r rest,(unc (look P σ t x)).X3 σ=some r/\Yq P σ xs ts rest/\rs=r::rest
 |_::_,[],_=>False
def At.RU:At->Bool
 |.sref _ _ _ _=>false
 |.tref _ _ _ _ _=>false
 |_=>true
def X9:List At->Bool
 |[]=>true
 |x::xs=>x.RU&&X9 xs
def Zl(P:Program)(σ:St):List Operand->List TypeId->Bool
 |x::xs,t::ts=>X9 (unc (look P σ t x)).cells&&Zl P σ xs ts
 |_,_=>true
theorem Rel.grow(r:Rel T0 B σ a w X h)(hg:w.grownBy w' none)(hX:∀b,X b->X' b)(sh:∀b,X' b->X b\/(w.heap.size<=b/\b<w'.heap.size)):Rel T0 B σ a w' X' h:=by
 have hT:∀b k v,Tof T0 X b k->w.cell? ⟨b,k,none⟩=some v->w'.cell? ⟨b,k,none⟩=some v/\Tof T0 X' b k:=by intro b k v hb wF;refine⟨?_,hb.imp id (hX b)⟩;rw[World.cell?_of_block (hg.block b (r.Tlt hb) fM)];exact wF
 have hB:w.heap.size<=w'.heap.size:=hg.size;refine⟨r.size,r.defers,fun b hb=>Nat.lt_of_lt_of_le (r.hB b hb) hB,fun b hb=>?_,r.hT,fun t ht=>Yu.mono hT (r.slot t ht),fun t j=>?_,r.ub,fun t j b ho hb=>?_,r.inj⟩
 ·rcases sh b hb with hb|hb
  ·have:=r.hX b hb;exact⟨this.1,fJ⟩
  ·exact⟨fun uo=>by have:=r.hB b uo;omega,hb.2⟩
 ·have h0:=r.obj t j;have hk:σ.ob t j≠ .none->∀b,(h t j).u b->w'.heap[b]?=w.heap[b]?:=fun ho b hu=>hg.block b (r.own t j b ho hu).2.2 fM;have wW:=r.ub t j;cases ho:σ.ob t j with
  |none=>trivial
  |box cells=>rw[ho]at h0 hk wW;obtain⟨b,cs,e,hv,hh,wE⟩:=h0;exact⟨b,cs,e,hv,by rw[hk fM b (wW b fM (by rw[hv];rfl))];exact hh,wE.imp fun _ _=>Zf.mono hT⟩
  |arr q size rows=>
   rw[ho]at h0 hk wW;cases q with
   |false=>obtain⟨e,xs,uX,hz,wE⟩:=h0;exact⟨e,xs,Ka (fun b hb=>hk fM b (wW b fM hb)) uX,hz,wE.imp fun _ _=>Rd.mono hT⟩
   |true=>obtain⟨e,xs,uX,hz,wE,hn⟩:=h0;exact⟨e,xs,Ka (fun b hb=>hk fM b (wW b fM hb)) uX,hz,wE.Uu (fun b hb=>hk fM b hb.1),hn⟩
  |lit size rows=>rw[ho]at h0 hk wW;obtain⟨e,xs,uX,hz,wE⟩:=h0;exact⟨e,xs,Ka (fun b hb=>hk fM b (wW b fM hb)) uX,hz,wE.imp fun _ _=>Zf.mono hT⟩
 ·have:=r.own t j b ho hb;refine⟨this.1,fun hx=>?_,fJ⟩;rcases sh b hx with hx|hx
  ·exact this.2.1 hx
  ·omega
def ky(T0:CS)(X:Nat->Prop)(h:Nat->Nat->Hd)(σ:St):CS:=fun b k=>Tof T0 X b k\/∃t j q size rows,σ.ob t j= .arr q size rows/\(h t j).u b
theorem Rel.R1(r:Rel T0 B σ a w X h){k:Nat}(hb:ky T0 X h σ b k):b<w.heap.size:=by
 rcases hb with hb|⟨t,j,q,size,rows,ho,hb⟩
 ·exact r.Tlt hb
 ·exact(r.own t j b fi hb).2.2
theorem MA{e:TypeId}{xs:List Value}(ho:w.ownsRow 0 e size v rows.length xs)(hz:∀r∈rows,r.length=size)(hT:∀b k,blk v=some b->T b k)
  (wE:ZU (Rd T w) xs rows.flatten):Rd T w v (.sl size rows):=by
 rcases ho.2 with⟨rfl,hn⟩|⟨g,cap,cur,rfl,_,hh,vr,uE,uM,uw⟩
 ·have:rows=[]:=List.eq_nil_of_length_eq_zero hn;subst this;exact .nil _
 ·refine .sl ⟨g,0,none⟩ _ cap size rows (fun k=>(xs[k]?).getD undef) rfl vr uE hz (fun _=>rfl) (fun k d hd=>?_) (fun k d hd=>?_)
  ·obtain⟨u,hu,_⟩:=wE.get' k d hd;have wO:k<rows.length*size:=by have:=(List.getElem?_eq_some_iff.1 hd).1;rw[Zg rows size hz]at this;exact this
   rw[hu];refine⟨?_,hT g _ rfl⟩;simp only[Nat.zero_add];refine Qp hh _ _ ?_;rw[<-uw,List.getElem?_take,if_pos wO]at hu;exact hu
  ·obtain⟨u,hu,hr⟩:=wE.get' k d hd;rw[hu];exact hr
theorem Own.rd{d:D}(ho:Own w v d S)(hT:∀b k,S b->T b k):Rd T w v d:=by
 induction ho with
 |int k n S=>exact .int k n
 |bool b S=>exact .bool b
 |str s S=>exact .str s
 |unk v h S=>exact .unk v h
 |sl v size rows S e xs Sk ho hz wP hl hk hs hd ih=>exact MA ho hz (fun b k hb=>hT b k (wP b hb)) (ZU.Jq hl (fun k x d hx wL=>ih k x d hx wL (fun b k' hb=>hT b k' (hs k b hb).1)))
theorem Qk.rd{xs:List Value}(ho:Qk w xs ds S)(hT:∀b k,S b->T b k):ZU (Rd T w) xs ds:=by obtain⟨hl,Sk,h1,h2,h3⟩:=ho;exact ZU.Jq hl (fun k x d hx hd=>(h1 k x d hx hd).rd (fun b k' hb=>hT b k' (h2 k b hb)))
theorem Rel.cells(r:Rel T0 B σ a w X h)(ho:σ.ob t j= .arr q size rows):
  ∃e xs,w.ownsRow 0 e size (h t j).v rows.length xs/\(∀r∈rows,r.length=size)/\∀T:CS,(∀b k,Tof T0 X b k->T b k)->(∀b k,(h t j).u b->T b k)->ZU (Rd T w) xs rows.flatten:=by
 have h0:=r.obj t j;rw[ho]at h0;cases q with
 |false=>obtain⟨e,xs,uX,hz,wE⟩:=h0;exact⟨e,xs,uX,hz,fun T h1 _=>wE.imp fun _ _=>Rd.mono (fun b k v hb hc=>⟨hc,h1 b k hb⟩)⟩
 |true=>obtain⟨e,xs,uX,hz,wE,hn⟩:=h0;exact⟨e,xs,uX,hz,fun T _ h2=>wE.rd (fun b k hb=>h2 b k hb.1)⟩
theorem Rel.N4(r:Rel T0 B σ a w X h){lo:Nat}(ho:σ.ob t j= .arr q size rows)(hv:Zf (Tof T0 X) h σ.ob w (.sref t j lo len) v)
  (T:CS) (l0:∀b k,Tof T0 X b k->T b k) (l3:∀b k,(h t j).u b->T b k):Rd T w v (.sl size (cut rows lo len)):=by
 obtain⟨hle,uI,_,base,cap,rfl,vh,pL,sQ,hb⟩:=hv.2.1 q size rows ho;obtain⟨e,xs,⟨hl,wI⟩,hz,oH⟩:=r.cells ho;have wE:=oH T l0 l3
 have vR:=r.ub t j;have wb:(cut rows lo len).length=len:=Yi _ _ _ hle;have ue:∀x∈cut rows lo len,x.length=size:=fun x hx=>hz x (List.mem_of_mem_drop (List.mem_of_mem_take hx));by_cases w7:0<len
 ·obtain⟨b,tT,hh,rfl⟩:=hb w7;rcases wI with⟨hn,_⟩|⟨g,p7,cur,tf,_,m0,vr,uE,uM,uw⟩
  ·rw[hh]at hn;cases hn
  ·rw[hh]at tf;cases tf;have key:∀k d,(cut rows lo len).flatten[k]?=some d->∃u,w.cell? ⟨b,lo*size+k,none⟩=some u/\T b (lo*size+k)/\Rd T w u d:=by
    intro k d hd;have wL:=Kc rows size lo len hz k d hd
    obtain⟨u,hu,hr⟩:=wE.get' _ _ wL;have wO:lo*size+k<rows.length*size:=by have:=(List.getElem?_eq_some_iff.1 wL).1;rw[Zg rows size hz]at this;exact this
    refine⟨u,Qp m0 _ _ ?_,l3 b _ (vR b fi (by rw[hh];rfl)),hr⟩;rw[<-uw,List.getElem?_take,if_pos wO]at hu;exact hu
   refine .sl ⟨b,lo*size,none⟩ len cap size _ (fun k=>(w.cell? ⟨b,lo*size+k,none⟩).getD undef) wb vh pL ue (fun _=>rfl) (fun k d hd=>?_) (fun k d hd=>?_)
   ·obtain⟨u,hu,ht,_⟩:=key k d hd;rw[hu];exact⟨rfl,ht⟩
   ·obtain⟨u,hu,_,hr⟩:=key k d hd;rw[hu];exact hr
 ·have gV:len=0:=fJ;subst gV;have uj:cut rows lo 0=[]:=by simp[cut]
  rw[uj];cases base with
  |none=>have:=sQ rfl;subst this;exact .nil _
  |some ad=>exact .sl ad 0 cap size [] (fun _=>undef) rfl vh pL (by intro r hr;cases hr) fM fM fM
open Go.RowKit
def D.PB:D->Prop
 |.sl _ rows=>∀r∈rows,∀d∈r,d.scalar=true
 |_=>True
def X4(own:Bool)(res:List (List D)):Prop:=∀r∈res,∀d∈r,if own=true then d.PB else d.scalar=true
theorem Rd.scalar{d:D}(hd:d.scalar=true)(r:Rd T w v d):Rd T' w v d:=by
 cases r with
 |int k n=>exact .int k n
 |bool b=>exact .bool b
 |str s=>exact .str s
 |unk v h=>exact .unk v h
 |nil=>cases hd
 |sl=>cases hd
theorem XN.flat{d:D}(hd:d.PB)(r:XN T w v d):XN T' w v d:=by
 cases d with
 |sl size rows=>
  obtain⟨e,xs,ho,hz,wE⟩:=r;refine⟨e,xs,ho,hz,?_⟩;refine ZU.Jq wE.length (fun i x d hx wL=>?_);obtain⟨d2,tg,hr⟩:=wE.get i x hx;rw[wL]at tg;cases tg;have hm:d∈rows.flatten:=List.mem_of_getElem? wL
  obtain⟨r0,um,hdr⟩:=List.mem_flatten.1 hm;exact Rd.scalar (hd r0 um d hdr) hr
 |int k n=>exact Rd.scalar rfl r
 |bool b=>exact Rd.scalar rfl r
 |str s=>exact Rd.scalar rfl r
 |unk=>exact Rd.scalar rfl r
theorem jq{e:TypeId}{xs:List Value}(ho:w.ownsRow 0 e size v n xs):Lt v size n 0 n v:=by
 refine⟨fJ,fun _ _=>rfl,?_,?_⟩
 ·intro _;rcases ho.2 with⟨rfl,rfl⟩|⟨g,cap,cur,rfl,_⟩<;>rfl
 rcases ho.2 with⟨rfl,rfl⟩|⟨g,cap,cur,rfl,_,_,vr,uE,_,_⟩
 ·exact⟨none,0,rfl,fJ,by simp[maxLen],fun _=>rfl,fun hh=>fJ⟩
 ·exact⟨_,cap,rfl,vr,uE,(fun hh=>by cases hh),fun _=>⟨g,cap,rfl,fM⟩⟩
theorem JC{e:TypeId}{xs:List Value}(ho:w.ownsRow 0 e size v n xs):v.oneCell'=true:=by rcases ho.2 with⟨rfl,rfl⟩|⟨g,cap,cur,rfl,_⟩<;>rfl
theorem XN.YN{d:D}(r:XN T w v d):v.oneCell'=true:=by
 cases d with
 |sl size rows=>obtain⟨e,xs,ho,_⟩:=r;exact JC ho
 |int k n=>exact Rd.YN r
 |bool b=>exact Rd.YN r
 |str s=>exact Rd.YN r
 |unk=>exact Rd.YN r
theorem XN.rd{d:D}(r:XN T w v d)(h1:∀b k,T b k->T' b k)(h2:d.scalar=false->∀b k,blk v=some b->T' b k):Rd T' w v d:=by
 cases d with
 |sl size rows=>
  obtain⟨e,xs,⟨hl,wI⟩,hz,wE⟩:=r;rcases wI with⟨rfl,hn⟩|⟨g,cap,cur,rfl,_,hh,vr,uE,uM,uw⟩
  ·have:rows=[]:=List.eq_nil_of_length_eq_zero hn;subst this;exact .nil _
  ·refine .sl ⟨g,0,none⟩ _ cap size rows (fun k=>(xs[k]?).getD undef) rfl vr uE hz (fun _=>rfl) (fun k d hd=>?_) (fun k d hd=>?_)
   ·obtain⟨u,hu,_⟩:=wE.get' k d hd;have wO:k<rows.length*size:=by have:=(List.getElem?_eq_some_iff.1 hd).1;rw[Zg rows size hz]at this;exact this
    rw[hu];refine⟨?_,h2 rfl g _ rfl⟩;simp only[Nat.zero_add];refine Qp hh _ _ ?_;rw[<-uw,List.getElem?_take,if_pos wO]at hu;exact hu
   ·obtain⟨u,hu,hr⟩:=wE.get' k d hd;rw[hu];exact Rd.mono (fun b k v hb hc=>⟨hc,h1 b k hb⟩) hr
 |int k n=>exact Rd.scalar rfl r
 |bool b=>exact Rd.scalar rfl r
 |str s=>exact Rd.scalar rfl r
 |unk=>exact Rd.scalar rfl r
theorem Rel.Qn(r:Rel T0 B σ a w X h){x:At}{d:D}(hd:Qn σ x=some d)(hv:Zf (Tof T0 X) h σ.ob w x v)(st:Bool)(wY:st=true->x.RU=true):
  Rd (if st then Tof T0 X else ky T0 X h σ) w v d:=by
 cases x with
 |d x=>simp[Vm.Qn]at hd;subst hd;cases st<;>simp<;>first|exact hv|exact Rd.mono (fun b k v hb hc=>⟨hc,.inl hb⟩) hv
 |nil s=>simp[Vm.Qn]at hd;subst hd;cases hv;exact .nil _
 |sref t j lo len=>
  cases st with
  |true=>have:=wY rfl;simp[At.RU]at this
  |false=>
   simp only[Vm.Qn]at hd;split at hd
   ·rename_i q size rows ho;cases hd;exact r.N4 ho hv _ (fun b k hb=>.inl hb) (fun b k hb=>.inr ⟨t,j,_,size,rows,ho,hb⟩)
   ·cases hd
 |any=>simp[Vm.Qn]at hd
 |ptr=>simp[Vm.Qn]at hd
 |bptr=>simp[Vm.Qn]at hd
 |fn=>simp[Vm.Qn]at hd
 |rptr=>simp[Vm.Qn]at hd
 |tref=>simp[Vm.Qn]at hd
theorem Rel.rowOf(r:Rel T0 B σ a w X h)(st:Bool):∀{xs:List At}{vs:List Value}{ds:List D},rowOf σ xs=some ds->ZU (Zf (Tof T0 X) h σ.ob w) xs vs->(st=true->X9 xs=true)->
  ZU (Rd (if st then Tof T0 X else ky T0 X h σ) w) vs ds
 |[],_,ds,hd,wE,_=>by cases wE;simp[Vm.rowOf]at hd;subst hd;exact .nil
 |x::xs,_,ds,hd,wE,wY=>by
  cases wE with
  |cons hx wE=>
   simp only[Vm.rowOf]at hd;split at hd
   ·rename_i d sV h1 h2;cases hd;refine .cons (r.Qn h1 hx st (fun hs=>?_)) (Rel.rowOf r st h2 wE (fun hs=>?_))
    ·have:=wY hs;simp[X9]at this;exact this.1
    ·have:=wY hs;simp[X9]at this;exact this.2
   ·cases hd
theorem Rel.X3(r:Rel T0 B σ a w X h)(st:Bool){v:V}{row:List D}(hr:v.X3 σ=some row)(hv:Yu (Tof T0 X) h σ.ob w v val)(wY:st=true->X9 v.cells=true):
  ∃cs,Qq val cs/\ZU (Rd (if st then Tof T0 X else ky T0 X h σ) w) cs row:=by
 cases v with
 |one x=>exact⟨[val],.inl ⟨val,rfl,rfl,Zf.YN (show Zf _ _ _ _ _ _ from hv)⟩,r.rowOf st (xs:=[x]) hr (.cons hv .nil) wY⟩
 |agg xs=>
  obtain⟨cs,rfl,wE⟩:=hv;have hl:=wE.length
  match xs,hr,wE,hl,wY with
  |[],hr,wE,hl,wY=>exact⟨cs.toList,.inr ⟨by rw[<-hl];simp,fM⟩,r.rowOf st hr wE wY⟩
  |[_],hr,_,_,_=>simp[V.X3]at hr
  |x::y::xs,hr,wE,hl,wY=>exact⟨cs.toList,.inr ⟨by rw[<-hl];simp,fM⟩,r.rowOf st hr wE wY⟩
 |any=>simp[V.X3]at hr
 |tup xs=>simp[V.X3]at hr
 |cnd g x=>simp[V.X3]at hr
 |fix u x=>simp[V.X3]at hr
theorem Rel.Yq(r:Rel T0 B σ a w X h)(st:Bool):∀{xs:List Operand}{ts:List TypeId}{rs:List (List D)},Yq P σ xs ts rs->(st=true->Zl P σ xs ts=true)->
  ZU (fun v row=>∃cs,Qq v cs/\ZU (Rd (if st then Tof T0 X else ky T0 X h σ) w) cs row) (xs.map a.eval) rs
 |[],_,rs,hr,_=>by cases hr;exact .nil
 |x::xs,[],rs,hr,_=>hr.elim
 |x::xs,t::ts,rs,hr,wY=>by
  obtain⟨hg,row,rest,h1,h2,rfl⟩:=hr;refine .cons (r.X3 st h1 (r.arg t x rfl hg) (fun hs=>?_)) (Rel.Yq r st h2 (fun hs=>?_))
  ·have:=wY hs;simp[Zl]at this;exact this.1
  ·have:=wY hs;simp[Zl]at this;exact this.2
theorem yg{f:FuncId}(wA:o.op= .call c)(hc:c.callee= .value (.func f))(hf:j4 P f=true):(execOp a.eval o).run P w= .ok (.enter f (c.args.toList.map a.eval).toArray) w:=by
 unfold j4 at hf;split at hf
 ·rename_i fn gM;simp only[Bool.and_eq_true,bne_iff_ne,ne_eq]at hf;obtain⟨cd,hb⟩:=Option.isSome_iff_exists.1 hf.1;obtain⟨callee,args,mG⟩:=c;simp only at hc;subst hc;have hm:(args.toList.map a.eval).toArray=args.map a.eval:=by apply Array.toList_inj.1;simp
  rw[hm];simp[execOp,wA,resolve,Act.eval,Deferred.ofValue,invoke,callFunc,gM,hf.2,hb]
 ·cases hf
open Go.RowKit
variable{Q:Exit->Act->World->Prop}{K:Act->World->Prop}{wc:List (List Value)}
theorem Below.grownBy(hb:Below w.heap.size w w'):w.grownBy w' none:=⟨hb.os,hb.tape,hb.output,hb.size,fun k hk _=>hb.block k hk⟩
theorem Uk{ob:Nat->Nat->Ob}{xs:List At}(hf:Qq v cs)(wE:ZU (Zf T h ob w) xs cs):X0 T h ob w (vOf xs) v:=by
 have hl:=wE.length;rcases hf with⟨c,rfl,rfl,h1⟩|⟨wC,rfl⟩
 ·cases wE with
  |cons hx wE=>cases wE;exact hx
 ·match xs,wE,hl with
  |[],wE,_=>exact⟨_,rfl,by simpa using wE⟩
  |[x],wE,hl=>exact absurd hl.symm (by simpa using wC)
  |x::y::xs,wE,_=>exact⟨_,rfl,by simpa using wE⟩
theorem yS{ob:Nat->Nat->Ob}{row:List D}(wE:ZU (Rd T w) cs row):ZU (Zf T h ob w) (row.map .d) cs:=by
 induction wE with
 |nil=>exact .nil
 |cons r _ ih=>exact .cons r ih
theorem NX{ob:Nat->Nat->Ob}(hf:ZU Qq vs wc)(wE:ZU (fun cs row=>ZU (Rd T w) cs row) wc res):
  ZU (X0 T h ob w) (res.map fun r=>vOf (r.map .d)) vs:=by
 induction hf generalizing res with
 |nil=>cases wE;exact .nil
 |cons f _ ih=>cases wE with
  |cons r wE=>exact .cons (Uk f (yS r)) (ih wE)
theorem Sv{ob:Nat->Nat->Ob}(hf:ZU Qq vs wc)(wE:ZU (fun cs row=>ZU (Rd T w) cs row) wc res):
  Yu T h ob w (Ki res) (qz vs):=by
 have hl:=NX (h:=h) (ob:=ob) hf wE;have h1:=hl.length;match res,vs,hl,h1 with
 |[r],[v],hl,_=>cases hl with|cons x _=>exact x.up
 |[],[],hl,_=>exact⟨_,rfl,by simpa using hl⟩
 |r::r'::rs,v::v'::vs,hl,_=>exact⟨_,rfl,by simpa using hl⟩
 |[],v::vs,_,h1=>simp at h1
 |[r],[],_,h1=>simp at h1
 |[r],v::v'::vs,_,h1=>simp at h1
 |r::r'::rs,[],_,h1=>simp at h1
 |r::r'::rs,[v],_,h1=>simp at h1
theorem Vj{α β:Type}{R S:α->β->Prop}{l:List (List α)}{m:List (List β)}(uO:∀(a:α)(b:β)(row:List β),row∈m->b∈row->R a b->S a b)(wE:ZU (fun x y=>ZU R x y) l m):ZU (fun x y=>ZU S x y) l m:=by
 induction wE with
 |nil=>exact .nil
 |@cons x y _ _ uy _ ih=>
  refine .cons ?_ (ih (fun a b row hr=>uO a b row ef));have vE:∀b∈y,∀a,R a b->S a b:=fun b hb a hr=>uO a b y fM hb hr
  clear ih uO;induction uy with
  |nil=>exact .nil
  |cons r _ ry=>exact .cons (vE _ fM _ r) (ry (fun b hb=>vE b (by simp[hb])))
theorem yJ(r:Rel T0 B σ a w X h){f:FuncId}{own:Bool}(wA:o.op= .call c)(hc:c.callee= .value (.func f))(hd:o.dst=some d)
  (wH:Yq P σ c.args.toList c.argTypes.toList rows) (st:Bool) (wY:st=true->Zl P σ c.args.toList c.argTypes.toList=true) (vV:st=false->X4 own res) (hs:Y0 P f own rows res)
  (hK:∀a' w',Xx T0 B (σ.put d (Ki res)) a' w'->YL B w w'->K a' w'):o.wp P a w K Q:=by
 unfold Oper.wp;rw[yg wA hc hs.1,Oper.upon_enter];refine(hs.2 (if st then Tof T0 X else ky T0 X h σ) w _ (fun b k hb=>?_) (r.Yq st wH wY)).mono ?_
 ·cases st
  ·exact r.R1 hb
  ·exact r.Tlt hb
 ·rintro e w' ⟨vs,wc,Y,rfl,vY,hY,wj,vq,s4⟩;have sh:∀b,(X b\/(w.heap.size<=b/\b<w'.heap.size))->X b\/(w.heap.size<=b/\b<w'.heap.size):=fun b hb=>hb
  have r2:=r.grow (X':=fun b=>X b\/(w.heap.size<=b/\b<w'.heap.size)) (Below.grownBy vY) (fun b hb=>.inl hb) sh;have uP:ZU (fun cs row=>ZU (Rd (Tof T0 fun b=>X b\/(w.heap.size<=b/\b<w'.heap.size)) w') cs row) wc res:=by
   have vE:∀(i:Nat)(c:Value)(d:D),wc.flatten[i]?=some c->res.flatten[i]?=some d->own=true->d.scalar=false->∀b,blk c=some b->w.heap.size<=b/\b<w'.heap.size:=by
    intro i c d h1 h2 ho vH b hb;have:=(s4 ho).1 i c d b h1 h2 vH hb
    exact⟨this.1,this.2.1⟩
   have conv:∀(c:Value)(d:D),(∀b,own=true->d.scalar=false->blk c=some b->w.heap.size<=b/\b<w'.heap.size)->(st=false->if own=true then d.PB else d.scalar=true)->
     J5 own (Tof (if st then Tof T0 X else ky T0 X h σ) Y) w' c d->Rd (Tof T0 fun b=>X b\/(w.heap.size<=b/\b<w'.heap.size)) w' c d:=by
    intro c d vM rD hr;cases own with
    |true=>
     have vU:XN (Tof (if st then Tof T0 X else ky T0 X h σ) Y) w' c d:=by simpa[J5]using hr
     cases st with
     |true=>
      refine XN.rd vU (fun b k hb=>?_) (fun vH b k hb=>.inr (.inr (vM b rfl vH hb)));rcases hb with hb|hb
      ·rcases(show Tof T0 X b k from by simpa using hb)with hb|hb
       ·exact .inl hb
       ·exact .inr (.inl hb)
      ·exact .inr (.inr (hY b hb))
     |false=>exact XN.rd (XN.flat (T':=fun _ _=>False) (by simpa using rD rfl) vU) (fun b k hb=>hb.elim) (fun vH b k hb=>.inr (.inr (vM b rfl vH hb)))
    |false=>
     have vU:Rd (Tof (if st then Tof T0 X else ky T0 X h σ) Y) w' c d:=by simpa[J5]using hr
     cases st with
     |true=>
      refine Rd.mono (fun b k v hb hc=>⟨hc,?_⟩) vU;rcases hb with hb|hb
      ·rcases(show Tof T0 X b k from by simpa using hb)with hb|hb
       ·exact .inl hb
       ·exact .inr (.inl hb)
      ·exact .inr (.inr (hY b hb))
     |false=>exact Rd.scalar (by simpa using rD rfl) vU
   have go:∀(wc:List (List Value))(res:List (List D)),ZU (fun cs row=>ZU (J5 own (Tof (if st then Tof T0 X else ky T0 X h σ) Y) w') cs row) wc res->
     (∀(i:Nat)(c:Value)(d:D),wc.flatten[i]?=some c->res.flatten[i]?=some d->own=true->d.scalar=false->∀b,blk c=some b->w.heap.size<=b/\b<w'.heap.size)->
     (st=false->X4 own res)->ZU (fun cs row=>ZU (Rd (Tof T0 fun b=>X b\/(w.heap.size<=b/\b<w'.heap.size)) w') cs row) wc res:=by
    intro wc res wE;induction wE with
    |nil=>intro _ _;exact .nil
    |@cons cs row lO lP wg _ ih=>
     intro hm hf;have hlen:=wg.length
     refine .cons (ZU.Jq hlen (fun i c d hc wL=>?_)) (ih (fun i c d h1 h2=>?_) (fun hs r hr=>hf hs r ef))
     ·obtain⟨d2,tg,hr⟩:=wg.get i c hc;rw[wL]at tg;cases tg;refine conv c d (fun b ho vH hb=>hm i c d ?_ ?_ ho vH b hb) (fun hs=>hf hs row fM d (List.mem_of_getElem? wL)) hr
      ·rw[List.flatten_cons,List.getElem?_append_left (List.getElem?_eq_some_iff.1 hc).1];exact hc
      ·rw[List.flatten_cons,List.getElem?_append_left (List.getElem?_eq_some_iff.1 wL).1];exact wL
     ·refine hm (cs.length+i) c d ?_ ?_
      ·rw[List.flatten_cons,List.getElem?_append_right fJ];simpa using h1
      ·rw[List.flatten_cons,List.getElem?_append_right fJ,hlen];simpa using h2
   exact go wc res vq vE vV
  rw[hd];exact hK _ _ ⟨_,_,r2.put d _ _ (Sv wj uP)⟩ (YL.WH vY r.hB)
open Go.RowKit
theorem xy:∀(ds:List D)(k:Nat),Zq (JV ds) k=(match ds[k]? with|some (.sl size rows)=>.arr false size rows|_=>.none)
 |[],k=>by simp[JV,Zq]
 |d::ds,0=>by cases d<;>simp[JV,Zq]
 |d::ds,k+1=>by have:=xy ds k;cases d<;>simpa[JV,Zq]using this
def zW(T:CS)(w:World)(v:Value):D->Prop
 |.sl size rows=>∃e xs,w.ownsRow 0 e size v rows.length xs
 |d=>Rd T w v d
theorem XN.top{d:D}(r:XN T w v d):zW T w v d:=by
 cases d with
 |sl size rows=>obtain⟨e,xs,ho,_⟩:=r;exact⟨e,xs,ho⟩
 |int k n=>exact r
 |bool b=>exact r
 |str s=>exact r
 |unk=>exact r
theorem zW.YN{d:D}(r:zW T w v d):v.oneCell'=true:=by
 cases d with
 |sl size rows=>obtain⟨e,xs,ho⟩:=r;exact JC ho
 |int k n=>exact Rd.YN r
 |bool b=>exact Rd.YN r
 |str s=>exact Rd.YN r
 |unk=>exact Rd.YN r
theorem TS{T:CS}{ob:Nat->Nat->Ob}{t:Nat}:∀{ds:List D}{cs:List Value}{k:Nat},ZU (zW T w) cs ds->
  (∀i size rows,ds[i]?=some (.sl size rows)->∃q,ob t (k+i)= .arr q size rows)->(∀i c,cs[i]?=some c->(h t (k+i)).v=c)->ZU (Zf T h ob w) (yV t k ds) cs
 |[],_,k,wE,_,_=>by cases wE;exact .nil
 |d::ds,_,k,wE,ho,hh=>by
  cases wE with
  |@cons c _ cs _ hc wE=>
   have ih:=TS (k:=k+1) wE (fun i size rows hi=>by have:=ho (i+1) size rows (by simpa using hi);rw[show k+1+i=k+(i+1)by omega];exact this)
    (fun i c' wk=>by have:=hh (i+1) c' (by simpa using wk);rw[show k+1+i=k+(i+1)by omega];exact this)
   cases d with
   |sl size rows=>
    obtain⟨q0,h0⟩:=ho 0 size rows fM;have h1:=hh 0 c fM
    rw[Nat.add_zero]at h0 h1;refine .cons ⟨zW.YN hc,fun q' wi wQ wV=>?_,fun wi wQ wV=>by rw[h0]at wV;cases wV⟩ ih;rw[h0]at wV;cases wV;obtain⟨e,xs,wI⟩:=hc;rw[h1];exact jq wI
   |int k' n=>exact .cons hc ih
   |bool b=>exact .cons hc ih
   |str s=>exact .cons hc ih
   |unk=>exact .cons hc ih
theorem M3{ob:Nat->Nat->Ob}(hf:ZU Qq vs wc):∀{res:List (List D)}{k:Nat},ZU (fun cs row=>ZU (zW T w) cs row) wc res->
  (∀i size rows,res.flatten[i]?=some (.sl size rows)->∃q,ob t (k+i)= .arr q size rows)->(∀i c,wc.flatten[i]?=some c->(h t (k+i)).v=c)->ZU (X0 T h ob w) (Si t k res) vs:=by
 induction hf with
 |nil=>intro res k wE _ _;cases wE;exact .nil
 |@cons v cs fD lO f _ ih=>
  intro res k wE ho hh;cases wE with
  |@cons _ row _ lP r wE=>
   have hlen:=r.length;refine .cons (Uk f (TS r (fun i size rows hi=>ho i size rows ?_) (fun i c hc=>hh i c ?_))) (ih wE (fun i size rows hi=>?_) (fun i c hc=>?_))
   ·rw[List.flatten_cons,List.getElem?_append_left (List.getElem?_eq_some_iff.1 hi).1];exact hi
   ·rw[List.flatten_cons,List.getElem?_append_left (List.getElem?_eq_some_iff.1 hc).1];exact hc
   ·have:=ho (row.length+i) size rows (by rw[List.flatten_cons,List.getElem?_append_right fJ];simpa using hi);rw[Nat.add_assoc];exact this
   ·have:=hh (row.length+i) c (by rw[List.flatten_cons,List.getElem?_append_right fJ,<-hlen];simpa using hc);rw[Nat.add_assoc];exact this
theorem Ts{ob:Nat->Nat->Ob}(hf:ZU Qq vs wc)(wE:ZU (fun cs row=>ZU (zW T w) cs row) wc res)
  (ho:∀i size rows,res.flatten[i]?=some (.sl size rows)->∃q,ob t i= .arr q size rows) (hh:∀i c,wc.flatten[i]?=some c->(h t i).v=c):Yu T h ob w (Kp t res) (qz vs):=by
 have hl:=M3 (k:=0) hf wE (by simpa using ho) (by simpa using hh);have h1:res.length=vs.length:=by rw[hf.length,wE.length]
 match res,vs,hl,h1 with
 |[r],[v],hl,_=>cases hl with|cons x _=>exact x.up
 |[],[],hl,_=>exact⟨_,rfl,by simpa using hl⟩
 |r::r'::rs,v::v'::vs,hl,_=>exact⟨_,rfl,by simpa using hl⟩
 |[],v::vs,_,h1=>simp at h1
 |[r],[],_,h1=>simp at h1
 |[r],v::v'::vs,_,h1=>simp at h1
 |r::r'::rs,[],_,h1=>simp at h1
 |r::r'::rs,[v],_,h1=>simp at h1
theorem J2{α β:Type}{R:α->β->Prop}{l:List (List α)}{m:List (List β)}(wE:ZU (fun x y=>ZU R x y) l m):ZU R l.flatten m.flatten:=by
 induction wE with
 |nil=>exact .nil
 |cons r _ ih=>rw[List.flatten_cons,List.flatten_cons];exact r.append ih
theorem kJ(r:Rel T0 B σ a w X h){f:FuncId}(wA:o.op= .call c)(hc:c.callee= .value (.func f))(hd:o.dst=some d)(w8:σ.fresh d=true)
  (wH:Yq P σ c.args.toList c.argTypes.toList rows) (st:Bool) (wY:st=true->Zl P σ c.args.toList c.argTypes.toList=true) (vV:st=false->X4 true res) (hs:Y0 P f true rows res)
  (hK:∀a' w',Xx T0 B (σ.new d (Kp d res) (JV res.flatten)) a' w'->YL B w w'->K a' w'):o.wp P a w K Q:=by
 have wO:=St.JG w8;unfold Oper.wp;rw[yg wA hc hs.1,Oper.upon_enter];refine(hs.2 (if st then Tof T0 X else ky T0 X h σ) w _ (fun b k hb=>?_) (r.Yq st wH wY)).mono ?_
 ·cases st
  ·exact r.R1 hb
  ·exact r.Tlt hb
 ·rintro e w' ⟨vs,wc,Y,rfl,vY,hY,wj,vq,s4⟩;have s4:=s4 rfl
  have uP:ZU (fun cs row=>ZU (XN (Tof T0 fun b=>X b\/Y b) w') cs row) wc res:=by
   refine Vj (fun c d row wg hdr hr=>?_) vq;have vU:XN (Tof (if st then Tof T0 X else ky T0 X h σ) Y) w' c d:=by simpa[J5]using hr
   cases st with
   |true=>
    have hT:∀b k,Tof (if true=true then Tof T0 X else ky T0 X h σ) Y b k->Tof T0 (fun b=>X b\/Y b) b k:=by
     intro b k hb;rcases hb with hb|hb
     ·rcases(show Tof T0 X b k from by simpa using hb)with hb|hb
      ·exact .inl hb
      ·exact .inr (.inl hb)
     ·exact .inr (.inr hb)
    cases d with
    |sl size rows=>obtain⟨e,xs,ho,hz,wE⟩:=vU;exact⟨e,xs,ho,hz,wE.imp fun _ _=>Rd.mono (fun b k v hb hc=>⟨hc,hT b k hb⟩)⟩
    |int k n=>exact Rd.scalar rfl vU
    |bool b=>exact Rd.scalar rfl vU
    |str s=>exact Rd.scalar rfl vU
    |unk=>exact Rd.scalar rfl vU
   |false=>exact XN.flat (by simpa using vV rfl row wg d hdr) vU
  have vo:=J2 uP;rw[hd];refine hK _ _ ⟨fun b=>X b\/Y b,fun t j=>if t=d then Hd.of ((wc.flatten[j]?).getD undef)else h t j,?_⟩ (YL.WH vY r.hB);have wF:∀(j size:Nat)(rows:List (List D)),res.flatten[j]?=some (D.sl size rows)->∃c,wc.flatten[j]?=some c/\XN (Tof T0 fun b=>X b\/Y b) w' c (D.sl size rows):=fun j size rows hj=>vo.get' j _ hj;have wW:∀j,(σ.new d (Kp d res) (JV res.flatten)).ob d j=Zq (JV res.flatten) j:=fun j=>by rw[St.Xj];simp[wO]
  have oA:∀j,Zq (JV res.flatten) j≠ .none->∃size rows,res.flatten[j]?=some (D.sl size rows):=by
   intro j wC;rw[xy]at wC;split at wC
   ·rename_i size rows hj;exact⟨size,rows,hj⟩
   ·exact absurd rfl wC
  refine r.new w8 (Below.grownBy vY) (fun b hb=>.inl hb) (fun b hb=>hb.imp id (fun hy=>hY b hy)) (Kp d res) (qz vs) (JV res.flatten) (fun j=>Hd.of ((wc.flatten[j]?).getD undef)) ?_ (fun j=>?_) (fun j b _ hb=>hb) (fun j b wC hb=>?_) (fun j j' b wC wq hb wP=>?_)
  ·refine Ts wj (Vj (fun _ _ _ _ _ hr=>XN.top hr) uP) (fun i size rows hi=>⟨false,?_⟩) (fun i c hi=>by simp[hi,Hd.of]);rw[wW,xy,hi]
  ·rw[xy];split
   ·rename_i size rows hj;obtain⟨c,wk,wI⟩:=wF j size rows hj;obtain⟨e,xs,ho,hz,wE⟩:=wI;exact⟨e,xs,by rw[wk];exact ho,hz,wE⟩
   ·trivial
  ·obtain⟨size,rows,hj⟩:=oA j wC;obtain⟨c,wk,_⟩:=wF j size rows hj;have wP:blk c=some b:=by simpa[Hd.of,wk]using hb
   have:=s4.1 j c _ b wk hj rfl wP;refine⟨this.1,?_,this.2.1⟩;rintro(hx|hy)
   ·have:=r.hX b hx;omega
   ·exact this.2.2 hy
  ·obtain⟨size,rows,hj⟩:=oA j wC;obtain⟨wi,wQ,uh⟩:=oA j' wq;obtain⟨c,wk,_⟩:=wF j size rows hj;obtain⟨c2,tv,_⟩:=wF j' wi wQ uh;exact s4.2 j j' c c2 _ _ b wk hj tv uh rfl rfl (by simpa[Hd.of,wk]using hb) (by simpa[Hd.of,tv]using wP)
open Go.RowKit
theorem YL.xb(hg:w.grownBy w' none)(hB:∀b,B b->b<w.heap.size):YL B w w':=⟨hg.os,hg.tape,hg.output,hg.size,fun k hk=>hg.block k (hB k hk) fM⟩
theorem Rel.Lg(r:Rel T0 B σ a w X h)(hf:σ.fresh d=true)(cs:Array Value)(T:TypeId)(xs:List At)(hx:Zd d xs=false)(wE:ZU (Zf (Tof T0 X) h σ.ob w) xs cs.toList):
  Xx T0 B (σ.new d (.one (.bptr d 0)) [.box xs]) (a.put (some d) (.pointer (some ⟨w.heap.size,0,none⟩))) (w.alloc (.cells cs T))/\YL B w (w.alloc (.cells cs T)):=by
 have hg:=World.grownBy_alloc w (.cells cs T) none;have wO:=St.JG hf;have hT:∀b k v,Tof T0 X b k->w.cell? ⟨b,k,none⟩=some v->(w.alloc (.cells cs T)).cell? ⟨b,k,none⟩=some v/\Tof T0 X b k:=by intro b k v hb wF;refine⟨?_,hb⟩;rw[World.cell?_of_block (hg.block b (r.Tlt hb) fM)];exact wF
 refine⟨⟨X,fun t j=>if t=d then Hd.of (.pointer (some ⟨w.heap.size,0,none⟩))else h t j,?_⟩,YL.xb hg r.hB⟩;have vS:(σ.new d (.one (.bptr d 0)) [.box xs]).ob d 0= .box xs:=eC
 have hc:∀t j,t≠d->Cpt h (fun t j=>if t=d then Hd.of (.pointer (some ⟨w.heap.size,0,none⟩))else h t j) σ.ob (σ.new d (.one (.bptr d 0)) [.box xs]).ob t j:=by
  intro t j wC;have he:(σ.new d (.one (.bptr d 0)) [.box xs]).ob t j=σ.ob t j:=eV
  exact Cpt.same (by simp[wC]) he
 refine r.new hf hg (fun _ hb=>hb) (fun _ hb=>.inl hb) _ _ [.box xs] (fun _=>Hd.of (.pointer (some ⟨w.heap.size,0,none⟩))) ?_ (fun j=>?_) (fun j b _ hb=>hb) (fun j b _ hb=>?_) (fun j j' b wC wq _ _=>?_)
 ·exact⟨rfl,fun cells _=>⟨w.heap.size,by simp[Hd.of],rfl⟩⟩
 ·cases j with
  |zero=>refine⟨w.heap.size,cs,T,rfl,?_,yN hT hc hx wE⟩;exact heap_alloc_new w _
  |succ j=>simp[Zq,Xo]
 ·simp[Hd.of,blk]at hb;subst hb;refine⟨Nat.le_refl _,fun tF=>?_,fM⟩;have:=(r.hX _ tF).2;omega
 ·have:∀j,Zq [Ob.box xs] j≠ .none->j=0:=by
   intro j hj;cases j with
   |zero=>rfl
   |succ j=>simp[Zq]at hj
  rw[this j wC,this j' wq]
theorem Rel.L0(r:Rel T0 B σ a w X h)(hf:σ.fresh d=true)(hg:w.grownBy w' none)(v:Value)
  (ho:XN (Tof T0 X) w' v (.sl size rows)) (hb:∀b,blk v=some b->w.heap.size<=b/\b<w'.heap.size):
  Xx T0 B (σ.new d (.one (.sref d 0 0 rows.length)) [.arr false size rows]) (a.put (some d) v) w'/\YL B w w':=by
 have wO:=St.JG hf;refine⟨⟨X,fun t j=>if t=d then Hd.of v else h t j,?_⟩,YL.xb hg r.hB⟩;have vS:(σ.new d (.one (.sref d 0 0 rows.length)) [.arr false size rows]).ob d 0= .arr false size rows:=eC;obtain⟨e,xs,wI,hz,wE⟩:=ho;refine r.new hf hg (fun _ hb=>hb) (fun _ hb=>.inl hb) _ _ [.arr false size rows] (fun _=>Hd.of v) ?_ (fun j=>?_) (fun j b _ hb=>hb) (fun j b _ wP=>?_) (fun j j' b wC wq _ _=>?_)
 ·refine⟨JC wI,fun q' wi wQ wV=>?_,fun wi wQ wV=>by rw[vS]at wV;cases wV⟩;rw[vS]at wV;cases wV;simp only[if_true];exact jq wI
 ·cases j with
  |zero=>exact⟨e,xs,wI,hz,wE⟩
  |succ j=>simp[Zq,Xo]
 ·have:=hb b wP;refine⟨this.1,fun tF=>?_,this.2⟩;have:=(r.hX _ tF).2;omega
 ·have:∀j,Zq [Ob.arr false size rows] j≠ .none->j=0:=by
   intro j hj;cases j with
   |zero=>rfl
   |succ j=>simp[Zq]at hj
  rw[this j wC,this j' wq]
theorem Rel.Iv(r:Rel T0 B σ a w X h)(hf:σ.fresh d=true)(hg:w.grownBy w' none)(v:Value){e:TypeId}{xs:List Value}
  (wI:w'.ownsRow 0 e size v rows.length xs) (hz:∀r∈rows,r.length=size) (wE:Qk w' xs rows.flatten (fun _=>False)) (hb:∀b,blk v=some b->w.heap.size<=b/\b<w'.heap.size):
  Xx T0 B (σ.new d (.one (.sref d 0 0 rows.length)) [.arr true size rows]) (a.put (some d) v) w'/\YL B w w':=by
 have wO:=St.JG hf;refine⟨⟨X,fun t j=>if t=d then⟨v,fun k=>(xs[k]?).getD undef,fun b=>blk v=some b⟩else h t j,?_⟩,YL.xb hg r.hB⟩;have vS:(σ.new d (.one (.sref d 0 0 rows.length)) [.arr true size rows]).ob d 0= .arr true size rows:=eC;refine r.new hf hg (fun _ hb=>hb) (fun _ hb=>.inl hb) _ _ [.arr true size rows] (fun _=>⟨v,fun k=>(xs[k]?).getD undef,fun b=>blk v=some b⟩) ?_ (fun j=>?_) (fun j b _ hb=>hb) (fun j b _ wP=>?_) (fun j j' b wC wq _ _=>?_)
 ·refine⟨JC wI,fun q' wi wQ wV=>?_,fun wi wQ wV=>by rw[vS]at wV;cases wV⟩;rw[vS]at wV;cases wV;simp only[if_true];exact jq wI
 ·cases j with
  |zero=>obtain⟨hl,Sk,h1,h2,h3⟩:=wE;exact⟨e,xs,wI,hz,⟨hl,Sk,h1,fun k b hk=>(h2 k b hk).elim,h3⟩,fun k x d hx _ _=>by simp[hx]⟩
  |succ j=>simp[Zq,Xo]
 ·have:=hb b wP;refine⟨this.1,fun tF=>?_,this.2⟩;have:=(r.hX _ tF).2;omega
 ·have:∀j,Zq [Ob.arr true size rows] j≠ .none->j=0:=by
   intro j hj;cases j with
   |zero=>rfl
   |succ j=>simp[Zq]at hj
  rw[this j wC,this j' wq]
theorem P2(r:Rel T0 B σ a w X h){T:TypeId}{row:List At}(wA:o.op= .alloc T)(hd:o.dst=some d)(hf:σ.fresh d=true)(hz:YR P T=true)(uG:zk P 12 T=some row)(wg:Zd d row=false)
  (hK:∀a' w',Xx T0 B (σ.new d (.one (.bptr d 0)) [.box row]) a' w'->YL B w w'->K a' w'):o.wp P a w K Q:=by
 obtain⟨i,z,hi,lJ,vK,wE⟩:=Us hz uG;have wU:(execOp a.eval o).run P w= .ok (.value (.pointer (some ⟨w.heap.size,0,none⟩))) (w.alloc (.cells z.cells T)):=by simp[execOp,wA,Instr.alloc,zeroValue,typeInfo,hi,lJ,newVar,newRow]
 unfold Oper.wp;rw[wU,Oper.upon_value,hd];have:=r.Lg hf z.cells T row wg (wE _ _ _ _)
 exact hK _ _ this.1 this.2
theorem MO(r:Rel T0 B σ a w X h){T:TypeId}(wA:o.op= .box T x)(hd:o.dst=some d)(hf:σ.fresh d=true)(hg:gOf (look P σ T x)=true)(vV:(unc (look P σ T x)).flat=true)(wg:Zd d (unc (look P σ T x)).cells=false)
  (hK:∀a' w',Xx T0 B (σ.new d (.one (.bptr d 0)) [.box (unc (look P σ T x)).cells]) a' w'->YL B w w'->K a' w'):o.wp P a w K Q:=by
 have wE:=yx vV (r.arg (P:=P) T x rfl hg);have wU:(execOp a.eval o).run P w= .ok (.value (.pointer (some ⟨w.heap.size,0,none⟩))) (w.alloc (.cells (a.eval x).cells T)):=by simp[execOp,wA,Instr.box,newVar,newRow]
 unfold Oper.wp;rw[wU,Oper.upon_value,hd];have:=r.Lg hf (a.eval x).cells T _ wg wE
 exact hK _ _ this.1 this.2
end Go.Vm
