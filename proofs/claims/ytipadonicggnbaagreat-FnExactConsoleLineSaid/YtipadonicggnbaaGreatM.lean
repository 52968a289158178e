/- Models of the functions: what each computes, on typed data. No condition. -/
import Derived.Test.YtipadonicggnbaaGreatMo
namespace Go.Mo
open Go.Vm
set_option linter.unusedVariables false
def Ug(A:List YZ)(E:Int):Int:=letI b:=W (E-(A.length:Int));bif b<0 then-1 else b
def xA(A:List ZX)(E:Int):Int:=letI b:=W (E-(A.length:Int));bif b<0 then-1 else b
def SR(A:List Z8)(E:Int):Int:=letI b:=W (E-(A.length:Int));bif b<0 then-1 else b
def QD(A:ZP)(E:Int):Int:=letI b:=Ug A.a E;letI c:=xA A.b b;letI d:=SR A.c c;bif b<0 then-1 else bif c<0 then-1 else bif d<0 then-1 else d
def Qp(A:List Yv)(E:Int):Int:=letI b:=W (E-(A.length:Int));bif b<0 then-1 else b
def Xp(A:List Int)(E:Int):Int:=letI b:=W (E-(A.length:Int));bif b<0 then-1 else b
def Tt(A:List ByteArray):Nat->Int->Nat->Sum Int Int
  |0,_,_=>.inr default
  |D+1,J,U=>letI b:=W (J-((C A U).size:Int));bif(U:Int)<(A.length:Int)then bif b<0 then .inl (-1)else Tt A D b (U+1)else .inr J
def WG(A:List ByteArray)(E:Int):Int:=letI b:=W (E-(A.length:Int));bif b<0 then-1 else(match Tt A (A.length+1) b 0 with|.inl r1=>r1|.inr a=>a)
def jR(A:ZV)(E:Int):Int:=letI b:=WG A.a E;letI c:=Xp A.d b;bif b<0 then-1 else bif c<0 then-1 else c
def NV(A:ZS)(E:Int):Int:=letI b:=Xp A.a E;bif b<0 then-1 else b
def RU(A:List ZS):Nat->Int->Nat->Sum Int Int
  |0,_,_=>.inr default
  |D+1,J,U=>letI b:=NV (C A U) J;bif(U:Int)<(A.length:Int)then bif b<0 then .inl (-1)else RU A D b (U+1)else .inr J
def Vs(A:List ZS)(E:Int):Int:=letI b:=W (E-(A.length:Int));bif b<0 then-1 else(match RU A (A.length+1) b 0 with|.inl r1=>r1|.inr a=>a)
def TQ(A:List Y9)(E:Int):Int:=letI b:=W (E-(A.length:Int));bif b<0 then-1 else b
def Pu(A:List ZW)(E:Int):Int:=letI b:=W (E-(A.length:Int));bif b<0 then-1 else b
def SZ(A:Zc)(E:Int):Int:=letI b:=TQ A.c E;letI c:=Pu A.a b;bif b<0 then-1 else bif c<0 then-1 else c
def U8(A:List Zc):Nat->Int->Nat->Sum Int Int
  |0,_,_=>.inr default
  |D+1,J,U=>letI b:=SZ (C A U) J;bif(U:Int)<(A.length:Int)then bif b<0 then .inl (-1)else U8 A D b (U+1)else .inr J
def Ux(A:List Zc)(E:Int):Int:=letI b:=W (E-(A.length:Int));bif b<0 then-1 else(match U8 A (A.length+1) b 0 with|.inl r1=>r1|.inr a=>a)
def PZ(A:ZY)(E:Int):Int:=letI b:=Vs A.a E;letI c:=Ux A.b b;bif b<0 then-1 else bif c<0 then-1 else c
def Po(A:ZU)(E:Int):Int:=letI b:=jR A.c E;letI c:=PZ A.a b;bif b<0 then-1 else bif c<0 then-1 else c
def SS(A:List ZU):Nat->Int->Nat->Sum Int Int
  |0,_,_=>.inr default
  |D+1,J,U=>letI b:=Po (C A U) J;bif(U:Int)<(A.length:Int)then bif b<0 then .inl (-1)else SS A D b (U+1)else .inr J
def Wr(A:List ZU)(E:Int):Int:=letI b:=W (E-(A.length:Int));bif b<0 then-1 else(match SS A (A.length+1) b 0 with|.inl r1=>r1|.inr a=>a)
def jB(A:ZE)(E:Int):Int:=letI b:=Wr A.a E;bif b<0 then-1 else b
def WO(A:List ZE):Nat->Int->Nat->Sum Int Int
  |0,_,_=>.inr default
  |D+1,J,U=>letI b:=jB (C A U) J;bif(U:Int)<(A.length:Int)then bif b<0 then .inl (-1)else WO A D b (U+1)else .inr J
def Qv(A:List ZE)(E:Int):Int:=letI b:=W (E-(A.length:Int));bif b<0 then-1 else(match WO A (A.length+1) b 0 with|.inl r1=>r1|.inr a=>a)
def Rp(A:ZF)(E:Int):Int:=letI b:=QD A.b E;letI c:=Qp A.c b;letI d:=Xp A.d c;letI e:=Qv A.a d;letI f:=Xp A.e e;letI g:=Xp A.f f;letI h:=Xp A.g g;bif b<0 then-1 else bif c<0 then-1 else bif d<0 then-1 else bif e<0 then-1 else bif f<0 then-1 else bif g<0 then-1 else bif h<0 then-1 else h
def jA(A:ByteArray)(E:Int):Nat->List ByteArray->Int->Nat->List ByteArray
  |0,_,_,_=>default
  |D+1,J,U,p=>letI b:=(p:Int);letI c:=(A.size:Int);letI d:=p+1;bif b<=c then bif b==c||((bk A p):Int)==E then jA A E D (J++[A.extract U.toNat p]) (W (b+1)) d else jA A E D J U d else J
def QJ(A:ByteArray)(E:Int):List ByteArray:=match jA A E (A.size+2) [] 0 0 with|a=>a
def yy(A:ByteArray):Nat->List ByteArray->Nat->List ByteArray
  |0,_,_=>default
  |D+1,J,U=>letI b:=QJ A 32;bif(U:Int)<(b.length:Int)then bif !decide (C b U=(⟨#[]⟩:ByteArray))then yy A D (J++[C b U]) (U+1)else yy A D J (U+1)else J
def Z0(A:ByteArray):List ByteArray:=match yy A ((QJ A 32).length+1) [] 0 with|a=>a
def JE:Nat->Int->List UInt8->List UInt8
  |0,_,_=>default
  |D+1,J,U=>letI b:=Int.tmod J 10;letI c:=W (Int.tdiv J 10);letI d:=([UInt8.ofInt (W (48+W (-b)))]:List UInt8)++U;letI e:=([UInt8.ofInt (W (48+b))]:List UInt8)++U;bif b<0 then bif c==0 then d else JE D c d else bif c==0 then e else JE D c e
def Zr(A:Int):ByteArray:=(match JE 21 A []with|a=>letI b:=(⟨a.toArray⟩:ByteArray);bif A<0 then(⟨#[45]⟩:ByteArray)++b else b)
def yd(A:ByteArray):Nat->Int->Nat->Sum (Int×Bool) Int
  |0,_,_=>.inr default
  |D+1,J,U=>letI b:=((bk A U):Int);bif(U:Int)<(A.size:Int)then bif b<48||b>57 then .inl (0,false)else yd A D (W (W (10*J)+W (IntKind.u8.wrap (b-48)))) (U+1)else .inr J
def YY(A:ByteArray):Int×Bool:=bif A=(⟨#[]⟩:ByteArray)||(A.size:Int)>13 then(0,false)else(match yd A (A.size+1) 0 0 with|.inl r1=>r1|.inr a=>bif a>1000000000000||!decide (Zr a=A)then(0,false)else(a,true))
def JV(A:List ByteArray):Nat->List Int->Nat->Sum (List Int×Bool) (List Int)
  |0,_,_=>.inr default
  |D+1,J,U=>letI b:=YY (C A U);bif(U:Int)<(A.length:Int)then bif !b.2 then .inl ([],false)else JV A D (J++[b.1]) (U+1)else .inr J
def Zl(A:List ByteArray):(List Int)×Bool:=match JV A (A.length+1) [] 0 with|.inl r1=>r1|.inr a=>(a,true)
def ZJ(A E G:Int):Bool:=decide (E<=A)&&decide (A<=G)
def xw(A:Int):Bool:=ZJ A 1 2147483646
def iV(A E:Int):Int:=bif !(ZJ E 1 1000000000000)then 0 else Int.tmod (W (Int.tmod A E+E)) E
def FP(A:List Int):Nat->Int->Nat->Int
  |0,_,_=>default
  |D+1,J,U=>bif(U:Int)<(A.length:Int)then FP A D (Int.tmod (W (W (W (J*1000003)+iV (C A U) 2147483647)+13)) 2147483647) (U+1)else J
def DT(A:List Int):Int:=match FP A (A.length+1) 11 0 with|a=>a
def yp(A:Int)(E:List Int):Int:=letI b:=([A]:List Int);DT (b++E++b)
def we(A E:Int):Int:=if E>A then E else A
def Uf(A:ZV):Nat->Nat->Sum Bool Unit
  |0,_=>.inr ()
  |D+1,J=>bif(J:Int)<(A.a.length:Int)then bif((C A.a J).size:Int)>40||!(ZJ (C A.d J) 1 1000000000000)then .inl false else Uf A D (J+1)else .inr ()
def Xm(A:ZV):Bool:=letI b:=A.a.length;bif !(ZJ A.e 0 999)||!(ZJ (b:Int) 1 6)||(A.d.length:Int)!=(b:Int)then false else(match Uf A (b+1) 0 with|.inl r1=>r1|.inr _=>true)
def zc(A:Int)(E:List ByteArray)(G:Int):Nat->Nat->List Int->List Int
  |0,_,_=>default
  |D+1,J,U=>bif(J:Int)<(E.length:Int)then zc A E G D (J+1) (U++([we 1 (yp G [A,(J:Int)])]:List Int))else U
def Y0(A:Int)(E:List ByteArray)(G:Int):ZV×Bool:=letI b:=([]:List Int);letI c:=(ZV.mk 0 [] b,false);bif !(xw G)||(E.length:Int)>6 then c else(match zc A E G (E.length+1) 0 b with|a=>letI d:=ZV.mk A E a;bif !(Xm d)then c else(d,true))
def SF(A:ZP):ZP:=A
def GV(A:List Int):List Int:=A
def WH(A:ZV):ZV:=A
def SM(A:ZS):ZS:=A
def kg(A:List ZS):Nat->List ZS->Nat->List ZS
  |0,_,_=>default
  |D+1,J,U=>bif(U:Int)<(A.length:Int)then kg A D (J++[C A U]) (U+1)else J
def We(A:List ZS):List ZS:=match kg A (A.length+1) [] 0 with|a=>a
def Mt(A:List ZW):List ZW:=A
def VI(A:Zc):Zc:=A
def kj(A:ZY):Nat->Nat->List Zc->List Zc
  |0,_,_=>default
  |D+1,J,U=>bif(J:Int)<(A.b.length:Int)then kj A D (J+1) (U++[C A.b J])else U
def Wu(A:ZY):ZY:=match kj A (A.b.length+1) 0 []with|a=>ZY.mk A.a a
def PI(A:ZU):ZU:=A
def jv(A:ZE):Nat->Nat->List ZU->List ZU
  |0,_,_=>default
  |D+1,J,U=>bif(J:Int)<(A.a.length:Int)then jv A D (J+1) (U++[C A.a J])else U
def kN(A:ZE):ZE:=match jv A (A.a.length+1) 0 []with|a=>ZE.mk A.b a
def W6(A:ZF):Nat->Nat->List ZE->List ZE
  |0,_,_=>default
  |D+1,J,U=>bif(J:Int)<(A.a.length:Int)then W6 A D (J+1) (U++[C A.a J])else U
def V4(A:ZF):ZF:=match W6 A (A.a.length+1) 0 []with|a=>ZF.mk A.b A.c A.d a A.e A.f A.h A.g
def zV(A:ZF)(E:Int):ZF×Bool:=letI b:=A.b;letI c:=W (b.d+E);bif !(ZJ E 0 100)||c>10000 then(A,false)else(ZF.mk (ZP.mk b.a b.b b.c b.e c) A.c A.d A.a A.e A.f A.h A.g,true)
def Sf(A:List YZ)(E:Int):Nat->Nat->Sum Int Unit
  |0,_=>.inr ()
  |D+1,J=>bif(J:Int)<(A.length:Int)then bif(C A J).c==E then .inl (J:Int)else Sf A E D (J+1)else .inr ()
def Zi(A:List YZ)(E:Int):Int:=match Sf A E (A.length+1) 0 with|.inl r1=>r1|.inr _=>-1
def qX(A:List Z8)(E:Int):Nat->Int->Nat->Int
  |0,_,_=>default
  |D+1,J,U=>letI b:=C A U;bif(U:Int)<(A.length:Int)then bif b.c<=E&&E<b.a&&(J<0||b.a>(C A J.toNat).a)then qX A E D (U:Int) (U+1)else qX A E D J (U+1)else J
def ZL(A:List Z8)(E:Int):Int:=match qX A E (A.length+1) (-1) 0 with|a=>bif a<0 then-1 else(C A a.toNat).b
def Zw(A:ZF)(E:Int):Bool:=ZJ E 0 (W ((A.a.length:Int)-1))
def WJ(A:List UInt8):Nat->List Int->Nat->List Int
  |0,_,_=>default
  |D+1,J,U=>bif(U:Int)<(A.length:Int)then WJ A D (J++[W ((C A U).toNat:Int)]) (U+1)else J
def Rw(A:List UInt8):List Int:=match WJ A (A.length+1) [] 0 with|a=>a
def QS(A:Int)(E:List Int):Int:=DT ([7,A]++E)
def yb(A:Int)(E:ByteArray)(G:Int):Int:=QS A ([G]++Rw E.data.toList)
def T6(A:Int)(E:ZV):Nat->List Int->Nat->List Int
  |0,_,_=>default
  |D+1,J,U=>bif(U:Int)<(E.a.length:Int)then T6 A E D (J++[yb A (C E.a U) (C E.d U)]) (U+1)else J
def Yh(A:Int)(E:ZV):Int:=bif !(Xm E)then-1 else(match T6 A E (E.a.length+1) [E.e] 0 with|a=>QS A a)
def Xk(A:Zu):List Int:=([104,A.c,A.a,A.b,A.e,A.h,A.g,A.i,A.d]:List Int)
def jQ(A:YZ)(E:List Int):Int:=yp A.d ([A.b]++E)
def yX(A:List YZ)(E:Int)(G:List Int):Int×Bool:=letI b:=Zi A E;bif b<0 then(0,false)else(jQ (C A b.toNat) G,true)
def Jp(A:Zu):Bool:=ZJ A.c 1 99&&ZJ A.a 1 999&&ZJ A.b 0 99&&ZJ A.g 0 99&&ZJ A.h 1 3&&ZJ A.e 0 1000000000000&&ZJ A.i 0 1000000000000&&ZJ A.d 0 1000000000000
def XJ(A:List YZ)(E:Zu):Zu×Bool:=letI b:=yX A E.c (Xk E);bif !(Jp E)||!b.2 then(Zu.mk 0 0 0 0 0 0 0 0 0,false)else(Zu.mk E.c E.a E.b E.e E.h E.g E.i E.d b.1,true)
def Yf(A:Zu):ZS:=ZS.mk A.c (Xk A) A.f
def yT(A:Yv):List Int:=([101,A.a,A.c,A.g,A.d,A.b,A.e]:List Int)
def Kk(A:Yv):ZS:=ZS.mk A.e (yT A) A.f
def WZ(A:ZE)(E:Int):Nat->Nat->Sum Int Unit
  |0,_=>.inr ()
  |D+1,J=>bif(J:Int)<(A.a.length:Int)then bif(C A.a J).b==E then .inl (J:Int)else WZ A E D (J+1)else .inr ()
def B(A:ZE)(E:Int):Int:=match WZ A E (A.a.length+1) 0 with|.inl r1=>r1|.inr _=>-1
def yF(A:Int):Bool:=ZJ A 0 10000
def Tu(A E:List Int):Nat->Nat->Sum Bool Unit
  |0,_=>.inr ()
  |D+1,J=>bif(J:Int)<(A.length:Int)then bif C A J !=C E J then .inl false else Tu A E D (J+1)else .inr ()
def UC(A E:List Int):Bool:=bif(A.length:Int)!=(E.length:Int)then false else(match Tu A E (A.length+1) 0 with|.inl r1=>r1|.inr _=>true)
def Kx(A E:ZS):Bool:=A.c==E.c&&A.f==E.f&&UC A.a E.a
def xe(A:List ZS)(E:ZS):Nat->Nat->Sum Bool Unit
  |0,_=>.inr ()
  |D+1,J=>bif(J:Int)<(A.length:Int)then bif Kx (C A J) E then .inl true else xe A E D (J+1)else .inr ()
def QF(A:List ZS)(E:ZS):Bool:=match xe A E (A.length+1) 0 with|.inl r1=>r1|.inr _=>false
def Rm(A:ZY):Nat->Nat->Sum Bool Unit
  |0,_=>.inr ()
  |n2+1,q=>letI b:=(q:Int);letI c:=(C A.b q).d;bif b<(A.b.length:Int)then bif !(ZJ c 1 (A.a.length:Int))||b>0&&c<(C A.b (q-1)).d then .inl false else Rm A n2 (q+1)else .inr ()
def Ro(A:ZY):Nat->Nat->Sum Bool Unit
  |0,_=>.inr ()
  |D+1,J=>bif(J:Int)<(A.a.length:Int)then bif QF (A.a.take J) (C A.a J)then .inl false else Ro A D (J+1)else .inr ()
def qF(A:ZY):Bool:=letI b:=A.a.length;letI c:=A.b.length;bif !(ZJ (b:Int) 1 12)||(c:Int)>8 then false else(match Ro A (b+1) 0 with|.inl r1=>r1|.inr _=>(match Rm A (c+1) 0 with|.inl r2=>r2|.inr _=>true))
def N1(A:ZU):Bool:=ZJ A.b 1 999&&yF A.e&&Xm A.c&&qF A.a&&Kx (C A.a.a 0) (Yf A.d)
def Tx(A:ZE):Nat->Nat->Sum Bool Unit
  |0,_=>.inr ()
  |D+1,J=>letI b:=C A.a J;bif(J:Int)<(A.a.length:Int)then bif !(N1 b)||(J:Int)>0&&(C A.a (J-1)).b>=b.b then .inl false else Tx A D (J+1)else .inr ()
def QC(A:ZE):Bool:=letI b:=A.a.length;match Tx A (b+1) 0 with|.inl r1=>r1|.inr _=>ZJ A.b 0 99&&decide ((b:Int)<=8)
def X3(A:ZE)(E:ZU):Nat->Nat->Nat
  |0,_=>default
  |D+1,J=>bif(J:Int)<(A.a.length:Int)&&(C A.a J).b<E.b then X3 A E D (J+1)else J
def XE(A:ZE)(E:ZU):ZE×Bool:=bif B A E.b>=0||!(QC A)then(A,false)else(match X3 A E (A.a.length+1) 0 with|a=>letI b:=ZE.mk A.b (A.a.take a++[E]++A.a.drop a);bif !(QC b)then(A,false)else(b,true))
def J5(A:ZF)(E G:Int)(V:ZV)(a4 a5:Int):Nat->Nat->Sum (ZF×Bool) Unit
  |0,_=>.inr ()
  |D+1,J=>letI b:=C A.c J;letI c:=A.b;letI d:=ZL c.c c.d;letI e:=XJ c.a (Zu.mk G b.a d (Yh d V) 1 a4 0 0 0);letI f:=XE (C A.a E.toNat) (ZU.mk A.h a5 V e.1 (ZY.mk [Yf e.1,Kk b] []));bif(J:Int)<(A.c.length:Int)then bif b.c !=G then J5 A E G V a4 a5 D (J+1)else bif !e.2||!f.2 then .inl (A,false)else .inl (ZF.mk c A.c A.d (A.a.set E.toNat f.1) A.e A.f (W (A.h+1)) A.g,true)else .inr ()
def Xc(A:ZF)(E G:Int)(V:ZV)(a4 a5:Int):ZF×Bool:=letI b:=A.b;bif !(Zw A E)||Zi b.a G<0||ZL b.c b.d<0 then(A,false)else(match J5 A E G V a4 a5 (A.c.length+1) 0 with|.inl r1=>r1|.inr _=>(A,false))
def Kc(A:ZF)(E G:Int)(V:ZV)(a4 a5:Int):ZF×Bool:=letI b:=Zi A.b.a G;letI c:=Xc A E G V a4 a5;bif b<0||(C A.b.a b.toNat).a>A.b.d then(A,false)else(c.1,c.2)
def TO(A:ZF)(E:Int):Nat->Nat->Sum (Int×Int) Unit
  |0,_=>.inr ()
  |D+1,J=>letI b:=B (C A.a J) E;bif(J:Int)<(A.a.length:Int)then bif b>=0 then .inl ((J:Int),b)else TO A E D (J+1)else .inr ()
def u(A:ZF)(E:Int):Int×Int:=match TO A E (A.a.length+1) 0 with|.inl r1=>r1|.inr _=>(-1,-1)
def Yc(A:ZS):Int:=letI b:=(A.a.length:Int);letI c:=C A.a 0;bif b==0||!(ZJ c 101 105)||b !=C [7,5,5,9,6] (W (c-101)).toNat then 0 else c
def v(A:ZS):Yv×Bool:=letI b:=A.a;bif Yc A !=101||C b 6 !=A.c then(Yv.mk 0 0 0 0 0 0 0,false)else(Yv.mk (C b 1) (C b 2) (C b 3) (C b 4) (C b 5) (C b 6) A.f,true)
def Wm(A:List Yv)(E:Int):Nat->Nat->Sum Int Unit
  |0,_=>.inr ()
  |D+1,J=>bif(J:Int)<(A.length:Int)then bif(C A J).a==E then .inl (J:Int)else Wm A E D (J+1)else .inr ()
def Zj(A:List Yv)(E:Int):Int:=match Wm A E (A.length+1) 0 with|.inl r1=>r1|.inr _=>-1
def Ye(A:ZF)(E:Int):Int×Int×Bool:=letI b:=u A E;letI c:=(C (C A.a b.1.toNat).a b.2.toNat).a.a;letI d:=v (C c 1);letI e:=Zj A.c d.1.a;bif b.1<0||(c.length:Int)<2 then(0,0,false)else(b.1,e,d.2&&e>=0)
def J0(A:O):List Int:=([102,A.a,A.b,A.d,A.e]:List Int)
def Tm(A:O):Bool:=ZJ A.a 1 999&&yF A.b&&ZJ A.d (-1) (W (A.b+1))&&ZJ A.e 1 99
def Zv(A:List YZ)(E:O):O×Bool:=letI b:=yX A E.e (J0 E);bif !(Tm E)||!b.2 then(O.mk 0 0 0 0 0,false)else(O.mk E.a E.b E.d E.e b.1,true)
def Z1(A:O):ZS:=ZS.mk A.e (J0 A) A.f
def Jb(A:ZY)(E:ZS):ZY×Bool:=letI b:=ZY.mk (A.a++[E]) A.b;bif !(qF b)then(A,false)else(b,true)
def YP(A:ZE)(E:Int)(G:ZS):ZE×Bool:=letI b:=B A E;letI c:=C A.a b.toNat;letI d:=Jb c.a G;bif b<0 then(A,false)else(ZE.mk A.b (A.a.set b.toNat (ZU.mk c.b c.e c.c c.d d.1)),d.2)
def Kd(A:ZF)(E G:Int)(V:O):ZF×Bool:=letI b:=Zv A.b.a V;letI c:=YP (C A.a E.toNat) G (Z1 b.1);bif !b.2||!c.2 then(A,false)else(ZF.mk A.b A.c A.d (A.a.set E.toNat c.1) A.e A.f A.h A.g,true)
def Jy(A:ZF)(E:Int):ZF×Bool:=letI b:=Ye A E;letI c:=C A.c b.2.1.toNat;letI d:=Zi A.b.a c.e;letI e:=A.b.d;letI f:=C A.d b.2.1.toNat;letI g:=Kd A b.1 E (O.mk c.a e (-1) c.e 0);letI h:=Kd A b.1 E (O.mk c.a e f c.e 0);bif !b.2.2||b.2.1>=(A.d.length:Int)then(A,false)else bif d<0||(C A.b.a d.toNat).a>e then(A,false)else bif f>W (e+1)then(g.1,g.2)else(h.1,h.2)
def J3(A:ZF)(E:Int):ZF×Bool:=bif !(ZJ E 0 (W ((A.d.length:Int)-1)))||C A.d E.toNat !=-1 then(A,false)else(ZF.mk A.b A.c (A.d.set E.toNat (W (A.b.d+1))) A.a A.e A.f A.h A.g,true)
def T4(A:List Int):Nat->Nat->Sum Bool Unit
  |0,_=>.inr ()
  |D+1,J=>bif(J:Int)<(A.length:Int)then bif C A (J-1)>=C A J then .inl false else T4 A D (J+1)else .inr ()
def yn(A:List Int):Bool:=match T4 A (A.length+1) 1 with|.inl r1=>r1|.inr _=>true
def Jd(A:ZW):List Int:=([103,A.a,A.c,A.b,A.e]:List Int)
def xl(E:Zc):Nat->List Int->Nat->List Int
  |0,_,_=>default
  |n2+1,q,n=>letI b:=C E.a n;bif(n:Int)<(E.a.length:Int)then xl E n2 (q++Jd b++[b.f]) (n+1)else q
def yJ(E:Zc):Nat->List Int->Nat->List Int
  |0,_,_=>default
  |D+1,J,U=>letI b:=C E.c U;bif(U:Int)<(E.c.length:Int)then bif b.a then yJ E D (J++[b.e,1]) (U+1)else yJ E D (J++[b.e,0]) (U+1)else J
def Qz(A:Int)(E:Zc):Int:=letI b:=E.a.length;match yJ E (E.c.length+1) [4,E.d,E.b,E.e] 0 with|a=>(match xl E (b+1) (a++[(b:Int)]) 0 with|f=>QS A f)
def Ws(A:Int)(E:List ZS):Nat->List Int->Nat->List Int
  |0,_,_=>default
  |D+1,J,U=>letI b:=C E U;bif(U:Int)<(E.length:Int)then Ws A E D (J++([QS A ([b.c,b.f]++b.a)]:List Int)) (U+1)else J
def KH(A:Int)(E:List ZS):Int:=match Ws A E (E.length+1) [2] 0 with|a=>QS A a
def SE(A E:Int)(G:List ZS)(V:Int):Int:=QS A [3,E,KH A G,V]
def JR(A:ZU)(E:Int):Int:=letI b:=A.a.b.length;letI c:=Yh E A.c;bif(b:Int)>0 then SE E c A.a.a (Qz E (C A.a.b (b-1)))else SE E c A.a.a 0
def kA(A:ZE)(E:Int):Nat->List Int->Nat->List Int
  |0,_,_=>default
  |D+1,J,U=>bif(U:Int)<(A.a.length:Int)then kA A E D (J++[JR (C A.a U) E]) (U+1)else J
def QZ(A:ZE)(E:Int):List Int:=match kA A E (A.a.length+1) [] 0 with|a=>a
def jV(A E G:Int):Int:=QS A [1,E,G]
def y8(A:Int)(E:List Int):Nat->List Int->Nat->List Int
  |0,_,_=>default
  |D+1,J,U=>letI b:=(E.length:Int);letI c:=W ((U:Int)+1);letI d:=C E U;bif(U:Int)<b then bif c<b then y8 A E D (J++[jV A d (C E c.toNat)]) (U+2)else y8 A E D (J++[d]) (U+2)else J
def Jw(A:Int)(E:List Int):List Int:=match y8 A E (E.length+1) [] 0 with|a=>a
def RY(A:Int):Nat->List Int->List Int
  |0,_=>default
  |D+1,J=>bif(J.length:Int)>1 then RY A D (Jw A J)else J
def ze(A:Int)(E:List Int):Int:=bif !(ZJ (E.length:Int) 1 16)then-1 else(match RY A (E.length+1) E with|a=>C a 0)
def JK(A:ZE)(E:Int):Int:=ze E (QZ A E)
def yN(A:List ZX)(E:Int):Nat->Nat->Sum Int Unit
  |0,_=>.inr ()
  |D+1,J=>bif(J:Int)<(A.length:Int)then bif(C A J).b==E then .inl (J:Int)else yN A E D (J+1)else .inr ()
def ZN(A:List ZX)(E:Int):Int:=match yN A E (A.length+1) 0 with|.inl r1=>r1|.inr _=>-1
def UJ(A:List Int)(E:Int):Nat->Nat->Sum Int Unit
  |0,_=>.inr ()
  |D+1,J=>bif(J:Int)<(A.length:Int)then bif C A J==E then .inl (J:Int)else UJ A E D (J+1)else .inr ()
def Kf(A:List Int)(E:Int):Int:=match UJ A E (A.length+1) 0 with|.inl r1=>r1|.inr _=>-1
def J6(A:List Int)(E:Int):Bool:=decide (Kf A E>=0)
def XU(A:List YZ)(E:List ZX)(G:ZW):ZW×Bool:=letI b:=G.a;letI c:=(ZW.mk 0 0 0 0 0,false);letI d:=yX A (C E (ZN E b).toNat).c (Jd G);bif ZN E b<0||G.c<0||!(yF G.b)then c else bif !d.2 then c else(ZW.mk b G.c G.b G.e d.1,true)
def zI(A:Int):Nat->List Int->Int->List Y9->List Y9
  |0,_,_,_=>default
  |D+1,J,U,p=>letI b:=(J.length:Int);letI c:=Jw A J;letI d:=W (Int.tdiv U 2);letI e:=W (U+1);bif b>1 then bif Int.tmod U 2==1 then zI A D c d (p++[Y9.mk (C J (W (U-1)).toNat) true])else bif e<b then zI A D c d (p++[Y9.mk (C J e.toNat) false])else zI A D c d p else p
def QU(A:Int)(E:List Int)(G:Int):List Y9:=letI b:=(E.length:Int);letI c:=([]:List Y9);bif !(ZJ G 0 (W (b-1)))||b>16 then c else(match zI A (E.length+1) E G c with|a=>a)
def XH(A:ZY)(E:Zc):ZY×Bool:=letI b:=ZY.mk A.a (A.b++[E]);bif !(qF b)then(A,false)else(b,true)
def QL(A:ZE)(E:Int)(G:List ZW):Nat->Nat->List ZU->Sum (ZE×Bool) (List ZU)
  |0,_,_=>.inr default
  |D+1,J,U=>letI b:=(C A.a J).a;letI c:=XH b (Zc.mk (b.a.length:Int) E (JK A E) (QU E (QZ A E) (J:Int)) G);letI d:=C U J;bif(J:Int)<(A.a.length:Int)then bif !c.2 then .inl (A,false)else QL A E G D (J+1) (U.set J (ZU.mk d.b d.e d.c d.d c.1))else .inr U
def Jl(A:ZE)(E:Int)(G:List ZW):ZE×Bool:=letI b:=A.a.length;bif(b:Int)==0||!(QC A)then(A,false)else(match QL A E G (b+1) 0 A.a with|.inl r1=>r1|.inr a=>letI c:=ZE.mk A.b a;bif !(QC c)then(A,false)else(c,true))
def QE(A:ZF)(E:Int)(G:List Int)(V:Int):Nat->List ZW->Nat->List Int->Sum (ZF×Bool) (List ZW×List Int)
  |0,_,_,_=>.inr (default,default)
  |D+1,J,U,p=>letI b:=A.b;letI c:=C G U;letI d:=ZN b.b c;letI e:=d.toNat;letI f:=Zi b.a (C b.b e).c;letI g:=b.d;letI h:=C A.e e;letI i:=W (g+V);letI j:=if i<10000 then i else 10000;letI k:=JK (C A.a E.toNat) (ZL b.c g);letI l:=XU b.a b.b (ZW.mk c h (if j>0 then j else 0) k 0);letI m:=p.set e (W (C p e+1));letI n:=XU b.a b.b (ZW.mk c h g k 0);bif(U:Int)<(G.length:Int)then bif d<0||d>=(A.e.length:Int)then .inl (A,false)else bif f<0||(C b.a f.toNat).a>g then .inl (A,false)else bif J6 A.f c then bif !l.2 then .inl (A,false)else QE A E G V D (J++[l.1]) (U+1) m else bif !n.2 then .inl (A,false)else QE A E G V D (J++[n.1]) (U+1) m else .inr (J,p)
def xd(A:ZF)(E:Int)(G:List Int)(V:Int):ZF×Bool:=letI b:=A.b;letI c:=ZL b.c b.d;bif !(Zw A E)||c<0||!(yn G)||(G.length:Int)==0||!(ZJ V (-10000) 10000)then(A,false)else(match QE A E G V (G.length+1) [] 0 A.e with|.inl r1=>r1|.inr (a,g)=>letI d:=Jl (C A.a E.toNat) c a;bif !d.2 then(A,false)else(ZF.mk b A.c A.d (A.a.set E.toNat d.1) g A.f A.h A.g,true))
def U0(A:Int)(E:ZU):Nat->List Int->Nat->List Int
  |0,_,_=>default
  |D+1,J,U=>bif(U:Int)<(E.a.b.length:Int)then U0 A E D (J++[Qz A (C E.a.b U)]) (U+1)else J
def UT(A:Int)(E:ZU):Int:=match U0 A E (E.a.b.length+1) [5,E.b,E.e,Yh A E.c,KH A E.a.a] 0 with|a=>QS A a
def kQ(A:Int)(E:List ZU):Nat->List Int->Nat->List Int
  |0,_,_=>default
  |D+1,J,U=>bif(U:Int)<(E.length:Int)then kQ A E D (J++[UT A (C E U)]) (U+1)else J
def xT(A:Int)(E:List ZU):Int:=match kQ A E (E.length+1) [] 0 with|a=>ze A a
def KK(A:ZE)(G:List Int):Nat->Nat->List ZU->Sum (XY×Bool) (List ZU)
  |0,_,_=>.inr default
  |D+1,J,U=>letI b:=B A (C G J);bif(J:Int)<(G.length:Int)then bif b<0 then .inl (XY.mk 0 0 [] 0,false)else KK A G D (J+1) (U++[C A.a b.toNat])else .inr U
def Yx(A:ZE)(E:Int)(G:List Int)(V:Int):XY×Bool:=letI b:=([]:List ZU);match KK A G (G.length+1) 0 b with|.inl r1=>r1|.inr a=>bif(G.length:Int)==0 then(XY.mk 0 0 b 0,false)else(XY.mk A.b E a (xT V a),true)
def yQ(A:XY):Nat->Nat->Sum Bool Unit
  |0,_=>.inr ()
  |D+1,J=>bif(J:Int)<(A.a.length:Int)then bif !(N1 (C A.a J))then .inl false else yQ A D (J+1)else .inr ()
def Jj(A:XY)(E:Int):Bool:=letI b:=A.a.length;match yQ A (b+1) 0 with|.inl r1=>r1|.inr _=>ZJ (b:Int) 1 8&&A.e==xT E A.a
def Qh(A:ZE)(E:XY):Nat->Nat->Int->List ZU->Sum (ZE×Bool) (Int×List ZU)
  |0,_,_,_=>.inr (default,default)
  |D+1,J,U,p=>letI b:=XE (ZE.mk U p) (C E.a J);bif(J:Int)<(E.a.length:Int)then bif !b.2 then .inl (A,false)else Qh A E D (J+1) b.1.b b.1.a else .inr (U,p)
def XC(A:ZE)(E:XY)(G:Int):ZE×Bool:=bif !(Jj E G)||E.b !=A.b then(A,false)else(match Qh A E (E.a.length+1) 0 A.b A.a with|.inl r1=>r1|.inr (a,g)=>(ZE.mk a g,true))
def KZ(A:ZE)(E:Int):ZE×Bool:=letI b:=B A E;bif b<0 then(A,false)else(ZE.mk A.b (A.a.take b.toNat++A.a.drop (W (b+1)).toNat),true)
def JH(A E:ZE)(G:List Int):Nat->Nat->Int->List ZU->Sum (ZE×ZE×Bool) (Int×List ZU)
  |0,_,_,_=>.inr (default,default)
  |D+1,J,U,p=>letI b:=KZ (ZE.mk U p) (C G J);bif(J:Int)<(G.length:Int)then bif !b.2 then .inl (A,E,false)else JH A E G D (J+1) b.1.b b.1.a else .inr (U,p)
def XT(A E:ZE)(G:List Int)(V:Int):ZE×ZE×Bool:=letI b:=Yx A E.b G V;letI c:=XC E b.1 V;bif !b.2||!c.2 then(A,E,false)else(match JH A E G (G.length+1) 0 A.b A.a with|.inl r1=>r1|.inr (a,g)=>(ZE.mk a g,c.1,true))
def je(A:ZF)(E G V:Int):ZF×Bool:=letI b:=A.b;letI c:=ZL b.c b.d;letI d:=XT (C A.a E.toNat) (C A.a G.toNat) [V] c;bif !(Zw A E)||!(Zw A G)||E==G||c<0 then(A,false)else bif d.2.2 then(ZF.mk b A.c A.d ((A.a.set E.toNat d.1).set G.toNat d.2.1) A.e A.f A.h A.g,d.2.2)else(A,d.2.2)
def Q0(A:ZE)(E:Int):Nat->Nat->List ZU->List ZU
  |0,_,_=>default
  |D+1,J,U=>letI b:=C A.a J;bif(J:Int)<(A.a.length:Int)then bif b.e>=E then Q0 A E D (J+1) (U++[b])else Q0 A E D (J+1) U else U
def zA(A:ZE)(E:Int):ZE×Int:=letI b:=A.a.length;match Q0 A E (b+1) 0 []with|a=>(ZE.mk A.b a,W ((b:Int)-(a.length:Int)))
def Jz(A:ZF)(E:Int):ZF×Bool:=bif !(Zw A E)then(A,false)else(ZF.mk A.b A.c A.d (A.a.set E.toNat (zA (C A.a E.toNat) A.b.d).1) A.e A.f A.h A.g,true)
def kv(A:List Z8)(E:Int):Nat->Nat->Sum Int Unit
  |0,_=>.inr ()
  |D+1,J=>bif(J:Int)<(A.length:Int)then bif(C A J).b==E then .inl (J:Int)else kv A E D (J+1)else .inr ()
def XL(A:List Z8)(E:Int):Int:=match kv A E (A.length+1) 0 with|.inl r1=>r1|.inr _=>-1
def JQ(A:List Z8)(E:Int):Int:=letI b:=XL A E;bif b>=0 then(C A b.toNat).d else 0
def zC(A:ZP)(E:Int):Int:=letI b:=Zi A.a E;bif b<0 then 0 else JQ A.c (C A.a b.toNat).b
def yR(A:ZP)(E:Int):Bool:=decide (Zi A.a E>=0)&&decide (A.d>=zC A E)
def JU(A:ZF)(E G:Int)(V:ZV):ZF×Bool:=letI b:=Xc A E G V 0 10000;letI c:=b.1;bif !(yR A.b G)then(A,false)else bif b.2 then(ZF.mk c.b c.c c.d c.a c.e c.f c.h (c.g++[A.h]),b.2)else(c,b.2)
def JW(A:ZF):Nat->List Int->Nat->List Int
  |0,_,_=>default
  |D+1,J,U=>letI b:=C A.b.b U;bif(U:Int)<(A.b.b.length:Int)then bif J6 A.f b.b||yR A.b b.c then JW A D (J++[b.b]) (U+1)else JW A D J (U+1)else J
def YB(A:ZF):List Int:=match JW A (A.b.b.length+1) [] 0 with|a=>a
def QH(A:ZF)(E G:Int):Nat->Nat->List ZW->Sum (ZF×Bool) (List ZW)
  |0,_,_=>.inr default
  |D+1,J,U=>letI b:=A.b;letI c:=u A E;letI d:=XU b.a b.b (ZW.mk (C (YB A) J) 0 G (JR (C (C A.a c.1.toNat).a c.2.toNat) (ZL b.c b.d)) 0);bif(J:Int)<((YB A).length:Int)then bif !d.2 then .inl (A,false)else QH A E G D (J+1) (U++[d.1])else .inr U
def KI(A:ZF)(E G:Int):ZF×Bool:=letI b:=u A E;letI c:=A.b;letI d:=ZL c.c c.d;letI e:=(YB A).length;letI f:=C A.a b.1.toNat;letI g:=C f.a b.2.toNat;bif !(J6 A.g E)||b.1<0||d<0||(e:Int)==0 then(A,false)else(match QH A E G (e+1) 0 []with|.inl r1=>r1|.inr a=>letI h:=XH g.a (Zc.mk (g.a.a.length:Int) d (JR g d) [] a);(ZF.mk c A.c A.d (A.a.set b.1.toNat (ZE.mk f.b (f.a.set b.2.toNat (ZU.mk g.b g.e g.c g.d h.1)))) A.e A.f A.h A.g,h.2))
def zY(A:ZF)(E G:Int):ZF×Bool:=letI b:=Ye A E;letI c:=C A.c b.2.1.toNat;letI d:=Kd A b.1 E (O.mk c.a G (-1) c.e 0);bif !b.2.2||!(yR A.b c.e)then(A,false)else(d.1,d.2)
def Qw(A:ZF)(E:YT):ZF×Bool:=letI b:=E.b;letI c:=E.A;letI d:=E.B;letI e:=Kc A c d E.c E.C E.D;letI f:=xd A c E.a d;letI g:=je A c d E.C;letI h:=JU A c d E.c;letI i:=KI A c d;letI j:=zY A c d;bif b==1 then((zV A c).1,(zV A c).2)else bif b==2 then(e.1,e.2)else bif b==3 then((Jy A c).1,(Jy A c).2)else bif b==4 then((J3 A c).1,(J3 A c).2)else bif b==5 then(f.1,f.2)else bif b==6 then(g.1,g.2)else bif b==7 then((Jz A c).1,(Jz A c).2)else bif b==8 then(h.1,h.2)else bif b==9 then(i.1,i.2)else bif b==10 then(j.1,j.2)else(A,false)
def zb(A:ZF)(E:List ByteArray)(G:Int):ZF×ByteArray:=letI b:=W (G+1);letI c:=(A,(⟨#[119,104,97,116]⟩:ByteArray));letI d:=Zl (E.tail.take (b.toNat-1));letI e:=C d.1 0;letI f:=C d.1 1;letI g:=(Y0 (C d.1 (d.1.length-1)) (E.drop b.toNat) 11).1;letI h:=([]:List Int);letI i:=Qw A (YT.mk 2 e f 0 (C d.1 2) g h);letI j:=(A,(⟨#[110,111]⟩:ByteArray));letI k:=Zr A.h;letI l:=Qw A (YT.mk 8 e f 0 0 g h);bif(E.length:Int)<b then c else bif !d.2 then c else bif C E 0=(⟨#[115,105,103,110]⟩:ByteArray)then bif !i.2 then j else(i.1,k)else bif !l.2 then j else(l.1,k)
def YV(A:ZF)(E:YT):ZF×ByteArray:=letI b:=Qw A E;bif !b.2 then(A,(⟨#[110,111]⟩:ByteArray))else(b.1,(⟨#[111,107]⟩:ByteArray))
def z9(A:ZF)(E:List ByteArray):ZF×ByteArray:=letI b:=(A,(⟨#[119,104,97,116]⟩:ByteArray));letI c:=C E 2;letI d:=YY (c.extract 1 c.size);letI e:=YY (C E 1);letI f:=Zl (E.drop 3);letI g:=ZV.mk 0 [] [];letI h:=YV A (YT.mk 5 e.1 (W (-1*d.1)) 0 0 g f.1);letI i:=YV A (YT.mk 5 e.1 (W (1*(YY c).1)) 0 0 g f.1);bif(E.length:Int)<4 then b else bif((bk c 0):Int)==45 then bif !d.2||!e.2||!f.2 then b else(h.1,h.2)else bif !(YY c).2||!e.2||!f.2 then b else(i.1,i.2)
def JB(A:ZU):M:=M.mk [A.a] ([]:List (List ZW))
def y5(A:ZY)(E:ZV):Nat->List Int->Nat->List Int
  |0,_,_=>default
  |D+1,J,U=>bif(U:Int)<(A.b.length:Int)then y5 A E D (J++[Yh (C A.b U).b E]) (U+1)else J
def JP(A:ZY)(E:ZV):List Int:=match y5 A E (A.b.length+1) [] 0 with|a=>a
def yG(A:M)(E:ZV):Nat->List (List Int)->Nat->List (List Int)
  |0,_,_=>default
  |D+1,J,U=>bif(U:Int)<(A.a.length:Int)then yG A E D (J++([JP (C A.a U) E]:List (List Int))) (U+1)else J
def KX(A:M)(E:ZV):List (List Int):=match yG A E (A.a.length+1) ([]:List (List Int)) 0 with|a=>a
def EO(A:YZ):Bool:=ZJ A.c 1 99&&ZJ A.g 0 99&&ZJ A.b 0 99&&yF A.a&&xw A.d
def P9(A:List YZ):Nat->Nat->Sum Bool Unit
  |0,_=>.inr ()
  |D+1,J=>letI b:=C A J;bif(J:Int)<(A.length:Int)then bif !(EO b)||(J:Int)>0&&(C A (J-1)).c>=b.c then .inl false else P9 A D (J+1)else .inr ()
def Ny(A:List YZ):Bool:=match P9 A (A.length+1) 0 with|.inl r1=>r1|.inr _=>decide ((A.length:Int)<=12)
def jg(A:List ZX):Nat->Nat->Sum Bool Unit
  |0,_=>.inr ()
  |D+1,J=>letI b:=C A J;bif(J:Int)<(A.length:Int)then bif !(ZJ b.b 0 99)||!(ZJ b.c 1 99)||!(ZJ b.a 0 100)||(J:Int)>0&&(C A (J-1)).b>=b.b then .inl false else jg A D (J+1)else .inr ()
def qY(A:List ZX):Bool:=match jg A (A.length+1) 0 with|.inl r1=>r1|.inr _=>decide ((A.length:Int)<=6)
def PD(A:Z8):Bool:=ZJ A.b 0 99&&yF A.c&&ZJ A.a 1 10001&&ZJ A.d 1 10001&&A.c<A.a&&decide (A.c<A.d)
def Um(A:List Z8):Nat->Nat->Sum Bool Unit
  |0,_=>.inr ()
  |D+1,J=>letI b:=C A J;bif(J:Int)<(A.length:Int)then bif !(PD b)||(J:Int)>0&&(C A (J-1)).b>=b.b then .inl false else Um A D (J+1)else .inr ()
def Uu(A:List Z8):Bool:=match Um A (A.length+1) 0 with|.inl r1=>r1|.inr _=>decide ((A.length:Int)<=8)
def kF(A:ZP):Bool:=Ny A.a&&qY A.b&&Uu A.c&&ZJ A.e 0 6&&yF A.d
def W4(A:Int):XR:=XR.mk 3 A (o.mk 0 0)
def kL(A:Int):XR:=XR.mk 2 A (o.mk 0 0)
def Qo(A:List YZ)(E:Int)(G:List Int)(V:Int):Bool:=letI b:=yX A E G;b.2&&b.1==V
def zT(A:List YZ)(E:Zu):Bool:=Jp E&&Qo A E.c (Xk E) E.f
def VA(A:ZY)(E:ZS):Nat->Nat->Sum Int Unit
  |0,_=>.inr ()
  |D+1,J=>bif(J:Int)<(A.a.length:Int)then bif Kx (C A.a J) E then .inl (J:Int)else VA A E D (J+1)else .inr ()
def Kh(A:ZY)(E:ZS):Int:=match VA A E (A.a.length+1) 0 with|.inl r1=>r1|.inr _=>-1
def Yr(A:o):Bool:=yF A.d&&yF A.b&&decide (A.d<=A.b)
def Xt(A E:Int):o×Bool:=letI b:=o.mk (if 0>A then 0 else A) (if 10000<E then 10000 else E);bif A>E||!(Yr b)then(o.mk 0 0,false)else(b,true)
def Jc(A:List ZX)(E:ZW):o×Bool:=letI b:=ZN A E.a;letI c:=(C A b.toNat).a;letI d:=E.b;letI e:=Xt (W (d-c)) (W (d+c));bif b<0||c<0||!(yF d)then(o.mk 0 0,false)else(e.1,e.2)
def jF(A:List o)(E:Int):Nat->Int->Nat->Int
  |0,_,_=>default
  |D+1,J,U=>letI b:=C A U;bif(U:Int)<(A.length:Int)then bif Yr b&&ZJ E b.d b.b then jF A E D (W (J+1)) (U+1)else jF A E D J (U+1)else J
def UI(A:List o)(E:Int):Int:=match jF A E (A.length+1) 0 0 with|a=>a
def YN(A:List o)(E G:Int):Bool:=letI b:=(A.length:Int);ZJ G 0 (W (b-1))&&decide (UI A E>=W (b-G))
def zH(A:List o)(E:Int):Nat->Bool->Nat->Int->Int->Bool×Int×Int
  |0,_,_,_,_=>(default,default,default)
  |D+1,J,U,p,i=>letI b:=(U:Int);letI c:=U+1;bif b<=10000 then bif YN A b E then bif !J then zH A E D true c b b else zH A E D true c p b else zH A E D J c p i else(J,p,i)
def jc(A:List o)(E:Int):o×Bool:=match zH A E 10002 false 0 0 0 with|(a,g,h)=>(o.mk g h,a)
def J4(A:List ZX)(E:List ZW):Nat->List o->Nat->Sum (o×Bool) (List o)
  |0,_,_=>.inr default
  |D+1,J,U=>letI b:=Jc A (C E U);bif(U:Int)<(E.length:Int)then bif !b.2 then .inl (o.mk 0 0,false)else J4 A E D (J++[b.1]) (U+1)else .inr J
def Kb(A:List ZX)(E:List ZW)(G:Int):o×Bool:=(match J4 A E (E.length+1) [] 0 with|.inl r1=>r1|.inr a=>letI b:=jc a G;(b.1,b.2))
def yk(A:List ZX)(E:Zc)(G:Int):o×Bool:=letI b:=Kb A E.a G;(b.1,b.2)
def JZ(A:ZP)(E:Zc):o×Bool:=letI b:=yk A.b E A.e;(b.1,b.2)
def jt(A:ZY)(E:List Int)(G:Int):Int:=letI b:=(A.b.length:Int);letI c:=C A.b G.toNat;letI d:=c.b;letI e:=C E G.toNat;letI f:=A.a.take c.d.toNat;bif !(ZJ G 0 (W (b-1)))||(E.length:Int)!=b||!(ZJ c.d 0 (A.a.length:Int))then-1 else bif G>0 then SE d e f (Qz d (C A.b (W (G-1)).toNat))else SE d e f 0
def ks(A:Int)(G:List Y9):Nat->Int->Nat->Int
  |0,_,_=>default
  |D+1,J,U=>letI b:=C G U;bif(U:Int)<(G.length:Int)then bif b.a then ks A G D (jV A b.e J) (U+1)else ks A G D (jV A J b.e) (U+1)else J
def WY(A E:Int)(G:List Y9):Int:=match ks A G (G.length+1) E 0 with|a=>a
def kO(A:List ZW):Nat->Nat->Sum Bool Unit
  |0,_=>.inr ()
  |D+1,J=>bif(J:Int)<(A.length:Int)then bif(C A (J-1)).a>=(C A J).a then .inl false else kO A D (J+1)else .inr ()
def Xx(A:List ZW):Bool:=match kO A (A.length+1) 1 with|.inl r1=>r1|.inr _=>true
def KT(A:List YZ)(E:List ZX)(G:ZW):Bool:=letI b:=XU A E G;b.2&&(b.1.a==G.a&&(b.1.c==G.c&&(b.1.b==G.b&&(b.1.e==G.e&&b.1.f==G.f))))
def WW(A:List YZ)(E:List ZX)(G:Zc):Nat->Nat->Sum Bool Unit
  |0,_=>.inr ()
  |D+1,J=>letI b:=C G.a J;bif(J:Int)<(G.a.length:Int)then bif b.e !=G.e||!(KT A E b)then .inl false else WW A E G D (J+1)else .inr ()
def z4(A:List YZ)(E:List ZX)(G:Zc)(V:Int):Bool:=letI b:=G.a.length;bif(G.c.length:Int)>4||WY G.b V G.c !=G.e||!(ZJ (b:Int) 1 6)||!(Xx G.a)then false else(match WW A E G (b+1) 0 with|.inl r1=>r1|.inr _=>true)
def Yq(A:List ZX)(E:ZW):Int:=letI b:=ZN A E.a;bif b>=0 then(C A b.toNat).c else 0
def qu(A:List YZ)(E:List ZX)(G:List Z8)(V:Zc):Nat->Int->Nat->Sum Int Int
  |0,_,_=>.inr default
  |D+1,J,U=>letI b:=Zi A (Yq E (C V.a U));letI c:=JQ G (C A b.toNat).b;bif(U:Int)<(V.a.length:Int)then bif b<0 then .inl 0 else qu A E G V D (if c<J then c else J) (U+1)else .inr J
def K4(A:List YZ)(E:List ZX)(G:List Z8)(V:Zc):Int:=match qu A E G V (V.a.length+1) (JQ G V.b) 0 with|.inl r1=>r1|.inr a=>a
def V8(A:ZP)(E:ZY)(G:Int):Bool:=letI b:=W ((E.b.length:Int)-1);letI c:=K4 A.a A.b A.c (C E.b G.toNat);letI d:=JZ A (C E.b (W (G+1)).toNat);bif !(ZJ G 0 b)then false else bif G==b then decide (A.d<c)else d.2&&decide (d.1.b<c)
def j9(A:ZP)(E:ZY)(G:List Int):Nat->Nat->Nat
  |0,_=>default
  |D+1,J=>letI b:=C E.b (J-1);letI c:=W ((J:Int)-1);bif(J:Int)>0 then bif !(JZ A b).2||!(z4 A.a A.b b (jt E G c))||!(V8 A E c)then J else j9 A E G D (J-1)else J
def xa(A:ZP)(E:ZY)(G:List Int):Int:=letI b:=E.b.length;match j9 A E G (b+1) b with|a=>(a:Int)
def UE(A:ZP)(E:ZY)(V:Int):Nat->Int->Int->Int
  |0,_,_=>default
  |D+1,J,U=>letI b:=C E.b U.toNat;letI c:=(JZ A b).1.b;letI d:=W (U+1);bif U<(E.b.length:Int)then bif b.d>V then UE A E V D (if c<J then c else J) d else UE A E V D J d else J
def Nr(A:ZP)(E:ZY)(G:List Int)(V:Int):Int:=match UE A E V (E.b.length+2) A.d (xa A E G)with|a=>a
def Wn(A:ZP)(E:ZY)(G:List Int)(V:ZS):Int:=letI b:=Kh E V;bif b<0 then A.d else Nr A E G b
def KD(A:ZP)(E:M)(G:List (List Int))(V:ZS):Nat->Int->Nat->Int
  |0,_,_=>default
  |D+1,J,U=>letI b:=Wn A (C E.a U) (C G U) V;bif(U:Int)<(E.a.length:Int)then bif(U:Int)<(G.length:Int)then KD A E G V D (if b<J then b else J) (U+1)else KD A E G V D J (U+1)else J
def XP(A:ZP)(E:M)(G:List (List Int))(V:ZS):Int:=match KD A E G V (E.a.length+1) A.d 0 with|a=>a
def Ql(A:ZS):O×Bool:=letI b:=A.a;bif Yc A !=102||C b 4 !=A.c then(O.mk 0 0 0 0 0,false)else(O.mk (C b 1) (C b 2) (C b 3) (C b 4) A.f,true)
def zi(A:ZS):ZW×Bool:=letI b:=A.a;bif Yc A !=103 then(ZW.mk 0 0 0 0 0,false)else(ZW.mk (C b 1) (C b 2) (C b 3) (C b 4) A.f,true)
def yw(A:ZS):Zu×Bool:=letI b:=A.a;bif Yc A !=104||C b 1 !=A.c then(Zu.mk 0 0 0 0 0 0 0 0 0,false)else(Zu.mk (C b 1) (C b 2) (C b 3) (C b 4) (C b 5) (C b 6) (C b 7) (C b 8) A.f,true)
def JC(A:ZS):XD×Bool:=letI b:=A.a;bif Yc A !=105||C b 5 !=A.c then(XD.mk 0 0 0 0 0 0,false)else(XD.mk (C b 1) (C b 2) (C b 3) (C b 4) (C b 5) A.f,true)
def zw(A:List YZ)(E:ZS):Bool:=letI b:=Yc E;letI c:=Qo A E.c E.a E.f;bif b==101 then(v E).2&&c else bif b==102 then(Ql E).2&&c else bif b==103 then(zi E).2&&c else bif b==104 then(yw E).2&&c else bif b==105 then(JC E).2&&c else false&&c
def xZ(A E:ZS):Nat->Nat->Sum Bool Unit
  |0,_=>.inr ()
  |D+1,J=>letI b:=C A.a J;letI c:=C E.a J;bif(J:Int)<(A.a.length:Int)&&(J:Int)<(E.a.length:Int)then bif b !=c then .inl (decide (b<c))else xZ A E D (J+1)else .inr ()
def XS(A E:ZS):Bool:=letI b:=A.a.length;letI c:=(E.a.length:Int);match xZ A E (b+1) 0 with|.inl r1=>r1|.inr _=>bif(b:Int)!=c then decide ((b:Int)<c)else bif A.c !=E.c then decide (A.c<E.c)else decide (A.f<E.f)
def qy(E:M)(U:Nat)(q:List ZS)(n:Nat):Nat->Nat->Nat
  |0,_=>default
  |p+1,j=>bif(j:Int)<(q.length:Int)&&XS (C q j) (C (C E.a U).a n)then qy E U q n p (j+1)else j
def Js(A:ZP)(E:M)(G:List (List Int))(U:Nat):Nat->List ZS->Nat->List ZS
  |0,_,_=>default
  |n2+1,q,n=>letI b:=(C E.a U).a;letI c:=C b n;letI d:=n+1;bif(n:Int)<(b.length:Int)then bif QF q c||!(zw A.a c)||XP A E G c>=zC A c.c then Js A E G U n2 q d else(match qy E U q n (q.length+1) 0 with|e=>Js A E G U n2 (q.take e++[c]++(q.drop e).take (q.length-e)) d)else q
def zd(A:ZP)(E:M)(G:List (List Int)):Nat->List ZS->Nat->List ZS
  |0,_,_=>default
  |D+1,J,U=>bif(U:Int)<(E.a.length:Int)then(match Js A E G U ((C E.a U).a.length+1) J 0 with|f=>zd A E G D f (U+1))else J
def YR(A:ZP)(E:M)(G:List (List Int)):List ZS:=match zd A E G (E.a.length+1) [] 0 with|a=>a
def xD(A:Yv):o:=o.mk A.d A.b
def NU(A:Yv):Bool:=ZJ A.a 1 999&&ZJ A.c 1 99&&ZJ A.e 1 99&&A.c !=A.e&&ZJ A.g 0 99&&Yr (xD A)
def UA(A:List YZ)(E:Int):Int:=letI b:=Zi A E;bif b>=0 then(C A b.toNat).g else-1
def jG(A:List YZ)(E:Yv):Bool:=NU E&&Qo A E.e (yT E) E.f&&E.g==UA A E.c
def SX(A:ZP)(E:List ZS)(G:Zu):Nat->Int->Nat->Int->Int->Int->Int->Int->Int->Int->Int×Int×Int×Int×Int×Int×Int×Int
  |0,_,_,_,_,_,_,_,_,_=>(default,default,default,default,default,default,default,default)
  |D+1,J,U,p,i,a,h,j,d,l=>letI b:=v (C E U);letI c:=b.1;bif(U:Int)<(E.length:Int)then bif b.2&&jG A.a c&&c.a==G.a&&c.c==G.c then SX A E G D (W (J+1)) (U+1) c.a c.c c.g c.d c.b c.e c.f else SX A E G D J (U+1) p i a h j d l else(J,p,i,a,h,j,d,l)
def Xn(A:ZP)(E:List ZS)(G:Zu):Yv×Bool:=match SX A E G (E.length+1) 0 0 0 0 0 0 0 0 0 with|(a,g,h,f,c,b,d,e)=>bif a !=1 then(Yv.mk 0 0 0 0 0 0 0,false)else(Yv.mk g h f c b d e,true)
def qo(E:List ZW):Nat->List Int->Nat->List Int
  |0,_,_=>default
  |D+1,J,U=>bif(U:Int)<(E.length:Int)then qo E D (J++[(C E U).f]) (U+1)else J
def KE(A:Int)(E:List ZW):Int:=bif(E.length:Int)==0 then 0 else(match qo E (E.length+1) [] 0 with|a=>we 1 (QS A a))
def KV(A:Int)(E:ZW):ZS:=ZS.mk A (Jd E) E.f
def KN(A:ZP)(E:M)(G:List ZS)(U:Nat):Nat->Bool->Nat->Bool
  |0,_,_=>default
  |n2+1,q,n=>letI b:=C E.b U;letI c:=C b n;bif(n:Int)<(b.length:Int)then KN A E G U n2 (q&&QF G (KV (Yq A.b c) c)) (n+1)else q
def KM(A:ZP)(E:M)(G:List ZS)(V:Zu):Nat->Int->Nat->Int
  |0,_,_=>default
  |D+1,J,U=>letI b:=C E.b U;letI c:=U+1;letI d:=Kb A.b b A.e;bif(U:Int)<(E.b.length:Int)then bif V.d==0||!(Xx b)||KE V.b b !=V.d then KM A E G V D J c else(match KN A E G U (b.length+1) true 0 with|f=>bif f&&d.2 then KM A E G V D (if d.1.d>J then d.1.d else J) c else KM A E G V D J c)else J
def VL(A:ZP)(E:M)(G:List ZS)(O:Nat):Nat->Bool->Nat->Bool
  |0,_,_=>default
  |Y+1,l,h=>letI b:=C E.b O;letI c:=C b h;bif(h:Int)<(b.length:Int)then VL A E G O Y (l&&QF G (KV (Yq A.b c) c)) (h+1)else l
def qE(A:ZP)(E:M)(G:List ZS)(V:Zu):Nat->Int->Nat->Int
  |0,_,_=>default
  |p+1,j,O=>letI b:=C E.b O;letI c:=O+1;letI d:=Kb A.b b A.e;bif(O:Int)<(E.b.length:Int)then bif V.d==0||!(Xx b)||KE V.b b !=V.d then qE A E G V p j c else(match VL A E G O (b.length+1) true 0 with|a=>bif a&&d.2 then qE A E G V p (if d.1.d>j then d.1.d else j) c else qE A E G V p j c)else j
def Je(A:ZP)(E:M)(G:List ZS)(V:Zu):Int:=letI b:=Zi A.a V.c;letI c:=E.b.length+1;bif b>=0 then(match KM A E G V c (C A.a b.toNat).a 0 with|a=>a)else(match qE A E G V c 0 0 with|e=>e)
def xR(A:List ZS)(E:Yv):Nat->List O->Nat->List O
  |0,_,_=>default
  |D+1,J,U=>letI b:=Ql (C A U);bif(U:Int)<(A.length:Int)then bif b.2&&b.1.a==E.a&&b.1.e==E.e then xR A E D (J++[b.1]) (U+1)else xR A E D J (U+1)else J
def JF(A:List ZS)(E:Yv):List O:=match xR A E (A.length+1) [] 0 with|a=>a
def YE(A E:Int)(G:List o):List o:=letI b:=Xt A E;bif b.2 then G++[b.1]else G
def WL(A:List O)(E:Int):Nat->Int->Int->Int->Nat->Int×Int×Int
  |0,_,_,_,_=>(default,default,default)
  |D+1,J,U,p,i=>letI b:=C A i;letI c:=i+1;letI d:=b.d;letI e:=if d>U then d else U;bif(i:Int)<(A.length:Int)then bif b.a !=E then WL A E D J U p c else bif d<0 then WL A E D J U (if b.b>p then b.b else p) c else bif J<0||d<J then WL A E D d e p c else WL A E D J e p c else(J,U,p)
def UX(A:List O)(E:Int):Int×Int×Int:=match WL A E (A.length+1) (-1) (-1) (-1) 0 with|(a,g,h)=>(a,g,h)
def Xd(A:List O)(E:Int):Int:=letI b:=(UX A E).2;letI c:=W (b.2+1);bif b.1<0 then 10001 else if c>b.1 then c else b.1
def SK(f:List o)(a:Int):Nat->Nat->Nat
  |0,_=>default
  |p+1,j=>bif(j:Int)<(f.length:Int)&&(C f j).d<a then SK f a p (j+1)else j
def jO(J:List o):Nat->List o->Nat->Int->Int->List o×Int×Int
  |0,_,_,_,_=>(default,default,default)
  |n2+1,q,n,d,i=>letI b:=C J n;letI c:=n+1;bif(n:Int)<(J.length:Int)then bif W (b.b+1)<d||W (i+1)<b.d then jO J n2 (q++[b]) c d i else jO J n2 q c (if b.d<d then b.d else d) (if b.b>i then b.b else i)else(q,d,i)
def jL(A:List o):Nat->List o->Nat->List o
  |0,_,_=>default
  |D+1,J,U=>letI b:=C A U;bif(U:Int)<(A.length:Int)then bif !(Yr b)then jL A D J (U+1)else(match jO J (J.length+1) [] 0 b.d b.b with|(f,a,c)=>(match SK f a (f.length+1) 0 with|e=>jL A D (f.take e++[o.mk a c]++(f.drop e).take (f.length-e)) (U+1)))else J
def XX(A:List o):List o:=match jL A (A.length+1) [] 0 with|a=>a
def ja(A:Yv)(E:List O):List o:=letI b:=decide (A.b<10000);letI c:=Xd E A.a;letI d:=W (A.b+1);letI e:=([]:List o);letI f:=YE 0 (W (A.d-1)) e;bif A.d>0 then bif b then XX (YE c 10000 (YE d 10000 f))else XX (YE c 10000 f)else bif b then XX (YE c 10000 (YE d 10000 e))else XX (YE c 10000 e)
def TL(A E:o):Bool:=Yr A&&Yr E&&E.d<=A.d&&decide (A.b<=E.b)
def Ul(A:List o)(E:o):Nat->Nat->Sum Bool Unit
  |0,_=>.inr ()
  |D+1,J=>bif(J:Int)<((XX A).length:Int)then bif TL E (C (XX A) J)then .inl true else Ul A E D (J+1)else .inr ()
def zo(A:List o)(E:o):Bool:=match Ul A E ((XX A).length+1) 0 with|.inl r1=>r1|.inr _=>false
def Te(A:Yv)(E:List O)(G:o):Bool:=zo (ja A E) G
def Kj(A:List O)(E:Int):Int:=letI b:=UX A E;bif b.1>=0 then W (b.1-1)else b.2.2
def KA(A E:o):o×Bool:=letI b:=o.mk (if E.d>A.d then E.d else A.d) (if E.b<A.b then E.b else A.b);bif !(Yr A)||!(Yr E)||!(Yr b)then(o.mk 0 0,false)else(b,true)
def jK(A E:List o)(U:Nat):Nat->List o->Nat->List o
  |0,_,_=>default
  |n2+1,q,n=>letI b:=KA (C A U) (C E n);letI c:=n+1;bif(n:Int)<(E.length:Int)then bif b.2 then jK A E U n2 (q++[b.1]) c else jK A E U n2 q c else q
def SJ(A E:List o):Nat->List o->Nat->List o
  |0,_,_=>default
  |D+1,J,U=>bif(U:Int)<(A.length:Int)then(match jK A E U (E.length+1) J 0 with|f=>SJ A E D f (U+1))else J
def UF(A E:List o):List o:=match SJ A E (A.length+1) [] 0 with|a=>XX a
def xx(A:Yv)(E:List O):List o:=UF [xD A] [o.mk 0 (Kj E A.a)]
def WS(A:Yv)(E:List O)(G:o):Bool:=zo (xx A E) G
def qZ(A:List ZS):Nat->List XD->Nat->List XD
  |0,_,_=>default
  |D+1,J,U=>letI b:=JC (C A U);bif(U:Int)<(A.length:Int)then bif b.2 then qZ A D (J++[b.1]) (U+1)else qZ A D J (U+1)else J
def ye(A:List ZS):List XD:=match qZ A (A.length+1) [] 0 with|a=>a
def SY(A:XD):Bool:=ZJ A.g 1 99&&ZJ A.a 0 99&&ZJ A.c 1 99&&Yr (o.mk A.d A.b)
def Kv(A:XD):List Int:=([105,A.g,A.a,A.d,A.b,A.c]:List Int)
def kq(A:List YZ)(E:XD):Bool:=SY E&&UA A E.c==E.g&&Qo A E.c (Kv E) E.f
def qb(A:List YZ)(E:List XD)(G V:Int):Nat->List o->Nat->List o
  |0,_,_=>default
  |D+1,J,U=>letI b:=C E U;bif(U:Int)<(E.length:Int)then bif b.g==G&&b.a==V&&kq A b then qb A E G V D (J++[o.mk b.d b.b]) (U+1)else qb A E G V D J (U+1)else J
def K5(A:List YZ)(E:List XD)(G V:Int):List o:=match qb A E G V (E.length+1) [] 0 with|a=>XX a
def jT(A:List YZ)(E:List XD)(G V:Int)(a4:o):Bool:=G==0&&Yr a4||zo (K5 A E G V) a4
def qh(A:ZP)(E:M)(G:List (List Int))(V:Int)(a4:Zu):XR:=letI b:=XP A E G (Yf a4);letI c:=YR A E G;letI d:=Xn A c a4;letI e:=Je A E c a4;letI f:=JF c d.1;letI g:=o.mk e b;bif !(kF A)then W4 1 else bif !(Jp a4)then kL 1 else bif V<0 then W4 2 else bif V !=a4.e then kL 2 else bif Zi A.a a4.c<0 then W4 3 else bif !(zT A.a a4)then kL 4 else bif b>=zC A a4.c||b>=JQ A.c a4.b then W4 5 else bif !d.2 then W4 6 else bif e>b then W4 7 else bif Te d.1 f g then XR.mk 2 8 g else bif !(WS d.1 f g)then XR.mk 3 7 g else bif !(jT A.a (ye c) a4.g d.1.g g)then XR.mk 3 9 g else XR.mk 1 0 g
def EN(A:ZP)(E:M)(G:ZV)(V:Zu):XR:=qh A E (KX E G) (Yh V.b G) V
def jH(A:ZP)(E:ZU):XR:=EN A (JB E) E.c E.d
def KO(A:ZF)(E:Int):XR:=letI b:=u A E;bif b.1<0 then XR.mk 0 0 (o.mk 0 0)else jH A.b (C (C A.a b.1.toNat).a b.2.toNat)
def KP(A:Int):ByteArray:=letI b:=(⟨#[]⟩:ByteArray);bif !(ZJ A 1 3)then b else C ([b,(⟨#[118,97,108,105,100]⟩:ByteArray),(⟨#[105,110,118,97,108,105,100]⟩:ByteArray),(⟨#[111,112,101,110]⟩:ByteArray)]:List ByteArray) A.toNat
def K0(A:Int):ByteArray:=bif !(ZJ A 0 9)then(⟨#[]⟩:ByteArray)else C ([(⟨#[110,111,110,101]⟩:ByteArray),(⟨#[102,111,114,109]⟩:ByteArray),(⟨#[100,111,99,117,109,101,110,116]⟩:ByteArray),(⟨#[107,101,121]⟩:ByteArray),(⟨#[109,97,114,107]⟩:ByteArray),(⟨#[98,114,111,107,101,110]⟩:ByteArray),(⟨#[99,101,114,116,105,102,105,99,97,116,101]⟩:ByteArray),(⟨#[116,105,109,101]⟩:ByteArray),(⟨#[101,110,100,101,100]⟩:ByteArray),(⟨#[109,97,110,100,97,116,101]⟩:ByteArray)]:List ByteArray) A.toNat
def X6(A:XR):ByteArray:=letI b:=KP A.a;letI c:=(⟨#[]⟩:ByteArray);letI d:=K0 A.c;letI e:=(⟨#[32]⟩:ByteArray);letI f:=b++e++d;bif b=c||d=c then c else bif A.b.d==0&&A.b.b==0 then f else f++e++Zr A.b.d++(⟨#[45]⟩:ByteArray)++Zr A.b.b
def zp(A:ZP)(E:ZU):ByteArray:=letI b:=(⟨#[32]⟩:ByteArray);(⟨#[35]⟩:ByteArray)++Zr E.b++(⟨#[32,107]⟩:ByteArray)++Zr E.d.c++b++Zr (E.a.a.length:Int)++(⟨#[47]⟩:ByteArray)++Zr (E.a.b.length:Int)++b++X6 (jH A E)
def J9(A:List ByteArray)(E:ByteArray):Nat->ByteArray->Nat->ByteArray
  |0,_,_=>default
  |D+1,J,U=>letI b:=C A U;bif(U:Int)<(A.length:Int)then bif(U:Int)>0 then J9 A E D (J++E++b) (U+1)else J9 A E D (J++b) (U+1)else J
def js(A:List ByteArray)(E:ByteArray):ByteArray:=match J9 A E (A.length+1) (⟨#[]⟩:ByteArray) 0 with|a=>a
def N7(A:List ByteArray)(E:ByteArray):ByteArray:=bif(A.length:Int)==0 then(⟨#[45]⟩:ByteArray)else js A E
def kS(A:ZP)(E:ZE):Nat->List ByteArray->Nat->List ByteArray
  |0,_,_=>default
  |D+1,J,U=>bif(U:Int)<(E.a.length:Int)then kS A E D (J++[zp A (C E.a U)]) (U+1)else J
def xU(A:ZP)(E:ZE):ByteArray:=match kS A E (E.a.length+1) [] 0 with|a=>N7 a (⟨#[59,32]⟩:ByteArray)
def JJ(A:List Int)(E:Int):Nat->Nat->Nat
  |0,_=>default
  |D+1,J=>bif(J:Int)<(A.length:Int)&&C A J<E then JJ A E D (J+1)else J
def yD(A:List Int)(E:Int):List Int:=match JJ A E (A.length+1) 0 with|a=>bif(a:Int)<(A.length:Int)&&C A a==E then A else A.take a++[E]++A.drop a
def qL(A:ZU):Nat->List Int->Nat->List Int
  |0,_,_=>default
  |D+1,J,U=>bif(U:Int)<(A.a.b.length:Int)then qL A D (yD J (C A.a.b U).b) (U+1)else J
def z8(A:ZU):List Int:=match qL A (A.a.b.length+1) [A.d.b] 0 with|a=>a
def xE(A:List Int)(E:ZV)(J:Nat):Nat->List Int->Nat->List Int
  |0,_,_=>default
  |n2+1,q,n=>bif(n:Int)<(A.length:Int)then xE A E J n2 (q++[yb (C A n) (C E.a J) (C E.d J)]) (n+1)else q
def Qx(A:List Int)(E:ZV)(G:List Int):Nat->Nat->List Bool->List ByteArray->List Int->List (List Int)->List Bool×List ByteArray×List Int×List (List Int)
  |0,_,_,_,_,_=>(default,default,default,default)
  |D+1,J,U,p,i,a=>letI b:=J6 G (J:Int);letI c:=([]:List Int);letI d:=U++[!b];letI e:=List Int;bif(J:Int)<(E.a.length:Int)then bif b then(match xE A E J (A.length+1) c 0 with|f=>Qx A E G D (J+1) d (p++([(⟨#[]⟩:ByteArray)]:List ByteArray)) (i++[0]) (a++[f]))else Qx A E G D (J+1) d (p++[C E.a J]) (i++[C E.d J]) (a++[c])else(U,p,i,a)
def J1(A:List Int)(E:ZV)(G:List Int):t×Bool:=letI b:=([]:List Int);letI c:=([]:List Bool);letI d:=([]:List ByteArray);letI e:=([]:List (List Int));bif !(Xm E)then(t.mk 0 b c d b e,false)else(match Qx A E G (E.a.length+1) 0 c d b e with|(a,g,h,f)=>(t.mk E.e A a g h f,true))
def Xf(A:ZU)(E:List Int):t×Bool:=letI b:=J1 (z8 A) A.c E;(b.1,b.2)
def QT(A:t):Nat->ByteArray->Nat->ByteArray
  |0,_,_=>default
  |D+1,J,U=>letI b:=U+1;bif(U:Int)<(A.b.length:Int)then bif !(C A.b U)then QT A D (J++(⟨#[32,42]⟩:ByteArray)) b else bif(U:Int)<(A.a.length:Int)then QT A D (J++((⟨#[32,91]⟩:ByteArray)++C A.a U++(⟨#[93]⟩:ByteArray))) b else QT A D (J++(⟨#[32,91,93]⟩:ByteArray)) b else J
def Kl(A:t):ByteArray:=match QT A (A.b.length+1) (Zr A.e) 0 with|a=>a
def JX(A:t):Nat->Nat->List ByteArray->List Int->Sum Bool (List ByteArray×List Int)
  |0,_,_,_=>.inr (default,default)
  |D+1,J,U,p=>letI b:=((C A.f J).length:Int);letI c:=C A.a J;letI d:=C A.d J;bif(J:Int)<(A.b.length:Int)then bif C A.b J then bif b>0 then .inl false else JX A D (J+1) (U++[c]) (p++[d])else bif !decide (c=(⟨#[]⟩:ByteArray))||d !=0||b !=(A.c.length:Int)then .inl false else JX A D (J+1) U p else .inr (U,p)
def KW(A:t):Bool:=letI b:=A.b.length;letI c:=(b:Int);bif !(ZJ c 1 6)||(A.a.length:Int)!=c||(A.d.length:Int)!=c||(A.f.length:Int)!=c then false else(match JX A (b+1) 0 [] []with|.inl r1=>r1|.inr (a,g)=>Xm (ZV.mk A.e a g)||(a.length:Int)==0&&ZJ A.e 0 999)
def JY(A:t):Nat->Int->Nat->Int
  |0,_,_=>default
  |D+1,J,U=>bif(U:Int)<(A.b.length:Int)then bif C A.b U then JY A D (W (J+1)) (U+1)else JY A D J (U+1)else J
def xq(A:t):Int:=match JY A (A.b.length+1) 0 0 with|a=>a
def Jg(A:Int)(E:t):Nat->List Int->Nat->List Int
  |0,_,_=>default
  |D+1,J,U=>bif(U:Int)<(E.b.length:Int)then bif C E.b U then Jg A E D (J++[yb A (C E.a U) (C E.d U)]) (U+1)else Jg A E D (J++[C (C E.f U) (Kf E.c A).toNat]) (U+1)else J
def JL(A:Int)(E:t):Int:=letI b:=E.b.length;bif !(KW E)||Kf E.c A<0&&xq E<(b:Int)then-1 else(match Jg A E (b+1) [E.e] 0 with|a=>QS A a)
def zJ(A:ZY)(E:t):Nat->List Int->Nat->List Int
  |0,_,_=>default
  |D+1,J,U=>bif(U:Int)<(A.b.length:Int)then zJ A E D (J++[JL (C A.b U).b E]) (U+1)else J
def KC(A:ZY)(E:t):List Int:=match zJ A E (A.b.length+1) [] 0 with|a=>a
def Jx(A:M)(E:t):Nat->List (List Int)->Nat->List (List Int)
  |0,_,_=>default
  |D+1,J,U=>bif(U:Int)<(A.a.length:Int)then Jx A E D (J++([KC (C A.a U) E]:List (List Int))) (U+1)else J
def QP(A:M)(E:t):List (List Int):=match Jx A E (A.a.length+1) ([]:List (List Int)) 0 with|a=>a
def jr(A:ZP)(E:M)(G:t)(V:Zu):XR:=qh A E (QP E G) (JL V.b G) V
def kM(A:ZP)(E:ZU)(G:t):XR:=jr A (JB E) G E.d
def MH(A:ZF)(E G:Int):ByteArray:=letI b:=u A E;letI c:=(⟨#[110,111]⟩:ByteArray);letI d:=C (C A.a b.1.toNat).a b.2.toNat;letI e:=Xf d [G];bif b.1<0 then c else bif !e.2 then c else Kl e.1++(⟨#[32]⟩:ByteArray)++X6 (kM A.b d e.1)
def Jm(A:ZU):Zc×Bool:=letI b:=A.a.b.length;bif(b:Int)==0 then(Zc.mk 0 0 0 [] [],false)else(C A.a.b (b-1),true)
def RX(A:ZP)(E:Int):Int:=letI b:=XL A.c E;bif b>=0 then(C A.c b.toNat).a else 0
def Pb(A:ZP)(E:Zc):Nat->Int->Nat->Sum Int Int
  |0,_,_=>.inr default
  |D+1,J,U=>letI b:=Zi A.a (Yq A.b (C E.a U));letI c:=RX A (C A.a b.toNat).b;bif(U:Int)<(E.a.length:Int)then bif b<0 then .inl 0 else Pb A E D (if c<J then c else J) (U+1)else .inr J
def SN(A:ZP)(E:Zc):Int:=match Pb A E (E.a.length+1) (RX A E.b) 0 with|.inl r1=>r1|.inr a=>a
def qk(A:ZP)(E:ZU)(G:Int):Bool:=!(Jm E).2||decide (W (SN A (Jm E).1-A.d)<=G)
def Wa(A:ZP)(E:ZE)(G:Int):Nat->List Int->Nat->List Int
  |0,_,_=>default
  |D+1,J,U=>letI b:=C E.a U;bif(U:Int)<(E.a.length:Int)then bif qk A b G then Wa A E G D (J++[b.b]) (U+1)else Wa A E G D J (U+1)else J
def qC(A:ZP)(E:ZE)(G:Int):List Int:=match Wa A E G (E.a.length+1) [] 0 with|a=>a
def Uo(A:List Int):Nat->List ByteArray->Nat->List ByteArray
  |0,_,_=>default
  |D+1,J,U=>bif(U:Int)<(A.length:Int)then Uo A D (J++[Zr (C A U)]) (U+1)else J
def zG(A:List Int):ByteArray:=match Uo A (A.length+1) [] 0 with|a=>N7 a (⟨#[32]⟩:ByteArray)
def Tf(A:List Z8)(E G:Int):Bool:=letI b:=XL A E;letI c:=C A b.toNat;decide (b>=0)&&c.c<=G&&decide (G<c.d)
def JO(A:ZP):Nat->List Int->Nat->List Int
  |0,_,_=>default
  |D+1,J,U=>letI b:=C A.b U;letI c:=Zi A.a b.c;letI d:=U+1;letI e:=C A.a c.toNat;bif(U:Int)<(A.b.length:Int)then bif c<0 then JO A D J d else bif e.a<=A.d&&Tf A.c e.b A.d&&RX A e.b>A.d then JO A D (J++[b.b]) d else JO A D J d else J
def Qk(A:ZP):List Int:=match JO A (A.b.length+1) [] 0 with|a=>a
def OY(A:ZF):Nat->List ZU->Nat->List ZU
  |0,_,_=>default
  |D+1,J,U=>bif(U:Int)<(A.a.length:Int)then OY A D (J++(C A.a U).a) (U+1)else J
def Y3(A:ZF):List ZU:=match OY A (A.a.length+1) [] 0 with|a=>a
def KU(A:List ZW)(J:Nat)(U:List ZW):Nat->Bool->Nat->Bool
  |0,_,_=>default
  |n2+1,q,n=>letI b:=C U n;letI c:=C A J;bif(n:Int)<(U.length:Int)then KU A J U n2 (q||b.a==c.a&&(b.c==c.c&&(b.b==c.b&&(b.e==c.e&&b.f==c.f)))) (n+1)else q
def QG(A:List ZW):Nat->Nat->List ZW->List ZW
  |0,_,_=>default
  |D+1,J,U=>bif(J:Int)<(A.length:Int)then(match KU A J U (U.length+1) false 0 with|f=>bif !f then QG A D (J+1) (U++[C A J])else QG A D (J+1) U)else U
def Kw(A E:List ZW):List ZW:=match QG A (A.length+1) 0 E with|a=>a
def xv(A:M)(J:Nat):Nat->Nat->List ZW->List ZW
  |0,_,_=>default
  |n2+1,q,n=>letI b:=(C A.a J).b;bif(q:Int)<(b.length:Int)then xv A J n2 (q+1) (Kw (C b q).a n)else n
def jh(A:M):Nat->Nat->List ZW->List ZW
  |0,_,_=>default
  |p+1,j,O=>bif(j:Int)<(A.b.length:Int)then jh A p (j+1) (Kw (C A.b j) O)else O
def xt(A:M):Nat->Nat->List ZW->List ZW
  |0,_,_=>default
  |D+1,J,U=>bif(J:Int)<(A.a.length:Int)then(match xv A J ((C A.a J).b.length+1) 0 U with|f=>xt A D (J+1) f)else U
def y7(A:M):List ZW:=match xt A (A.a.length+1) 0 []with|a=>(match jh A (A.b.length+1) 0 a with|e=>e)
def VQ(A:ZF):Nat->Nat->List ZY->List ZY
  |0,_,_=>default
  |D+1,J,U=>bif(J:Int)<((Y3 A).length:Int)then VQ A D (J+1) (U++[(C (Y3 A) J).a])else U
def z6(A:ZF):List ZW:=match VQ A ((Y3 A).length+1) 0 []with|a=>y7 (M.mk a ([]:List (List ZW)))
def KL(A:List YZ)(E:List ZX)(G V:ZW):Bool:=letI b:=G.a;letI c:=V.a;letI d:=G.c;letI e:=V.c;letI f:=V.b;letI g:=G.b;bif b !=c||!(KT A E G)||!(KT A E V)then false else bif d>e then e==d&&!(c==b&&(e==d&&(f==g&&(V.e==G.e&&V.f==G.f))))||e<d&&decide (f>g)else d==e&&!(b==c&&(d==e&&(g==f&&(G.e==V.e&&G.f==V.f))))||d<e&&decide (g>f)
def WM(A:List YZ)(E:List ZX)(G:List ZW)(J:Nat):Nat->Nat->List Bool->List Bool
  |0,_,_=>default
  |n2+1,q,n=>letI b:=G.take J;letI c:=C G J;letI d:=q+1;bif(q:Int)<(b.length:Int)then bif ZJ c.a 0 99&&KL A E c (C b q)then WM A E G J n2 d (n.set c.a.toNat true)else WM A E G J n2 d n else n
def ko(a:List Bool):Nat->List Int->Nat->List Int
  |0,_,_=>default
  |p+1,j,O=>letI b:=(O:Int);letI c:=O+1;bif b<100 then bif C a O then ko a p (j++[b]) c else ko a p j c else j
def jI(A:List YZ)(E:List ZX)(G:List ZW):Nat->Nat->List Bool->List Bool
  |0,_,_=>default
  |D+1,J,U=>bif(J:Int)<(G.length:Int)then(match WM A E G J ((G.take J).length+1) 0 U with|f=>jI A E G D (J+1) f)else U
def qg(A:List YZ)(E:List ZX)(G:List ZW):List Int:=match jI A E G (G.length+1) 0 (zB 100)with|a=>(match ko a 101 [] 0 with|e=>e)
def qK(A:Zc):Int:=W (W (3+W (2*(A.c.length:Int)))+W (6*(A.a.length:Int)))
def UU(A:ZY):Nat->Int->Nat->Int
  |0,_,_=>default
  |n2+1,q,n=>bif(n:Int)<(A.a.length:Int)then UU A n2 (W (q+W (2+((C A.a n).a.length:Int)))) (n+1)else q
def Ut(A:ZY):Nat->Int->Nat->Int
  |0,_,_=>default
  |D+1,J,U=>bif(U:Int)<(A.b.length:Int)then Ut A D (W (J+qK (C A.b U))) (U+1)else J
def Wh(A:ZY):Int:=match Ut A (A.b.length+1) 0 0 with|a=>(match UU A (A.a.length+1) a 0 with|f=>f)
def Vg(A:ZE):Nat->Int->Nat->Int
  |0,_,_=>default
  |D+1,J,U=>bif(U:Int)<(A.a.length:Int)then Vg A D (W (J+Wh (C A.a U).a)) (U+1)else J
def zz(A:ZE):Int:=match Vg A (A.a.length+1) 0 0 with|a=>a
def yH(A:ZF)(E:Int):Nat->Int->Nat->Int
  |0,_,_=>default
  |D+1,J,U=>bif(U:Int)<((Y3 A).length:Int)then bif(KO A (C (Y3 A) U).b).a==E then yH A E D (W (J+1)) (U+1)else yH A E D J (U+1)else J
def KS(A:ZF)(E:Int):Int:=match yH A E ((Y3 A).length+1) 0 0 with|a=>a
def jn(A:ZF):Nat->List ByteArray->Nat->List ByteArray
  |0,_,_=>default
  |n2+1,q,n=>letI b:=(n:Int);bif b<=3 then jn A n2 (q++[Zr (KS A b)]) (n+1)else q
def VX(A:ZF):Nat->List ByteArray->Nat->List ByteArray
  |0,_,_=>default
  |D+1,J,U=>bif(U:Int)<(A.a.length:Int)then VX A D (J++[Zr ((C A.a U).a.length:Int)]) (U+1)else J
def j7(A:ZF):ByteArray:=letI b:=([]:List ByteArray);letI c:=(⟨#[32]⟩:ByteArray);match VX A (A.a.length+1) b 0 with|a=>(match jn A 5 b 1 with|f=>Zr A.b.d++c++js a (⟨#[43]⟩:ByteArray)++c++js f (⟨#[47]⟩:ByteArray)++c++Zr (A.g.length:Int))
def jC(A:ZF)(n:Nat):Nat->List Int->Nat->Sum Bool (List Int)
  |0,_,_=>.inr default
  |p+1,j,O=>letI b:=(C A.a n).a;letI c:=(C b O).b;bif(O:Int)<(b.length:Int)then bif J6 j c||c>=A.h then .inl false else jC A n p (j++[c]) (O+1)else .inr j
def OX(A:ZF):Nat->Nat->Sum Bool Unit
  |0,_=>.inr ()
  |w+1,r=>bif(r:Int)<(A.f.length:Int)then bif ZN A.b.b (C A.f r)<0 then .inl false else OX A w (r+1)else .inr ()
def Pz(A:ZF):Nat->Nat->Sum Bool Unit
  |0,_=>.inr ()
  |Y+1,l=>bif(l:Int)<(A.e.length:Int)then bif C A.e l<0 then .inl false else Pz A Y (l+1)else .inr ()
def kb(A:ZF):Nat->List Int->Nat->Sum Bool Unit
  |0,_,_=>.inr ()
  |n2+1,q,n=>letI b:=(n:Int);letI c:=C A.a n;bif b<(A.a.length:Int)then bif !(QC c)||c.b !=b then .inl false else(match jC A n (c.a.length+1) q 0 with|.inl a=>.inl a|.inr e=>kb A n2 e (n+1))else .inr ()
def P8(A:ZF):Nat->Nat->Sum Bool Unit
  |0,_=>.inr ()
  |D+1,J=>letI b:=C A.c J;bif(J:Int)<(A.c.length:Int)then bif !(jG A.b.a b)||Zj A.c b.a !=(J:Int)||!(ZJ (C A.d J) (-1) 10001)then .inl false else P8 A D (J+1)else .inr ()
def Tg(A:ZF):Bool:=letI b:=A.b;letI c:=A.c.length;letI d:=A.a.length;letI e:=A.e.length;letI f:=A.f.length;bif !(kF b)||(A.d.length:Int)!=(c:Int)||!(ZJ (d:Int) 1 4)||(e:Int)!=(b.b.length:Int)||(f:Int)>b.e||A.h<1||!(yn A.f)||!(yn A.g)then false else(match P8 A (c+1) 0 with|.inl r1=>r1|.inr _=>(match kb A (d+1) [] 0 with|.inl r2=>r2|.inr _=>(match Pz A (e+1) 0 with|.inl i=>i|.inr _=>(match OX A (f+1) 0 with|.inl j=>j|.inr _=>true))))
def WN(A:ZF):Nat->List Int->Nat->List Int
  |0,_,_=>default
  |D+1,J,U=>letI b:=(C (Y3 A) U).b;bif(U:Int)<((Y3 A).length:Int)then bif(KO A b).a==1 then WN A D (J++[b]) (U+1)else WN A D J (U+1)else J
def QR(A:ZF):List Int:=match WN A ((Y3 A).length+1) [] 0 with|a=>a
def xX(A:ZF):Nat->List Int->Nat->List Int
  |0,_,_=>default
  |D+1,J,U=>letI b:=C (QR A) U;bif(U:Int)<((QR A).length:Int)then bif J6 A.g b then xX A D (J++[b]) (U+1)else xX A D J (U+1)else J
def VB(A:ZF):List Int:=match xX A ((QR A).length+1) [] 0 with|a=>a
def y1(A:ZF):ByteArray:=bif !(Tg A)then(⟨#[119,111,114,108,100]⟩:ByteArray)else bif((VB A).length:Int)>0 then(⟨#[102,111,114,103,101,100]⟩:ByteArray)else(⟨#[]⟩:ByteArray)
def qt(A:ZF)(E:ByteArray)(G:List Int):ByteArray:=letI b:=E++(⟨#[32]⟩:ByteArray)++Zr (G.length:Int);letI c:=C G 0;letI d:=!(Zw A c);letI e:=(⟨#[110,111]⟩:ByteArray);letI f:=A.b;letI g:=C A.a c.toNat;letI h:=C G 1;bif b=(⟨#[115,104,111,119,32,49]⟩:ByteArray)then bif d then e else xU f g else bif b=(⟨#[100,117,101,32,50]⟩:ByteArray)then bif d then e else zG (qC f g h)else bif b=(⟨#[115,105,122,101,32,49]⟩:ByteArray)then bif d then e else Zr (zz g)else bif b=(⟨#[106,117,100,103,101,32,49]⟩:ByteArray)then bif(u A c).1<0 then e else X6 (KO A c)else bif b=(⟨#[104,105,100,101,32,50]⟩:ByteArray)then MH A c h else bif b=(⟨#[112,108,97,110,32,48]⟩:ByteArray)then zG (Qk f)else bif b=(⟨#[108,105,97,114,115,32,48]⟩:ByteArray)then zG (qg f.a f.b (z6 A))else bif b=(⟨#[119,111,114,108,100,32,48]⟩:ByteArray)then j7 A else bif b=(⟨#[97,117,100,105,116,32,48]⟩:ByteArray)then bif !decide (y1 A=(⟨#[]⟩:ByteArray))then y1 A else(⟨#[111,107]⟩:ByteArray)else(⟨#[119,104,97,116]⟩:ByteArray)
def xW(A:ZF)(E:ByteArray):ZF×ByteArray:=letI b:=Z0 E;letI c:=(A,(⟨#[119,104,97,116]⟩:ByteArray));letI d:=C b 0;letI e:=zb A b 4;letI f:=zb A b 3;letI g:=Zl (b.tail);letI h:=d++(⟨#[32]⟩:ByteArray)++Zr (g.1.length:Int);letI i:=C g.1 0;letI j:=([]:List Int);letI k:=ZV.mk 0 [] j;letI l:=YV A (YT.mk 1 i 0 0 0 k j);letI m:=YV A (YT.mk 3 i 0 0 0 k j);letI n:=YV A (YT.mk 4 i 0 0 0 k j);letI o:=YV A (YT.mk 7 i 0 0 0 k j);letI p:=C g.1 1;letI q:=YV A (YT.mk 6 i p (C g.1 2) 0 k j);letI r:=YV A (YT.mk 9 i p 0 0 k j);letI s:=YV A (YT.mk 10 i p 0 0 k j);bif(E.size:Int)>200||(b.length:Int)==0 then c else bif d=(⟨#[115,105,103,110]⟩:ByteArray)then(e.1,e.2)else bif d=(⟨#[102,111,114,103,101]⟩:ByteArray)then(f.1,f.2)else bif d=(⟨#[114,101,110,101,119]⟩:ByteArray)then((z9 A b).1,(z9 A b).2)else bif !g.2 then c else bif h=(⟨#[116,105,99,107,32,49]⟩:ByteArray)then(l.1,l.2)else bif h=(⟨#[97,110,115,119,101,114,32,49]⟩:ByteArray)then(m.1,m.2)else bif h=(⟨#[114,101,118,111,107,101,32,49]⟩:ByteArray)then(n.1,n.2)else bif h=(⟨#[102,111,114,103,101,116,32,49]⟩:ByteArray)then(o.1,o.2)else bif h=(⟨#[109,111,118,101,32,51]⟩:ByteArray)then(q.1,q.2)else bif h=(⟨#[98,97,99,107,100,97,116,101,32,50]⟩:ByteArray)then(r.1,r.2)else bif h=(⟨#[102,97,107,101,32,50]⟩:ByteArray)then(s.1,s.2)else(A,qt A d g.1)
def yq(A:ZF)(E:ByteArray):ZF×ByteArray:=letI b:=xW A E;(b.1,b.2)
def Mh:Nat->Int->ByteArray->ByteArray
  |0,_,_=>default
  |D+1,J,U=>bif J>0 then Mh D (W (Int.tdiv J 10)) ((⟨([UInt8.ofInt (W (48+Int.tmod J 10))]:List UInt8).toArray⟩:ByteArray)++U)else U
def G9(A:Int):ByteArray:=bif A<=0 then(⟨#[109,48]⟩:ByteArray)else(match Mh 22 A (⟨#[]⟩:ByteArray)with|a=>(⟨#[109]⟩:ByteArray)++a)
@[simp] def fS (x : YZ) (k : Int) : YZ := YZ.mk k (k + 1) (k + 1 + 1) (k + 1 + 1 + 1) (k + 1 + 1 + 1 + 1)
@[simp] def Vt (x : ZX) (k : Int) : ZX := ZX.mk k (k + 1) (k + 1 + 1)
@[simp] def MU (x : Z8) (k : Int) : Z8 := Z8.mk k (k + 1) (k + 1 + 1) (k + 1 + 1 + 1)
@[simp] def wW (x : Yv) (k : Int) : Yv := Yv.mk k (k + 1) (k + 1 + 1) (k + 1 + 1 + 1) (k + 1 + 1 + 1 + 1) (k + 1 + 1 + 1 + 1 + 1) (k + 1 + 1 + 1 + 1 + 1 + 1)
@[simp] def Bb (_ : Int) (k : Int) : Int := k
@[simp] def MC (_ : ByteArray) (k : Int) : ByteArray := G9 k
@[simp] def GL (x : ZS) (k : Int) : ZS := ZS.mk k (al Bb x.a (k + 1)) (k + 1 + (cn x.a : Nat))
@[simp] def vE (x : Y9) (k : Int) : Y9 := Y9.mk k (Int.tmod (k + 1) 3 == 0)
@[simp] def Ga (x : ZW) (k : Int) : ZW := ZW.mk k (k + 1) (k + 1 + 1) (k + 1 + 1 + 1) (k + 1 + 1 + 1 + 1)
@[simp] def PV (x : Zc) (k : Int) : Zc := Zc.mk k (k + 1) (k + 1 + 1) (al vE x.c (k + 1 + 1 + 1)) (al Ga x.a (k + 1 + 1 + 1 + (cn x.c : Nat)))
@[simp] def tK (x : ZU) (k : Int) : ZU := ZU.mk k (k + 1) (ZV.mk (k + 1 + 1) (al MC x.c.a (k + 1 + 1 + 1)) (al Bb x.c.d (k + 1 + 1 + 1 + (cn x.c.a : Nat)))) (Zu.mk (k + 1 + 1 + 1 + (cn x.c.a : Nat) + (cn x.c.d : Nat)) (k + 1 + 1 + 1 + (cn x.c.a : Nat) + (cn x.c.d : Nat) + 1) (k + 1 + 1 + 1 + (cn x.c.a : Nat) + (cn x.c.d : Nat) + 1 + 1) (k + 1 + 1 + 1 + (cn x.c.a : Nat) + (cn x.c.d : Nat) + 1 + 1 + 1) (k + 1 + 1 + 1 + (cn x.c.a : Nat) + (cn x.c.d : Nat) + 1 + 1 + 1 + 1) (k + 1 + 1 + 1 + (cn x.c.a : Nat) + (cn x.c.d : Nat) + 1 + 1 + 1 + 1 + 1) (k + 1 + 1 + 1 + (cn x.c.a : Nat) + (cn x.c.d : Nat) + 1 + 1 + 1 + 1 + 1 + 1) (k + 1 + 1 + 1 + (cn x.c.a : Nat) + (cn x.c.d : Nat) + 1 + 1 + 1 + 1 + 1 + 1 + 1) (k + 1 + 1 + 1 + (cn x.c.a : Nat) + (cn x.c.d : Nat) + 1 + 1 + 1 + 1 + 1 + 1 + 1 + 1)) (ZY.mk (al GL x.a.a (k + 1 + 1 + 1 + (cn x.c.a : Nat) + (cn x.c.d : Nat) + 1 + 1 + 1 + 1 + 1 + 1 + 1 + 1 + 1)) (al PV x.a.b (k + 1 + 1 + 1 + (cn x.c.a : Nat) + (cn x.c.d : Nat) + 1 + 1 + 1 + 1 + 1 + 1 + 1 + 1 + 1 + (cn x.a.a : Nat))))
@[simp] def Pc (x : ZE) (k : Int) : ZE := ZE.mk k (al tK x.a (k + 1))
@[simp] def fT (x : ZP) (k : Int) : ZP := ZP.mk (al fS x.a (k)) (al Vt x.b (k + (cn x.a : Nat))) (al MU x.c (k + (cn x.a : Nat) + (cn x.b : Nat))) x.e x.d
@[simp] def h7 (x : ZF) (k : Int) : ZF := ZF.mk (fT x.b (k)) (al wW x.c (k + (cn x.b.a : Nat) + (cn x.b.b : Nat) + (cn x.b.c : Nat))) (al Bb x.d (k + (cn x.b.a : Nat) + (cn x.b.b : Nat) + (cn x.b.c : Nat) + (cn x.c : Nat))) (al Pc x.a (k + (cn x.b.a : Nat) + (cn x.b.b : Nat) + (cn x.b.c : Nat) + (cn x.c : Nat) + (cn x.d : Nat))) (al Bb x.e (k + (cn x.b.a : Nat) + (cn x.b.b : Nat) + (cn x.b.c : Nat) + (cn x.c : Nat) + (cn x.d : Nat) + (cn x.a : Nat))) (al Bb x.f (k + (cn x.b.a : Nat) + (cn x.b.b : Nat) + (cn x.b.c : Nat) + (cn x.c : Nat) + (cn x.d : Nat) + (cn x.a : Nat) + (cn x.e : Nat))) x.h (al Bb x.g (k + (cn x.b.a : Nat) + (cn x.b.b : Nat) + (cn x.b.c : Nat) + (cn x.c : Nat) + (cn x.d : Nat) + (cn x.a : Nat) + (cn x.e : Nat) + (cn x.f : Nat)))
@[simp] def wA (t : Nat) (x : ZF) : List At := [.O t 0 0 x.b.a.length, .O t 1 0 x.b.b.length, .O t 2 0 x.b.c.length, .d (.int .i64 x.b.e), .d (.int .i64 x.b.d), .O t 5 0 x.c.length, .O t 6 0 x.d.length, .O t 7 0 x.a.length, .O t 8 0 x.e.length, .O t 9 0 x.f.length, .d (.int .i64 x.h), .O t 11 0 x.g.length]
def Kz(A:ByteArray):Nat->List ByteArray->ByteArray->Nat->List ByteArray
  |0,_,_,_=>default
  |D+1,J,U,p=>letI b:=(p:Int);letI c:=(A.size:Int);letI d:=p+1;letI e:=(⟨#[]⟩:ByteArray);bif b<=c then bif b<c&&((bk A p):Int)!=32 then Kz A D J (U++A.extract p (W (b+1)).toNat) d else bif !decide (U=e)then Kz A D (J++[U]) e d else Kz A D J e d else J
def Xs(A:ByteArray):List ByteArray:=match Kz A (A.size+2) [] (⟨#[]⟩:ByteArray) 0 with|a=>a
def g5(A E G:Int):Bool:=decide (A>=E)&&decide (A<=G)
def qG:Nat->ByteArray->Int->ByteArray
  |0,_,_=>default
  |D+1,J,U=>letI b:=Int.tmod U 10;letI c:=W (Int.tdiv U 10);bif U !=0 then bif b<0 then qG D ((⟨([UInt8.ofInt (W (48+W (-b)))]:List UInt8).toArray⟩:ByteArray)++J) c else qG D ((⟨([UInt8.ofInt (W (48+b))]:List UInt8).toArray⟩:ByteArray)++J) c else J
def IE(A:Int):ByteArray:=bif A==0 then(⟨#[48]⟩:ByteArray)else(match qG 22 (⟨#[]⟩:ByteArray) A with|a=>bif A<0 then(⟨#[45]⟩:ByteArray)++a else a)
def Un(A:ByteArray):Nat->Int->Nat->Sum (Int×Bool) Int
  |0,_,_=>.inr default
  |D+1,J,U=>letI b:=((bk A U):Int);bif(U:Int)<(A.size:Int)then bif !(ZJ (W b) 48 57)then .inl (0,false)else Un A D (W (W (10*J)+W (IntKind.u8.wrap (b-48)))) (U+1)else .inr J
def G1(A:ByteArray):Int×Bool:=bif !(ZJ (A.size:Int) 1 13)then(0,false)else(match Un A (A.size+1) 0 0 with|.inl r1=>r1|.inr a=>bif a>1000000000000||!decide (Zr a=A)then(0,false)else(a,true))
def Ja(A:List ByteArray):Nat->List Int->Nat->Sum (List Int×Bool) (List Int)
  |0,_,_=>.inr default
  |D+1,J,U=>letI b:=YY (C A U);bif(U:Int)<(A.length:Int)then bif !b.2 then .inl (J,false)else Ja A D (J++[b.1]) (U+1)else .inr J
def Z5(A:List ByteArray):(List Int)×Bool:=match Ja A (A.length+1) [] 0 with|.inl r1=>r1|.inr a=>(a,true)
def yz(A E:Int):Int:=bif E>A then E else A
def Uk(A:ZV):Nat->Nat->Sum Bool Unit
  |0,_=>.inr ()
  |n2+1,q=>bif(q:Int)<(A.d.length:Int)then bif !(ZJ (C A.d q) 1 1000000000000)then .inl false else Uk A n2 (q+1)else .inr ()
def U2(A:ZV):Nat->Nat->Sum Bool Unit
  |0,_=>.inr ()
  |D+1,J=>bif(J:Int)<(A.a.length:Int)then bif((C A.a J).size:Int)>40 then .inl false else U2 A D (J+1)else .inr ()
def Mj(A:ZV):Bool:=letI b:=A.a.length;letI c:=A.d.length;match U2 A (b+1) 0 with|.inl r1=>r1|.inr _=>(match Uk A (c+1) 0 with|.inl r2=>r2|.inr _=>ZJ A.e 0 999&&ZJ (b:Int) 1 6&&(c:Int)==(b:Int))
def qq(A:Int)(E:List ByteArray)(G:Int):Nat->Nat->List Int->List Int
  |0,_,_=>default
  |D+1,J,U=>bif(J:Int)<(E.length:Int)then qq A E G D (J+1) (U++([yz 1 (yp G [A,(J:Int)])]:List Int))else U
def R1(A:Int)(E:List ByteArray)(G:Int):ZV×Bool:=letI b:=([]:List Int);(match qq A E G (E.length+1) 0 b with|a=>letI c:=ZV.mk A E a;bif !(Xm c)||!(xw G)then(ZV.mk 0 [] b,false)else(c,true))
def qS(A:List Z8)(E:Int):Nat->Int->Nat->Int
  |0,_,_=>default
  |D+1,J,U=>letI b:=C A U;bif(U:Int)<(A.length:Int)then bif E>=b.c&&E<b.a&&(J<0||b.a>(C A J.toNat).a)then qS A E D (U:Int) (U+1)else qS A E D J (U+1)else J
def Ms(A:List Z8)(E:Int):Int:=match qS A E (A.length+1) (-1) 0 with|a=>bif a<0 then-1 else(C A a.toNat).b
def zk(A:ZF)(E:Int):Nat->Nat->Sum Int Unit
  |0,_=>.inr ()
  |D+1,J=>bif(J:Int)<(A.c.length:Int)then bif(C A.c J).c==E then .inl (J:Int)else zk A E D (J+1)else .inr ()
def QQ(A:ZF)(E:Int):Int:=match zk A E (A.c.length+1) 0 with|.inl r1=>r1|.inr _=>-1
def km(E:ByteArray):Nat->List Int->Nat->List Int
  |0,_,_=>default
  |D+1,J,U=>bif(U:Int)<(E.size:Int)then km E D (J++[W ((bk E U):Int)]) (U+1)else J
def Md(A:Int)(E:ByteArray)(G:Int):Int:=match km E (E.size+1) [G] 0 with|a=>QS A a
def MT(A:List YZ)(E:Zu):Zu×Bool:=letI b:=Zi A E.c;bif !(Jp E)||b<0 then(Zu.mk 0 0 0 0 0 0 0 0 0,false)else(Zu.mk E.c E.a E.b E.e E.h E.g E.i E.d (jQ (C A b.toNat) (Xk E)),true)
def Xq(A:ZF)(E:Int)(G:ZV)(V a4:Int):ZU×Bool:=letI b:=A.b;letI c:=ZL b.c b.d;letI d:=QQ A E;letI e:=([]:List Zc);letI f:=C A.c d.toNat;letI g:=XJ b.a (Zu.mk E f.a c (Yh c G) 1 V 0 0 0);bif c<0||d<0 then(ZU.mk 0 0 (ZV.mk 0 [] []) (Zu.mk 0 0 0 0 0 0 0 0 0) (ZY.mk [] e),false)else(ZU.mk A.h a4 G g.1 (ZY.mk [Yf g.1,Kk f] e),g.2)
def Mp(A:ZY):Nat->Nat->Sum Bool Unit
  |0,_=>.inr ()
  |n2+1,q=>letI b:=(q:Int);letI c:=(C A.b q).d;bif b<(A.b.length:Int)then bif !(ZJ c 1 (A.a.length:Int))||b>0&&(C A.b (q-1)).d>c then .inl false else Mp A n2 (q+1)else .inr ()
def MV(A:ZY):Nat->Nat->Sum Bool Unit
  |0,_=>.inr ()
  |D+1,J=>bif(J:Int)<(A.a.length:Int)then bif Kh A (C A.a J)<(J:Int)then .inl false else MV A D (J+1)else .inr ()
def G6(A:ZY):Bool:=letI b:=A.a.length;letI c:=A.b.length;match MV A (b+1) 0 with|.inl r1=>r1|.inr _=>(match Mp A (c+1) 0 with|.inl r2=>r2|.inr _=>ZJ (b:Int) 1 12&&(c:Int)<=8)
def yr(A:ZE)(E:ZU):Nat->Bool->Nat->List ZU->Bool×List ZU
  |0,_,_,_=>(default,default)
  |D+1,J,U,p=>letI b:=C A.a U;letI c:=([b]:List ZU);bif(U:Int)<(A.a.length:Int)then bif !J&&E.b<b.b then yr A E D true (U+1) (p++[E]++c)else yr A E D J (U+1) (p++c)else(J,p)
def Da(A:ZE)(E:ZU):ZE×Bool:=letI b:=(A,false);bif !(QC A)||B A E.b>=0 then b else(match yr A E (A.a.length+1) false 0 []with|(a,g)=>letI c:=ZE.mk A.b (g++[E]);letI d:=ZE.mk A.b g;bif !a then bif !(QC c)then b else(c,true)else bif !(QC d)then b else(d,true))
def GN(A:ZF)(E G:Int)(V:ZV)(a4 a5:Int):ZF×Bool:=letI b:=A.b;letI c:=Zi b.a G;letI d:=(A,false);letI e:=Xq A G V a4 a5;letI f:=XE (C A.a E.toNat) e.1;bif !(Zw A E)||c<0||(C b.a c.toNat).a>b.d then d else bif !e.2 then d else bif !f.2 then d else(ZF.mk b A.c A.d (A.a.set E.toNat f.1) A.e A.f (W (A.h+1)) A.g,true)
def ND(A:ZS):Int:=letI b:=(A.a.length:Int);letI c:=C A.a 0;bif b==0||!(ZJ c 101 105)then 0 else bif b !=C [7,5,5,9,6] (W (c-101)).toNat then 0 else c
def Uj(A:List YZ)(E:O):O×Bool:=letI b:=Zi A E.e;bif !(Tm E)||b<0 then(O.mk 0 0 0 0 0,false)else(O.mk E.a E.b E.d E.e (jQ (C A b.toNat) (J0 E)),true)
def M4(A:ZF)(E:Int):ZF×Bool:=letI b:=u A E;letI c:=b.1.toNat;letI d:=C A.a c;letI e:=(C d.a b.2.toNat).a.a;letI f:=(A,false);letI g:=v (C e 1);letI h:=A.c;letI i:=Zj h g.1.a;letI j:=A.d;letI k:=C j i.toNat;letI l:=A.b;letI m:=l.d;letI n:=(C h i.toNat).e;letI o:=Zv l.a (O.mk g.1.a m k n 0);letI p:=decide ((C l.a (Zi l.a n).toNat).a>m);letI q:=YP d E (Z1 o.1);letI r:=Zv l.a (O.mk g.1.a m (-1) n 0);letI s:=YP d E (Z1 r.1);bif b.1<0||(e.length:Int)<2 then f else bif !g.2||i<0||i>=(j.length:Int)then f else bif k<=W (m+1)then bif !o.2||p then f else(ZF.mk l h j (A.a.set c q.1) A.e A.f A.h A.g,q.2)else bif !r.2||p then f else(ZF.mk l h j (A.a.set c s.1) A.e A.f A.h A.g,s.2)
def Vo(A:ZF)(E:List Int):Nat->Nat->Sum Bool Unit
  |0,_=>.inr ()
  |D+1,J=>letI b:=A.b;letI c:=C E J;letI d:=ZN b.b c;letI e:=Zi b.a (C b.b d.toNat).c;bif(J:Int)<(E.length:Int)then bif d<0||d>=(A.e.length:Int)||(J:Int)>0&&C E (J-1)>=c then .inl false else bif e<0||(C b.a e.toNat).a>b.d then .inl false else Vo A E D (J+1)else .inr ()
def qm(A:ZF)(E:List Int):Bool:=match Vo A E (E.length+1) 0 with|.inl r1=>r1|.inr _=>decide ((E.length:Int)>0)
def xz(E:Zc):Nat->List Int->Nat->List Int
  |0,_,_=>default
  |n2+1,q,n=>letI b:=C E.a n;bif(n:Int)<(E.a.length:Int)then xz E n2 (q++Jd b++[b.f]) (n+1)else q
def yO(E:Zc):Nat->List Int->Nat->List Int
  |0,_,_=>default
  |D+1,J,U=>letI b:=C E.c U;letI c:=J++[b.e];bif(U:Int)<(E.c.length:Int)then bif b.a then yO E D (c++[1]) (U+1)else yO E D (c++[0]) (U+1)else J
def RD(A:Int)(E:Zc):Int:=letI b:=E.a.length;match yO E (E.c.length+1) [4,E.d,E.b,E.e] 0 with|a=>(match xz E (b+1) (a++[(b:Int)]) 0 with|f=>QS A f)
def zn(A:ZE)(E:Int):Nat->List Int->Nat->List Int
  |0,_,_=>default
  |D+1,J,U=>letI b:=C A.a U;letI c:=b.a.b++([Zc.mk (b.a.a.length:Int) E 0 [] []]:List Zc);letI d:=ZY.mk b.a.a c;bif(U:Int)<(A.a.length:Int)then zn A E D (J++[jt d (JP d b.c) (W ((c.length:Int)-1))]) (U+1)else J
def Yu(A:ZE)(E:Int):List Int:=match zn A E (A.a.length+1) [] 0 with|a=>a
def qw(A:ZE)(E:Int):Int:=ze E (Yu A E)
def CC(A:List Int)(E:Int):Nat->Nat->Sum Bool Unit
  |0,_=>.inr ()
  |D+1,J=>bif(J:Int)<(A.length:Int)then bif C A J==E then .inl true else CC A E D (J+1)else .inr ()
def iL(A:List Int)(E:Int):Bool:=match CC A E (A.length+1) 0 with|.inl r1=>r1|.inr _=>false
def VD(A E:Int):Int:=bif E<A then E else A
def IJ(A:List YZ)(E:List ZX)(G:ZW):ZW×Bool:=letI b:=G.a;letI c:=(ZW.mk 0 0 0 0 0,false);letI d:=Zi A (C E (ZN E b).toNat).c;bif ZN E b<0||G.c<0||!(yF G.b)then c else bif d<0 then c else(ZW.mk b G.c G.b G.e (jQ (C A d.toNat) (Jd G)),true)
def jY(A:Int):Nat->Int->List Y9->List Int->List Y9
  |0,_,_,_=>default
  |D+1,J,U,p=>letI b:=(p.length:Int);letI c:=W (Int.tdiv J 2);letI d:=Jw A p;letI e:=W (J+1);bif b>1 then bif Int.tmod J 2==1 then jY A D c (U++[Y9.mk (C p (W (J-1)).toNat) true]) d else bif e<b then jY A D c (U++[Y9.mk (C p e.toNat) false]) d else jY A D c U d else U
def Gv(A:Int)(E:List Int)(G:Int):List Y9:=letI b:=(E.length:Int);letI c:=([]:List Y9);bif b>16||!(ZJ G 0 (W (b-1)))then c else(match jY A (E.length+1) G c E with|a=>a)
def zN(A:ZE)(E:Int)(G:List ZW):Nat->Bool->Nat->List ZU->Bool×List ZU
  |0,_,_,_=>(default,default)
  |D+1,J,U,p=>letI b:=(C A.a U).a;letI c:=Yu A E;letI d:=XH b (Zc.mk (b.a.length:Int) E (ze E c) (QU E c (U:Int)) G);letI e:=C p U;bif(U:Int)<(A.a.length:Int)&&J then zN A E G D d.2 (U+1) (p.set U (ZU.mk e.b e.e e.c e.d d.1))else(J,p)
def Jk(A:ZE)(E:Int)(G:List ZW):ZE×Bool:=letI b:=A.a.length;(match zN A E G (b+1) (QC A&&(b:Int)>0) 0 A.a with|(a,g)=>letI c:=ZE.mk A.b g;bif !a||!(QC c)then(A,false)else(c,true))
def VN(A:ZF)(G:List Int):Nat->Nat->List Int->List Int
  |0,_,_=>default
  |n2+1,q,n=>letI b:=(ZN A.b.b (C G q)).toNat;bif(q:Int)<(G.length:Int)then VN A G n2 (q+1) (n.set b (W (C A.e b+1)))else n
def qA(A:ZF)(E:Int)(G:List Int)(V:Int):Nat->List ZW->Nat->Sum (ZF×Bool) (List ZW)
  |0,_,_=>.inr default
  |D+1,J,U=>letI b:=C G U;letI c:=A.b;letI d:=C A.e (ZN c.b b).toNat;letI e:=qw (C A.a E.toNat) (ZL c.c c.d);letI f:=XU c.a c.b (ZW.mk b d (VD 10000 (yz 0 (W (c.d+V)))) e 0);letI g:=XU c.a c.b (ZW.mk b d c.d e 0);bif(U:Int)<(G.length:Int)then bif J6 A.f b then bif !f.2 then .inl (A,false)else qA A E G V D (J++[f.1]) (U+1)else bif !g.2 then .inl (A,false)else qA A E G V D (J++[g.1]) (U+1)else .inr J
def kX(A:ZF)(E:Int)(G:List Int)(V:Int):ZF×Bool:=letI b:=A.b;letI c:=ZL b.c b.d;letI d:=G.length+1;bif !(Zw A E)||c<0||!(qm A G)||!(ZJ V (-10000) 10000)then(A,false)else(match qA A E G V d [] 0 with|.inl r1=>r1|.inr a=>letI e:=Jk (C A.a E.toNat) c a;bif !e.2 then(A,false)else(match VN A G d 0 A.e with|f=>(ZF.mk b A.c A.d (A.a.set E.toNat e.1) f A.f A.h A.g,true)))
def Km(E:XY):Nat->Bool->Nat->Int->List ZU->Bool×Int×List ZU
  |0,_,_,_,_=>(default,default,default)
  |D+1,J,U,p,i=>letI b:=XE (ZE.mk p i) (C E.a U);bif(U:Int)<(E.a.length:Int)&&J then Km E D b.2 (U+1) b.1.b b.1.a else(J,p,i)
def PM(A:ZE)(E:XY)(G:Int):ZE×Bool:=match Km E (E.a.length+1) (Jj E G&&E.b==A.b) 0 A.b A.a with|(a,g,h)=>bif !a then(A,false)else(ZE.mk g h,true)
def xm(A:ZE)(E:Int):Nat->Nat->List ZU->List ZU
  |0,_,_=>default
  |D+1,J,U=>bif(J:Int)<(A.a.length:Int)then bif(J:Int)!=B A E then xm A E D (J+1) (U++[C A.a J])else xm A E D (J+1) U else U
def jS(A:ZE)(E:Int):ZE×Bool:=bif B A E<0 then(A,false)else(match xm A E (A.a.length+1) 0 []with|a=>(ZE.mk A.b a,true))
def yx(A E:ZE)(G:List Int)(V:Int):Nat->Bool->Nat->Int->List ZU->Bool×Int×List ZU
  |0,_,_,_,_=>(default,default,default)
  |D+1,J,U,p,i=>letI b:=jS (ZE.mk p i) (C G U);bif(U:Int)<(G.length:Int)&&(Yx A E.b G V).2&&J then yx A E G V D b.2 (U+1) b.1.b b.1.a else(J,p,i)
def KB(A E:ZE)(G:List Int)(V:Int):ZE×ZE×Bool:=letI b:=Yx A E.b G V;letI c:=XC E b.1 V;match yx A E G V (G.length+1) c.2 0 A.b A.a with|(a,g,h)=>bif !b.2||!a then(A,E,false)else(ZE.mk g h,c.1,true)
def Vv(A:ZF)(E G V:Int):ZF×Bool:=letI b:=A.b;letI c:=ZL b.c b.d;letI d:=KB (C A.a E.toNat) (C A.a G.toNat) [V] c;bif !(Zw A E)||!(Zw A G)||E==G||c<0 then(A,false)else(ZF.mk b A.c A.d ((A.a.set E.toNat d.1).set G.toNat d.2.1) A.e A.f A.h A.g,d.2.2)
def qz(A:ZE)(E:Int):Nat->Int->Nat->List ZU->Int×List ZU
  |0,_,_,_=>(default,default)
  |D+1,J,U,p=>letI b:=C A.a U;bif(U:Int)<(A.a.length:Int)then bif b.e<E then qz A E D (W (J+1)) (U+1) p else qz A E D J (U+1) (p++[b])else(J,p)
def jU(A:ZE)(E:Int):ZE×Int:=match qz A E (A.a.length+1) 0 0 []with|(a,g)=>(ZE.mk A.b g,a)
def Mn(A:ZF)(E:Int):ZF×Bool:=bif !(Zw A E)then(A,false)else(ZF.mk A.b A.c A.d (A.a.set E.toNat (jU (C A.a E.toNat) A.b.d).1) A.e A.f A.h A.g,true)
def E0(A:List Z8)(E:Int):Int:=letI b:=XL A E;bif b<0 then 0 else(C A b.toNat).d
def FA(A:ZP)(E:Int):Bool:=letI b:=Zi A.a E;decide (b>=0)&&decide (A.d>=JQ A.c (C A.a b.toNat).b)
def I0(A:ZF)(E G:Int)(V:ZV):ZF×Bool:=letI b:=(A,false);letI c:=Xq A G V 0 10000;letI d:=XE (C A.a E.toNat) c.1;bif !(Zw A E)||!(yR A.b G)then b else bif !c.2 then b else bif !d.2 then b else(ZF.mk A.b A.c A.d (A.a.set E.toNat d.1) A.e A.f (W (A.h+1)) (A.g++[A.h]),true)
def qj(A:ZF)(E G:Int):Nat->Nat->List ZW->Sum (ZF×Bool) (List ZW)
  |0,_,_=>.inr default
  |D+1,J,U=>letI b:=A.b;letI c:=u A E;letI d:=XU b.a b.b (ZW.mk (C (YB A) J) 0 G (C (Yu (C A.a c.1.toNat) (ZL b.c b.d)) c.2.toNat) 0);bif(J:Int)<((YB A).length:Int)then bif !d.2 then .inl (A,false)else qj A E G D (J+1) (U++[d.1])else .inr U
def xH(A:ZF)(E G:Int):ZF×Bool:=letI b:=u A E;letI c:=A.b;letI d:=ZL c.c c.d;letI e:=(YB A).length;letI f:=C A.a b.1.toNat;letI g:=b.2.toNat;letI h:=C f.a g;bif b.1<0||d<0||!(J6 A.g E)||(e:Int)==0 then(A,false)else(match qj A E G (e+1) 0 []with|.inl r1=>r1|.inr a=>letI i:=XH h.a (Zc.mk (h.a.a.length:Int) d (C (Yu f d) g) [] a);(ZF.mk c A.c A.d (A.a.set b.1.toNat (ZE.mk f.b (f.a.set g (ZU.mk h.b h.e h.c h.d i.1)))) A.e A.f A.h A.g,i.2))
def Gz(A:ZF)(E G:Int):ZF×Bool:=letI b:=u A E;letI c:=C A.a b.1.toNat;letI d:=(C c.a b.2.toNat).a.a;letI e:=(A,false);letI f:=v (C d 1);letI g:=Zj A.c f.1.a;letI h:=A.b;letI i:=(C A.c g.toNat).e;letI j:=Zv h.a (O.mk f.1.a G (-1) i 0);letI k:=YP c E (Z1 j.1);bif b.1<0||(d.length:Int)<2 then e else bif !f.2||g<0||!(yR h i)then e else bif !j.2 then e else(ZF.mk h A.c A.d (A.a.set b.1.toNat k.1) A.e A.f A.h A.g,k.2)
def K3(A:ZF)(E:YT):ZF×Bool:=letI b:=E.b;letI c:=E.A;letI d:=E.B;letI e:=Kc A c d E.c E.C E.D;letI f:=kX A c E.a d;letI g:=Vv A c d E.C;letI h:=JU A c d E.c;letI i:=xH A c d;letI j:=zY A c d;bif b==1 then((zV A c).1,(zV A c).2)else bif b==2 then(e.1,e.2)else bif b==3 then((Jy A c).1,(Jy A c).2)else bif b==4 then((J3 A c).1,(J3 A c).2)else bif b==5 then(f.1,f.2)else bif b==6 then(g.1,g.2)else bif b==7 then((Jz A c).1,(Jz A c).2)else bif b==8 then(h.1,h.2)else bif b==9 then(i.1,i.2)else bif b==10 then(j.1,j.2)else(A,false)
def WT(A:ZF)(E:List ByteArray)(G:Int):ZF×ByteArray:=letI b:=(A,(⟨#[119,104,97,116]⟩:ByteArray));letI c:=(W (G+1)).toNat;letI d:=Z5 (E.tail.take (c-1));letI e:=Y0 (C d.1 (W (G-1)).toNat) (E.drop c) 11;letI f:=(A,(⟨#[110,111]⟩:ByteArray));letI g:=C d.1 0;letI h:=C d.1 1;letI i:=([]:List Int);letI j:=K3 A (YT.mk 2 g h 0 (C d.1 2) e.1 i);letI k:=Zr A.h;letI l:=K3 A (YT.mk 8 g h 0 0 e.1 i);bif(E.length:Int)<=G then b else bif !d.2 then b else bif !e.2 then f else bif C E 0=(⟨#[115,105,103,110]⟩:ByteArray)then bif !j.2 then f else(j.1,k)else bif !l.2 then f else(l.1,k)
def TC(A:ZF)(E:YT):ZF×ByteArray:=letI b:=K3 A E;bif !b.2 then(A,(⟨#[110,111]⟩:ByteArray))else(b.1,(⟨#[111,107]⟩:ByteArray))
def Vp(A:ZF)(E:List ByteArray):ZF×ByteArray:=letI b:=(A,(⟨#[119,104,97,116]⟩:ByteArray));letI c:=C E 2;letI d:=YY (C E 1);letI e:=YY (c.extract 1 c.size);letI f:=Z5 (E.drop 3);letI g:=ZV.mk 0 [] [];letI h:=TC A (YT.mk 5 d.1 (W (-1*e.1)) 0 0 g f.1);letI i:=TC A (YT.mk 5 d.1 (W (1*(YY c).1)) 0 0 g f.1);bif(E.length:Int)<4 then b else bif(c.size:Int)>1&&((bk c 0):Int)==45 then bif !d.2||!e.2||!f.2 then b else(h.1,h.2)else bif !d.2||!(YY c).2||!f.2 then b else(i.1,i.2)
def z3(A:Int):ByteArray:=letI b:=(⟨#[]⟩:ByteArray);bif !(ZJ A 1 10)then b else C ([b,(⟨#[116,105,99,107]⟩:ByteArray),(⟨#[115,105,103,110]⟩:ByteArray),(⟨#[97,110,115,119,101,114]⟩:ByteArray),(⟨#[114,101,118,111,107,101]⟩:ByteArray),(⟨#[114,101,110,101,119]⟩:ByteArray),(⟨#[109,111,118,101]⟩:ByteArray),(⟨#[102,111,114,103,101,116]⟩:ByteArray),(⟨#[102,111,114,103,101]⟩:ByteArray),(⟨#[98,97,99,107,100,97,116,101]⟩:ByteArray),(⟨#[102,97,107,101]⟩:ByteArray)]:List ByteArray) A.toNat
def jP(A:ZF)(E:List ByteArray):Nat->Nat->Sum (ZF×ByteArray×Bool) Unit
  |0,_=>.inr ()
  |D+1,J=>letI b:=C [1,3,4,7,6,9,10] J;letI c:=Z5 (E.tail);letI d:=c.1++[0,0];letI e:=([]:List Int);letI f:=TC A (YT.mk b (C d 0) (C d 1) (C d 2) 0 (ZV.mk 0 [] e) e);bif(J:Int)<7 then bif !decide (z3 b=C E 0)then jP A E D (J+1)else bif !c.2||(c.1.length:Int)!=C [1,1,1,1,3,2,2] J then .inl (A,(⟨#[119,104,97,116]⟩:ByteArray),true)else .inl (f.1,f.2,true)else .inr ()
def yV(A:ZF)(E:List ByteArray):ZF×ByteArray×Bool:=match jP A E 8 0 with|.inl r1=>r1|.inr _=>(A,(⟨#[]⟩:ByteArray),false)
def Dz(A:List Z8)(E G:Int):Bool:=letI b:=XL A E;letI c:=C A b.toNat;decide (b>=0)&&G>=c.c&&decide (G<c.d)
def Wi(A:List Z8)(E:Int):Int:=letI b:=XL A E;bif b<0 then 0 else(C A b.toNat).a
def zK(A:ZP):Nat->List Int->Nat->List Int
  |0,_,_=>default
  |D+1,J,U=>letI b:=C A.b U;letI c:=Zi A.a b.c;letI d:=C A.a c.toNat;bif(U:Int)<(A.b.length:Int)then bif c>=0&&d.a<=A.d&&Tf A.c d.b A.d&&Wi A.c d.b>A.d then zK A D (J++[b.b]) (U+1)else zK A D J (U+1)else J
def Oe(A:ZP):List Int:=match zK A (A.b.length+1) [] 0 with|a=>a
def UB(A:List Int):Nat->ByteArray->Nat->ByteArray
  |0,_,_=>default
  |D+1,J,U=>letI b:=Zr (C A U);bif(U:Int)<(A.length:Int)then bif(U:Int)>0 then UB A D (J++(⟨#[32]⟩:ByteArray)++b) (U+1)else UB A D (J++b) (U+1)else J
def CJ(A:List Int):ByteArray:=letI b:=(⟨#[]⟩:ByteArray);match UB A (A.length+1) b 0 with|a=>bif a=b then(⟨#[45]⟩:ByteArray)else a
def qB(E J:List ZW)(U:Nat):Nat->Bool->Nat->Bool
  |0,_,_=>default
  |n2+1,q,n=>letI b:=C J n;letI c:=C E U;bif(n:Int)<(J.length:Int)then qB E J U n2 (q||b.a==c.a&&(b.c==c.c&&(b.b==c.b&&(b.e==c.e&&b.f==c.f)))) (n+1)else q
def zW(E:List ZW):Nat->List ZW->Nat->List ZW
  |0,_,_=>default
  |D+1,J,U=>bif(U:Int)<(E.length:Int)then(match qB E J U (J.length+1) false 0 with|f=>bif !f then zW E D (J++[C E U]) (U+1)else zW E D J (U+1))else J
def R6(A E:List ZW):List ZW:=match zW E (E.length+1) A 0 with|a=>a
def TB(A:M)(U:Nat):Nat->List ZW->Nat->List ZW
  |0,_,_=>default
  |n2+1,q,n=>letI b:=(C A.a U).b;bif(n:Int)<(b.length:Int)then TB A U n2 (R6 q (C b n).a) (n+1)else q
def Uw(A:M):Nat->List ZW->Nat->List ZW
  |0,_,_=>default
  |p+1,j,O=>bif(O:Int)<(A.b.length:Int)then Uw A p (R6 j (C A.b O)) (O+1)else j
def Ua(A:M):Nat->List ZW->Nat->List ZW
  |0,_,_=>default
  |D+1,J,U=>bif(U:Int)<(A.a.length:Int)then(match TB A U ((C A.a U).b.length+1) J 0 with|f=>Ua A D f (U+1))else J
def Gk(A:M):List ZW:=match Ua A (A.a.length+1) [] 0 with|a=>(match Uw A (A.b.length+1) a 0 with|e=>e)
def VM(A:ZF)(J:Nat):Nat->Nat->List ZY->List ZY
  |0,_,_=>default
  |n2+1,q,n=>letI b:=(C A.a J).a;bif(q:Int)<(b.length:Int)then VM A J n2 (q+1) (n++[(C b q).a])else n
def kK(A:ZF):Nat->Nat->List ZY->List ZY
  |0,_,_=>default
  |D+1,J,U=>bif(J:Int)<(A.a.length:Int)then(match VM A J ((C A.a J).a.length+1) 0 U with|f=>kK A D (J+1) f)else U
def C6(A:ZF):List ZW:=match kK A (A.a.length+1) 0 []with|a=>y7 (M.mk a ([]:List (List ZW)))
def O8(A:List YZ)(E:List ZX)(G V:ZW):Bool:=letI b:=G.a;letI c:=V.a;letI d:=G.c==V.c;letI e:=G.b;letI f:=V.b;bif !(KT A E G)||!(KT A E V)||b !=c then false else d&&!(b==c&&(d&&(e==f&&(G.e==V.e&&G.f==V.f))))||G.c<V.c&&e>f||V.c<G.c&&decide (f>e)
def Se(A:List YZ)(E:List ZX)(G:List ZW)(U n:Nat):Nat->Bool->Nat->Bool
  |0,_,_=>default
  |p+1,j,O=>letI b:=C G n;bif(O:Int)<(n:Int)&&b.a==(U:Int)then Se A E G U n p (j||KL A E b (C G O)) (O+1)else j
def UM(A:List YZ)(E:List ZX)(G:List ZW)(U:Nat):Nat->Bool->Nat->Bool
  |0,_,_=>default
  |n2+1,q,n=>letI b:=n+1;bif(n:Int)<(G.length:Int)then(match Se A E G U n b q 0 with|e=>UM A E G U n2 e b)else q
def V7(A:List YZ)(E:List ZX)(G:List ZW):Nat->List Int->Nat->List Int
  |0,_,_=>default
  |D+1,J,U=>bif(U:Int)<=99 then(match UM A E G U (G.length+1) false 0 with|f=>bif f then V7 A E G D (J++[(U:Int)]) (U+1)else V7 A E G D J (U+1))else J
def CW(A:List YZ)(E:List ZX)(G:List ZW):List Int:=match V7 A E G 101 [] 0 with|a=>a
def R9(A:ZF)(U:Nat):Nat->List Int->Nat->List Int
  |0,_,_=>default
  |n2+1,q,n=>letI b:=(C A.a U).a;bif(n:Int)<(b.length:Int)then R9 A U n2 (q++[(C b n).b]) (n+1)else q
def PN(A:ZF):Nat->List Int->Nat->List Int
  |0,_,_=>default
  |D+1,J,U=>bif(U:Int)<(A.a.length:Int)then(match R9 A U ((C A.a U).a.length+1) J 0 with|f=>PN A D f (U+1))else J
def y4(A:ZF):List Int:=match PN A (A.a.length+1) [] 0 with|a=>a
def I6(A:List YZ)(E:Int)(G:List Int)(V:Int):Bool:=letI b:=Zi A E;decide (b>=0)&&jQ (C A b.toNat) G==V
def TS(A:ZP)(E:Int)(G:Zu):XR:=bif !(kF A)then W4 1 else bif !(Jp G)then kL 1 else bif E<0 then W4 2 else bif E !=G.e then kL 2 else bif Zi A.a G.c<0 then W4 3 else bif !(zT A.a G)then kL 4 else XR.mk 0 0 (o.mk 0 0)
def GR(A E:Int):o×Bool:=letI b:=VD 10000 E;bif yz 0 A>b then(o.mk 0 0,false)else(o.mk (yz 0 A) b,true)
def UP(A:List o)(E:Int):Nat->Int->Nat->Int
  |0,_,_=>default
  |D+1,J,U=>letI b:=C A U;bif(U:Int)<(A.length:Int)then bif Yr b&&b.d<=E&&E<=b.b then UP A E D (W (J+1)) (U+1)else UP A E D J (U+1)else J
def DB(A:List o)(E:Int):Int:=match UP A E (A.length+1) 0 0 with|a=>a
def Qy(A:List o)(E:Int):Nat->Int->Int->Nat->Int×Int
  |0,_,_,_=>(default,default)
  |D+1,J,U,p=>letI b:=C A p;letI c:=Yr b&&YN A b.b E;letI d:=yz U b.b;letI e:=p+1;bif(p:Int)<(A.length:Int)then bif Yr b&&YN A b.d E&&(J<0||b.d<J)then bif c then Qy A E D b.d d e else Qy A E D b.d U e else bif c then Qy A E D J d e else Qy A E D J U e else(J,U)
def ya(A:List o)(E:Int):o×Bool:=letI b:=(o.mk 0 0,false);bif !(ZJ E 0 (W ((A.length:Int)-1)))then b else(match Qy A E (A.length+1) (-1) (-1) 0 with|(a,g)=>bif a<0 then b else(o.mk a g,true))
def jo(A:List ZX)(E:Zc):Nat->List o->Nat->Sum (o×Bool) (List o)
  |0,_,_=>.inr default
  |D+1,J,U=>letI b:=Jc A (C E.a U);bif(U:Int)<(E.a.length:Int)then bif !b.2 then .inl (o.mk 0 0,false)else jo A E D (J++[b.1]) (U+1)else .inr J
def KF(A:List ZX)(E:Zc)(G:Int):o×Bool:=(match jo A E (E.a.length+1) [] 0 with|.inl r1=>r1|.inr a=>letI b:=ya a G;(b.1,b.2))
def Ge(A:List ZX)(E:ZW):Int:=letI b:=ZN A E.a;bif b<0 then 0 else(C A b.toNat).c
def qV(A:List YZ)(E:List ZX)(G:List Z8)(V:Zc):Nat->Int->Nat->Sum Int Int
  |0,_,_=>.inr default
  |D+1,J,U=>letI b:=Zi A (Yq E (C V.a U));bif(U:Int)<(V.a.length:Int)then bif b<0 then .inl 0 else qV A E G V D (VD J (JQ G (C A b.toNat).b)) (U+1)else .inr J
def R5(A:List YZ)(E:List ZX)(G:List Z8)(V:Zc):Int:=match qV A E G V (V.a.length+1) (JQ G V.b) 0 with|.inl r1=>r1|.inr a=>a
def SG(A:ZP)(E:ZY)(G:Int):Bool:=letI b:=W ((E.b.length:Int)-1);letI c:=K4 A.a A.b A.c (C E.b G.toNat);letI d:=KF A.b (C E.b (W (G+1)).toNat) A.e;bif !(ZJ G 0 b)then false else bif G==b then decide (A.d<c)else d.2&&decide (d.1.b<c)
def Wv(A:List YZ)(E:List ZX)(G:Zc):Nat->Nat->Sum Bool Unit
  |0,_=>.inr ()
  |D+1,J=>letI b:=C G.a J;bif(J:Int)<(G.a.length:Int)then bif b.e !=G.e||(J:Int)>0&&(C G.a (J-1)).a>=b.a||!(KT A E b)then .inl false else Wv A E G D (J+1)else .inr ()
def PS(A:List YZ)(E:List ZX)(G:Zc)(V:Int):Bool:=letI b:=G.a.length;bif(G.c.length:Int)>4||WY G.b V G.c !=G.e||!(ZJ (b:Int) 1 6)then false else(match Wv A E G (b+1) 0 with|.inl r1=>r1|.inr _=>true)
def HG(A:ZP)(E:ZY)(G:List Int)(V:Int):Bool:=letI b:=C E.b V.toNat;(KF A.b b A.e).2&&SG A E V&&z4 A.a A.b b (jt E G V)
def kG(A:ZP)(E:ZY)(G:List Int):Nat->Nat->Nat
  |0,_=>default
  |D+1,J=>bif(J:Int)>0&&HG A E G (W ((J:Int)-1))then kG A E G D (J-1)else J
def xf(A:ZP)(E:ZY)(G:List Int):Int:=letI b:=E.b.length;match kG A E G (b+1) b with|a=>(a:Int)
def UQ(A:ZP)(E:ZY)(V:Int):Nat->Int->Int->Int
  |0,_,_=>default
  |D+1,J,U=>letI b:=C E.b U.toNat;letI c:=W (U+1);bif U<(E.b.length:Int)then bif b.d>V then UQ A E V D (VD J (KF A.b b A.e).1.b) c else UQ A E V D J c else J
def Nw(A:ZP)(E:ZY)(G:List Int)(V:Int):Int:=match UQ A E V (E.b.length+2) A.d (xf A E G)with|a=>a
def Wt(A:ZP)(E:ZY)(G:List Int)(V:ZS):Int:=letI b:=Kh E V;bif b<0 then A.d else Nw A E G b
def xo(A:ZP)(E:M)(G:List (List Int))(V:ZS):Nat->Int->Nat->Int
  |0,_,_=>default
  |D+1,J,U=>bif(U:Int)<(E.a.length:Int)&&(U:Int)<(G.length:Int)then xo A E G V D (VD J (Wt A (C E.a U) (C G U) V)) (U+1)else J
def XW(A:ZP)(E:M)(G:List (List Int))(V:ZS):Int:=match xo A E G V (E.a.length+1) A.d 0 with|a=>a
def MD(A:ZS):Bool:=(v A).2||(Ql A).2||(zi A).2||(yw A).2||(JC A).2
def Rk(A:List YZ)(E:ZS):Bool:=MD E&&Qo A E.c E.a E.f
def Sh(A:ZP)(E:M)(G:List (List Int))(V:ZS):Bool:=letI b:=Zi A.a V.c;decide (b>=0)&&zw A.a V&&decide (XW A E G V<JQ A.c (C A.a b.toNat).b)
def zF(A:List ZS)(E:ZS):Nat->Nat->Nat
  |0,_=>default
  |D+1,J=>bif(J:Int)<(A.length:Int)&&XS (C A J) E then zF A E D (J+1)else J
def Uq(A:List ZS)(E:ZS):List ZS:=match zF A E (A.length+1) 0 with|a=>bif(a:Int)<(A.length:Int)&&Kx (C A a) E then A else A.take a++[E]++A.drop a
def JN(A:ZP)(E:M)(G:List (List Int))(U:Nat):Nat->List ZS->Nat->List ZS
  |0,_,_=>default
  |n2+1,q,n=>letI b:=(C E.a U).a;letI c:=C b n;letI d:=n+1;bif(n:Int)<(b.length:Int)then bif Sh A E G c then JN A E G U n2 (Uq q c) d else JN A E G U n2 q d else q
def zU(A:ZP)(E:M)(G:List (List Int)):Nat->List ZS->Nat->List ZS
  |0,_,_=>default
  |D+1,J,U=>bif(U:Int)<(E.a.length:Int)then(match JN A E G U ((C E.a U).a.length+1) J 0 with|f=>zU A E G D f (U+1))else J
def YS(A:ZP)(E:M)(G:List (List Int)):List ZS:=match zU A E G (E.a.length+1) [] 0 with|a=>a
def DJ(A:List YZ)(E:Int):Int:=letI b:=Zi A E;bif b<0 then-1 else(C A b.toNat).g
def IA(A:List YZ)(E:Yv):Bool:=NU E&&Qo A E.e (yT E) E.f&&UA A E.c==E.g
def qQ(E:List ZW):Nat->List Int->Nat->List Int
  |0,_,_=>default
  |D+1,J,U=>bif(U:Int)<(E.length:Int)then qQ E D (J++[(C E U).f]) (U+1)else J
def Pv(A:Int)(E:List ZW):Int:=bif(E.length:Int)==0 then 0 else(match qQ E (E.length+1) [] 0 with|a=>yz 1 (QS A a))
def U7(A:ZP)(E:List ZS)(G:List ZW):Nat->List o->Nat->Sum (Int×Bool) (List o)
  |0,_,_=>.inr default
  |D+1,J,U=>letI b:=C G U;letI c:=Jc A.b b;bif(U:Int)<(G.length:Int)then bif !c.2||(U:Int)>0&&(C G (U-1)).a>=b.a||!(QF E (KV (Yq A.b b) b))then .inl (0,false)else U7 A E G D (J++[c.1]) (U+1)else .inr J
def y6(A:ZP)(E:List ZS)(G:List ZW):Int×Bool:=(match U7 A E G (G.length+1) [] 0 with|.inl r1=>r1|.inr a=>letI b:=ya a A.e;(b.1.d,b.2))
def Kt(A:ZP)(E:M)(G:List ZS)(V:Zu):Nat->Int->Nat->Int
  |0,_,_=>default
  |D+1,J,U=>letI b:=C E.b U;letI c:=U+1;letI d:=y6 A G b;bif(U:Int)<(E.b.length:Int)&&V.d !=0 then bif KE V.b b !=V.d then Kt A E G V D J c else bif d.2 then Kt A E G V D (yz J d.1) c else Kt A E G V D J c else J
def qH(A:ZP)(E:M)(G:List ZS)(V:Zu):Nat->Int->Nat->Int
  |0,_,_=>default
  |n2+1,q,n=>letI b:=C E.b n;letI c:=n+1;letI d:=y6 A G b;bif(n:Int)<(E.b.length:Int)&&V.d !=0 then bif KE V.b b !=V.d then qH A E G V n2 q c else bif d.2 then qH A E G V n2 (yz q d.1) c else qH A E G V n2 q c else q
def Jh(A:ZP)(E:M)(G:List ZS)(V:Zu):Int:=letI b:=Zi A.a V.c;letI c:=E.b.length+1;bif b>=0 then(match Kt A E G V c (C A.a b.toNat).a 0 with|a=>a)else(match qH A E G V c 0 0 with|f=>f)
def Xz(A:List o)(E G:Int):List o:=letI b:=Xt E G;bif !b.2 then A else A++[b.1]
def ky(A:List O)(E:Int):Nat->Int->Int->Nat->Int×Int
  |0,_,_,_=>(default,default)
  |D+1,J,U,p=>letI b:=C A p;letI c:=p+1;bif(p:Int)<(A.length:Int)then bif b.a !=E then ky A E D J U c else bif b.d>=0 then ky A E D (yz J b.d) U c else ky A E D J (yz U b.b) c else(J,U)
def DO(A:List O)(E:Int):Int:=match ky A E (A.length+1) (-1) (-1) 0 with|(a,g)=>bif a<0 then 10001 else yz a (W (g+1))
def NO(a:List o)(g:Int):Nat->Nat->Nat
  |0,_=>default
  |n2+1,q=>bif(q:Int)<(a.length:Int)&&(C a q).d<g then NO a g n2 (q+1)else q
def UO(A:List o):Nat->List o->Nat->Int->Int->List o×Int×Int
  |0,_,_,_,_=>(default,default,default)
  |D+1,J,U,p,i=>letI b:=C A U;bif(U:Int)<(A.length:Int)then bif W (b.b+1)<p||W (i+1)<b.d then UO A D (J++[b]) (U+1) p i else UO A D J (U+1) (VD p b.d) (yz i b.b)else(J,p,i)
def HT(A:List o)(E:o):List o:=match UO A (A.length+1) [] 0 E.d E.b with|(a,g,h)=>(match NO a g (a.length+1) 0 with|f=>a.take f++[o.mk g h]++(a.drop f).take (a.length-f))
def UK(A:List o):Nat->List o->Nat->List o
  |0,_,_=>default
  |D+1,J,U=>letI b:=C A U;bif(U:Int)<(A.length:Int)then bif Yr b then UK A D (HT J b) (U+1)else UK A D J (U+1)else J
def CT(A:List o):List o:=match UK A (A.length+1) [] 0 with|a=>a
def GQ(A:Yv)(E:List O):List o:=letI b:=decide (A.b<10000);letI c:=([]:List o);letI d:=Xz c 0 (W (A.d-1));letI e:=W (A.b+1);letI f:=Xd E A.a;bif A.d>0 then bif b then XX (Xz (Xz d e 10000) f 10000)else XX (Xz d f 10000)else bif b then XX (Xz (Xz c e 10000) f 10000)else XX (Xz c f 10000)
def yj(A:List O)(E:Int):Nat->Int->Int->Nat->Int×Int
  |0,_,_,_=>(default,default)
  |D+1,J,U,p=>letI b:=C A p;letI c:=p+1;bif(p:Int)<(A.length:Int)then bif b.a !=E then yj A E D J U c else bif b.d<0 then yj A E D J (yz U b.b) c else bif J<0||b.d<J then yj A E D b.d U c else yj A E D J U c else(J,U)
def IS(A:List O)(E:Int):Int:=match yj A E (A.length+1) (-1) (-1) 0 with|(a,g)=>bif a>=0 then W (a-1)else g
def Ip(A E:o):o×Bool:=letI b:=Xt (yz A.d E.d) (VD A.b E.b);bif !(Yr A)||!(Yr E)then(o.mk 0 0,false)else(b.1,b.2)
def L8(A:Yv)(E:List O):List o:=letI b:=Kj E A.a;bif !(Xt 0 b).2||b>10000 then[]else UF [xD A] [(Xt 0 b).1]
def Mb(A:List YZ)(E:List XD)(G V:Int)(a4:o):Bool:=bif G==0 then Yr a4 else zo (K5 A E G V) a4
def qc(A:ZP)(E:M)(G:List (List Int))(V:Int)(a4:Zu):XR:=letI b:=TS A V a4;letI c:=XW A E G (Yf a4);letI d:=YS A E G;letI e:=Xn A d a4;letI f:=Jh A E d a4;letI g:=JF d e.1;letI h:=o.mk f c;bif b.a !=0 then b else bif c>=JQ A.c (C A.a (Zi A.a a4.c).toNat).b||c>=JQ A.c a4.b then W4 5 else bif !e.2 then W4 6 else bif f>c then W4 7 else bif Te e.1 g h then XR.mk 2 8 h else bif !(WS e.1 g h)then XR.mk 3 7 h else bif !(jT A.a (ye d) a4.g e.1.g h)then XR.mk 3 9 h else XR.mk 1 0 h
def EP(A:ZP)(E:M)(G:ZV)(V:Zu):XR:=qc A E (KX E G) (Yh V.b G) V
def jM(A:ZP)(E:ZU):XR:=EP A (JB E) E.c E.d
def Jn(A:ZF)(E:Int):XR:=letI b:=u A E;bif b.1<0 then XR.mk 0 0 (o.mk 0 0)else jM A.b (C (C A.a b.1.toNat).a b.2.toNat)
def yM(A:ZF)(E:Int):Nat->Int->Nat->Int
  |0,_,_=>default
  |D+1,J,U=>bif(U:Int)<((y4 A).length:Int)then bif(Jn A (C (y4 A) U)).a==E then yM A E D (W (J+1)) (U+1)else yM A E D J (U+1)else J
def QM(A:ZF)(E:Int):Int:=match yM A E ((y4 A).length+1) 0 0 with|a=>a
def xS(A:ZF):Nat->ByteArray->Nat->ByteArray
  |0,_,_=>default
  |D+1,J,U=>letI b:=Zr ((C A.a U).a.length:Int);bif(U:Int)<(A.a.length:Int)then bif(U:Int)>0 then xS A D (J++(⟨#[43]⟩:ByteArray)++b) (U+1)else xS A D (J++b) (U+1)else J
def VP(A:ZF):ByteArray:=letI b:=(⟨#[32]⟩:ByteArray);letI c:=(⟨#[47]⟩:ByteArray);match xS A (A.a.length+1) (Zr A.b.d++b) 0 with|a=>a++b++Zr (QM A 1)++c++Zr (QM A 2)++c++Zr (QM A 3)++b++Zr (A.g.length:Int)
def RQ(A:ZF):Nat->Nat->Sum Bool Unit
  |0,_=>.inr ()
  |n2+1,q=>bif(q:Int)<(A.d.length:Int)then bif !(ZJ (C A.d q) (-1) 10001)then .inl false else RQ A n2 (q+1)else .inr ()
def Mu(A:ZF):Nat->Nat->Sum Bool Unit
  |0,_=>.inr ()
  |D+1,J=>letI b:=C A.c J;bif(J:Int)<(A.c.length:Int)then bif !(jG A.b.a b)||Zj A.c b.a<(J:Int)then .inl false else Mu A D (J+1)else .inr ()
def MO(A:ZF):Bool:=letI b:=A.c.length;letI c:=A.d.length;match Mu A (b+1) 0 with|.inl r1=>r1|.inr _=>(match RQ A (c+1) 0 with|.inl r2=>r2|.inr _=>(c:Int)==(b:Int))
def TE(A:ZF)(U:Nat):Nat->List Int->Nat->Sum Bool (List Int)
  |0,_,_=>.inr default
  |n2+1,q,n=>letI b:=(C A.a U).a;letI c:=(C b n).b;bif(n:Int)<(b.length:Int)then bif J6 q c||c>=A.h then .inl false else TE A U n2 (q++[c]) (n+1)else .inr q
def WV(A:ZF):Nat->List Int->Nat->Sum Bool Unit
  |0,_,_=>.inr ()
  |D+1,J,U=>letI b:=C A.a U;bif(U:Int)<(A.a.length:Int)then bif !(QC b)||b.b !=(U:Int)then .inl false else(match TE A U (b.a.length+1) J 0 with|.inl r2=>.inl r2|.inr f=>WV A D f (U+1))else .inr ()
def MK(A:ZF):Bool:=letI b:=A.a.length;match WV A (b+1) [] 0 with|.inl r1=>r1|.inr _=>ZJ (b:Int) 1 4&&decide (A.h>=1)
def Od(A:ZF):Nat->Nat->Sum Bool Unit
  |0,_=>.inr ()
  |p+1,j=>bif(j:Int)<(A.g.length:Int)then bif C A.g (j-1)>=C A.g j then .inl false else Od A p (j+1)else .inr ()
def OG(A:ZF):Nat->Nat->Sum Bool Unit
  |0,_=>.inr ()
  |n2+1,q=>letI b:=(q:Int);letI c:=C A.f q;bif b<(A.f.length:Int)then bif ZN A.b.b c<0||b>0&&C A.f (q-1)>=c then .inl false else OG A n2 (q+1)else .inr ()
def Oh(A:ZF):Nat->Nat->Sum Bool Unit
  |0,_=>.inr ()
  |D+1,J=>bif(J:Int)<(A.e.length:Int)then bif C A.e J<0 then .inl false else Oh A D (J+1)else .inr ()
def DV(A:ZF):Bool:=letI b:=A.e.length;letI c:=A.f.length;letI d:=A.b;match Oh A (b+1) 0 with|.inl r1=>r1|.inr _=>(match OG A (c+1) 0 with|.inl r2=>r2|.inr _=>(match Od A (A.g.length+1) 1 with|.inl a=>a|.inr _=>kF d&&MO A&&MK A&&(b:Int)==(d.b.length:Int)&&(c:Int)<=d.e))
def qN(A:ZF)(U:Nat):Nat->List Int->Nat->List Int
  |0,_,_=>default
  |n2+1,q,n=>letI b:=(C A.a U).a;letI c:=(C b n).b;letI d:=n+1;bif(n:Int)<(b.length:Int)then bif(Jn A c).a==1 then qN A U n2 (q++[c]) d else qN A U n2 q d else q
def WE(A:ZF):Nat->List Int->Nat->List Int
  |0,_,_=>default
  |D+1,J,U=>bif(U:Int)<(A.a.length:Int)then(match qN A U ((C A.a U).a.length+1) J 0 with|f=>WE A D f (U+1))else J
def Qb(A:ZF):List Int:=match WE A (A.a.length+1) [] 0 with|a=>a
def xV(A:ZF):Nat->List Int->Nat->List Int
  |0,_,_=>default
  |D+1,J,U=>letI b:=C (Qb A) U;bif(U:Int)<((Qb A).length:Int)then bif J6 A.g b then xV A D (J++[b]) (U+1)else xV A D J (U+1)else J
def VE(A:ZF):List Int:=match xV A ((Qb A).length+1) [] 0 with|a=>a
def Rs(A:ZF):ByteArray:=bif !(Tg A)then(⟨#[119,111,114,108,100]⟩:ByteArray)else bif((VE A).length:Int)>0 then(⟨#[102,111,114,103,101,100]⟩:ByteArray)else(⟨#[]⟩:ByteArray)
def Sy(A:XR):ByteArray:=letI b:=KP A.a;letI c:=(⟨#[]⟩:ByteArray);letI d:=K0 A.c;letI e:=(⟨#[32]⟩:ByteArray);letI f:=b++e++d;bif b=c||d=c then c else bif A.b.d !=0||A.b.b !=0 then f++e++Zr A.b.d++(⟨#[45]⟩:ByteArray)++Zr A.b.b else f
def W9(q:List Int)(n:Nat)(a:List Int):Nat->Nat->Nat
  |0,_=>default
  |p+1,j=>bif(j:Int)<(q.length:Int)&&C q j<C a n then W9 q n a p (j+1)else j
def yv(a:List Int):Nat->List Int->Nat->List Int
  |0,_,_=>default
  |n2+1,q,n=>letI b:=C a n;letI c:=n+1;bif(n:Int)<(a.length:Int)then bif J6 q b then yv a n2 q c else(match W9 q n a (q.length+1) 0 with|e=>yv a n2 (q.take e++[b]++(q.drop e).take (q.length-e)) c)else q
def VG(A:ZU):Nat->List Int->Nat->List Int
  |0,_,_=>default
  |D+1,J,U=>bif(U:Int)<(A.a.b.length:Int)then VG A D (J++[(C A.a.b U).b]) (U+1)else J
def I7(A:ZU):List Int:=match VG A (A.a.b.length+1) [A.d.b] 0 with|a=>(match yv a (a.length+1) [] 0 with|f=>f)
def KY(A:t):Nat->ByteArray->Nat->ByteArray
  |0,_,_=>default
  |D+1,J,U=>letI b:=U+1;bif(U:Int)<(A.b.length:Int)then bif !(C A.b U)then KY A D (J++(⟨#[32,42]⟩:ByteArray)) b else bif(U:Int)<(A.a.length:Int)then KY A D (J++(⟨#[32,91]⟩:ByteArray)++C A.a U++(⟨#[93]⟩:ByteArray)) b else KY A D (J++(⟨#[32,91,93]⟩:ByteArray)) b else J
def Tr(A:t):ByteArray:=match KY A (A.b.length+1) (Zr A.e) 0 with|a=>a
def qT(A:t):Nat->Nat->List ByteArray->List Int->Sum Bool (List ByteArray×List Int)
  |0,_,_,_=>.inr (default,default)
  |D+1,J,U,p=>letI b:=C A.b J;letI c:=((C A.f J).length:Int);letI d:=C A.a J;letI e:=C A.d J;letI f:=b&&c !=0||!b&&(c !=(A.c.length:Int)||!decide (d=(⟨#[]⟩:ByteArray))||e !=0);bif(J:Int)<(A.b.length:Int)then bif b then bif f then .inl false else qT A D (J+1) (U++[d]) (p++[e])else bif f then .inl false else qT A D (J+1) U p else .inr (U,p)
def Mr(A:t):Bool:=letI b:=A.b.length;letI c:=(b:Int);bif !(ZJ c 1 6)||(A.a.length:Int)!=c||(A.d.length:Int)!=c||(A.f.length:Int)!=c then false else(match qT A (b+1) 0 [] []with|.inl r1=>r1|.inr (a,g)=>Xm (ZV.mk A.e a g)||(a.length:Int)==0&&ZJ A.e 0 999)
def X9(A:Int)(E:t)(a:Nat):Nat->List Int->Nat->Sum Int (List Int)
  |0,_,_=>.inr default
  |n2+1,q,n=>letI b:=n+1;bif(n:Int)<(E.b.length:Int)then bif C E.b n then X9 A E a n2 (q++[yb A (C E.a n) (C E.d n)]) b else bif(a:Int)==(E.c.length:Int)then .inl (-1)else X9 A E a n2 (q++[C (C E.f n) a]) b else .inr q
def X7(A:Int)(E:t):Nat->Nat->Nat
  |0,_=>default
  |D+1,J=>bif(J:Int)<(E.c.length:Int)&&C E.c J !=A then X7 A E D (J+1)else J
def Th(A:Int)(E:t):Int:=bif !(KW E)then-1 else(match X7 A E (E.c.length+1) 0 with|a=>(match X9 A E a (E.b.length+1) [E.e] 0 with|.inl r2=>r2|.inr f=>QS A f))
def j6(A:ZP)(E:M)(G:t)(V:Zu):XR:=qc A E (QP E G) (JL V.b G) V
def ym(A:ZP)(E:ZU)(G:t):XR:=j6 A (JB E) G E.d
def Rx(A:ZF)(E:List Int)(G:Bool):ByteArray:=letI b:=C E 0;letI c:=(⟨#[110,111]⟩:ByteArray);letI d:=C (C A.a (u A b).1.toNat).a (u A b).2.toNat;letI e:=Xf d [C E 1];bif(u A b).1<0 then c else bif !G then X6 (Jn A b)else bif !e.2 then c else Kl e.1++(⟨#[32]⟩:ByteArray)++X6 (ym A.b d e.1)
def xu(A:ZP)(E:ZU):ByteArray:=letI b:=(⟨#[32]⟩:ByteArray);(⟨#[35]⟩:ByteArray)++Zr E.b++(⟨#[32,107]⟩:ByteArray)++Zr E.d.c++b++Zr (E.a.a.length:Int)++(⟨#[47]⟩:ByteArray)++Zr (E.a.b.length:Int)++b++X6 (jM A E)
def yP(A:ZP)(E:ZE):Nat->ByteArray->Nat->ByteArray
  |0,_,_=>default
  |D+1,J,U=>letI b:=xu A (C E.a U);bif(U:Int)<(E.a.length:Int)then bif(U:Int)>0 then yP A E D (J++(⟨#[59,32]⟩:ByteArray)++b) (U+1)else yP A E D (J++b) (U+1)else J
def jx(A:ZP)(E:ZE):ByteArray:=letI b:=E.a.length;bif(b:Int)==0 then(⟨#[45]⟩:ByteArray)else(match yP A E (b+1) (⟨#[]⟩:ByteArray) 0 with|a=>a)
def Ud(A:ZY):Nat->Int->Nat->Int
  |0,_,_=>default
  |n2+1,q,n=>bif(n:Int)<(A.b.length:Int)then Ud A n2 (W (q+qK (C A.b n))) (n+1)else q
def U9(A:ZY):Nat->Int->Nat->Int
  |0,_,_=>default
  |D+1,J,U=>bif(U:Int)<(A.a.length:Int)then U9 A D (W (W (J+2)+((C A.a U).a.length:Int))) (U+1)else J
def MB(A:ZY):Int:=match U9 A (A.a.length+1) 0 0 with|a=>(match Ud A (A.b.length+1) a 0 with|f=>f)
def Pe(A:ZP)(E:Zc):Nat->Int->Nat->Sum Int Int
  |0,_,_=>.inr default
  |D+1,J,U=>letI b:=Zi A.a (Yq A.b (C E.a U));bif(U:Int)<(E.a.length:Int)then bif b<0 then .inl 0 else Pe A E D (VD J (Wi A.c (C A.a b.toNat).b)) (U+1)else .inr J
def vC(A:ZP)(E:Zc):Int:=match Pe A E (E.a.length+1) (Wi A.c E.b) 0 with|.inl r1=>r1|.inr a=>a
def N2(A:ZP)(E:ZU):Int:=letI b:=E.a.b.length;bif(b:Int)==0 then 0 else SN A (C E.a.b (b-1))
def Pr(A:ZP)(E:ZU)(G:Int):Bool:=(E.a.b.length:Int)==0||decide (W (N2 A E-A.d)<=G)
def ji(A:ZF)(E:ByteArray)(G:List Int):ByteArray:=letI b:=C G 0;letI c:=C A.a b.toNat;bif b>=(A.a.length:Int)then(⟨#[110,111]⟩:ByteArray)else bif E=(⟨#[115,104,111,119]⟩:ByteArray)then jx A.b c else bif E=(⟨#[115,105,122,101]⟩:ByteArray)then Zr (zz c)else zG (qC A.b c (C G 1))
def Rr(A:ZF)(E:List ByteArray):ByteArray:=letI b:=Z5 (E.tail);letI c:=(⟨#[119,104,97,116]⟩:ByteArray);letI d:=(b.1.length:Int);letI e:=C E 0;letI f:=A.b;letI g:=ji A e b.1;bif !b.2 then c else bif d==0 then bif e=(⟨#[112,108,97,110]⟩:ByteArray)then zG (Qk f)else bif e=(⟨#[108,105,97,114,115]⟩:ByteArray)then zG (qg f.a f.b (z6 A))else bif e=(⟨#[119,111,114,108,100]⟩:ByteArray)then VP A else bif e=(⟨#[97,117,100,105,116]⟩:ByteArray)then bif Rs A=(⟨#[]⟩:ByteArray)then(⟨#[111,107]⟩:ByteArray)else Rs A else c else bif d==1 then bif e=(⟨#[106,117,100,103,101]⟩:ByteArray)then Rx A b.1 false else bif e=(⟨#[115,104,111,119]⟩:ByteArray)then g else bif e=(⟨#[115,105,122,101]⟩:ByteArray)then g else c else bif d==2 then bif e=(⟨#[104,105,100,101]⟩:ByteArray)then Rx A b.1 true else bif e=(⟨#[100,117,101]⟩:ByteArray)then g else c else c
def kB(A:ZF)(E:ByteArray):ZF×ByteArray:=letI b:=Xs E;letI c:=C b 0;letI d:=WT A b 4;letI e:=WT A b 3;bif(b.length:Int)==0||(E.size:Int)>200 then(A,(⟨#[119,104,97,116]⟩:ByteArray))else bif c=(⟨#[115,105,103,110]⟩:ByteArray)then(d.1,d.2)else bif c=(⟨#[102,111,114,103,101]⟩:ByteArray)then(e.1,e.2)else bif c=(⟨#[114,101,110,101,119]⟩:ByteArray)then((Vp A b).1,(Vp A b).2)else bif(yV A b).2.2 then((yV A b).1,(yV A b).2.1)else(A,Rr A b)
end Go.Mo
