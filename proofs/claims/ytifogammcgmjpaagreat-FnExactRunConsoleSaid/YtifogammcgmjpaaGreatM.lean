/- Models of the functions: what each computes, on typed data. No condition. -/
import Derived.Test.YtifogammcgmjpaaGreatMo
namespace Go.Mo
open Go.Vm
set_option linter.unusedVariables false
def zX(A C:Int):Int:=bif C>A then C else A
def VU(A C:Int):Int:=bif C<A then C else A
def kI:List YF:=([YF.mk 1 90 1 0 501,YF.mk 2 90 3 40 502,YF.mk 11 1 1 0 511,YF.mk 12 1 2 20 512,YF.mk 13 2 3 40 513,YF.mk 21 50 1 0 521,YF.mk 31 81 1 0 531,YF.mk 32 82 2 20 532,YF.mk 33 83 3 40 533,YF.mk 34 84 4 60 534]:List YF)
def zh:List ZS:=([ZS.mk 1 31 1,ZS.mk 2 32 2,ZS.mk 3 33 1,ZS.mk 4 34 0]:List ZS)
def Pg:List Zy:=([Zy.mk 1 0 40 50,Zy.mk 2 20 80 70,Zy.mk 3 40 120 200,Zy.mk 4 60 10001 10001]:List Zy)
def S6(A:List YF)(C:Int):Nat->Nat->Sum Int Unit
  |0,_=>.inr ()
  |K+1,J=>bif(J:Int)<(A.length:Int)then bif(I A J).b==C then .inl (J:Int)else S6 A C K (J+1)else .inr ()
def Zz(A:List YF)(C:Int):Int:=match S6 A C (A.length+1) 0 with|.inl r1=>r1|.inr _=>-1
def Z1(A C E:Int):Bool:=decide (A>=C)&&decide (A<=E)
def V7(A:YE):o:=o.mk A.d A.c
def W7(A:Int):Bool:=Z1 A 0 10000
def y7(A:o):Bool:=W7 A.d&&W7 A.c&&decide (A.d<=A.c)
def Im(A:YE):Bool:=Z1 A.b 1 999&&Z1 A.a 1 99&&Z1 A.e 1 99&&A.a !=A.e&&Z1 A.g 0 99&&y7 (V7 A)
def yw(A:YE):List Int:=([101,A.b,A.a,A.g,A.d,A.c,A.e]:List Int)
def fG(A C:Int):Int:=bif !(Z1 C 1 1000000000000)then 0 else Int.tmod (W (Int.tmod A C+C)) C
def EO(A:List Int):Nat->Int->Nat->Int
  |0,_,_=>default
  |K+1,J,U=>bif(U:Int)<(A.length:Int)then EO A K (Int.tmod (W (W (W (J*1000003)+fG (I A U) 2147483647)+13)) 2147483647) (U+1)else J
def wX(A:List Int):Int:=match EO A (A.length+1) 11 0 with|a=>a
def ki(A:Int)(C:List Int):Int:=letI b:=([A]:List Int);wX (b++C++b)
def WG(A:YF)(C:List Int):Int:=ki A.d ([A.c]++C)
def ks(A:List YF)(C:YE):YE×Bool:=letI b:=Zz A C.e;bif !(Im C)||b<0||Zz A C.a<0 then(YE.mk 0 0 0 0 0 0 0,false)else(YE.mk C.b C.a C.g C.d C.c C.e (WG (I A b.toNat) (yw C)),true)
def PJ:List YE:=([(ks kI (YE.mk 1 11 1 0 60 1 0)).1,(ks kI (YE.mk 2 12 1 20 100 1 0)).1,(ks kI (YE.mk 3 13 2 40 150 2 0)).1]:List YE)
def Yj(A:Int):P:=letI b:=VU 1 (zX 0 A);letI c:=ZI.mk kI zh Pg b 0;letI d:=([-1,-1,-1]:List Int);letI e:=([]:List ZU);letI f:=([ZD.mk 0 e,ZD.mk 1 e]:List ZD);letI g:=([0,0,0,0]:List Int);letI h:=([]:List Int);bif b==1 then P.mk c PJ d f g [1] 1 h else P.mk c PJ d f g h 1 h
def zL(A:ByteArray):Nat->List ByteArray->ByteArray->Nat->List ByteArray
  |0,_,_,_=>default
  |K+1,J,U,y=>letI b:=(y:Int);letI c:=(A.size:Int);letI d:=y+1;letI e:=(⟨#[]⟩:ByteArray);bif b<=c then bif b<c&&((a7 A y):Int)!=32 then zL A K J (U++A.extract y (W (b+1)).toNat) d else bif !decide (U=e)then zL A K (J++[U]) e d else zL A K J e d else J
def QF(A:ByteArray):List ByteArray:=match zL A (A.size+2) [] (⟨#[]⟩:ByteArray) 0 with|a=>a
def CM(A:ZI):ZI:=A
def pR(A:ZO):ZO:=A
def vF(A:ZK):ZK:=A
def H6(A:List ZK):Nat->List ZK->Nat->List ZK
  |0,_,_=>default
  |K+1,J,U=>bif(U:Int)<(A.length:Int)then H6 A K (J++[I A U]) (U+1)else J
def BH(A:List ZK):List ZK:=match H6 A (A.length+1) [] 0 with|a=>a
def w7(A:ZZ):ZZ:=A
def M3(A:ZR):Nat->Nat->List ZZ->List ZZ
  |0,_,_=>default
  |K+1,J,U=>bif(J:Int)<(A.a.length:Int)then M3 A K (J+1) (U++[I A.a J])else U
def En(A:ZR):ZR:=match M3 A (A.a.length+1) 0 []with|a=>ZR.mk A.b a
def Aw(A:ZU):ZU:=A
def LX(A:ZD):Nat->Nat->List ZU->List ZU
  |0,_,_=>default
  |K+1,J,U=>bif(J:Int)<(A.a.length:Int)then LX A K (J+1) (U++[I A.a J])else U
def Ej(A:ZD):ZD:=match LX A (A.a.length+1) 0 []with|a=>ZD.mk A.b a
def La(A:P):Nat->Nat->List ZD->List ZD
  |0,_,_=>default
  |K+1,J,U=>bif(J:Int)<(A.a.length:Int)then La A K (J+1) (U++[I A.a J])else U
def Eh(A:P):P:=match La A (A.a.length+1) 0 []with|a=>P.mk A.b A.c A.d a A.e A.f A.h A.g
def zz:Nat->ByteArray->Int->ByteArray
  |0,_,_=>default
  |K+1,J,U=>letI b:=Int.tmod U 10;letI c:=W (Int.tdiv U 10);bif U !=0 then bif b<0 then zz K ((⟨([UInt8.ofInt (W (48+W (-b)))]:List UInt8).toArray⟩:ByteArray)++J) c else zz K ((⟨([UInt8.ofInt (W (48+b))]:List UInt8).toArray⟩:ByteArray)++J) c else J
def XK(A:Int):ByteArray:=bif A==0 then(⟨#[48]⟩:ByteArray)else(match zz 22 (⟨#[]⟩:ByteArray) A with|a=>bif A<0 then(⟨#[45]⟩:ByteArray)++a else a)
def xP(A:ByteArray):Nat->Int->Nat->Sum (Int×Bool) Int
  |0,_,_=>.inr default
  |K+1,J,U=>letI b:=((a7 A U):Int);bif(U:Int)<(A.size:Int)then bif !(Z1 (W b) 48 57)then .inl (0,false)else xP A K (W (W (10*J)+W (IntKind.u8.wrap (b-48)))) (U+1)else .inr J
def Xh(A:ByteArray):Int×Bool:=bif !(Z1 (A.size:Int) 1 13)then(0,false)else(match xP A (A.size+1) 0 0 with|.inl r1=>r1|.inr a=>bif a>1000000000000||!decide (XK a=A)then(0,false)else(a,true))
def Jp(A:List ByteArray):Nat->List Int->Nat->Sum (List Int×Bool) (List Int)
  |0,_,_=>.inr default
  |K+1,J,U=>letI b:=Xh (I A U);bif(U:Int)<(A.length:Int)then bif !b.2 then .inl (J,false)else Jp A K (J++[b.1]) (U+1)else .inr J
def Z2(A:List ByteArray):(List Int)×Bool:=match Jp A (A.length+1) [] 0 with|.inl r1=>r1|.inr a=>(a,true)
def yb(A:ZO):Nat->Nat->Sum Bool Unit
  |0,_=>.inr ()
  |n2+1,T=>bif(T:Int)<(A.d.length:Int)then bif !(Z1 (I A.d T) 1 1000000000000)then .inl false else yb A n2 (T+1)else .inr ()
def yU(A:ZO):Nat->Nat->Sum Bool Unit
  |0,_=>.inr ()
  |K+1,J=>bif(J:Int)<(A.b.length:Int)then bif((I A.b J).size:Int)>40 then .inl false else yU A K (J+1)else .inr ()
def J6(A:ZO):Bool:=letI b:=A.b.length;letI c:=A.d.length;match yU A (b+1) 0 with|.inl r1=>r1|.inr _=>(match yb A (c+1) 0 with|.inl r2=>r2|.inr _=>Z1 A.e 0 999&&Z1 (b:Int) 1 6&&(c:Int)==(b:Int))
def U1(A:Int):Bool:=Z1 A 1 2147483646
def zn(A:Int)(C:List ByteArray)(E:Int):Nat->Nat->List Int->List Int
  |0,_,_=>default
  |K+1,J,U=>bif(J:Int)<(C.length:Int)then zn A C E K (J+1) (U++([zX 1 (ki E [A,(J:Int)])]:List Int))else U
def QM(A:Int)(C:List ByteArray)(E:Int):ZO×Bool:=letI b:=([]:List Int);(match zn A C E (C.length+1) 0 b with|a=>letI c:=ZO.mk A C a;bif !(J6 c)||!(U1 E)then(ZO.mk 0 [] b,false)else(c,true))
def V5(A:P)(C:Int):P×Bool:=letI b:=A.b;letI c:=W (b.d+C);bif !(Z1 C 0 100)||c>10000 then(A,false)else(P.mk (ZI.mk b.a b.b b.c b.e c) A.c A.d A.a A.e A.f A.h A.g,true)
def J8(A:P)(C:Int):Bool:=Z1 C 0 (W ((A.a.length:Int)-1))
def jz(A:List Zy)(C:Int):Nat->Int->Nat->Int
  |0,_,_=>default
  |K+1,J,U=>letI b:=I A U;bif(U:Int)<(A.length:Int)then bif C>=b.c&&C<b.a&&(J<0||b.a>(I A J.toNat).a)then jz A C K (U:Int) (U+1)else jz A C K J (U+1)else J
def Zv(A:List Zy)(C:Int):Int:=match jz A C (A.length+1) (-1) 0 with|a=>bif a<0 then-1 else(I A a.toNat).b
def yC(A:P)(C:Int):Nat->Nat->Sum Int Unit
  |0,_=>.inr ()
  |K+1,J=>bif(J:Int)<(A.c.length:Int)then bif(I A.c J).a==C then .inl (J:Int)else yC A C K (J+1)else .inr ()
def QL(A:P)(C:Int):Int:=match yC A C (A.c.length+1) 0 with|.inl r1=>r1|.inr _=>-1
def KB(A:Int)(C:List Int):Int:=wX ([7,A]++C)
def VY(C:ByteArray):Nat->List Int->Nat->List Int
  |0,_,_=>default
  |K+1,J,U=>bif(U:Int)<(C.size:Int)then VY C K (J++[W ((a7 C U):Int)]) (U+1)else J
def jQ(A:Int)(C:ByteArray)(E:Int):Int:=match VY C (C.size+1) [E] 0 with|a=>KB A a
def TM(A:Int)(C:ZO):Nat->List Int->Nat->List Int
  |0,_,_=>default
  |K+1,J,U=>bif(U:Int)<(C.b.length:Int)then TM A C K (J++[jQ A (I C.b U) (I C.d U)]) (U+1)else J
def JG(A:Int)(C:ZO):Int:=bif !(J6 C)then-1 else(match TM A C (C.b.length+1) [C.e] 0 with|a=>KB A a)
def xh(A:G):Bool:=Z1 A.a 1 99&&Z1 A.b 1 999&&Z1 A.c 0 99&&Z1 A.g 0 99&&Z1 A.h 1 3&&Z1 A.e 0 1000000000000&&Z1 A.i 0 1000000000000&&Z1 A.d 0 1000000000000
def Qg(A:G):List Int:=([104,A.a,A.b,A.c,A.e,A.h,A.g,A.i,A.d]:List Int)
def xM(A:List YF)(C:G):G×Bool:=letI b:=Zz A C.a;bif !(xh C)||b<0 then(G.mk 0 0 0 0 0 0 0 0 0,false)else(G.mk C.a C.b C.c C.e C.h C.g C.i C.d (WG (I A b.toNat) (Qg C)),true)
def Xu(A:G):ZK:=ZK.mk A.a (Qg A) A.f
def Sy(A:YE):ZK:=ZK.mk A.e (yw A) A.f
def QV(A:P)(C:Int)(E:ZO)(N T:Int):ZU×Bool:=letI b:=A.b;letI c:=Zv b.c b.d;letI d:=QL A C;letI e:=([]:List ZZ);letI f:=I A.c d.toNat;letI g:=xM b.a (G.mk C f.b c (JG c E) 1 N 0 0 0);bif c<0||d<0 then(ZU.mk 0 0 (ZO.mk 0 [] []) (G.mk 0 0 0 0 0 0 0 0 0) (ZR.mk [] e),false)else(ZU.mk A.h T E g.1 (ZR.mk [Xu g.1,Sy f] e),g.2)
def Ic(A C:List Int):Nat->Nat->Sum Bool Unit
  |0,_=>.inr ()
  |K+1,J=>bif(J:Int)<(A.length:Int)then bif I A J !=I C J then .inl false else Ic A C K (J+1)else .inr ()
def M6(A C:List Int):Bool:=bif(A.length:Int)!=(C.length:Int)then false else(match Ic A C (A.length+1) 0 with|.inl r1=>r1|.inr _=>true)
def xk(A C:ZK):Bool:=A.a==C.a&&A.f==C.f&&M6 A.b C.b
def VH(A:ZR)(C:ZK):Nat->Nat->Sum Int Unit
  |0,_=>.inr ()
  |K+1,J=>bif(J:Int)<(A.b.length:Int)then bif xk (I A.b J) C then .inl (J:Int)else VH A C K (J+1)else .inr ()
def xW(A:ZR)(C:ZK):Int:=match VH A C (A.b.length+1) 0 with|.inl r1=>r1|.inr _=>-1
def RR(A:ZR):Nat->Nat->Sum Bool Unit
  |0,_=>.inr ()
  |n2+1,T=>letI b:=(T:Int);letI c:=(I A.a T).d;bif b<(A.a.length:Int)then bif !(Z1 c 1 (A.b.length:Int))||b>0&&(I A.a (T-1)).d>c then .inl false else RR A n2 (T+1)else .inr ()
def RV(A:ZR):Nat->Nat->Sum Bool Unit
  |0,_=>.inr ()
  |K+1,J=>bif(J:Int)<(A.b.length:Int)then bif xW A (I A.b J)<(J:Int)then .inl false else RV A K (J+1)else .inr ()
def Wd(A:ZR):Bool:=letI b:=A.b.length;letI c:=A.a.length;match RV A (b+1) 0 with|.inl r1=>r1|.inr _=>(match RR A (c+1) 0 with|.inl r2=>r2|.inr _=>Z1 (b:Int) 1 12&&(c:Int)<=8)
def HZ(A:ZU):Bool:=Z1 A.b 1 999&&W7 A.e&&J6 A.c&&Wd A.a&&xk (I A.a.b 0) (Xu A.d)
def TQ(A:ZD):Nat->Nat->Sum Bool Unit
  |0,_=>.inr ()
  |K+1,J=>letI b:=I A.a J;bif(J:Int)<(A.a.length:Int)then bif !(HZ b)||(J:Int)>0&&(I A.a (J-1)).b>=b.b then .inl false else TQ A K (J+1)else .inr ()
def Jg(A:ZD):Bool:=letI b:=A.a.length;match TQ A (b+1) 0 with|.inl r1=>r1|.inr _=>Z1 A.b 0 99&&decide ((b:Int)<=8)
def Uq(A:ZD)(C:Int):Nat->Nat->Sum Int Unit
  |0,_=>.inr ()
  |K+1,J=>bif(J:Int)<(A.a.length:Int)then bif(I A.a J).b==C then .inl (J:Int)else Uq A C K (J+1)else .inr ()
def XY(A:ZD)(C:Int):Int:=match Uq A C (A.a.length+1) 0 with|.inl r1=>r1|.inr _=>-1
def JY(A:ZD)(C:ZU):Nat->Bool->Nat->List ZU->Bool×List ZU
  |0,_,_,_=>(default,default)
  |K+1,J,U,y=>letI b:=I A.a U;letI c:=([b]:List ZU);bif(U:Int)<(A.a.length:Int)then bif !J&&C.b<b.b then JY A C K true (U+1) (y++[C]++c)else JY A C K J (U+1) (y++c)else(J,y)
def J7(A:ZD)(C:ZU):ZD×Bool:=letI b:=(A,false);bif !(Jg A)||XY A C.b>=0 then b else(match JY A C (A.a.length+1) false 0 []with|(a,h)=>letI c:=ZD.mk A.b (h++[C]);letI d:=ZD.mk A.b h;bif !a then bif !(Jg c)then b else(c,true)else bif !(Jg d)then b else(d,true))
def UY(A:P)(C E:Int)(N:ZO)(T a5:Int):P×Bool:=letI b:=A.b;letI c:=Zz b.a E;letI d:=(A,false);letI e:=QV A E N T a5;letI f:=J7 (I A.a C.toNat) e.1;bif !(J8 A C)||c<0||(I b.a c.toNat).a>b.d then d else bif !e.2 then d else bif !f.2 then d else(P.mk b A.c A.d (A.a.set C.toNat f.1) A.e A.f (W (A.h+1)) A.g,true)
def SH(A:P)(C:Int):Nat->Nat->Sum (Int×Int) Unit
  |0,_=>.inr ()
  |K+1,J=>letI b:=XY (I A.a J) C;bif(J:Int)<(A.a.length:Int)then bif b>=0 then .inl ((J:Int),b)else SH A C K (J+1)else .inr ()
def u(A:P)(C:Int):Int×Int:=match SH A C (A.a.length+1) 0 with|.inl r1=>r1|.inr _=>(-1,-1)
def QE(A:ZK):Int:=letI b:=(A.b.length:Int);letI c:=I A.b 0;bif b==0||!(Z1 c 101 105)then 0 else bif b !=I [7,5,5,9,6] (W (c-101)).toNat then 0 else c
def Zh(A:ZK):YE×Bool:=letI b:=A.b;bif QE A !=101||I b 6 !=A.a then(YE.mk 0 0 0 0 0 0 0,false)else(YE.mk (I b 1) (I b 2) (I b 3) (I b 4) (I b 5) (I b 6) A.f,true)
def Uj(A:List YE)(C:Int):Nat->Nat->Sum Int Unit
  |0,_=>.inr ()
  |K+1,J=>bif(J:Int)<(A.length:Int)then bif(I A J).b==C then .inl (J:Int)else Uj A C K (J+1)else .inr ()
def YQ(A:List YE)(C:Int):Int:=match Uj A C (A.length+1) 0 with|.inl r1=>r1|.inr _=>-1
def MM(A:Zn):Bool:=Z1 A.b 1 999&&W7 A.a&&Z1 A.d (-1) (W (A.a+1))&&Z1 A.e 1 99
def yF(A:Zn):List Int:=([102,A.b,A.a,A.d,A.e]:List Int)
def Y8(A:List YF)(C:Zn):Zn×Bool:=letI b:=Zz A C.e;bif !(MM C)||b<0 then(Zn.mk 0 0 0 0 0,false)else(Zn.mk C.b C.a C.d C.e (WG (I A b.toNat) (yF C)),true)
def XO(A:Zn):ZK:=ZK.mk A.e (yF A) A.f
def Wp(A:ZR)(C:ZK):ZR×Bool:=letI b:=ZR.mk (A.b++[C]) A.a;bif !(Wd b)then(A,false)else(b,true)
def QD(A:ZD)(C:Int)(E:ZK):ZD×Bool:=letI b:=XY A C;letI c:=I A.a b.toNat;letI d:=Wp c.a E;bif b<0 then(A,false)else(ZD.mk A.b (A.a.set b.toNat (ZU.mk c.b c.e c.c c.d d.1)),d.2)
def jX(A:P)(C:Int):P×Bool:=letI b:=u A C;letI c:=b.1.toNat;letI d:=I A.a c;letI e:=(I d.a b.2.toNat).a.b;letI f:=(A,false);letI g:=Zh (I e 1);letI h:=A.c;letI i:=YQ h g.1.b;letI j:=A.d;letI k:=I j i.toNat;letI l:=A.b;letI m:=l.d;letI n:=(I h i.toNat).e;letI o:=Y8 l.a (Zn.mk g.1.b m k n 0);letI p:=decide ((I l.a (Zz l.a n).toNat).a>m);letI q:=QD d C (XO o.1);letI r:=Y8 l.a (Zn.mk g.1.b m (-1) n 0);letI s:=QD d C (XO r.1);bif b.1<0||(e.length:Int)<2 then f else bif !g.2||i<0||i>=(j.length:Int)then f else bif k<=W (m+1)then bif !o.2||p then f else(P.mk l h j (A.a.set c q.1) A.e A.f A.h A.g,q.2)else bif !r.2||p then f else(P.mk l h j (A.a.set c s.1) A.e A.f A.h A.g,s.2)
def qz(A:P)(C:Int):P×Bool:=bif !(Z1 C 0 (W ((A.d.length:Int)-1)))||I A.d C.toNat !=-1 then(A,false)else(P.mk A.b A.c (A.d.set C.toNat (W (A.b.d+1))) A.a A.e A.f A.h A.g,true)
def yo(A:List ZS)(C:Int):Nat->Nat->Sum Int Unit
  |0,_=>.inr ()
  |K+1,J=>bif(J:Int)<(A.length:Int)then bif(I A J).b==C then .inl (J:Int)else yo A C K (J+1)else .inr ()
def Zp(A:List ZS)(C:Int):Int:=match yo A C (A.length+1) 0 with|.inl r1=>r1|.inr _=>-1
def SR(A:P)(C:List Int):Nat->Nat->Sum Bool Unit
  |0,_=>.inr ()
  |K+1,J=>letI b:=A.b;letI c:=I C J;letI d:=Zp b.b c;letI e:=Zz b.a (I b.b d.toNat).a;bif(J:Int)<(C.length:Int)then bif d<0||d>=(A.e.length:Int)||(J:Int)>0&&I C (J-1)>=c then .inl false else bif e<0||(I b.a e.toNat).a>b.d then .inl false else SR A C K (J+1)else .inr ()
def kL(A:P)(C:List Int):Bool:=match SR A C (C.length+1) 0 with|.inl r1=>r1|.inr _=>decide ((C.length:Int)>0)
def yN(A:ZR)(C:ZO):Nat->List Int->Nat->List Int
  |0,_,_=>default
  |K+1,J,U=>bif(U:Int)<(A.a.length:Int)then yN A C K (J++[JG (I A.a U).c C]) (U+1)else J
def J2(A:ZR)(C:ZO):List Int:=match yN A C (A.a.length+1) [] 0 with|a=>a
def yf(A:ZX):List Int:=([103,A.a,A.b,A.c,A.e]:List Int)
def qv(C:ZZ):Nat->List Int->Nat->List Int
  |0,_,_=>default
  |n2+1,T,q=>letI b:=I C.a q;bif(q:Int)<(C.a.length:Int)then qv C n2 (T++yf b++[b.f]) (q+1)else T
def yi(C:ZZ):Nat->List Int->Nat->List Int
  |0,_,_=>default
  |K+1,J,U=>letI b:=I C.b U;letI c:=J++[b.e];bif(U:Int)<(C.b.length:Int)then bif b.a then yi C K (c++[1]) (U+1)else yi C K (c++[0]) (U+1)else J
def yv(A:Int)(C:ZZ):Int:=letI b:=C.a.length;match yi C (C.b.length+1) [4,C.d,C.c,C.e] 0 with|a=>(match qv C (b+1) (a++[(b:Int)]) 0 with|k=>KB A k)
def kG(A:Int)(C:List ZK):Nat->List Int->Nat->List Int
  |0,_,_=>default
  |K+1,J,U=>letI b:=I C U;bif(U:Int)<(C.length:Int)then kG A C K (J++([KB A ([b.a,b.f]++b.b)]:List Int)) (U+1)else J
def yY(A:Int)(C:List ZK):Int:=match kG A C (C.length+1) [2] 0 with|a=>KB A a
def Hg(A C:Int)(E:List ZK)(N:Int):Int:=KB A [3,C,yY A E,N]
def TO(A:ZR)(C:List Int)(E:Int):Int:=letI b:=(A.a.length:Int);letI c:=I A.a E.toNat;letI d:=c.c;letI e:=I C E.toNat;letI f:=A.b.take c.d.toNat;bif !(Z1 E 0 (W (b-1)))||(C.length:Int)!=b||!(Z1 c.d 0 (A.b.length:Int))then-1 else bif E>0 then Hg d e f (yv d (I A.a (W (E-1)).toNat))else Hg d e f 0
def yH(A:ZD)(C:Int):Nat->List Int->Nat->List Int
  |0,_,_=>default
  |K+1,J,U=>letI b:=I A.a U;letI c:=b.a.a++([ZZ.mk (b.a.b.length:Int) C 0 [] []]:List ZZ);letI d:=ZR.mk b.a.b c;bif(U:Int)<(A.a.length:Int)then yH A C K (J++[TO d (J2 d b.c) (W ((c.length:Int)-1))]) (U+1)else J
def Yl(A:ZD)(C:Int):List Int:=match yH A C (A.a.length+1) [] 0 with|a=>a
def WH(A C E:Int):Int:=KB A [1,C,E]
def S7(A:Int)(C:List Int):Nat->List Int->Nat->List Int
  |0,_,_=>default
  |K+1,J,U=>letI b:=(C.length:Int);letI c:=W ((U:Int)+1);letI d:=I C U;bif(U:Int)<b then bif c<b then S7 A C K (J++[WH A d (I C c.toNat)]) (U+2)else S7 A C K (J++[d]) (U+2)else J
def Pp(A:Int)(C:List Int):List Int:=match S7 A C (C.length+1) [] 0 with|a=>a
def RI(A:Int):Nat->List Int->List Int
  |0,_=>default
  |K+1,J=>bif(J.length:Int)>1 then RI A K (Pp A J)else J
def yz(A:Int)(C:List Int):Int:=bif !(Z1 (C.length:Int) 1 16)then-1 else(match RI A (C.length+1) C with|a=>I a 0)
def kR(A:ZD)(C:Int):Int:=yz C (Yl A C)
def AO(A:List Int)(C:Int):Nat->Nat->Sum Bool Unit
  |0,_=>.inr ()
  |K+1,J=>bif(J:Int)<(A.length:Int)then bif I A J==C then .inl true else AO A C K (J+1)else .inr ()
def Tl(A:List Int)(C:Int):Bool:=match AO A C (A.length+1) 0 with|.inl r1=>r1|.inr _=>false
def Qq(A:List YF)(C:List ZS)(E:ZX):ZX×Bool:=letI b:=E.a;letI c:=(ZX.mk 0 0 0 0 0,false);letI d:=Zz A (I C (Zp C b).toNat).a;bif Zp C b<0||E.b<0||!(W7 E.c)then c else bif d<0 then c else(ZX.mk b E.b E.c E.e (WG (I A d.toNat) (yf E)),true)
def xE(A:Int):Nat->Int->List Xy->List Int->List Xy
  |0,_,_,_=>default
  |K+1,J,U,y=>letI b:=(y.length:Int);letI c:=W (Int.tdiv J 2);letI d:=Pp A y;letI e:=W (J+1);bif b>1 then bif Int.tmod J 2==1 then xE A K c (U++[Xy.mk (I y (W (J-1)).toNat) true]) d else bif e<b then xE A K c (U++[Xy.mk (I y e.toNat) false]) d else xE A K c U d else U
def xy(A:Int)(C:List Int)(E:Int):List Xy:=letI b:=(C.length:Int);letI c:=([]:List Xy);bif b>16||!(Z1 E 0 (W (b-1)))then c else(match xE A (C.length+1) E c C with|a=>a)
def JP(A:ZR)(C:ZZ):ZR×Bool:=letI b:=ZR.mk A.b (A.a++[C]);bif !(Wd b)then(A,false)else(b,true)
def Qx(A:ZD)(C:Int)(E:List ZX):Nat->Bool->Nat->List ZU->Bool×List ZU
  |0,_,_,_=>(default,default)
  |K+1,J,U,y=>letI b:=(I A.a U).a;letI c:=Yl A C;letI d:=JP b (ZZ.mk (b.b.length:Int) C (yz C c) (xy C c (U:Int)) E);letI e:=I y U;bif(U:Int)<(A.a.length:Int)&&J then Qx A C E K d.2 (U+1) (y.set U (ZU.mk e.b e.e e.c e.d d.1))else(J,y)
def Qn(A:ZD)(C:Int)(E:List ZX):ZD×Bool:=letI b:=A.a.length;(match Qx A C E (b+1) (Jg A&&(b:Int)>0) 0 A.a with|(a,h)=>letI c:=ZD.mk A.b h;bif !a||!(Jg c)then(A,false)else(c,true))
def VF(A:P)(E:List Int):Nat->Nat->List Int->List Int
  |0,_,_=>default
  |n2+1,T,q=>letI b:=(Zp A.b.b (I E T)).toNat;bif(T:Int)<(E.length:Int)then VF A E n2 (T+1) (q.set b (W (I A.e b+1)))else q
def KQ(A:P)(C:Int)(E:List Int)(N:Int):Nat->List ZX->Nat->Sum (P×Bool) (List ZX)
  |0,_,_=>.inr default
  |K+1,J,U=>letI b:=I E U;letI c:=A.b;letI d:=I A.e (Zp c.b b).toNat;letI e:=kR (I A.a C.toNat) (Zv c.c c.d);letI f:=Qq c.a c.b (ZX.mk b d (VU 10000 (zX 0 (W (c.d+N)))) e 0);letI g:=Qq c.a c.b (ZX.mk b d c.d e 0);bif(U:Int)<(E.length:Int)then bif Tl A.f b then bif !f.2 then .inl (A,false)else KQ A C E N K (J++[f.1]) (U+1)else bif !g.2 then .inl (A,false)else KQ A C E N K (J++[g.1]) (U+1)else .inr J
def WB(A:P)(C:Int)(E:List Int)(N:Int):P×Bool:=letI b:=A.b;letI c:=Zv b.c b.d;letI d:=E.length+1;bif !(J8 A C)||c<0||!(kL A E)||!(Z1 N (-10000) 10000)then(A,false)else(match KQ A C E N d [] 0 with|.inl r1=>r1|.inr a=>letI e:=Qn (I A.a C.toNat) c a;bif !e.2 then(A,false)else(match VF A E d 0 A.e with|k=>(P.mk b A.c A.d (A.a.set C.toNat e.1) k A.f A.h A.g,true)))
def Vr(A:Int)(C:ZU):Nat->List Int->Nat->List Int
  |0,_,_=>default
  |K+1,J,U=>bif(U:Int)<(C.a.a.length:Int)then Vr A C K (J++[yv A (I C.a.a U)]) (U+1)else J
def R8(A:Int)(C:ZU):Int:=match Vr A C (C.a.a.length+1) [5,C.b,C.e,JG A C.c,yY A C.a.b] 0 with|a=>KB A a
def P6(A:Int)(C:List ZU):Nat->List Int->Nat->List Int
  |0,_,_=>default
  |K+1,J,U=>bif(U:Int)<(C.length:Int)then P6 A C K (J++[R8 A (I C U)]) (U+1)else J
def Np(A:Int)(C:List ZU):Int:=match P6 A C (C.length+1) [] 0 with|a=>yz A a
def yg(A:ZD)(E:List Int):Nat->Nat->List ZU->Sum (Y7×Bool) (List ZU)
  |0,_,_=>.inr default
  |K+1,J,U=>letI b:=XY A (I E J);bif(J:Int)<(E.length:Int)then bif b<0 then .inl (Y7.mk 0 0 [] 0,false)else yg A E K (J+1) (U++[I A.a b.toNat])else .inr U
def Xm(A:ZD)(C:Int)(E:List Int)(N:Int):Y7×Bool:=letI b:=([]:List ZU);match yg A E (E.length+1) 0 b with|.inl r1=>r1|.inr a=>bif(E.length:Int)==0 then(Y7.mk 0 0 b 0,false)else(Y7.mk A.b C a (Np N a),true)
def za(A:Y7):Nat->Nat->Sum Bool Unit
  |0,_=>.inr ()
  |K+1,J=>bif(J:Int)<(A.a.length:Int)then bif !(HZ (I A.a J))then .inl false else za A K (J+1)else .inr ()
def yA(A:Y7)(C:Int):Bool:=letI b:=A.a.length;match za A (b+1) 0 with|.inl r1=>r1|.inr _=>Z1 (b:Int) 1 8&&A.e==Np C A.a
def JD(C:Y7):Nat->Bool->Nat->Int->List ZU->Bool×Int×List ZU
  |0,_,_,_,_=>(default,default,default)
  |K+1,J,U,y,i=>letI b:=J7 (ZD.mk y i) (I C.a U);bif(U:Int)<(C.a.length:Int)&&J then JD C K b.2 (U+1) b.1.b b.1.a else(J,y,i)
def X7(A:ZD)(C:Y7)(E:Int):ZD×Bool:=match JD C (C.a.length+1) (yA C E&&C.c==A.b) 0 A.b A.a with|(a,h,i)=>bif !a then(A,false)else(ZD.mk h i,true)
def qm(A:ZD)(C:Int):Nat->Nat->List ZU->List ZU
  |0,_,_=>default
  |K+1,J,U=>bif(J:Int)<(A.a.length:Int)then bif(J:Int)!=XY A C then qm A C K (J+1) (U++[I A.a J])else qm A C K (J+1) U else U
def WO(A:ZD)(C:Int):ZD×Bool:=bif XY A C<0 then(A,false)else(match qm A C (A.a.length+1) 0 []with|a=>(ZD.mk A.b a,true))
def Kw(A C:ZD)(E:List Int)(N:Int):Nat->Bool->Nat->Int->List ZU->Bool×Int×List ZU
  |0,_,_,_,_=>(default,default,default)
  |K+1,J,U,y,i=>letI b:=WO (ZD.mk y i) (I E U);bif(U:Int)<(E.length:Int)&&(Xm A C.b E N).2&&J then Kw A C E N K b.2 (U+1) b.1.b b.1.a else(J,y,i)
def Jm(A C:ZD)(E:List Int)(N:Int):ZD×ZD×Bool:=letI b:=Xm A C.b E N;letI c:=X7 C b.1 N;match Kw A C E N (E.length+1) c.2 0 A.b A.a with|(a,h,i)=>bif !b.2||!a then(A,C,false)else(ZD.mk h i,c.1,true)
def UQ(A:P)(C E N:Int):P×Bool:=letI b:=A.b;letI c:=Zv b.c b.d;letI d:=Jm (I A.a C.toNat) (I A.a E.toNat) [N] c;bif !(J8 A C)||!(J8 A E)||C==E||c<0 then(A,false)else(P.mk b A.c A.d ((A.a.set C.toNat d.1).set E.toNat d.2.1) A.e A.f A.h A.g,d.2.2)
def K3(A:ZD)(C:Int):Nat->Int->Nat->List ZU->Int×List ZU
  |0,_,_,_=>(default,default)
  |K+1,J,U,y=>letI b:=I A.a U;bif(U:Int)<(A.a.length:Int)then bif b.e<C then K3 A C K (W (J+1)) (U+1) y else K3 A C K J (U+1) (y++[b])else(J,y)
def jV(A:ZD)(C:Int):ZD×Int:=match K3 A C (A.a.length+1) 0 0 []with|(a,h)=>(ZD.mk A.b h,a)
def qk(A:P)(C:Int):P×Bool:=bif !(J8 A C)then(A,false)else(P.mk A.b A.c A.d (A.a.set C.toNat (jV (I A.a C.toNat) A.b.d).1) A.e A.f A.h A.g,true)
def kQ(A:List Zy)(C:Int):Nat->Nat->Sum Int Unit
  |0,_=>.inr ()
  |K+1,J=>bif(J:Int)<(A.length:Int)then bif(I A J).b==C then .inl (J:Int)else kQ A C K (J+1)else .inr ()
def Qf(A:List Zy)(C:Int):Int:=match kQ A C (A.length+1) 0 with|.inl r1=>r1|.inr _=>-1
def qY(A:List Zy)(C:Int):Int:=letI b:=Qf A C;bif b<0 then 0 else(I A b.toNat).d
def SK(A:ZI)(C:Int):Bool:=letI b:=Zz A.a C;decide (b>=0)&&decide (A.d>=qY A.c (I A.a b.toNat).c)
def kh(A:P)(C E:Int)(N:ZO):P×Bool:=letI b:=(A,false);letI c:=QV A E N 0 10000;letI d:=J7 (I A.a C.toNat) c.1;bif !(J8 A C)||!(SK A.b E)then b else bif !c.2 then b else bif !d.2 then b else(P.mk A.b A.c A.d (A.a.set C.toNat d.1) A.e A.f (W (A.h+1)) (A.g++[A.h]),true)
def Je(A:P):Nat->List Int->Nat->List Int
  |0,_,_=>default
  |K+1,J,U=>letI b:=I A.b.b U;bif(U:Int)<(A.b.b.length:Int)then bif Tl A.f b.b||SK A.b b.a then Je A K (J++[b.b]) (U+1)else Je A K J (U+1)else J
def Yw(A:P):List Int:=match Je A (A.b.b.length+1) [] 0 with|a=>a
def Jy(A:P)(C E:Int):Nat->Nat->List ZX->Sum (P×Bool) (List ZX)
  |0,_,_=>.inr default
  |K+1,J,U=>letI b:=A.b;letI c:=u A C;letI d:=Qq b.a b.b (ZX.mk (I (Yw A) J) 0 E (I (Yl (I A.a c.1.toNat) (Zv b.c b.d)) c.2.toNat) 0);bif(J:Int)<((Yw A).length:Int)then bif !d.2 then .inl (A,false)else Jy A C E K (J+1) (U++[d.1])else .inr U
def yL(A:P)(C E:Int):P×Bool:=letI b:=u A C;letI c:=A.b;letI d:=Zv c.c c.d;letI e:=(Yw A).length;letI f:=I A.a b.1.toNat;letI g:=b.2.toNat;letI h:=I f.a g;bif b.1<0||d<0||!(Tl A.g C)||(e:Int)==0 then(A,false)else(match Jy A C E (e+1) 0 []with|.inl r1=>r1|.inr a=>letI i:=JP h.a (ZZ.mk (h.a.b.length:Int) d (I (Yl f d) g) [] a);(P.mk c A.c A.d (A.a.set b.1.toNat (ZD.mk f.b (f.a.set g (ZU.mk h.b h.e h.c h.d i.1)))) A.e A.f A.h A.g,i.2))
def V0(A:P)(C E:Int):P×Bool:=letI b:=u A C;letI c:=I A.a b.1.toNat;letI d:=(I c.a b.2.toNat).a.b;letI e:=(A,false);letI f:=Zh (I d 1);letI g:=YQ A.c f.1.b;letI h:=A.b;letI i:=(I A.c g.toNat).e;letI j:=Y8 h.a (Zn.mk f.1.b E (-1) i 0);letI k:=QD c C (XO j.1);bif b.1<0||(d.length:Int)<2 then e else bif !f.2||g<0||!(SK h i)then e else bif !j.2 then e else(P.mk h A.c A.d (A.a.set b.1.toNat k.1) A.e A.f A.h A.g,k.2)
def KV(A:P)(C:YS):P×Bool:=letI b:=C.b;letI c:=C.A;letI d:=C.B;letI e:=UY A c d C.c C.C C.D;letI f:=WB A c C.a d;letI g:=UQ A c d C.C;letI h:=kh A c d C.c;letI i:=yL A c d;letI j:=V0 A c d;bif b==1 then((V5 A c).1,(V5 A c).2)else bif b==2 then(e.1,e.2)else bif b==3 then((jX A c).1,(jX A c).2)else bif b==4 then((qz A c).1,(qz A c).2)else bif b==5 then(f.1,f.2)else bif b==6 then(g.1,g.2)else bif b==7 then((qk A c).1,(qk A c).2)else bif b==8 then(h.1,h.2)else bif b==9 then(i.1,i.2)else bif b==10 then(j.1,j.2)else(A,false)
def kH(A:P)(C:List ByteArray)(E:Int):P×ByteArray:=letI b:=(A,(⟨#[119,104,97,116]⟩:ByteArray));letI c:=(W (E+1)).toNat;letI d:=Z2 (C.tail.take (c-1));letI e:=QM (I d.1 (W (E-1)).toNat) (C.drop c) 11;letI f:=(A,(⟨#[110,111]⟩:ByteArray));letI g:=I d.1 0;letI h:=I d.1 1;letI i:=([]:List Int);letI j:=KV A (YS.mk 2 g h 0 (I d.1 2) e.1 i);letI k:=XK A.h;letI l:=KV A (YS.mk 8 g h 0 0 e.1 i);bif(C.length:Int)<=E then b else bif !d.2 then b else bif !e.2 then f else bif I C 0=(⟨#[115,105,103,110]⟩:ByteArray)then bif !j.2 then f else(j.1,k)else bif !l.2 then f else(l.1,k)
def Ts(A:P)(C:YS):P×ByteArray:=letI b:=KV A C;bif !b.2 then(A,(⟨#[110,111]⟩:ByteArray))else(b.1,(⟨#[111,107]⟩:ByteArray))
def Wj(A:P)(C:List ByteArray):P×ByteArray:=letI b:=(A,(⟨#[119,104,97,116]⟩:ByteArray));letI c:=I C 2;letI d:=Xh (I C 1);letI e:=Xh (c.extract 1 c.size);letI f:=Z2 (C.drop 3);letI g:=ZO.mk 0 [] [];letI h:=Ts A (YS.mk 5 d.1 (W (-1*e.1)) 0 0 g f.1);letI i:=Ts A (YS.mk 5 d.1 (W (1*(Xh c).1)) 0 0 g f.1);bif(C.length:Int)<4 then b else bif(c.size:Int)>1&&((a7 c 0):Int)==45 then bif !d.2||!e.2||!f.2 then b else(h.1,h.2)else bif !d.2||!(Xh c).2||!f.2 then b else(i.1,i.2)
def ya(A:Int):ByteArray:=letI b:=(⟨#[]⟩:ByteArray);bif !(Z1 A 1 10)then b else I ([b,(⟨#[116,105,99,107]⟩:ByteArray),(⟨#[115,105,103,110]⟩:ByteArray),(⟨#[97,110,115,119,101,114]⟩:ByteArray),(⟨#[114,101,118,111,107,101]⟩:ByteArray),(⟨#[114,101,110,101,119]⟩:ByteArray),(⟨#[109,111,118,101]⟩:ByteArray),(⟨#[102,111,114,103,101,116]⟩:ByteArray),(⟨#[102,111,114,103,101]⟩:ByteArray),(⟨#[98,97,99,107,100,97,116,101]⟩:ByteArray),(⟨#[102,97,107,101]⟩:ByteArray)]:List ByteArray) A.toNat
def z8(A:P)(C:List ByteArray):Nat->Nat->Sum (P×ByteArray×Bool) Unit
  |0,_=>.inr ()
  |K+1,J=>letI b:=I [1,3,4,7,6,9,10] J;letI c:=Z2 (C.tail);letI d:=c.1++[0,0];letI e:=([]:List Int);letI f:=Ts A (YS.mk b (I d 0) (I d 1) (I d 2) 0 (ZO.mk 0 [] e) e);bif(J:Int)<7 then bif !decide (ya b=I C 0)then z8 A C K (J+1)else bif !c.2||(c.1.length:Int)!=I [1,1,1,1,3,2,2] J then .inl (A,(⟨#[119,104,97,116]⟩:ByteArray),true)else .inl (f.1,f.2,true)else .inr ()
def K7(A:P)(C:List ByteArray):P×ByteArray×Bool:=match z8 A C 8 0 with|.inl r1=>r1|.inr _=>(A,(⟨#[]⟩:ByteArray),false)
def Hk(A:List Zy)(C E:Int):Bool:=letI b:=Qf A C;letI c:=I A b.toNat;decide (b>=0)&&E>=c.c&&decide (E<c.d)
def Ul(A:List Zy)(C:Int):Int:=letI b:=Qf A C;bif b<0 then 0 else(I A b.toNat).a
def JJ(A:ZI):Nat->List Int->Nat->List Int
  |0,_,_=>default
  |K+1,J,U=>letI b:=I A.b U;letI c:=Zz A.a b.a;letI d:=I A.a c.toNat;bif(U:Int)<(A.b.length:Int)then bif c>=0&&d.a<=A.d&&Hk A.c d.c A.d&&Ul A.c d.c>A.d then JJ A K (J++[b.b]) (U+1)else JJ A K J (U+1)else J
def jL(A:ZI):List Int:=match JJ A (A.b.length+1) [] 0 with|a=>a
def SV(A:List Int):Nat->ByteArray->Nat->ByteArray
  |0,_,_=>default
  |K+1,J,U=>letI b:=XK (I A U);bif(U:Int)<(A.length:Int)then bif(U:Int)>0 then SV A K (J++(⟨#[32]⟩:ByteArray)++b) (U+1)else SV A K (J++b) (U+1)else J
def PW(A:List Int):ByteArray:=letI b:=(⟨#[]⟩:ByteArray);match SV A (A.length+1) b 0 with|a=>bif a=b then(⟨#[45]⟩:ByteArray)else a
def jb(C J:List ZX)(U:Nat):Nat->Bool->Nat->Bool
  |0,_,_=>default
  |n2+1,T,q=>letI b:=I J q;letI c:=I C U;bif(q:Int)<(J.length:Int)then jb C J U n2 (T||b.a==c.a&&(b.b==c.b&&(b.c==c.c&&(b.e==c.e&&b.f==c.f)))) (q+1)else T
def zq(C:List ZX):Nat->List ZX->Nat->List ZX
  |0,_,_=>default
  |K+1,J,U=>bif(U:Int)<(C.length:Int)then(match jb C J U (J.length+1) false 0 with|k=>bif !k then zq C K (J++[I C U]) (U+1)else zq C K J (U+1))else J
def P2(A C:List ZX):List ZX:=match zq C (C.length+1) A 0 with|a=>a
def jH(A:Q)(U:Nat):Nat->List ZX->Nat->List ZX
  |0,_,_=>default
  |n2+1,T,q=>letI b:=(I A.a U).a;bif(q:Int)<(b.length:Int)then jH A U n2 (P2 T (I b q).a) (q+1)else T
def Wr(A:Q):Nat->List ZX->Nat->List ZX
  |0,_,_=>default
  |X+1,j,s=>bif(s:Int)<(A.b.length:Int)then Wr A X (P2 j (I A.b s)) (s+1)else j
def jJ(A:Q):Nat->List ZX->Nat->List ZX
  |0,_,_=>default
  |K+1,J,U=>bif(U:Int)<(A.a.length:Int)then(match jH A U ((I A.a U).a.length+1) J 0 with|k=>jJ A K k (U+1))else J
def UT(A:Q):List ZX:=match jJ A (A.a.length+1) [] 0 with|a=>(match Wr A (A.b.length+1) a 0 with|e=>e)
def Te(A:P)(J:Nat):Nat->Nat->List ZR->List ZR
  |0,_,_=>default
  |n2+1,T,q=>letI b:=(I A.a J).a;bif(T:Int)<(b.length:Int)then Te A J n2 (T+1) (q++[(I b T).a])else q
def VK(A:P):Nat->Nat->List ZR->List ZR
  |0,_,_=>default
  |K+1,J,U=>bif(J:Int)<(A.a.length:Int)then(match Te A J ((I A.a J).a.length+1) 0 U with|k=>VK A K (J+1) k)else U
def Sw(A:P):List ZX:=match VK A (A.a.length+1) 0 []with|a=>UT (Q.mk a ([]:List (List ZX)))
def Wn(A:List YF)(C:List ZS)(E:ZX):Bool:=letI b:=Qq A C E;b.2&&(b.1.a==E.a&&(b.1.b==E.b&&(b.1.c==E.c&&(b.1.e==E.e&&b.1.f==E.f))))
def Tb(A:List YF)(C:List ZS)(E N:ZX):Bool:=letI b:=E.a;letI c:=N.a;letI d:=E.b==N.b;letI e:=E.c;letI f:=N.c;bif !(Wn A C E)||!(Wn A C N)||b !=c then false else d&&!(b==c&&(d&&(e==f&&(E.e==N.e&&E.f==N.f))))||E.b<N.b&&e>f||N.b<E.b&&decide (f>e)
def ON(A:List YF)(C:List ZS)(E:List ZX)(U q:Nat):Nat->Bool->Nat->Bool
  |0,_,_=>default
  |X+1,j,s=>letI b:=I E q;bif(s:Int)<(q:Int)&&b.a==(U:Int)then ON A C E U q X (j||Tb A C b (I E s)) (s+1)else j
def SX(A:List YF)(C:List ZS)(E:List ZX)(U:Nat):Nat->Bool->Nat->Bool
  |0,_,_=>default
  |n2+1,T,q=>letI b:=q+1;bif(q:Int)<(E.length:Int)then(match ON A C E U q b T 0 with|e=>SX A C E U n2 e b)else T
def UL(A:List YF)(C:List ZS)(E:List ZX):Nat->List Int->Nat->List Int
  |0,_,_=>default
  |K+1,J,U=>bif(U:Int)<=99 then(match SX A C E U (E.length+1) false 0 with|k=>bif k then UL A C E K (J++[(U:Int)]) (U+1)else UL A C E K J (U+1))else J
def PM(A:List YF)(C:List ZS)(E:List ZX):List Int:=match UL A C E 101 [] 0 with|a=>a
def MG(A:P)(U:Nat):Nat->List Int->Nat->List Int
  |0,_,_=>default
  |n2+1,T,q=>letI b:=(I A.a U).a;bif(q:Int)<(b.length:Int)then MG A U n2 (T++[(I b q).b]) (q+1)else T
def MS(A:P):Nat->List Int->Nat->List Int
  |0,_,_=>default
  |K+1,J,U=>bif(U:Int)<(A.a.length:Int)then(match MG A U ((I A.a U).a.length+1) J 0 with|k=>MS A K k (U+1))else J
def qE(A:P):List Int:=match MS A (A.a.length+1) [] 0 with|a=>a
def yX(A:ZU):Q:=Q.mk [A.a] ([]:List (List ZX))
def zS(A:Q)(C:ZO):Nat->List (List Int)->Nat->List (List Int)
  |0,_,_=>default
  |K+1,J,U=>bif(U:Int)<(A.a.length:Int)then zS A C K (J++([J2 (I A.a U) C]:List (List Int))) (U+1)else J
def yq(A:Q)(C:ZO):List (List Int):=match zS A C (A.a.length+1) ([]:List (List Int)) 0 with|a=>a
def Ct(A:YF):Bool:=Z1 A.b 1 99&&Z1 A.g 0 99&&Z1 A.c 0 99&&W7 A.a&&U1 A.d
def OB(A:List YF):Nat->Nat->Sum Bool Unit
  |0,_=>.inr ()
  |K+1,J=>letI b:=I A J;bif(J:Int)<(A.length:Int)then bif !(Ct b)||(J:Int)>0&&(I A (J-1)).b>=b.b then .inl false else OB A K (J+1)else .inr ()
def HT(A:List YF):Bool:=match OB A (A.length+1) 0 with|.inl r1=>r1|.inr _=>decide ((A.length:Int)<=12)
def qF(A:List ZS):Nat->Nat->Sum Bool Unit
  |0,_=>.inr ()
  |K+1,J=>letI b:=I A J;bif(J:Int)<(A.length:Int)then bif !(Z1 b.b 0 99)||!(Z1 b.a 1 99)||!(Z1 b.c 0 100)||(J:Int)>0&&(I A (J-1)).b>=b.b then .inl false else qF A K (J+1)else .inr ()
def ka(A:List ZS):Bool:=match qF A (A.length+1) 0 with|.inl r1=>r1|.inr _=>decide ((A.length:Int)<=6)
def Mk(A:Zy):Bool:=Z1 A.b 0 99&&W7 A.c&&Z1 A.a 1 10001&&Z1 A.d 1 10001&&A.c<A.a&&decide (A.c<A.d)
def Vp(A:List Zy):Nat->Nat->Sum Bool Unit
  |0,_=>.inr ()
  |K+1,J=>letI b:=I A J;bif(J:Int)<(A.length:Int)then bif !(Mk b)||(J:Int)>0&&(I A (J-1)).b>=b.b then .inl false else Vp A K (J+1)else .inr ()
def RW(A:List Zy):Bool:=match Vp A (A.length+1) 0 with|.inl r1=>r1|.inr _=>decide ((A.length:Int)<=8)
def PO(A:ZI):Bool:=HT A.a&&ka A.b&&RW A.c&&Z1 A.e 0 6&&W7 A.d
def Ss(A:Int):XE:=XE.mk 3 A (o.mk 0 0)
def F7(A:Int):XE:=XE.mk 2 A (o.mk 0 0)
def kv(A:List YF)(C:Int)(E:List Int)(N:Int):Bool:=letI b:=Zz A C;decide (b>=0)&&WG (I A b.toNat) E==N
def j8(A:List YF)(C:G):Bool:=xh C&&kv A C.a (Qg C) C.f
def PG(A:ZI)(C:Int)(E:G):XE:=bif !(PO A)then Ss 1 else bif !(xh E)then F7 1 else bif C<0 then Ss 2 else bif C !=E.e then F7 2 else bif Zz A.a E.a<0 then Ss 3 else bif !(j8 A.a E)then F7 4 else XE.mk 0 0 (o.mk 0 0)
def JL(A C:Int):o×Bool:=letI b:=VU 10000 C;bif zX 0 A>b then(o.mk 0 0,false)else(o.mk (zX 0 A) b,true)
def jO(A:List ZS)(C:ZX):o×Bool:=letI b:=Zp A C.a;letI c:=(I A b.toNat).c;letI d:=C.c;letI e:=JL (W (d-c)) (W (d+c));bif b<0||c<0||!(W7 d)then(o.mk 0 0,false)else(e.1,e.2)
def Sp(A:List o)(C:Int):Nat->Int->Nat->Int
  |0,_,_=>default
  |K+1,J,U=>letI b:=I A U;bif(U:Int)<(A.length:Int)then bif y7 b&&b.d<=C&&C<=b.c then Sp A C K (W (J+1)) (U+1)else Sp A C K J (U+1)else J
def Ir(A:List o)(C:Int):Int:=match Sp A C (A.length+1) 0 0 with|a=>a
def jm(A:List o)(C E:Int):Bool:=letI b:=(A.length:Int);Z1 E 0 (W (b-1))&&decide (Ir A C>=W (b-E))
def Qy(A:List o)(C:Int):Nat->Int->Int->Nat->Int×Int
  |0,_,_,_=>(default,default)
  |K+1,J,U,y=>letI b:=I A y;letI c:=y7 b&&jm A b.c C;letI d:=zX U b.c;letI e:=y+1;bif(y:Int)<(A.length:Int)then bif y7 b&&jm A b.d C&&(J<0||b.d<J)then bif c then Qy A C K b.d d e else Qy A C K b.d U e else bif c then Qy A C K J d e else Qy A C K J U e else(J,U)
def xG(A:List o)(C:Int):o×Bool:=letI b:=(o.mk 0 0,false);bif !(Z1 C 0 (W ((A.length:Int)-1)))then b else(match Qy A C (A.length+1) (-1) (-1) 0 with|(a,h)=>bif a<0 then b else(o.mk a h,true))
def VA(A:List ZS)(C:ZZ):Nat->List o->Nat->Sum (o×Bool) (List o)
  |0,_,_=>.inr default
  |K+1,J,U=>letI b:=jO A (I C.a U);bif(U:Int)<(C.a.length:Int)then bif !b.2 then .inl (o.mk 0 0,false)else VA A C K (J++[b.1]) (U+1)else .inr J
def KO(A:List ZS)(C:ZZ)(E:Int):o×Bool:=(match VA A C (C.a.length+1) [] 0 with|.inl r1=>r1|.inr a=>letI b:=xG a E;(b.1,b.2))
def X6(A:List ZS)(C:ZX):Int:=letI b:=Zp A C.a;bif b<0 then 0 else(I A b.toNat).a
def kJ(A:List YF)(C:List ZS)(E:List Zy)(N:ZZ):Nat->Int->Nat->Sum Int Int
  |0,_,_=>.inr default
  |K+1,J,U=>letI b:=Zz A (X6 C (I N.a U));bif(U:Int)<(N.a.length:Int)then bif b<0 then .inl 0 else kJ A C E N K (VU J (qY E (I A b.toNat).c)) (U+1)else .inr J
def kV(A:List YF)(C:List ZS)(E:List Zy)(N:ZZ):Int:=match kJ A C E N (N.a.length+1) (qY E N.c) 0 with|.inl r1=>r1|.inr a=>a
def OJ(A:ZI)(C:ZR)(E:Int):Bool:=letI b:=W ((C.a.length:Int)-1);letI c:=kV A.a A.b A.c (I C.a E.toNat);letI d:=KO A.b (I C.a (W (E+1)).toNat) A.e;bif !(Z1 E 0 b)then false else bif E==b then decide (A.d<c)else d.2&&decide (d.1.c<c)
def kM(A:Int)(E:List Xy):Nat->Int->Nat->Int
  |0,_,_=>default
  |K+1,J,U=>letI b:=I E U;bif(U:Int)<(E.length:Int)then bif b.a then kM A E K (WH A b.e J) (U+1)else kM A E K (WH A J b.e) (U+1)else J
def Ra(A C:Int)(E:List Xy):Int:=match kM A E (E.length+1) C 0 with|a=>a
def U6(A:List YF)(C:List ZS)(E:ZZ):Nat->Nat->Sum Bool Unit
  |0,_=>.inr ()
  |K+1,J=>letI b:=I E.a J;bif(J:Int)<(E.a.length:Int)then bif b.e !=E.e||(J:Int)>0&&(I E.a (J-1)).a>=b.a||!(Wn A C b)then .inl false else U6 A C E K (J+1)else .inr ()
def Vt(A:List YF)(C:List ZS)(E:ZZ)(N:Int):Bool:=letI b:=E.a.length;bif(E.b.length:Int)>4||Ra E.c N E.b !=E.e||!(Z1 (b:Int) 1 6)then false else(match U6 A C E (b+1) 0 with|.inl r1=>r1|.inr _=>true)
def Er(A:ZI)(C:ZR)(E:List Int)(N:Int):Bool:=letI b:=I C.a N.toNat;(KO A.b b A.e).2&&OJ A C N&&Vt A.a A.b b (TO C E N)
def VP(A:ZI)(C:ZR)(E:List Int):Nat->Nat->Nat
  |0,_=>default
  |K+1,J=>bif(J:Int)>0&&Er A C E (W ((J:Int)-1))then VP A C E K (J-1)else J
def jI(A:ZI)(C:ZR)(E:List Int):Int:=letI b:=C.a.length;match VP A C E (b+1) b with|a=>(a:Int)
def Sg(A:ZI)(C:ZR)(N:Int):Nat->Int->Int->Int
  |0,_,_=>default
  |K+1,J,U=>letI b:=I C.a U.toNat;letI c:=W (U+1);bif U<(C.a.length:Int)then bif b.d>N then Sg A C N K (VU J (KO A.b b A.e).1.c) c else Sg A C N K J c else J
def I8(A:ZI)(C:ZR)(E:List Int)(N:Int):Int:=match Sg A C N (C.a.length+2) A.d (jI A C E)with|a=>a
def Ui(A:ZI)(C:ZR)(E:List Int)(N:ZK):Int:=letI b:=xW C N;bif b<0 then A.d else I8 A C E b
def qp(A:ZI)(C:Q)(E:List (List Int))(N:ZK):Nat->Int->Nat->Int
  |0,_,_=>default
  |K+1,J,U=>bif(U:Int)<(C.a.length:Int)&&(U:Int)<(E.length:Int)then qp A C E N K (VU J (Ui A (I C.a U) (I E U) N)) (U+1)else J
def XT(A:ZI)(C:Q)(E:List (List Int))(N:ZK):Int:=match qp A C E N (C.a.length+1) A.d 0 with|a=>a
def K2(A:ZK):Zn×Bool:=letI b:=A.b;bif QE A !=102||I b 4 !=A.a then(Zn.mk 0 0 0 0 0,false)else(Zn.mk (I b 1) (I b 2) (I b 3) (I b 4) A.f,true)
def Uu(A:ZK):ZX×Bool:=letI b:=A.b;bif QE A !=103 then(ZX.mk 0 0 0 0 0,false)else(ZX.mk (I b 1) (I b 2) (I b 3) (I b 4) A.f,true)
def Se(A:ZK):G×Bool:=letI b:=A.b;bif QE A !=104||I b 1 !=A.a then(G.mk 0 0 0 0 0 0 0 0 0,false)else(G.mk (I b 1) (I b 2) (I b 3) (I b 4) (I b 5) (I b 6) (I b 7) (I b 8) A.f,true)
def yM(A:ZK):YV×Bool:=letI b:=A.b;bif QE A !=105||I b 5 !=A.a then(YV.mk 0 0 0 0 0 0,false)else(YV.mk (I b 1) (I b 2) (I b 3) (I b 4) (I b 5) A.f,true)
def H0(A:ZK):Bool:=(Zh A).2||(K2 A).2||(Uu A).2||(Se A).2||(yM A).2
def Ue(A:List YF)(C:ZK):Bool:=H0 C&&kv A C.a C.b C.f
def OK(A:ZI)(C:Q)(E:List (List Int))(N:ZK):Bool:=letI b:=Zz A.a N.a;decide (b>=0)&&Ue A.a N&&decide (XT A C E N<qY A.c (I A.a b.toNat).c)
def W6(A C:ZK):Nat->Nat->Sum Bool Unit
  |0,_=>.inr ()
  |K+1,J=>letI b:=I A.b J;letI c:=I C.b J;bif(J:Int)<(A.b.length:Int)&&(J:Int)<(C.b.length:Int)then bif b !=c then .inl (decide (b<c))else W6 A C K (J+1)else .inr ()
def TU(A C:ZK):Bool:=letI b:=A.b.length;letI c:=(C.b.length:Int);match W6 A C (b+1) 0 with|.inl r1=>r1|.inr _=>bif(b:Int)!=c then decide ((b:Int)<c)else bif A.a !=C.a then decide (A.a<C.a)else decide (A.f<C.f)
def zK(A:List ZK)(C:ZK):Nat->Nat->Nat
  |0,_=>default
  |K+1,J=>bif(J:Int)<(A.length:Int)&&TU (I A J) C then zK A C K (J+1)else J
def Rw(A:List ZK)(C:ZK):List ZK:=match zK A C (A.length+1) 0 with|a=>bif(a:Int)<(A.length:Int)&&xk (I A a) C then A else A.take a++[C]++A.drop a
def JE(A:ZI)(C:Q)(E:List (List Int))(U:Nat):Nat->List ZK->Nat->List ZK
  |0,_,_=>default
  |n2+1,T,q=>letI b:=(I C.a U).b;letI c:=I b q;letI d:=q+1;bif(q:Int)<(b.length:Int)then bif OK A C E c then JE A C E U n2 (Rw T c) d else JE A C E U n2 T d else T
def zp(A:ZI)(C:Q)(E:List (List Int)):Nat->List ZK->Nat->List ZK
  |0,_,_=>default
  |K+1,J,U=>bif(U:Int)<(C.a.length:Int)then(match JE A C E U ((I C.a U).b.length+1) J 0 with|k=>zp A C E K k (U+1))else J
def YJ(A:ZI)(C:Q)(E:List (List Int)):List ZK:=match zp A C E (C.a.length+1) [] 0 with|a=>a
def Nt(A:List YF)(C:Int):Int:=letI b:=Zz A C;bif b<0 then-1 else(I A b.toNat).g
def SY(A:List YF)(C:YE):Bool:=Im C&&kv A C.e (yw C) C.f&&Nt A C.a==C.g
def Sb(A:ZI)(C:List ZK)(E:G):Nat->Int->Nat->Int->Int->Int->Int->Int->Int->Int->Int×Int×Int×Int×Int×Int×Int×Int
  |0,_,_,_,_,_,_,_,_,_=>(default,default,default,default,default,default,default,default)
  |K+1,J,U,y,i,a,o,s,j,h=>letI b:=Zh (I C U);letI c:=b.1;bif(U:Int)<(C.length:Int)then bif b.2&&SY A.a c&&c.b==E.b&&c.a==E.a then Sb A C E K (W (J+1)) (U+1) c.b c.a c.g c.d c.c c.e c.f else Sb A C E K J (U+1) y i a o s j h else(J,y,i,a,o,s,j,h)
def Ki(A:ZI)(C:List ZK)(E:G):YE×Bool:=match Sb A C E (C.length+1) 0 0 0 0 0 0 0 0 0 with|(a,h,i,j,p,o,n,m)=>bif a !=1 then(YE.mk 0 0 0 0 0 0 0,false)else(YE.mk h i j p o n m,true)
def kS(C:List ZX):Nat->List Int->Nat->List Int
  |0,_,_=>default
  |K+1,J,U=>bif(U:Int)<(C.length:Int)then kS C K (J++[(I C U).f]) (U+1)else J
def jx(A:Int)(C:List ZX):Int:=bif(C.length:Int)==0 then 0 else(match kS C (C.length+1) [] 0 with|a=>zX 1 (KB A a))
def We(A:Int)(C:ZX):ZK:=ZK.mk A (yf C) C.f
def MR(A:List ZK)(C:ZK):Nat->Nat->Sum Bool Unit
  |0,_=>.inr ()
  |K+1,J=>bif(J:Int)<(A.length:Int)then bif xk (I A J) C then .inl true else MR A C K (J+1)else .inr ()
def Fu(A:List ZK)(C:ZK):Bool:=match MR A C (A.length+1) 0 with|.inl r1=>r1|.inr _=>false
def RT(A:ZI)(C:List ZK)(E:List ZX):Nat->List o->Nat->Sum (Int×Bool) (List o)
  |0,_,_=>.inr default
  |K+1,J,U=>letI b:=I E U;letI c:=jO A.b b;bif(U:Int)<(E.length:Int)then bif !c.2||(U:Int)>0&&(I E (U-1)).a>=b.a||!(Fu C (We (X6 A.b b) b))then .inl (0,false)else RT A C E K (J++[c.1]) (U+1)else .inr J
def qP(A:ZI)(C:List ZK)(E:List ZX):Int×Bool:=(match RT A C E (E.length+1) [] 0 with|.inl r1=>r1|.inr a=>letI b:=xG a A.e;(b.1.d,b.2))
def K1(A:ZI)(C:Q)(E:List ZK)(N:G):Nat->Int->Nat->Int
  |0,_,_=>default
  |K+1,J,U=>letI b:=I C.b U;letI c:=U+1;letI d:=qP A E b;bif(U:Int)<(C.b.length:Int)&&N.d !=0 then bif jx N.c b !=N.d then K1 A C E N K J c else bif d.2 then K1 A C E N K (zX J d.1) c else K1 A C E N K J c else J
def jc(A:ZI)(C:Q)(E:List ZK)(N:G):Nat->Int->Nat->Int
  |0,_,_=>default
  |n2+1,T,q=>letI b:=I C.b q;letI c:=q+1;letI d:=qP A E b;bif(q:Int)<(C.b.length:Int)&&N.d !=0 then bif jx N.c b !=N.d then jc A C E N n2 T c else bif d.2 then jc A C E N n2 (zX T d.1) c else jc A C E N n2 T c else T
def JX(A:ZI)(C:Q)(E:List ZK)(N:G):Int:=letI b:=Zz A.a N.a;letI c:=C.b.length+1;bif b>=0 then(match K1 A C E N c (I A.a b.toNat).a 0 with|a=>a)else(match jc A C E N c 0 0 with|k=>k)
def yx(A:List ZK)(C:YE):Nat->List Zn->Nat->List Zn
  |0,_,_=>default
  |K+1,J,U=>letI b:=K2 (I A U);bif(U:Int)<(A.length:Int)then bif b.2&&b.1.b==C.b&&b.1.e==C.e then yx A C K (J++[b.1]) (U+1)else yx A C K J (U+1)else J
def yJ(A:List ZK)(C:YE):List Zn:=match yx A C (A.length+1) [] 0 with|a=>a
def X4(A:List o)(C E:Int):List o:=letI b:=JL C E;bif !b.2 then A else A++[b.1]
def UA(A:List Zn)(C:Int):Nat->Int->Int->Nat->Int×Int
  |0,_,_,_=>(default,default)
  |K+1,J,U,y=>letI b:=I A y;letI c:=y+1;bif(y:Int)<(A.length:Int)then bif b.b !=C then UA A C K J U c else bif b.d>=0 then UA A C K (zX J b.d) U c else UA A C K J (zX U b.a) c else(J,U)
def zV(A:List Zn)(C:Int):Int:=match UA A C (A.length+1) (-1) (-1) 0 with|(a,h)=>bif a<0 then 10001 else zX a (W (h+1))
def Iz(a:List o)(h:Int):Nat->Nat->Nat
  |0,_=>default
  |n2+1,T=>bif(T:Int)<(a.length:Int)&&(I a T).d<h then Iz a h n2 (T+1)else T
def Sx(A:List o):Nat->List o->Nat->Int->Int->List o×Int×Int
  |0,_,_,_,_=>(default,default,default)
  |K+1,J,U,y,i=>letI b:=I A U;bif(U:Int)<(A.length:Int)then bif W (b.c+1)<y||W (i+1)<b.d then Sx A K (J++[b]) (U+1) y i else Sx A K J (U+1) (VU y b.d) (zX i b.c)else(J,y,i)
def Hr(A:List o)(C:o):List o:=match Sx A (A.length+1) [] 0 C.d C.c with|(a,h,i)=>(match Iz a h (a.length+1) 0 with|k=>a.take k++[o.mk h i]++(a.drop k).take (a.length-k))
def km(A:List o):Nat->List o->Nat->List o
  |0,_,_=>default
  |K+1,J,U=>letI b:=I A U;bif(U:Int)<(A.length:Int)then bif y7 b then km A K (Hr J b) (U+1)else km A K J (U+1)else J
def JB(A:List o):List o:=match km A (A.length+1) [] 0 with|a=>a
def SJ(A:YE)(C:List Zn):List o:=letI b:=decide (A.c<10000);letI c:=([]:List o);letI d:=X4 c 0 (W (A.d-1));letI e:=W (A.c+1);letI f:=zV C A.b;bif A.d>0 then bif b then JB (X4 (X4 d e 10000) f 10000)else JB (X4 d f 10000)else bif b then JB (X4 (X4 c e 10000) f 10000)else JB (X4 c f 10000)
def Ml(A C:o):Bool:=y7 A&&y7 C&&C.d<=A.d&&decide (A.c<=C.c)
def UD(A:List o)(C:o):Nat->Nat->Sum Bool Unit
  |0,_=>.inr ()
  |K+1,J=>bif(J:Int)<((JB A).length:Int)then bif Ml C (I (JB A) J)then .inl true else UD A C K (J+1)else .inr ()
def WX(A:List o)(C:o):Bool:=match UD A C ((JB A).length+1) 0 with|.inl r1=>r1|.inr _=>false
def MP(A:YE)(C:List Zn)(E:o):Bool:=WX (SJ A C) E
def xe(A:List Zn)(C:Int):Nat->Int->Int->Nat->Int×Int
  |0,_,_,_=>(default,default)
  |K+1,J,U,y=>letI b:=I A y;letI c:=y+1;bif(y:Int)<(A.length:Int)then bif b.b !=C then xe A C K J U c else bif b.d<0 then xe A C K J (zX U b.a) c else bif J<0||b.d<J then xe A C K b.d U c else xe A C K J U c else(J,U)
def jD(A:List Zn)(C:Int):Int:=match xe A C (A.length+1) (-1) (-1) 0 with|(a,h)=>bif a>=0 then W (a-1)else h
def jB(A C:o):o×Bool:=letI b:=JL (zX A.d C.d) (VU A.c C.c);bif !(y7 A)||!(y7 C)then(o.mk 0 0,false)else(b.1,b.2)
def S4(A C:List o)(U:Nat):Nat->List o->Nat->List o
  |0,_,_=>default
  |n2+1,T,q=>letI b:=jB (I A U) (I C q);letI c:=q+1;bif(q:Int)<(C.length:Int)then bif b.2 then S4 A C U n2 (T++[b.1]) c else S4 A C U n2 T c else T
def P9(A C:List o):Nat->List o->Nat->List o
  |0,_,_=>default
  |K+1,J,U=>bif(U:Int)<(A.length:Int)then(match S4 A C U (C.length+1) J 0 with|k=>P9 A C K k (U+1))else J
def Ns(A C:List o):List o:=match P9 A C (A.length+1) [] 0 with|a=>JB a
def UW(A:YE)(C:List Zn):List o:=letI b:=jD C A.b;bif !(JL 0 b).2||b>10000 then[]else Ns [V7 A] [(JL 0 b).1]
def PA(A:YE)(C:List Zn)(E:o):Bool:=WX (UW A C) E
def qM(A:List ZK):Nat->List YV->Nat->List YV
  |0,_,_=>default
  |K+1,J,U=>letI b:=yM (I A U);bif(U:Int)<(A.length:Int)then bif b.2 then qM A K (J++[b.1]) (U+1)else qM A K J (U+1)else J
def Wg(A:List ZK):List YV:=match qM A (A.length+1) [] 0 with|a=>a
def P1(A:YV):Bool:=Z1 A.g 1 99&&Z1 A.b 0 99&&Z1 A.a 1 99&&y7 (o.mk A.d A.c)
def yI(A:YV):List Int:=([105,A.g,A.b,A.d,A.c,A.a]:List Int)
def Vl(A:List YF)(C:YV):Bool:=P1 C&&Nt A C.a==C.g&&kv A C.a (yI C) C.f
def xn(A:List YF)(C:List YV)(E N:Int):Nat->List o->Nat->List o
  |0,_,_=>default
  |K+1,J,U=>letI b:=I C U;bif(U:Int)<(C.length:Int)then bif b.g==E&&b.b==N&&Vl A b then xn A C E N K (J++[o.mk b.d b.c]) (U+1)else xn A C E N K J (U+1)else J
def qL(A:List YF)(C:List YV)(E N:Int):List o:=match xn A C E N (C.length+1) [] 0 with|a=>JB a
def RM(A:List YF)(C:List YV)(E N:Int)(T:o):Bool:=bif E==0 then y7 T else WX (qL A C E N) T
def kP(A:ZI)(C:Q)(E:List (List Int))(N:Int)(T:G):XE:=letI b:=PG A N T;letI c:=XT A C E (Xu T);letI d:=YJ A C E;letI e:=Ki A d T;letI f:=JX A C d T;letI g:=yJ d e.1;letI h:=o.mk f c;bif b.b !=0 then b else bif c>=qY A.c (I A.a (Zz A.a T.a).toNat).c||c>=qY A.c T.c then Ss 5 else bif !e.2 then Ss 6 else bif f>c then Ss 7 else bif MP e.1 g h then XE.mk 2 8 h else bif !(PA e.1 g h)then XE.mk 3 7 h else bif !(RM A.a (Wg d) T.g e.1.g h)then XE.mk 3 9 h else XE.mk 1 0 h
def Cz(A:ZI)(C:Q)(E:ZO)(N:G):XE:=kP A C (yq C E) (JG N.c E) N
def kn(A:ZI)(C:ZU):XE:=Cz A (yX C) C.c C.d
def Jq(A:P)(C:Int):XE:=letI b:=u A C;bif b.1<0 then XE.mk 0 0 (o.mk 0 0)else kn A.b (I (I A.a b.1.toNat).a b.2.toNat)
def yp(A:P)(C:Int):Nat->Int->Nat->Int
  |0,_,_=>default
  |K+1,J,U=>bif(U:Int)<((qE A).length:Int)then bif(Jq A (I (qE A) U)).b==C then yp A C K (W (J+1)) (U+1)else yp A C K J (U+1)else J
def QG(A:P)(C:Int):Int:=match yp A C ((qE A).length+1) 0 0 with|a=>a
def qb(A:P):Nat->ByteArray->Nat->ByteArray
  |0,_,_=>default
  |K+1,J,U=>letI b:=XK ((I A.a U).a.length:Int);bif(U:Int)<(A.a.length:Int)then bif(U:Int)>0 then qb A K (J++(⟨#[43]⟩:ByteArray)++b) (U+1)else qb A K (J++b) (U+1)else J
def Tg(A:P):ByteArray:=letI b:=(⟨#[32]⟩:ByteArray);letI c:=(⟨#[47]⟩:ByteArray);match qb A (A.a.length+1) (XK A.b.d++b) 0 with|a=>a++b++XK (QG A 1)++c++XK (QG A 2)++c++XK (QG A 3)++b++XK (A.g.length:Int)
def NS(A:P):Nat->Nat->Sum Bool Unit
  |0,_=>.inr ()
  |n2+1,T=>bif(T:Int)<(A.d.length:Int)then bif !(Z1 (I A.d T) (-1) 10001)then .inl false else NS A n2 (T+1)else .inr ()
def GD(A:P):Nat->Nat->Sum Bool Unit
  |0,_=>.inr ()
  |K+1,J=>letI b:=I A.c J;bif(J:Int)<(A.c.length:Int)then bif !(SY A.b.a b)||YQ A.c b.b<(J:Int)then .inl false else GD A K (J+1)else .inr ()
def GZ(A:P):Bool:=letI b:=A.c.length;letI c:=A.d.length;match GD A (b+1) 0 with|.inl r1=>r1|.inr _=>(match NS A (c+1) 0 with|.inl r2=>r2|.inr _=>(c:Int)==(b:Int))
def R9(A:P)(U:Nat):Nat->List Int->Nat->Sum Bool (List Int)
  |0,_,_=>.inr default
  |n2+1,T,q=>letI b:=(I A.a U).a;letI c:=(I b q).b;bif(q:Int)<(b.length:Int)then bif Tl T c||c>=A.h then .inl false else R9 A U n2 (T++[c]) (q+1)else .inr T
def Uw(A:P):Nat->List Int->Nat->Sum Bool Unit
  |0,_,_=>.inr ()
  |K+1,J,U=>letI b:=I A.a U;bif(U:Int)<(A.a.length:Int)then bif !(Jg b)||b.b !=(U:Int)then .inl false else(match R9 A U (b.a.length+1) J 0 with|.inl r2=>.inl r2|.inr k=>Uw A K k (U+1))else .inr ()
def H8(A:P):Bool:=letI b:=A.a.length;match Uw A (b+1) [] 0 with|.inl r1=>r1|.inr _=>Z1 (b:Int) 1 4&&decide (A.h>=1)
def Lk(A:P):Nat->Nat->Sum Bool Unit
  |0,_=>.inr ()
  |X+1,j=>bif(j:Int)<(A.g.length:Int)then bif I A.g (j-1)>=I A.g j then .inl false else Lk A X (j+1)else .inr ()
def LM(A:P):Nat->Nat->Sum Bool Unit
  |0,_=>.inr ()
  |n2+1,T=>letI b:=(T:Int);letI c:=I A.f T;bif b<(A.f.length:Int)then bif Zp A.b.b c<0||b>0&&I A.f (T-1)>=c then .inl false else LM A n2 (T+1)else .inr ()
def LQ(A:P):Nat->Nat->Sum Bool Unit
  |0,_=>.inr ()
  |K+1,J=>bif(J:Int)<(A.e.length:Int)then bif I A.e J<0 then .inl false else LQ A K (J+1)else .inr ()
def HK(A:P):Bool:=letI b:=A.e.length;letI c:=A.f.length;letI d:=A.b;match LQ A (b+1) 0 with|.inl r1=>r1|.inr _=>(match LM A (c+1) 0 with|.inl r2=>r2|.inr _=>(match Lk A (A.g.length+1) 1 with|.inl a=>a|.inr _=>PO d&&GZ A&&H8 A&&(b:Int)==(d.b.length:Int)&&(c:Int)<=d.e))
def j7(A:P)(U:Nat):Nat->List Int->Nat->List Int
  |0,_,_=>default
  |n2+1,T,q=>letI b:=(I A.a U).a;letI c:=(I b q).b;letI d:=q+1;bif(q:Int)<(b.length:Int)then bif(Jq A c).b==1 then j7 A U n2 (T++[c]) d else j7 A U n2 T d else T
def UU(A:P):Nat->List Int->Nat->List Int
  |0,_,_=>default
  |K+1,J,U=>bif(U:Int)<(A.a.length:Int)then(match j7 A U ((I A.a U).a.length+1) J 0 with|k=>UU A K k (U+1))else J
def Qe(A:P):List Int:=match UU A (A.a.length+1) [] 0 with|a=>a
def qf(A:P):Nat->List Int->Nat->List Int
  |0,_,_=>default
  |K+1,J,U=>letI b:=I (Qe A) U;bif(U:Int)<((Qe A).length:Int)then bif Tl A.g b then qf A K (J++[b]) (U+1)else qf A K J (U+1)else J
def TT(A:P):List Int:=match qf A ((Qe A).length+1) [] 0 with|a=>a
def Nm(A:P):ByteArray:=bif !(HK A)then(⟨#[119,111,114,108,100]⟩:ByteArray)else bif((TT A).length:Int)>0 then(⟨#[102,111,114,103,101,100]⟩:ByteArray)else(⟨#[]⟩:ByteArray)
def xU(A:Int):ByteArray:=letI b:=(⟨#[]⟩:ByteArray);bif !(Z1 A 1 3)then b else I ([b,(⟨#[118,97,108,105,100]⟩:ByteArray),(⟨#[105,110,118,97,108,105,100]⟩:ByteArray),(⟨#[111,112,101,110]⟩:ByteArray)]:List ByteArray) A.toNat
def jN(A:Int):ByteArray:=bif !(Z1 A 0 9)then(⟨#[]⟩:ByteArray)else I ([(⟨#[110,111,110,101]⟩:ByteArray),(⟨#[102,111,114,109]⟩:ByteArray),(⟨#[100,111,99,117,109,101,110,116]⟩:ByteArray),(⟨#[107,101,121]⟩:ByteArray),(⟨#[109,97,114,107]⟩:ByteArray),(⟨#[98,114,111,107,101,110]⟩:ByteArray),(⟨#[99,101,114,116,105,102,105,99,97,116,101]⟩:ByteArray),(⟨#[116,105,109,101]⟩:ByteArray),(⟨#[101,110,100,101,100]⟩:ByteArray),(⟨#[109,97,110,100,97,116,101]⟩:ByteArray)]:List ByteArray) A.toNat
def Ka(A:XE):ByteArray:=letI b:=xU A.b;letI c:=(⟨#[]⟩:ByteArray);letI d:=jN A.c;letI e:=(⟨#[32]⟩:ByteArray);letI f:=b++e++d;bif b=c||d=c then c else bif A.a.d !=0||A.a.c !=0 then f++e++XK A.a.d++(⟨#[45]⟩:ByteArray)++XK A.a.c else f
def TV(T:List Int)(q:Nat)(a:List Int):Nat->Nat->Nat
  |0,_=>default
  |X+1,j=>bif(j:Int)<(T.length:Int)&&I T j<I a q then TV T q a X (j+1)else j
def z7(a:List Int):Nat->List Int->Nat->List Int
  |0,_,_=>default
  |n2+1,T,q=>letI b:=I a q;letI c:=q+1;bif(q:Int)<(a.length:Int)then bif Tl T b then z7 a n2 T c else(match TV T q a (T.length+1) 0 with|e=>z7 a n2 (T.take e++[b]++(T.drop e).take (T.length-e)) c)else T
def jj(A:ZU):Nat->List Int->Nat->List Int
  |0,_,_=>default
  |K+1,J,U=>bif(U:Int)<(A.a.a.length:Int)then jj A K (J++[(I A.a.a U).c]) (U+1)else J
def UZ(A:ZU):List Int:=match jj A (A.a.a.length+1) [A.d.c] 0 with|a=>(match z7 a (a.length+1) [] 0 with|k=>k)
def zg(A:List Int)(C:ZO)(J:Nat):Nat->List Int->Nat->List Int
  |0,_,_=>default
  |n2+1,T,q=>bif(q:Int)<(A.length:Int)then zg A C J n2 (T++[jQ (I A q) (I C.b J) (I C.d J)]) (q+1)else T
def QR(A:List Int)(C:ZO)(E:List Int):Nat->Nat->List Bool->List ByteArray->List Int->List (List Int)->List Bool×List ByteArray×List Int×List (List Int)
  |0,_,_,_,_,_=>(default,default,default,default)
  |K+1,J,U,y,i,a=>letI b:=Tl E (J:Int);letI c:=([]:List Int);letI d:=U++[!b];letI e:=List Int;bif(J:Int)<(C.b.length:Int)then bif b then(match zg A C J (A.length+1) c 0 with|k=>QR A C E K (J+1) d (y++([(⟨#[]⟩:ByteArray)]:List ByteArray)) (i++[0]) (a++[k]))else QR A C E K (J+1) d (y++[I C.b J]) (i++[I C.d J]) (a++[c])else(U,y,i,a)
def Kn(A:List Int)(C:ZO)(E:List Int):t×Bool:=letI b:=([]:List Int);letI c:=([]:List Bool);letI d:=([]:List ByteArray);letI e:=([]:List (List Int));bif !(J6 C)then(t.mk 0 b c d b e,false)else(match QR A C E (C.b.length+1) 0 c d b e with|(a,h,i,j)=>(t.mk C.e A a h i j,true))
def J1(A:ZU)(C:List Int):t×Bool:=letI b:=Kn (UZ A) A.c C;(b.1,b.2)
def QU(A:t):Nat->ByteArray->Nat->ByteArray
  |0,_,_=>default
  |K+1,J,U=>letI b:=U+1;bif(U:Int)<(A.a.length:Int)then bif !(I A.a U)then QU A K (J++(⟨#[32,42]⟩:ByteArray)) b else bif(U:Int)<(A.b.length:Int)then QU A K (J++(⟨#[32,91]⟩:ByteArray)++I A.b U++(⟨#[93]⟩:ByteArray)) b else QU A K (J++(⟨#[32,91,93]⟩:ByteArray)) b else J
def xo(A:t):ByteArray:=match QU A (A.a.length+1) (XK A.e) 0 with|a=>a
def Jd(A:t):Nat->Nat->List ByteArray->List Int->Sum Bool (List ByteArray×List Int)
  |0,_,_,_=>.inr (default,default)
  |K+1,J,U,y=>letI b:=I A.a J;letI c:=((I A.f J).length:Int);letI d:=I A.b J;letI e:=I A.d J;letI f:=b&&c !=0||!b&&(c !=(A.c.length:Int)||!decide (d=(⟨#[]⟩:ByteArray))||e !=0);bif(J:Int)<(A.a.length:Int)then bif b then bif f then .inl false else Jd A K (J+1) (U++[d]) (y++[e])else bif f then .inl false else Jd A K (J+1) U y else .inr (U,y)
def WL(A:t):Bool:=letI b:=A.a.length;letI c:=(b:Int);bif !(Z1 c 1 6)||(A.b.length:Int)!=c||(A.d.length:Int)!=c||(A.f.length:Int)!=c then false else(match Jd A (b+1) 0 [] []with|.inl r1=>r1|.inr (a,h)=>J6 (ZO.mk A.e a h)||(a.length:Int)==0&&Z1 A.e 0 999)
def QB(A:Int)(C:t)(a:Nat):Nat->List Int->Nat->Sum Int (List Int)
  |0,_,_=>.inr default
  |n2+1,T,q=>letI b:=q+1;bif(q:Int)<(C.a.length:Int)then bif I C.a q then QB A C a n2 (T++[jQ A (I C.b q) (I C.d q)]) b else bif(a:Int)==(C.c.length:Int)then .inl (-1)else QB A C a n2 (T++[I (I C.f q) a]) b else .inr T
def X9(A:Int)(C:t):Nat->Nat->Nat
  |0,_=>default
  |K+1,J=>bif(J:Int)<(C.c.length:Int)&&I C.c J !=A then X9 A C K (J+1)else J
def zu(A:Int)(C:t):Int:=bif !(WL C)then-1 else(match X9 A C (C.c.length+1) 0 with|a=>(match QB A C a (C.a.length+1) [C.e] 0 with|.inl r2=>r2|.inr k=>KB A k))
def J9(A:ZR)(C:t):Nat->List Int->Nat->List Int
  |0,_,_=>default
  |K+1,J,U=>bif(U:Int)<(A.a.length:Int)then J9 A C K (J++[zu (I A.a U).c C]) (U+1)else J
def zA(A:ZR)(C:t):List Int:=match J9 A C (A.a.length+1) [] 0 with|a=>a
def Qw(A:Q)(C:t):Nat->List (List Int)->Nat->List (List Int)
  |0,_,_=>default
  |K+1,J,U=>bif(U:Int)<(A.a.length:Int)then Qw A C K (J++([zA (I A.a U) C]:List (List Int))) (U+1)else J
def Jh(A:Q)(C:t):List (List Int):=match Qw A C (A.a.length+1) ([]:List (List Int)) 0 with|a=>a
def W8(A:ZI)(C:Q)(E:t)(N:G):XE:=kP A C (Jh C E) (zu N.c E) N
def xQ(A:ZI)(C:ZU)(E:t):XE:=W8 A (yX C) E C.d
def Nv(A:P)(C:List Int)(E:Bool):ByteArray:=letI b:=I C 0;letI c:=(⟨#[110,111]⟩:ByteArray);letI d:=I (I A.a (u A b).1.toNat).a (u A b).2.toNat;letI e:=J1 d [I C 1];bif(u A b).1<0 then c else bif !E then Ka (Jq A b)else bif !e.2 then c else xo e.1++(⟨#[32]⟩:ByteArray)++Ka (xQ A.b d e.1)
def jF(A:ZI)(C:ZU):ByteArray:=letI b:=(⟨#[32]⟩:ByteArray);(⟨#[35]⟩:ByteArray)++XK C.b++(⟨#[32,107]⟩:ByteArray)++XK C.d.a++b++XK (C.a.b.length:Int)++(⟨#[47]⟩:ByteArray)++XK (C.a.a.length:Int)++b++Ka (kn A C)
def yk(A:ZI)(C:ZD):Nat->ByteArray->Nat->ByteArray
  |0,_,_=>default
  |K+1,J,U=>letI b:=jF A (I C.a U);bif(U:Int)<(C.a.length:Int)then bif(U:Int)>0 then yk A C K (J++(⟨#[59,32]⟩:ByteArray)++b) (U+1)else yk A C K (J++b) (U+1)else J
def Wy(A:ZI)(C:ZD):ByteArray:=letI b:=C.a.length;bif(b:Int)==0 then(⟨#[45]⟩:ByteArray)else(match yk A C (b+1) (⟨#[]⟩:ByteArray) 0 with|a=>a)
def TW(A:ZZ):Int:=W (W (3+W (2*(A.b.length:Int)))+W (6*(A.a.length:Int)))
def Rg(A:ZR):Nat->Int->Nat->Int
  |0,_,_=>default
  |n2+1,T,q=>bif(q:Int)<(A.a.length:Int)then Rg A n2 (W (T+TW (I A.a q))) (q+1)else T
def Ro(A:ZR):Nat->Int->Nat->Int
  |0,_,_=>default
  |K+1,J,U=>bif(U:Int)<(A.b.length:Int)then Ro A K (W (W (J+2)+((I A.b U).b.length:Int))) (U+1)else J
def Rj(A:ZR):Int:=match Ro A (A.b.length+1) 0 0 with|a=>(match Rg A (A.a.length+1) a 0 with|k=>k)
def Ww(A:ZD):Nat->Int->Nat->Int
  |0,_,_=>default
  |K+1,J,U=>bif(U:Int)<(A.a.length:Int)then Ww A K (W (J+Rj (I A.a U).a)) (U+1)else J
def VG(A:ZD):Int:=match Ww A (A.a.length+1) 0 0 with|a=>a
def Mc(A:ZI)(C:ZZ):Nat->Int->Nat->Sum Int Int
  |0,_,_=>.inr default
  |K+1,J,U=>letI b:=Zz A.a (X6 A.b (I C.a U));bif(U:Int)<(C.a.length:Int)then bif b<0 then .inl 0 else Mc A C K (VU J (Ul A.c (I A.a b.toNat).c)) (U+1)else .inr J
def Fj(A:ZI)(C:ZZ):Int:=match Mc A C (C.a.length+1) (Ul A.c C.c) 0 with|.inl r1=>r1|.inr a=>a
def HQ(A:ZI)(C:ZU):Int:=letI b:=C.a.a.length;bif(b:Int)==0 then 0 else Fj A (I C.a.a (b-1))
def Vx(A:ZI)(C:ZU)(E:Int):Bool:=(C.a.a.length:Int)==0||decide (W (HQ A C-A.d)<=E)
def WN(A:ZI)(C:ZD)(E:Int):Nat->List Int->Nat->List Int
  |0,_,_=>default
  |K+1,J,U=>letI b:=I C.a U;bif(U:Int)<(C.a.length:Int)then bif Vx A b E then WN A C E K (J++[b.b]) (U+1)else WN A C E K J (U+1)else J
def T7(A:ZI)(C:ZD)(E:Int):List Int:=match WN A C E (C.a.length+1) [] 0 with|a=>a
def Wc(A:P)(C:ByteArray)(E:List Int):ByteArray:=letI b:=I E 0;letI c:=I A.a b.toNat;bif b>=(A.a.length:Int)then(⟨#[110,111]⟩:ByteArray)else bif C=(⟨#[115,104,111,119]⟩:ByteArray)then Wy A.b c else bif C=(⟨#[115,105,122,101]⟩:ByteArray)then XK (VG c)else PW (T7 A.b c (I E 1))
def Ny(A:P)(C:List ByteArray):ByteArray:=letI b:=Z2 (C.tail);letI c:=(⟨#[119,104,97,116]⟩:ByteArray);letI d:=(b.1.length:Int);letI e:=I C 0;letI f:=A.b;letI g:=Wc A e b.1;bif !b.2 then c else bif d==0 then bif e=(⟨#[112,108,97,110]⟩:ByteArray)then PW (jL f)else bif e=(⟨#[108,105,97,114,115]⟩:ByteArray)then PW (PM f.a f.b (Sw A))else bif e=(⟨#[119,111,114,108,100]⟩:ByteArray)then Tg A else bif e=(⟨#[97,117,100,105,116]⟩:ByteArray)then bif Nm A=(⟨#[]⟩:ByteArray)then(⟨#[111,107]⟩:ByteArray)else Nm A else c else bif d==1 then bif e=(⟨#[106,117,100,103,101]⟩:ByteArray)then Nv A b.1 false else bif e=(⟨#[115,104,111,119]⟩:ByteArray)then g else bif e=(⟨#[115,105,122,101]⟩:ByteArray)then g else c else bif d==2 then bif e=(⟨#[104,105,100,101]⟩:ByteArray)then Nv A b.1 true else bif e=(⟨#[100,117,101]⟩:ByteArray)then g else c else c
def XX(A:P)(C:ByteArray):P×ByteArray:=letI b:=QF C;letI c:=I b 0;letI d:=kH A b 4;letI e:=kH A b 3;bif(b.length:Int)==0||(C.size:Int)>200 then(A,(⟨#[119,104,97,116]⟩:ByteArray))else bif c=(⟨#[115,105,103,110]⟩:ByteArray)then(d.1,d.2)else bif c=(⟨#[102,111,114,103,101]⟩:ByteArray)then(e.1,e.2)else bif c=(⟨#[114,101,110,101,119]⟩:ByteArray)then((Wj A b).1,(Wj A b).2)else bif(K7 A b).2.2 then((K7 A b).1,(K7 A b).2.1)else(A,Ny A b)
def kT(a:List ByteArray):Nat->List ByteArray->Nat->List YF->List ZS->List Zy->Int->Int->List YE->List Int->List ZD->List Int->List Int->Int->List Int->List ByteArray×List YF×List ZS×List Zy×Int×Int×List YE×List Int×List ZD×List Int×List Int×Int×List Int
  |0,_,_,_,_,_,_,_,_,_,_,_,_,_,_=>(default,default,default,default,default,default,default,default,default,default,default,default,default)
  |n2+1,T,q,p,t,S,al,ak,ad,ag,E,ao,am,Q,ai=>letI b:=XX (P.mk (ZI.mk p t S al ak) ad ag E ao am Q ai) (I a q);letI c:=b.1;letI d:=c.b;bif(q:Int)<(a.length:Int)then kT a n2 (T++[b.2]) (q+1) d.a d.b d.c d.e d.d c.c c.d c.a c.e c.f c.h c.g else(T,p,t,S,al,ak,ad,ag,E,ao,am,Q,ai)
def zI(A:ByteArray):Nat->List ByteArray->Int->Nat->List ByteArray
  |0,_,_,_=>default
  |K+1,J,U,y=>letI b:=(y:Int);letI c:=(A.size:Int);letI d:=y+1;bif b<=c then bif b==c&&U==c then J else bif b==c||((a7 A y):Int)==10 then zI A K (J++[A.extract U.toNat y]) (W (b+1)) d else zI A K J U d else J
def zF(A:ByteArray):(List ByteArray)×Bool:=letI b:=([]:List ByteArray);letI c:=Yj 1;letI d:=c.b;match zI A (A.size+2) b 0 0 with|a=>bif(a.length:Int)>60 then(b,false)else(match kT a (a.length+1) b 0 d.a d.b d.c d.e d.d c.c c.d c.a c.e c.f c.h c.g with|(k,l,q,w,x,r,t,v,y,z,u,B,s)=>(k,true))
def JH(A:ByteArray)(C:Int):Nat->List ByteArray->Int->Nat->List ByteArray
  |0,_,_,_=>default
  |K+1,J,U,y=>letI b:=(y:Int);letI c:=(A.size:Int);letI d:=y+1;bif b<=c then bif b==c||((a7 A y):Int)==C then JH A C K (J++[A.extract U.toNat y]) (W (b+1)) d else JH A C K J U d else J
def Zk(A:ByteArray)(C:Int):List ByteArray:=match JH A C (A.size+2) [] 0 0 with|a=>a
def KG:List YF:=([YF.mk 1 90 1 0 501,YF.mk 2 90 3 40 502,YF.mk 11 1 1 0 511,YF.mk 12 1 2 20 512,YF.mk 13 2 3 40 513,YF.mk 21 50 1 0 521,YF.mk 31 81 1 0 531,YF.mk 32 82 2 20 532,YF.mk 33 83 3 40 533,YF.mk 34 84 4 60 534]:List YF)
def Jf:List Zy:=([Zy.mk 1 0 40 50,Zy.mk 2 20 80 70,Zy.mk 3 40 120 200,Zy.mk 4 60 10001 10001]:List Zy)
def zi(A:YE):List Int:=([101,A.b,A.a,A.g,A.d,A.c,A.e]:List Int)
def SS(A:List YF)(C:Int):Nat->Nat->Sum Int Unit
  |0,_=>.inr ()
  |K+1,J=>bif(J:Int)<(A.length:Int)then bif(I A J).b==C then .inl (J:Int)else SS A C K (J+1)else .inr ()
def YA(A:List YF)(C:Int):Int:=match SS A C (A.length+1) 0 with|.inl r1=>r1|.inr _=>-1
def ZW(A C E:Int):Bool:=decide (C<=A)&&decide (A<=E)
def gy(A C:Int):Int:=bif !(ZW C 1 1000000000000)then 0 else Int.tmod (W (Int.tmod A C+C)) C
def Fm(A:List Int):Nat->Int->Nat->Int
  |0,_,_=>default
  |K+1,J,U=>bif(U:Int)<(A.length:Int)then Fm A K (Int.tmod (W (W (W (J*1000003)+gy (I A U) 2147483647)+13)) 2147483647) (U+1)else J
def vH(A:List Int):Int:=match Fm A (A.length+1) 11 0 with|a=>a
def kx(A:Int)(C:List Int):Int:=letI b:=([A]:List Int);vH (b++C++b)
def Mb(A:YF)(C:List Int):Int:=kx A.d ([A.c]++C)
def zC(A:List YF)(C:Int)(E:List Int):Int×Bool:=letI b:=YA A C;bif b<0 then(0,false)else(Mb (I A b.toNat) E,true)
def VZ(A:YE):o:=o.mk A.d A.c
def qI(A:Int):Bool:=ZW A 0 10000
def Yy(A:o):Bool:=qI A.d&&qI A.c&&decide (A.d<=A.c)
def I7(A:YE):Bool:=ZW A.b 1 999&&ZW A.a 1 99&&ZW A.e 1 99&&A.a !=A.e&&ZW A.g 0 99&&Yy (VZ A)
def Sl(A:List YF)(C:YE):YE×Bool:=letI b:=zC A C.e (zi C);bif !(I7 C)||!b.2||YA A C.a<0 then(YE.mk 0 0 0 0 0 0 0,false)else(YE.mk C.b C.a C.g C.d C.c C.e b.1,true)
def Ud:Nat->Nat->List YE->List YE
  |0,_,_=>default
  |n2+1,T,q=>bif(T:Int)<3 then Ud n2 (T+1) (q++([(Sl KG (I [YE.mk 1 11 1 0 60 1 0,YE.mk 2 12 1 20 100 1 0,YE.mk 3 13 2 40 150 2 0] T)).1]:List YE))else q
def U3:Nat->Nat->List ZS->List ZS
  |0,_,_=>default
  |K+1,J,U=>letI b:=(J:Int);bif b<4 then U3 K (J+1) (U++([ZS.mk (W (b+1)) (W (31+b)) (I [1,2,1,0] J)]:List ZS))else U
def YK(A:Int):P:=letI b:=if A<1 then A else 1;letI c:=if b>0 then b else 0;letI e:=([-1,-1,-1]:List Int);letI f:=([]:List ZU);letI g:=([ZD.mk 0 f,ZD.mk 1 f]:List ZD);letI h:=List.replicate 4 0;letI i:=([]:List Int);(match U3 5 0 []with|a=>letI d:=ZI.mk KG a Jf c 0;(match Ud 4 0 []with|k=>bif c>0 then P.mk d k e g h [1] 1 i else P.mk d k e g h i 1 i))
def xR(A:ByteArray):Nat->List ByteArray->Nat->List ByteArray
  |0,_,_=>default
  |K+1,J,U=>letI b:=Zk A 32;bif(U:Int)<(b.length:Int)then bif !decide (I b U=(⟨#[]⟩:ByteArray))then xR A K (J++[I b U]) (U+1)else xR A K J (U+1)else J
def Zt(A:ByteArray):List ByteArray:=match xR A ((Zk A 32).length+1) [] 0 with|a=>a
def JC:Nat->Int->List UInt8->List UInt8
  |0,_,_=>default
  |K+1,J,U=>letI b:=Int.tmod J 10;letI c:=W (Int.tdiv J 10);letI d:=([UInt8.ofInt (W (48+W (-b)))]:List UInt8)++U;letI e:=([UInt8.ofInt (W (48+b))]:List UInt8)++U;bif b<0 then bif c==0 then d else JC K c d else bif c==0 then e else JC K c e
def Zu(A:Int):ByteArray:=(match JC 21 A []with|a=>letI b:=(⟨a.toArray⟩:ByteArray);bif A<0 then(⟨#[45]⟩:ByteArray)++b else b)
def xL(A:ByteArray):Nat->Int->Nat->Sum (Int×Bool) Int
  |0,_,_=>.inr default
  |K+1,J,U=>letI b:=((a7 A U):Int);bif(U:Int)<(A.size:Int)then bif b<48||b>57 then .inl (0,false)else xL A K (W (W (10*J)+W (IntKind.u8.wrap (b-48)))) (U+1)else .inr J
def XS(A:ByteArray):Int×Bool:=bif A=(⟨#[]⟩:ByteArray)||(A.size:Int)>13 then(0,false)else(match xL A (A.size+1) 0 0 with|.inl r1=>r1|.inr a=>bif a>1000000000000||!decide (Zu a=A)then(0,false)else(a,true))
def Jj(A:List ByteArray):Nat->List Int->Nat->Sum (List Int×Bool) (List Int)
  |0,_,_=>.inr default
  |K+1,J,U=>letI b:=XS (I A U);bif(U:Int)<(A.length:Int)then bif !b.2 then .inl ([],false)else Jj A K (J++[b.1]) (U+1)else .inr J
def Zb(A:List ByteArray):(List Int)×Bool:=match Jj A (A.length+1) [] 0 with|.inl r1=>r1|.inr a=>(a,true)
def Wl(A:Int):Bool:=ZW A 1 2147483646
def pB(A C:Int):Int:=if C>A then C else A
def RJ(A:ZO):Nat->Nat->Sum Bool Unit
  |0,_=>.inr ()
  |K+1,J=>bif(J:Int)<(A.b.length:Int)then bif((I A.b J).size:Int)>40||!(ZW (I A.d J) 1 1000000000000)then .inl false else RJ A K (J+1)else .inr ()
def QC(A:ZO):Bool:=letI b:=A.b.length;bif !(ZW A.e 0 999)||!(ZW (b:Int) 1 6)||(A.d.length:Int)!=(b:Int)then false else(match RJ A (b+1) 0 with|.inl r1=>r1|.inr _=>true)
def zl(A:Int)(C:List ByteArray)(E:Int):Nat->Nat->List Int->List Int
  |0,_,_=>default
  |K+1,J,U=>bif(J:Int)<(C.length:Int)then zl A C E K (J+1) (U++([pB 1 (kx E [A,(J:Int)])]:List Int))else U
def Xn(A:Int)(C:List ByteArray)(E:Int):ZO×Bool:=letI b:=([]:List Int);letI c:=(ZO.mk 0 [] b,false);bif !(Wl E)||(C.length:Int)>6 then c else(match zl A C E (C.length+1) 0 b with|a=>letI d:=ZO.mk A C a;bif !(QC d)then c else(d,true))
def Ee(A:ZI):ZI:=A
def D5(A:List Int):List Int:=A
def Mx(A:ZO):ZO:=A
def Fo(A:ZK):ZK:=A
def R0(A:List ZK):Nat->List ZK->Nat->List ZK
  |0,_,_=>default
  |K+1,J,U=>bif(U:Int)<(A.length:Int)then R0 A K (J++[I A U]) (U+1)else J
def Nk(A:List ZK):List ZK:=match R0 A (A.length+1) [] 0 with|a=>a
def GL(A:List ZX):List ZX:=A
def L1(A:ZZ):ZZ:=A
def RY(A:ZR):Nat->Nat->List ZZ->List ZZ
  |0,_,_=>default
  |K+1,J,U=>bif(J:Int)<(A.a.length:Int)then RY A K (J+1) (U++[I A.a J])else U
def NR(A:ZR):ZR:=match RY A (A.a.length+1) 0 []with|a=>ZR.mk A.b a
def CW(A:ZU):ZU:=A
def Tq(A:ZD):Nat->Nat->List ZU->List ZU
  |0,_,_=>default
  |K+1,J,U=>bif(J:Int)<(A.a.length:Int)then Tq A K (J+1) (U++[I A.a J])else U
def Pm(A:ZD):ZD:=match Tq A (A.a.length+1) 0 []with|a=>ZD.mk A.b a
def Po(A:P):Nat->Nat->List ZD->List ZD
  |0,_,_=>default
  |K+1,J,U=>bif(J:Int)<(A.a.length:Int)then Po A K (J+1) (U++[I A.a J])else U
def Lh(A:P):P:=match Po A (A.a.length+1) 0 []with|a=>P.mk A.b A.c A.d a A.e A.f A.h A.g
def WE(A:P)(C:Int):P×Bool:=letI b:=A.b;letI c:=W (b.d+C);bif !(ZW C 0 100)||c>10000 then(A,false)else(P.mk (ZI.mk b.a b.b b.c b.e c) A.c A.d A.a A.e A.f A.h A.g,true)
def kF(A:List Zy)(C:Int):Nat->Int->Nat->Int
  |0,_,_=>default
  |K+1,J,U=>letI b:=I A U;bif(U:Int)<(A.length:Int)then bif b.c<=C&&C<b.a&&(J<0||b.a>(I A J.toNat).a)then kF A C K (U:Int) (U+1)else kF A C K J (U+1)else J
def Zj(A:List Zy)(C:Int):Int:=match kF A C (A.length+1) (-1) 0 with|a=>bif a<0 then-1 else(I A a.toNat).b
def Z5(A:P)(C:Int):Bool:=ZW C 0 (W ((A.a.length:Int)-1))
def UH(A:List UInt8):Nat->List Int->Nat->List Int
  |0,_,_=>default
  |K+1,J,U=>bif(U:Int)<(A.length:Int)then UH A K (J++[W ((I A U).toNat:Int)]) (U+1)else J
def N0(A:List UInt8):List Int:=match UH A (A.length+1) [] 0 with|a=>a
def Kg(A:Int)(C:List Int):Int:=vH ([7,A]++C)
def WJ(A:Int)(C:ByteArray)(E:Int):Int:=Kg A ([E]++N0 C.data.toList)
def TX(A:Int)(C:ZO):Nat->List Int->Nat->List Int
  |0,_,_=>default
  |K+1,J,U=>bif(U:Int)<(C.b.length:Int)then TX A C K (J++[WJ A (I C.b U) (I C.d U)]) (U+1)else J
def Y0(A:Int)(C:ZO):Int:=bif !(QC C)then-1 else(match TX A C (C.b.length+1) [C.e] 0 with|a=>Kg A a)
def QH(A:G):List Int:=([104,A.a,A.b,A.c,A.e,A.h,A.g,A.i,A.d]:List Int)
def yK(A:G):Bool:=ZW A.a 1 99&&ZW A.b 1 999&&ZW A.c 0 99&&ZW A.g 0 99&&ZW A.h 1 3&&ZW A.e 0 1000000000000&&ZW A.i 0 1000000000000&&ZW A.d 0 1000000000000
def Xl(A:List YF)(C:G):G×Bool:=letI b:=zC A C.a (QH C);bif !(yK C)||!b.2 then(G.mk 0 0 0 0 0 0 0 0 0,false)else(G.mk C.a C.b C.c C.e C.h C.g C.i C.d b.1,true)
def XQ(A:G):ZK:=ZK.mk A.a (QH A) A.f
def yZ(A:YE):ZK:=ZK.mk A.e (zi A) A.f
def WK(A:ZD)(C:Int):Nat->Nat->Sum Int Unit
  |0,_=>.inr ()
  |K+1,J=>bif(J:Int)<(A.a.length:Int)then bif(I A.a J).b==C then .inl (J:Int)else WK A C K (J+1)else .inr ()
def Z3(A:ZD)(C:Int):Int:=match WK A C (A.a.length+1) 0 with|.inl r1=>r1|.inr _=>-1
def IK(A C:List Int):Nat->Nat->Sum Bool Unit
  |0,_=>.inr ()
  |K+1,J=>bif(J:Int)<(A.length:Int)then bif I A J !=I C J then .inl false else IK A C K (J+1)else .inr ()
def LN(A C:List Int):Bool:=bif(A.length:Int)!=(C.length:Int)then false else(match IK A C (A.length+1) 0 with|.inl r1=>r1|.inr _=>true)
def jl(A C:ZK):Bool:=A.a==C.a&&A.f==C.f&&LN A.b C.b
def Rp(A:List ZK)(C:ZK):Nat->Nat->Sum Bool Unit
  |0,_=>.inr ()
  |K+1,J=>bif(J:Int)<(A.length:Int)then bif jl (I A J) C then .inl true else Rp A C K (J+1)else .inr ()
def Ji(A:List ZK)(C:ZK):Bool:=match Rp A C (A.length+1) 0 with|.inl r1=>r1|.inr _=>false
def Nd(A:ZR):Nat->Nat->Sum Bool Unit
  |0,_=>.inr ()
  |n2+1,T=>letI b:=(T:Int);letI c:=(I A.a T).d;bif b<(A.a.length:Int)then bif !(ZW c 1 (A.b.length:Int))||b>0&&c<(I A.a (T-1)).d then .inl false else Nd A n2 (T+1)else .inr ()
def NZ(A:ZR):Nat->Nat->Sum Bool Unit
  |0,_=>.inr ()
  |K+1,J=>bif(J:Int)<(A.b.length:Int)then bif Ji (A.b.take J) (I A.b J)then .inl false else NZ A K (J+1)else .inr ()
def WR(A:ZR):Bool:=letI b:=A.b.length;letI c:=A.a.length;bif !(ZW (b:Int) 1 12)||(c:Int)>8 then false else(match NZ A (b+1) 0 with|.inl r1=>r1|.inr _=>(match Nd A (c+1) 0 with|.inl r2=>r2|.inr _=>true))
def Is(A:ZU):Bool:=ZW A.b 1 999&&qI A.e&&QC A.c&&WR A.a&&jl (I A.a.b 0) (XQ A.d)
def TP(A:ZD):Nat->Nat->Sum Bool Unit
  |0,_=>.inr ()
  |K+1,J=>letI b:=I A.a J;bif(J:Int)<(A.a.length:Int)then bif !(Is b)||(J:Int)>0&&(I A.a (J-1)).b>=b.b then .inl false else TP A K (J+1)else .inr ()
def Kj(A:ZD):Bool:=letI b:=A.a.length;match TP A (b+1) 0 with|.inl r1=>r1|.inr _=>ZW A.b 0 99&&decide ((b:Int)<=8)
def QJ(A:ZD)(C:ZU):Nat->Nat->Nat
  |0,_=>default
  |K+1,J=>bif(J:Int)<(A.a.length:Int)&&(I A.a J).b<C.b then QJ A C K (J+1)else J
def JS(A:ZD)(C:ZU):ZD×Bool:=bif Z3 A C.b>=0||!(Kj A)then(A,false)else(match QJ A C (A.a.length+1) 0 with|a=>letI b:=ZD.mk A.b (A.a.take a++[C]++A.a.drop a);bif !(Kj b)then(A,false)else(b,true))
def Qu(A:P)(C E:Int)(N:ZO)(T a5:Int):Nat->Nat->Sum (P×Bool) Unit
  |0,_=>.inr ()
  |K+1,J=>letI b:=I A.c J;letI c:=A.b;letI d:=Zj c.c c.d;letI e:=Xl c.a (G.mk E b.b d (Y0 d N) 1 T 0 0 0);letI f:=JS (I A.a C.toNat) (ZU.mk A.h a5 N e.1 (ZR.mk [XQ e.1,yZ b] []));bif(J:Int)<(A.c.length:Int)then bif b.a !=E then Qu A C E N T a5 K (J+1)else bif !e.2||!f.2 then .inl (A,false)else .inl (P.mk c A.c A.d (A.a.set C.toNat f.1) A.e A.f (W (A.h+1)) A.g,true)else .inr ()
def XZ(A:P)(C E:Int)(N:ZO)(T a5:Int):P×Bool:=letI b:=A.b;bif !(Z5 A C)||YA b.a E<0||Zj b.c b.d<0 then(A,false)else(match Qu A C E N T a5 (A.c.length+1) 0 with|.inl r1=>r1|.inr _=>(A,false))
def qQ(A:P)(C E:Int)(N:ZO)(T a5:Int):P×Bool:=letI b:=YA A.b.a E;letI c:=XZ A C E N T a5;bif b<0||(I A.b.a b.toNat).a>A.b.d then(A,false)else(c.1,c.2)
def SQ(A:P)(C:Int):Nat->Nat->Sum (Int×Int) Unit
  |0,_=>.inr ()
  |K+1,J=>letI b:=Z3 (I A.a J) C;bif(J:Int)<(A.a.length:Int)then bif b>=0 then .inl ((J:Int),b)else SQ A C K (J+1)else .inr ()
def S(A:P)(C:Int):Int×Int:=match SQ A C (A.a.length+1) 0 with|.inl r1=>r1|.inr _=>(-1,-1)
def YX(A:ZK):Int:=letI b:=(A.b.length:Int);letI c:=I A.b 0;bif b==0||!(ZW c 101 105)||b !=I [7,5,5,9,6] (W (c-101)).toNat then 0 else c
def XU(A:ZK):YE×Bool:=letI b:=A.b;bif YX A !=101||I b 6 !=A.a then(YE.mk 0 0 0 0 0 0 0,false)else(YE.mk (I b 1) (I b 2) (I b 3) (I b 4) (I b 5) (I b 6) A.f,true)
def WD(A:List YE)(C:Int):Nat->Nat->Sum Int Unit
  |0,_=>.inr ()
  |K+1,J=>bif(J:Int)<(A.length:Int)then bif(I A J).b==C then .inl (J:Int)else WD A C K (J+1)else .inr ()
def Jc(A:List YE)(C:Int):Int:=match WD A C (A.length+1) 0 with|.inl r1=>r1|.inr _=>-1
def Yr(A:P)(C:Int):Int×Int×Bool:=letI b:=S A C;letI c:=(I (I A.a b.1.toNat).a b.2.toNat).a.b;letI d:=XU (I c 1);letI e:=Jc A.c d.1.b;bif b.1<0||(c.length:Int)<2 then(0,0,false)else(b.1,e,d.2&&e>=0)
def K6(A:Zn):List Int:=([102,A.b,A.a,A.d,A.e]:List Int)
def N6(A:Zn):Bool:=ZW A.b 1 999&&qI A.a&&ZW A.d (-1) (W (A.a+1))&&ZW A.e 1 99
def Xp(A:List YF)(C:Zn):Zn×Bool:=letI b:=zC A C.e (K6 C);bif !(N6 C)||!b.2 then(Zn.mk 0 0 0 0 0,false)else(Zn.mk C.b C.a C.d C.e b.1,true)
def Q8(A:Zn):ZK:=ZK.mk A.e (K6 A) A.f
def qJ(A:ZR)(C:ZK):ZR×Bool:=letI b:=ZR.mk (A.b++[C]) A.a;bif !(WR b)then(A,false)else(b,true)
def Qp(A:ZD)(C:Int)(E:ZK):ZD×Bool:=letI b:=Z3 A C;letI c:=I A.a b.toNat;letI d:=qJ c.a E;bif b<0 then(A,false)else(ZD.mk A.b (A.a.set b.toNat (ZU.mk c.b c.e c.c c.d d.1)),d.2)
def KE(A:P)(C E:Int)(N:Zn):P×Bool:=letI b:=Xp A.b.a N;letI c:=Qp (I A.a C.toNat) E (Q8 b.1);bif !b.2||!c.2 then(A,false)else(P.mk A.b A.c A.d (A.a.set C.toNat c.1) A.e A.f A.h A.g,true)
def xD(A:P)(C:Int):P×Bool:=letI b:=Yr A C;letI c:=I A.c b.2.1.toNat;letI d:=YA A.b.a c.e;letI e:=A.b.d;letI f:=I A.d b.2.1.toNat;letI g:=KE A b.1 C (Zn.mk c.b e (-1) c.e 0);letI h:=KE A b.1 C (Zn.mk c.b e f c.e 0);bif !b.2.2||b.2.1>=(A.d.length:Int)then(A,false)else bif d<0||(I A.b.a d.toNat).a>e then(A,false)else bif f>W (e+1)then(g.1,g.2)else(h.1,h.2)
def xB(A:P)(C:Int):P×Bool:=bif !(ZW C 0 (W ((A.d.length:Int)-1)))||I A.d C.toNat !=-1 then(A,false)else(P.mk A.b A.c (A.d.set C.toNat (W (A.b.d+1))) A.a A.e A.f A.h A.g,true)
def Pq(A:List Int):Nat->Nat->Sum Bool Unit
  |0,_=>.inr ()
  |K+1,J=>bif(J:Int)<(A.length:Int)then bif I A (J-1)>=I A J then .inl false else Pq A K (J+1)else .inr ()
def xj(A:List Int):Bool:=match Pq A (A.length+1) 1 with|.inl r1=>r1|.inr _=>true
def zW(A:ZX):List Int:=([103,A.a,A.b,A.c,A.e]:List Int)
def jR(C:ZZ):Nat->List Int->Nat->List Int
  |0,_,_=>default
  |n2+1,T,q=>letI b:=I C.a q;bif(q:Int)<(C.a.length:Int)then jR C n2 (T++zW b++[b.f]) (q+1)else T
def yj(C:ZZ):Nat->List Int->Nat->List Int
  |0,_,_=>default
  |K+1,J,U=>letI b:=I C.b U;bif(U:Int)<(C.b.length:Int)then bif b.a then yj C K (J++[b.e,1]) (U+1)else yj C K (J++[b.e,0]) (U+1)else J
def KY(A:Int)(C:ZZ):Int:=letI b:=C.a.length;match yj C (C.b.length+1) [4,C.d,C.c,C.e] 0 with|a=>(match jR C (b+1) (a++[(b:Int)]) 0 with|k=>Kg A k)
def kD(A:Int)(C:List ZK):Nat->List Int->Nat->List Int
  |0,_,_=>default
  |K+1,J,U=>letI b:=I C U;bif(U:Int)<(C.length:Int)then kD A C K (J++([Kg A ([b.a,b.f]++b.b)]:List Int)) (U+1)else J
def yd(A:Int)(C:List ZK):Int:=match kD A C (C.length+1) [2] 0 with|a=>Kg A a
def OO(A C:Int)(E:List ZK)(N:Int):Int:=Kg A [3,C,yd A E,N]
def KM(A:ZU)(C:Int):Int:=letI b:=A.a.a.length;letI c:=Y0 C A.c;bif(b:Int)>0 then OO C c A.a.b (KY C (I A.a.a (b-1)))else OO C c A.a.b 0
def VN(A:ZD)(C:Int):Nat->List Int->Nat->List Int
  |0,_,_=>default
  |K+1,J,U=>bif(U:Int)<(A.a.length:Int)then VN A C K (J++[KM (I A.a U) C]) (U+1)else J
def JU(A:ZD)(C:Int):List Int:=match VN A C (A.a.length+1) [] 0 with|a=>a
def WV(A C E:Int):Int:=Kg A [1,C,E]
def yP(A:Int)(C:List Int):Nat->List Int->Nat->List Int
  |0,_,_=>default
  |K+1,J,U=>letI b:=(C.length:Int);letI c:=W ((U:Int)+1);letI d:=I C U;bif(U:Int)<b then bif c<b then yP A C K (J++[WV A d (I C c.toNat)]) (U+2)else yP A C K (J++[d]) (U+2)else J
def yB(A:Int)(C:List Int):List Int:=match yP A C (C.length+1) [] 0 with|a=>a
def Rc(A:Int):Nat->List Int->List Int
  |0,_=>default
  |K+1,J=>bif(J.length:Int)>1 then Rc A K (yB A J)else J
def PE(A:Int)(C:List Int):Int:=bif !(ZW (C.length:Int) 1 16)then-1 else(match Rc A (C.length+1) C with|a=>I a 0)
def Kk(A:ZD)(C:Int):Int:=PE C (JU A C)
def K8(A:List ZS)(C:Int):Nat->Nat->Sum Int Unit
  |0,_=>.inr ()
  |K+1,J=>bif(J:Int)<(A.length:Int)then bif(I A J).b==C then .inl (J:Int)else K8 A C K (J+1)else .inr ()
def Zo(A:List ZS)(C:Int):Int:=match K8 A C (A.length+1) 0 with|.inl r1=>r1|.inr _=>-1
def Sc(A:List Int)(C:Int):Nat->Nat->Sum Int Unit
  |0,_=>.inr ()
  |K+1,J=>bif(J:Int)<(A.length:Int)then bif I A J==C then .inl (J:Int)else Sc A C K (J+1)else .inr ()
def Kl(A:List Int)(C:Int):Int:=match Sc A C (A.length+1) 0 with|.inl r1=>r1|.inr _=>-1
def y6(A:List Int)(C:Int):Bool:=decide (Kl A C>=0)
def QX(A:List YF)(C:List ZS)(E:ZX):ZX×Bool:=letI b:=E.a;letI c:=(ZX.mk 0 0 0 0 0,false);letI d:=zC A (I C (Zo C b).toNat).a (zW E);bif Zo C b<0||E.b<0||!(qI E.c)then c else bif !d.2 then c else(ZX.mk b E.b E.c E.e d.1,true)
def xF(A:Int):Nat->List Int->Int->List Xy->List Xy
  |0,_,_,_=>default
  |K+1,J,U,y=>letI b:=(J.length:Int);letI c:=yB A J;letI d:=W (Int.tdiv U 2);letI e:=W (U+1);bif b>1 then bif Int.tmod U 2==1 then xF A K c d (y++[Xy.mk (I J (W (U-1)).toNat) true])else bif e<b then xF A K c d (y++[Xy.mk (I J e.toNat) false])else xF A K c d y else y
def qG(A:Int)(C:List Int)(E:Int):List Xy:=letI b:=(C.length:Int);letI c:=([]:List Xy);bif !(ZW E 0 (W (b-1)))||b>16 then c else(match xF A (C.length+1) C E c with|a=>a)
def Qr(A:ZR)(C:ZZ):ZR×Bool:=letI b:=ZR.mk A.b (A.a++[C]);bif !(WR b)then(A,false)else(b,true)
def KW(A:ZD)(C:Int)(E:List ZX):Nat->Nat->List ZU->Sum (ZD×Bool) (List ZU)
  |0,_,_=>.inr default
  |K+1,J,U=>letI b:=(I A.a J).a;letI c:=Qr b (ZZ.mk (b.b.length:Int) C (Kk A C) (qG C (JU A C) (J:Int)) E);letI d:=I U J;bif(J:Int)<(A.a.length:Int)then bif !c.2 then .inl (A,false)else KW A C E K (J+1) (U.set J (ZU.mk d.b d.e d.c d.d c.1))else .inr U
def Kz(A:ZD)(C:Int)(E:List ZX):ZD×Bool:=letI b:=A.a.length;bif(b:Int)==0||!(Kj A)then(A,false)else(match KW A C E (b+1) 0 A.a with|.inl r1=>r1|.inr a=>letI c:=ZD.mk A.b a;bif !(Kj c)then(A,false)else(c,true))
def Ju(A:P)(C:Int)(E:List Int)(N:Int):Nat->List ZX->Nat->List Int->Sum (P×Bool) (List ZX×List Int)
  |0,_,_,_=>.inr (default,default)
  |K+1,J,U,y=>letI b:=A.b;letI c:=I E U;letI d:=Zo b.b c;letI e:=d.toNat;letI f:=YA b.a (I b.b e).a;letI g:=b.d;letI h:=I A.e e;letI i:=W (g+N);letI j:=if i<10000 then i else 10000;letI k:=Kk (I A.a C.toNat) (Zj b.c g);letI l:=QX b.a b.b (ZX.mk c h (if j>0 then j else 0) k 0);letI m:=y.set e (W (I y e+1));letI n:=QX b.a b.b (ZX.mk c h g k 0);bif(U:Int)<(E.length:Int)then bif d<0||d>=(A.e.length:Int)then .inl (A,false)else bif f<0||(I b.a f.toNat).a>g then .inl (A,false)else bif y6 A.f c then bif !l.2 then .inl (A,false)else Ju A C E N K (J++[l.1]) (U+1) m else bif !n.2 then .inl (A,false)else Ju A C E N K (J++[n.1]) (U+1) m else .inr (J,y)
def jA(A:P)(C:Int)(E:List Int)(N:Int):P×Bool:=letI b:=A.b;letI c:=Zj b.c b.d;bif !(Z5 A C)||c<0||!(xj E)||(E.length:Int)==0||!(ZW N (-10000) 10000)then(A,false)else(match Ju A C E N (E.length+1) [] 0 A.e with|.inl r1=>r1|.inr (a,h)=>letI d:=Kz (I A.a C.toNat) c a;bif !d.2 then(A,false)else(P.mk b A.c A.d (A.a.set C.toNat d.1) h A.f A.h A.g,true))
def UX(A:Int)(C:ZU):Nat->List Int->Nat->List Int
  |0,_,_=>default
  |K+1,J,U=>bif(U:Int)<(C.a.a.length:Int)then UX A C K (J++[KY A (I C.a.a U)]) (U+1)else J
def R7(A:Int)(C:ZU):Int:=match UX A C (C.a.a.length+1) [5,C.b,C.e,Y0 A C.c,yd A C.a.b] 0 with|a=>Kg A a
def qw(A:Int)(C:List ZU):Nat->List Int->Nat->List Int
  |0,_,_=>default
  |K+1,J,U=>bif(U:Int)<(C.length:Int)then qw A C K (J++[R7 A (I C U)]) (U+1)else J
def qg(A:Int)(C:List ZU):Int:=match qw A C (C.length+1) [] 0 with|a=>PE A a
def yV(A:ZD)(E:List Int):Nat->Nat->List ZU->Sum (Y7×Bool) (List ZU)
  |0,_,_=>.inr default
  |K+1,J,U=>letI b:=Z3 A (I E J);bif(J:Int)<(E.length:Int)then bif b<0 then .inl (Y7.mk 0 0 [] 0,false)else yV A E K (J+1) (U++[I A.a b.toNat])else .inr U
def Xo(A:ZD)(C:Int)(E:List Int)(N:Int):Y7×Bool:=letI b:=([]:List ZU);match yV A E (E.length+1) 0 b with|.inl r1=>r1|.inr a=>bif(E.length:Int)==0 then(Y7.mk 0 0 b 0,false)else(Y7.mk A.b C a (qg N a),true)
def zc(A:Y7):Nat->Nat->Sum Bool Unit
  |0,_=>.inr ()
  |K+1,J=>bif(J:Int)<(A.a.length:Int)then bif !(Is (I A.a J))then .inl false else zc A K (J+1)else .inr ()
def Ky(A:Y7)(C:Int):Bool:=letI b:=A.a.length;match zc A (b+1) 0 with|.inl r1=>r1|.inr _=>ZW (b:Int) 1 8&&A.e==qg C A.a
def Kp(A:ZD)(C:Y7):Nat->Nat->Int->List ZU->Sum (ZD×Bool) (Int×List ZU)
  |0,_,_,_=>.inr (default,default)
  |K+1,J,U,y=>letI b:=JS (ZD.mk U y) (I C.a J);bif(J:Int)<(C.a.length:Int)then bif !b.2 then .inl (A,false)else Kp A C K (J+1) b.1.b b.1.a else .inr (U,y)
def QO(A:ZD)(C:Y7)(E:Int):ZD×Bool:=bif !(Ky C E)||C.c !=A.b then(A,false)else(match Kp A C (C.a.length+1) 0 A.b A.a with|.inl r1=>r1|.inr (a,h)=>(ZD.mk a h,true))
def qO(A:ZD)(C:Int):ZD×Bool:=letI b:=Z3 A C;bif b<0 then(A,false)else(ZD.mk A.b (A.a.take b.toNat++A.a.drop (W (b+1)).toNat),true)
def Kx(A C:ZD)(E:List Int):Nat->Nat->Int->List ZU->Sum (ZD×ZD×Bool) (Int×List ZU)
  |0,_,_,_=>.inr (default,default)
  |K+1,J,U,y=>letI b:=qO (ZD.mk U y) (I E J);bif(J:Int)<(E.length:Int)then bif !b.2 then .inl (A,C,false)else Kx A C E K (J+1) b.1.b b.1.a else .inr (U,y)
def X3(A C:ZD)(E:List Int)(N:Int):ZD×ZD×Bool:=letI b:=Xo A C.b E N;letI c:=QO C b.1 N;bif !b.2||!c.2 then(A,C,false)else(match Kx A C E (E.length+1) 0 A.b A.a with|.inl r1=>r1|.inr (a,h)=>(ZD.mk a h,c.1,true))
def Wa(A:P)(C E N:Int):P×Bool:=letI b:=A.b;letI c:=Zj b.c b.d;letI d:=X3 (I A.a C.toNat) (I A.a E.toNat) [N] c;bif !(Z5 A C)||!(Z5 A E)||C==E||c<0 then(A,false)else bif d.2.2 then(P.mk b A.c A.d ((A.a.set C.toNat d.1).set E.toNat d.2.1) A.e A.f A.h A.g,d.2.2)else(A,d.2.2)
def zQ(A:ZD)(C:Int):Nat->Nat->List ZU->List ZU
  |0,_,_=>default
  |K+1,J,U=>letI b:=I A.a J;bif(J:Int)<(A.a.length:Int)then bif b.e>=C then zQ A C K (J+1) (U++[b])else zQ A C K (J+1) U else U
def jE(A:ZD)(C:Int):ZD×Int:=letI b:=A.a.length;match zQ A C (b+1) 0 []with|a=>(ZD.mk A.b a,W ((b:Int)-(a.length:Int)))
def xO(A:P)(C:Int):P×Bool:=bif !(Z5 A C)then(A,false)else(P.mk A.b A.c A.d (A.a.set C.toNat (jE (I A.a C.toNat) A.b.d).1) A.e A.f A.h A.g,true)
def kA(A:List Zy)(C:Int):Nat->Nat->Sum Int Unit
  |0,_=>.inr ()
  |K+1,J=>bif(J:Int)<(A.length:Int)then bif(I A J).b==C then .inl (J:Int)else kA A C K (J+1)else .inr ()
def Qd(A:List Zy)(C:Int):Int:=match kA A C (A.length+1) 0 with|.inl r1=>r1|.inr _=>-1
def kZ(A:List Zy)(C:Int):Int:=letI b:=Qd A C;bif b>=0 then(I A b.toNat).d else 0
def zO(A:ZI)(C:Int):Int:=letI b:=YA A.a C;bif b<0 then 0 else kZ A.c (I A.a b.toNat).c
def WT(A:ZI)(C:Int):Bool:=decide (YA A.a C>=0)&&decide (A.d>=zO A C)
def yW(A:P)(C E:Int)(N:ZO):P×Bool:=letI b:=XZ A C E N 0 10000;letI c:=b.1;bif !(WT A.b E)then(A,false)else bif b.2 then(P.mk c.b c.c c.d c.a c.e c.f c.h (c.g++[A.h]),b.2)else(c,b.2)
def JV(A:P):Nat->List Int->Nat->List Int
  |0,_,_=>default
  |K+1,J,U=>letI b:=I A.b.b U;bif(U:Int)<(A.b.b.length:Int)then bif y6 A.f b.b||WT A.b b.a then JV A K (J++[b.b]) (U+1)else JV A K J (U+1)else J
def Yi(A:P):List Int:=match JV A (A.b.b.length+1) [] 0 with|a=>a
def Ko(A:P)(C E:Int):Nat->Nat->List ZX->Sum (P×Bool) (List ZX)
  |0,_,_=>.inr default
  |K+1,J,U=>letI b:=A.b;letI c:=S A C;letI d:=QX b.a b.b (ZX.mk (I (Yi A) J) 0 E (KM (I (I A.a c.1.toNat).a c.2.toNat) (Zj b.c b.d)) 0);bif(J:Int)<((Yi A).length:Int)then bif !d.2 then .inl (A,false)else Ko A C E K (J+1) (U++[d.1])else .inr U
def zG(A:P)(C E:Int):P×Bool:=letI b:=S A C;letI c:=A.b;letI d:=Zj c.c c.d;letI e:=(Yi A).length;letI f:=I A.a b.1.toNat;letI g:=I f.a b.2.toNat;bif !(y6 A.g C)||b.1<0||d<0||(e:Int)==0 then(A,false)else(match Ko A C E (e+1) 0 []with|.inl r1=>r1|.inr a=>letI h:=Qr g.a (ZZ.mk (g.a.b.length:Int) d (KM g d) [] a);(P.mk c A.c A.d (A.a.set b.1.toNat (ZD.mk f.b (f.a.set b.2.toNat (ZU.mk g.b g.e g.c g.d h.1)))) A.e A.f A.h A.g,h.2))
def WZ(A:P)(C E:Int):P×Bool:=letI b:=Yr A C;letI c:=I A.c b.2.1.toNat;letI d:=KE A b.1 C (Zn.mk c.b E (-1) c.e 0);bif !b.2.2||!(WT A.b c.e)then(A,false)else(d.1,d.2)
def QN(A:P)(C:YS):P×Bool:=letI b:=C.b;letI c:=C.A;letI d:=C.B;letI e:=qQ A c d C.c C.C C.D;letI f:=jA A c C.a d;letI g:=Wa A c d C.C;letI h:=yW A c d C.c;letI i:=zG A c d;letI j:=WZ A c d;bif b==1 then((WE A c).1,(WE A c).2)else bif b==2 then(e.1,e.2)else bif b==3 then((xD A c).1,(xD A c).2)else bif b==4 then((xB A c).1,(xB A c).2)else bif b==5 then(f.1,f.2)else bif b==6 then(g.1,g.2)else bif b==7 then((xO A c).1,(xO A c).2)else bif b==8 then(h.1,h.2)else bif b==9 then(i.1,i.2)else bif b==10 then(j.1,j.2)else(A,false)
def yu(A:P)(C:List ByteArray)(E:Int):P×ByteArray:=letI b:=W (E+1);letI c:=(A,(⟨#[119,104,97,116]⟩:ByteArray));letI d:=Zb (C.tail.take (b.toNat-1));letI e:=I d.1 0;letI f:=I d.1 1;letI g:=(Xn (I d.1 (d.1.length-1)) (C.drop b.toNat) 11).1;letI h:=([]:List Int);letI i:=QN A (YS.mk 2 e f 0 (I d.1 2) g h);letI j:=(A,(⟨#[110,111]⟩:ByteArray));letI k:=Zu A.h;letI l:=QN A (YS.mk 8 e f 0 0 g h);bif(C.length:Int)<b then c else bif !d.2 then c else bif I C 0=(⟨#[115,105,103,110]⟩:ByteArray)then bif !i.2 then j else(i.1,k)else bif !l.2 then j else(l.1,k)
def YO(A:P)(C:YS):P×ByteArray:=letI b:=QN A C;bif !b.2 then(A,(⟨#[110,111]⟩:ByteArray))else(b.1,(⟨#[111,107]⟩:ByteArray))
def xT(A:P)(C:List ByteArray):P×ByteArray:=letI b:=(A,(⟨#[119,104,97,116]⟩:ByteArray));letI c:=I C 2;letI d:=XS (c.extract 1 c.size);letI e:=XS (I C 1);letI f:=Zb (C.drop 3);letI g:=ZO.mk 0 [] [];letI h:=YO A (YS.mk 5 e.1 (W (-1*d.1)) 0 0 g f.1);letI i:=YO A (YS.mk 5 e.1 (W (1*(XS c).1)) 0 0 g f.1);bif(C.length:Int)<4 then b else bif((a7 c 0):Int)==45 then bif !d.2||!e.2||!f.2 then b else(h.1,h.2)else bif !(XS c).2||!e.2||!f.2 then b else(i.1,i.2)
def yQ(A:ZU):Q:=Q.mk [A.a] ([]:List (List ZX))
def qN(A:ZR)(C:ZO):Nat->List Int->Nat->List Int
  |0,_,_=>default
  |K+1,J,U=>bif(U:Int)<(A.a.length:Int)then qN A C K (J++[Y0 (I A.a U).c C]) (U+1)else J
def jU(A:ZR)(C:ZO):List Int:=match qN A C (A.a.length+1) [] 0 with|a=>a
def zE(A:Q)(C:ZO):Nat->List (List Int)->Nat->List (List Int)
  |0,_,_=>default
  |K+1,J,U=>bif(U:Int)<(A.a.length:Int)then zE A C K (J++([jU (I A.a U) C]:List (List Int))) (U+1)else J
def yr(A:Q)(C:ZO):List (List Int):=match zE A C (A.a.length+1) ([]:List (List Int)) 0 with|a=>a
def BU(A:YF):Bool:=ZW A.b 1 99&&ZW A.g 0 99&&ZW A.c 0 99&&qI A.a&&Wl A.d
def OR(A:List YF):Nat->Nat->Sum Bool Unit
  |0,_=>.inr ()
  |K+1,J=>letI b:=I A J;bif(J:Int)<(A.length:Int)then bif !(BU b)||(J:Int)>0&&(I A (J-1)).b>=b.b then .inl false else OR A K (J+1)else .inr ()
def HG(A:List YF):Bool:=match OR A (A.length+1) 0 with|.inl r1=>r1|.inr _=>decide ((A.length:Int)<=12)
def qB(A:List ZS):Nat->Nat->Sum Bool Unit
  |0,_=>.inr ()
  |K+1,J=>letI b:=I A J;bif(J:Int)<(A.length:Int)then bif !(ZW b.b 0 99)||!(ZW b.a 1 99)||!(ZW b.c 0 100)||(J:Int)>0&&(I A (J-1)).b>=b.b then .inl false else qB A K (J+1)else .inr ()
def kE(A:List ZS):Bool:=match qB A (A.length+1) 0 with|.inl r1=>r1|.inr _=>decide ((A.length:Int)<=6)
def MT(A:Zy):Bool:=ZW A.b 0 99&&qI A.c&&ZW A.a 1 10001&&ZW A.d 1 10001&&A.c<A.a&&decide (A.c<A.d)
def US(A:List Zy):Nat->Nat->Sum Bool Unit
  |0,_=>.inr ()
  |K+1,J=>letI b:=I A J;bif(J:Int)<(A.length:Int)then bif !(MT b)||(J:Int)>0&&(I A (J-1)).b>=b.b then .inl false else US A K (J+1)else .inr ()
def Rb(A:List Zy):Bool:=match US A (A.length+1) 0 with|.inl r1=>r1|.inr _=>decide ((A.length:Int)<=8)
def PR(A:ZI):Bool:=HG A.a&&kE A.b&&Rb A.c&&ZW A.e 0 6&&qI A.d
def EU(A:Int):XE:=XE.mk 3 A (o.mk 0 0)
def HJ(A:Int):XE:=XE.mk 2 A (o.mk 0 0)
def KH(A:List YF)(C:Int)(E:List Int)(N:Int):Bool:=letI b:=zC A C E;b.2&&b.1==N
def xm(A:List YF)(C:G):Bool:=yK C&&KH A C.a (QH C) C.f
def Ti(A:ZR)(C:ZK):Nat->Nat->Sum Int Unit
  |0,_=>.inr ()
  |K+1,J=>bif(J:Int)<(A.b.length:Int)then bif jl (I A.b J) C then .inl (J:Int)else Ti A C K (J+1)else .inr ()
def Vw(A:ZR)(C:ZK):Int:=match Ti A C (A.b.length+1) 0 with|.inl r1=>r1|.inr _=>-1
def y2(A C:Int):o×Bool:=letI b:=o.mk (if 0>A then 0 else A) (if 10000<C then 10000 else C);bif A>C||!(Yy b)then(o.mk 0 0,false)else(b,true)
def xV(A:List ZS)(C:ZX):o×Bool:=letI b:=Zo A C.a;letI c:=(I A b.toNat).c;letI d:=C.c;letI e:=y2 (W (d-c)) (W (d+c));bif b<0||c<0||!(qI d)then(o.mk 0 0,false)else(e.1,e.2)
def kq(A:List o)(C:Int):Nat->Int->Nat->Int
  |0,_,_=>default
  |K+1,J,U=>letI b:=I A U;bif(U:Int)<(A.length:Int)then bif Yy b&&ZW C b.d b.c then kq A C K (W (J+1)) (U+1)else kq A C K J (U+1)else J
def Pk(A:List o)(C:Int):Int:=match kq A C (A.length+1) 0 0 with|a=>a
def YN(A:List o)(C E:Int):Bool:=letI b:=(A.length:Int);ZW E 0 (W (b-1))&&decide (Pk A C>=W (b-E))
def zH(A:List o)(C:Int):Nat->Bool->Nat->Int->Int->Bool×Int×Int
  |0,_,_,_,_=>(default,default,default)
  |K+1,J,U,y,i=>letI b:=(U:Int);letI c:=U+1;bif b<=10000 then bif YN A b C then bif !J then zH A C K true c b b else zH A C K true c y b else zH A C K J c y i else(J,y,i)
def WM(A:List o)(C:Int):o×Bool:=match zH A C 10002 false 0 0 0 with|(a,h,i)=>(o.mk h i,a)
def J5(A:List ZS)(C:List ZX):Nat->List o->Nat->Sum (o×Bool) (List o)
  |0,_,_=>.inr default
  |K+1,J,U=>letI b:=xV A (I C U);bif(U:Int)<(C.length:Int)then bif !b.2 then .inl (o.mk 0 0,false)else J5 A C K (J++[b.1]) (U+1)else .inr J
def Kc(A:List ZS)(C:List ZX)(E:Int):o×Bool:=(match J5 A C (C.length+1) [] 0 with|.inl r1=>r1|.inr a=>letI b:=WM a E;(b.1,b.2))
def xf(A:List ZS)(C:ZZ)(E:Int):o×Bool:=letI b:=Kc A C.a E;(b.1,b.2)
def Jn(A:ZI)(C:ZZ):o×Bool:=letI b:=xf A.b C A.e;(b.1,b.2)
def I3(A:ZR)(C:List Int)(E:Int):Int:=letI b:=(A.a.length:Int);letI c:=I A.a E.toNat;letI d:=c.c;letI e:=I C E.toNat;letI f:=A.b.take c.d.toNat;bif !(ZW E 0 (W (b-1)))||(C.length:Int)!=b||!(ZW c.d 0 (A.b.length:Int))then-1 else bif E>0 then OO d e f (KY d (I A.a (W (E-1)).toNat))else OO d e f 0
def kd(A:Int)(E:List Xy):Nat->Int->Nat->Int
  |0,_,_=>default
  |K+1,J,U=>letI b:=I E U;bif(U:Int)<(E.length:Int)then bif b.a then kd A E K (WV A b.e J) (U+1)else kd A E K (WV A J b.e) (U+1)else J
def RK(A C:Int)(E:List Xy):Int:=match kd A E (E.length+1) C 0 with|a=>a
def VQ(A:List ZX):Nat->Nat->Sum Bool Unit
  |0,_=>.inr ()
  |K+1,J=>bif(J:Int)<(A.length:Int)then bif(I A (J-1)).a>=(I A J).a then .inl false else VQ A K (J+1)else .inr ()
def Xw(A:List ZX):Bool:=match VQ A (A.length+1) 1 with|.inl r1=>r1|.inr _=>true
def xC(A:List YF)(C:List ZS)(E:ZX):Bool:=letI b:=QX A C E;b.2&&(b.1.a==E.a&&(b.1.b==E.b&&(b.1.c==E.c&&(b.1.e==E.e&&b.1.f==E.f))))
def Ug(A:List YF)(C:List ZS)(E:ZZ):Nat->Nat->Sum Bool Unit
  |0,_=>.inr ()
  |K+1,J=>letI b:=I E.a J;bif(J:Int)<(E.a.length:Int)then bif b.e !=E.e||!(xC A C b)then .inl false else Ug A C E K (J+1)else .inr ()
def jv(A:List YF)(C:List ZS)(E:ZZ)(N:Int):Bool:=letI b:=E.a.length;bif(E.b.length:Int)>4||RK E.c N E.b !=E.e||!(ZW (b:Int) 1 6)||!(Xw E.a)then false else(match Ug A C E (b+1) 0 with|.inl r1=>r1|.inr _=>true)
def Xs(A:List ZS)(C:ZX):Int:=letI b:=Zo A C.a;bif b>=0 then(I A b.toNat).a else 0
def kB(A:List YF)(C:List ZS)(E:List Zy)(N:ZZ):Nat->Int->Nat->Sum Int Int
  |0,_,_=>.inr default
  |K+1,J,U=>letI b:=YA A (Xs C (I N.a U));letI c:=kZ E (I A b.toNat).c;bif(U:Int)<(N.a.length:Int)then bif b<0 then .inl 0 else kB A C E N K (if c<J then c else J) (U+1)else .inr J
def j9(A:List YF)(C:List ZS)(E:List Zy)(N:ZZ):Int:=match kB A C E N (N.a.length+1) (kZ E N.c) 0 with|.inl r1=>r1|.inr a=>a
def Sf(A:ZI)(C:ZR)(E:Int):Bool:=letI b:=W ((C.a.length:Int)-1);letI c:=j9 A.a A.b A.c (I C.a E.toNat);letI d:=Jn A (I C.a (W (E+1)).toNat);bif !(ZW E 0 b)then false else bif E==b then decide (A.d<c)else d.2&&decide (d.1.c<c)
def VB(A:ZI)(C:ZR)(E:List Int):Nat->Nat->Nat
  |0,_=>default
  |K+1,J=>letI b:=I C.a (J-1);letI c:=W ((J:Int)-1);bif(J:Int)>0 then bif !(Jn A b).2||!(jv A.a A.b b (I3 C E c))||!(Sf A C c)then J else VB A C E K (J-1)else J
def ql(A:ZI)(C:ZR)(E:List Int):Int:=letI b:=C.a.length;match VB A C E (b+1) b with|a=>(a:Int)
def SU(A:ZI)(C:ZR)(N:Int):Nat->Int->Int->Int
  |0,_,_=>default
  |K+1,J,U=>letI b:=I C.a U.toNat;letI c:=(Jn A b).1.c;letI d:=W (U+1);bif U<(C.a.length:Int)then bif b.d>N then SU A C N K (if c<J then c else J) d else SU A C N K J d else J
def Hj(A:ZI)(C:ZR)(E:List Int)(N:Int):Int:=match SU A C N (C.a.length+2) A.d (ql A C E)with|a=>a
def Us(A:ZI)(C:ZR)(E:List Int)(N:ZK):Int:=letI b:=Vw C N;bif b<0 then A.d else Hj A C E b
def KF(A:ZI)(C:Q)(E:List (List Int))(N:ZK):Nat->Int->Nat->Int
  |0,_,_=>default
  |K+1,J,U=>letI b:=Us A (I C.a U) (I E U) N;bif(U:Int)<(C.a.length:Int)then bif(U:Int)<(E.length:Int)then KF A C E N K (if b<J then b else J) (U+1)else KF A C E N K J (U+1)else J
def XH(A:ZI)(C:Q)(E:List (List Int))(N:ZK):Int:=match KF A C E N (C.a.length+1) A.d 0 with|a=>a
def Jv(A:ZK):Zn×Bool:=letI b:=A.b;bif YX A !=102||I b 4 !=A.a then(Zn.mk 0 0 0 0 0,false)else(Zn.mk (I b 1) (I b 2) (I b 3) (I b 4) A.f,true)
def qq(A:ZK):ZX×Bool:=letI b:=A.b;bif YX A !=103 then(ZX.mk 0 0 0 0 0,false)else(ZX.mk (I b 1) (I b 2) (I b 3) (I b 4) A.f,true)
def kz(A:ZK):G×Bool:=letI b:=A.b;bif YX A !=104||I b 1 !=A.a then(G.mk 0 0 0 0 0 0 0 0 0,false)else(G.mk (I b 1) (I b 2) (I b 3) (I b 4) (I b 5) (I b 6) (I b 7) (I b 8) A.f,true)
def KT(A:ZK):YV×Bool:=letI b:=A.b;bif YX A !=105||I b 5 !=A.a then(YV.mk 0 0 0 0 0 0,false)else(YV.mk (I b 1) (I b 2) (I b 3) (I b 4) (I b 5) A.f,true)
def qx(A:List YF)(C:ZK):Bool:=letI b:=YX C;letI c:=KH A C.a C.b C.f;bif b==101 then(XU C).2&&c else bif b==102 then(Jv C).2&&c else bif b==103 then(qq C).2&&c else bif b==104 then(kz C).2&&c else bif b==105 then(KT C).2&&c else false&&c
def yy(A C:ZK):Nat->Nat->Sum Bool Unit
  |0,_=>.inr ()
  |K+1,J=>letI b:=I A.b J;letI c:=I C.b J;bif(J:Int)<(A.b.length:Int)&&(J:Int)<(C.b.length:Int)then bif b !=c then .inl (decide (b<c))else yy A C K (J+1)else .inr ()
def XW(A C:ZK):Bool:=letI b:=A.b.length;letI c:=(C.b.length:Int);match yy A C (b+1) 0 with|.inl r1=>r1|.inr _=>bif(b:Int)!=c then decide ((b:Int)<c)else bif A.a !=C.a then decide (A.a<C.a)else decide (A.f<C.f)
def kO(C:Q)(U:Nat)(T:List ZK)(q:Nat):Nat->Nat->Nat
  |0,_=>default
  |X+1,j=>bif(j:Int)<(T.length:Int)&&XW (I T j) (I (I C.a U).b q)then kO C U T q X (j+1)else j
def Jz(A:ZI)(C:Q)(E:List (List Int))(U:Nat):Nat->List ZK->Nat->List ZK
  |0,_,_=>default
  |n2+1,T,q=>letI b:=(I C.a U).b;letI c:=I b q;letI d:=q+1;bif(q:Int)<(b.length:Int)then bif Ji T c||!(qx A.a c)||XH A C E c>=zO A c.a then Jz A C E U n2 T d else(match kO C U T q (T.length+1) 0 with|e=>Jz A C E U n2 (T.take e++[c]++(T.drop e).take (T.length-e)) d)else T
def zm(A:ZI)(C:Q)(E:List (List Int)):Nat->List ZK->Nat->List ZK
  |0,_,_=>default
  |K+1,J,U=>bif(U:Int)<(C.a.length:Int)then(match Jz A C E U ((I C.a U).b.length+1) J 0 with|k=>zm A C E K k (U+1))else J
def YL(A:ZI)(C:Q)(E:List (List Int)):List ZK:=match zm A C E (C.a.length+1) [] 0 with|a=>a
def Nr(A:List YF)(C:Int):Int:=letI b:=YA A C;bif b>=0 then(I A b.toNat).g else-1
def SZ(A:List YF)(C:YE):Bool:=I7 C&&KH A C.e (zi C) C.f&&C.g==Nr A C.a
def S5(A:ZI)(C:List ZK)(E:G):Nat->Int->Nat->Int->Int->Int->Int->Int->Int->Int->Int×Int×Int×Int×Int×Int×Int×Int
  |0,_,_,_,_,_,_,_,_,_=>(default,default,default,default,default,default,default,default)
  |K+1,J,U,y,i,a,o,s,j,h=>letI b:=XU (I C U);letI c:=b.1;bif(U:Int)<(C.length:Int)then bif b.2&&SZ A.a c&&c.b==E.b&&c.a==E.a then S5 A C E K (W (J+1)) (U+1) c.b c.a c.g c.d c.c c.e c.f else S5 A C E K J (U+1) y i a o s j h else(J,y,i,a,o,s,j,h)
def Kt(A:ZI)(C:List ZK)(E:G):YE×Bool:=match S5 A C E (C.length+1) 0 0 0 0 0 0 0 0 0 with|(a,h,i,j,p,o,n,m)=>bif a !=1 then(YE.mk 0 0 0 0 0 0 0,false)else(YE.mk h i j p o n m,true)
def j6(C:List ZX):Nat->List Int->Nat->List Int
  |0,_,_=>default
  |K+1,J,U=>bif(U:Int)<(C.length:Int)then j6 C K (J++[(I C U).f]) (U+1)else J
def xz(A:Int)(C:List ZX):Int:=bif(C.length:Int)==0 then 0 else(match j6 C (C.length+1) [] 0 with|a=>pB 1 (Kg A a))
def xH(A:Int)(C:ZX):ZK:=ZK.mk A (zW C) C.f
def KR(A:ZI)(C:Q)(E:List ZK)(U:Nat):Nat->Bool->Nat->Bool
  |0,_,_=>default
  |n2+1,T,q=>letI b:=I C.b U;letI c:=I b q;bif(q:Int)<(b.length:Int)then KR A C E U n2 (T&&Ji E (xH (Xs A.b c) c)) (q+1)else T
def KN(A:ZI)(C:Q)(E:List ZK)(N:G):Nat->Int->Nat->Int
  |0,_,_=>default
  |K+1,J,U=>letI b:=I C.b U;letI c:=U+1;letI d:=Kc A.b b A.e;bif(U:Int)<(C.b.length:Int)then bif N.d==0||!(Xw b)||xz N.c b !=N.d then KN A C E N K J c else(match KR A C E U (b.length+1) true 0 with|k=>bif k&&d.2 then KN A C E N K (if d.1.d>J then d.1.d else J) c else KN A C E N K J c)else J
def Tf(A:ZI)(C:Q)(E:List ZK)(s:Nat):Nat->Bool->Nat->Bool
  |0,_,_=>default
  |Y+1,a,d=>letI b:=I C.b s;letI c:=I b d;bif(d:Int)<(b.length:Int)then Tf A C E s Y (a&&Ji E (xH (Xs A.b c) c)) (d+1)else a
def jZ(A:ZI)(C:Q)(E:List ZK)(N:G):Nat->Int->Nat->Int
  |0,_,_=>default
  |X+1,j,s=>letI b:=I C.b s;letI c:=s+1;letI d:=Kc A.b b A.e;bif(s:Int)<(C.b.length:Int)then bif N.d==0||!(Xw b)||xz N.c b !=N.d then jZ A C E N X j c else(match Tf A C E s (b.length+1) true 0 with|a=>bif a&&d.2 then jZ A C E N X (if d.1.d>j then d.1.d else j) c else jZ A C E N X j c)else j
def Jo(A:ZI)(C:Q)(E:List ZK)(N:G):Int:=letI b:=YA A.a N.a;letI c:=C.b.length+1;bif b>=0 then(match KN A C E N c (I A.a b.toNat).a 0 with|a=>a)else(match jZ A C E N c 0 0 with|e=>e)
def y1(A:List ZK)(C:YE):Nat->List Zn->Nat->List Zn
  |0,_,_=>default
  |K+1,J,U=>letI b:=Jv (I A U);bif(U:Int)<(A.length:Int)then bif b.2&&b.1.b==C.b&&b.1.e==C.e then y1 A C K (J++[b.1]) (U+1)else y1 A C K J (U+1)else J
def z4(A:List ZK)(C:YE):List Zn:=match y1 A C (A.length+1) [] 0 with|a=>a
def Z4(A C:Int)(E:List o):List o:=letI b:=y2 A C;bif b.2 then E++[b.1]else E
def UN(A:List Zn)(C:Int):Nat->Int->Int->Int->Nat->Int×Int×Int
  |0,_,_,_,_=>(default,default,default)
  |K+1,J,U,y,i=>letI b:=I A i;letI c:=i+1;letI d:=b.d;letI e:=if d>U then d else U;bif(i:Int)<(A.length:Int)then bif b.b !=C then UN A C K J U y c else bif d<0 then UN A C K J U (if b.a>y then b.a else y) c else bif J<0||d<J then UN A C K d e y c else UN A C K J e y c else(J,U,y)
def Rt(A:List Zn)(C:Int):Int×Int×Int:=match UN A C (A.length+1) (-1) (-1) (-1) 0 with|(a,h,i)=>(a,h,i)
def JT(A:List Zn)(C:Int):Int:=letI b:=(Rt A C).2;letI c:=W (b.2+1);bif b.1<0 then 10001 else if c>b.1 then c else b.1
def P5(k:List o)(l:Int):Nat->Nat->Nat
  |0,_=>default
  |X+1,j=>bif(j:Int)<(k.length:Int)&&(I k j).d<l then P5 k l X (j+1)else j
def kj(J:List o):Nat->List o->Nat->Int->Int->List o×Int×Int
  |0,_,_,_,_=>(default,default,default)
  |n2+1,T,q,p,t=>letI b:=I J q;letI c:=q+1;bif(q:Int)<(J.length:Int)then bif W (b.c+1)<p||W (t+1)<b.d then kj J n2 (T++[b]) c p t else kj J n2 T c (if b.d<p then b.d else p) (if b.c>t then b.c else t)else(T,p,t)
def ke(A:List o):Nat->List o->Nat->List o
  |0,_,_=>default
  |K+1,J,U=>letI b:=I A U;bif(U:Int)<(A.length:Int)then bif !(Yy b)then ke A K J (U+1)else(match kj J (J.length+1) [] 0 b.d b.c with|(k,l,q)=>(match P5 k l (k.length+1) 0 with|e=>ke A K (k.take e++[o.mk l q]++(k.drop e).take (k.length-e)) (U+1)))else J
def Qj(A:List o):List o:=match ke A (A.length+1) [] 0 with|a=>a
def SL(A:YE)(C:List Zn):List o:=letI b:=decide (A.c<10000);letI c:=JT C A.b;letI d:=W (A.c+1);letI e:=([]:List o);letI f:=Z4 0 (W (A.d-1)) e;bif A.d>0 then bif b then Qj (Z4 c 10000 (Z4 d 10000 f))else Qj (Z4 c 10000 f)else bif b then Qj (Z4 c 10000 (Z4 d 10000 e))else Qj (Z4 c 10000 e)
def PV(A C:o):Bool:=Yy A&&Yy C&&C.d<=A.d&&decide (A.c<=C.c)
def Vj(A:List o)(C:o):Nat->Nat->Sum Bool Unit
  |0,_=>.inr ()
  |K+1,J=>bif(J:Int)<((Qj A).length:Int)then bif PV C (I (Qj A) J)then .inl true else Vj A C K (J+1)else .inr ()
def xN(A:List o)(C:o):Bool:=match Vj A C ((Qj A).length+1) 0 with|.inl r1=>r1|.inr _=>false
def MK(A:YE)(C:List Zn)(E:o):Bool:=xN (SL A C) E
def V2(A:List Zn)(C:Int):Int:=letI b:=Rt A C;bif b.1>=0 then W (b.1-1)else b.2.2
def zY(A C:o):o×Bool:=letI b:=o.mk (if C.d>A.d then C.d else A.d) (if C.c<A.c then C.c else A.c);bif !(Yy A)||!(Yy C)||!(Yy b)then(o.mk 0 0,false)else(b,true)
def jK(A C:List o)(U:Nat):Nat->List o->Nat->List o
  |0,_,_=>default
  |n2+1,T,q=>letI b:=zY (I A U) (I C q);letI c:=q+1;bif(q:Int)<(C.length:Int)then bif b.2 then jK A C U n2 (T++[b.1]) c else jK A C U n2 T c else T
def Su(A C:List o):Nat->List o->Nat->List o
  |0,_,_=>default
  |K+1,J,U=>bif(U:Int)<(A.length:Int)then(match jK A C U (C.length+1) J 0 with|k=>Su A C K k (U+1))else J
def Pf(A C:List o):List o:=match Su A C (A.length+1) [] 0 with|a=>Qj a
def V1(A:YE)(C:List Zn):List o:=Pf [VZ A] [o.mk 0 (V2 C A.b)]
def RB(A:YE)(C:List Zn)(E:o):Bool:=xN (V1 A C) E
def qD(A:List ZK):Nat->List YV->Nat->List YV
  |0,_,_=>default
  |K+1,J,U=>letI b:=KT (I A U);bif(U:Int)<(A.length:Int)then bif b.2 then qD A K (J++[b.1]) (U+1)else qD A K J (U+1)else J
def Wm(A:List ZK):List YV:=match qD A (A.length+1) [] 0 with|a=>a
def OA(A:YV):Bool:=ZW A.g 1 99&&ZW A.b 0 99&&ZW A.a 1 99&&Yy (o.mk A.d A.c)
def z5(A:YV):List Int:=([105,A.g,A.b,A.d,A.c,A.a]:List Int)
def Vg(A:List YF)(C:YV):Bool:=OA C&&Nr A C.a==C.g&&KH A C.a (z5 C) C.f
def xl(A:List YF)(C:List YV)(E N:Int):Nat->List o->Nat->List o
  |0,_,_=>default
  |K+1,J,U=>letI b:=I C U;bif(U:Int)<(C.length:Int)then bif b.g==E&&b.b==N&&Vg A b then xl A C E N K (J++[o.mk b.d b.c]) (U+1)else xl A C E N K J (U+1)else J
def qA(A:List YF)(C:List YV)(E N:Int):List o:=match xl A C E N (C.length+1) [] 0 with|a=>Qj a
def Rz(A:List YF)(C:List YV)(E N:Int)(T:o):Bool:=E==0&&Yy T||xN (qA A C E N) T
def kX(A:ZI)(C:Q)(E:List (List Int))(N:Int)(T:G):XE:=letI b:=XH A C E (XQ T);letI c:=YL A C E;letI d:=Kt A c T;letI e:=Jo A C c T;letI f:=z4 c d.1;letI g:=o.mk e b;bif !(PR A)then EU 1 else bif !(yK T)then HJ 1 else bif N<0 then EU 2 else bif N !=T.e then HJ 2 else bif YA A.a T.a<0 then EU 3 else bif !(xm A.a T)then HJ 4 else bif b>=zO A T.a||b>=kZ A.c T.c then EU 5 else bif !d.2 then EU 6 else bif e>b then EU 7 else bif MK d.1 f g then XE.mk 2 8 g else bif !(RB d.1 f g)then XE.mk 3 7 g else bif !(Rz A.a (Wm c) T.g d.1.g g)then XE.mk 3 9 g else XE.mk 1 0 g
def B8(A:ZI)(C:Q)(E:ZO)(N:G):XE:=kX A C (yr C E) (Y0 N.c E) N
def ky(A:ZI)(C:ZU):XE:=B8 A (yQ C) C.c C.d
def KP(A:P)(C:Int):XE:=letI b:=S A C;bif b.1<0 then XE.mk 0 0 (o.mk 0 0)else ky A.b (I (I A.a b.1.toNat).a b.2.toNat)
def xZ(A:Int):ByteArray:=letI b:=(⟨#[]⟩:ByteArray);bif !(ZW A 1 3)then b else I ([b,(⟨#[118,97,108,105,100]⟩:ByteArray),(⟨#[105,110,118,97,108,105,100]⟩:ByteArray),(⟨#[111,112,101,110]⟩:ByteArray)]:List ByteArray) A.toNat
def jC(A:Int):ByteArray:=bif !(ZW A 0 9)then(⟨#[]⟩:ByteArray)else I ([(⟨#[110,111,110,101]⟩:ByteArray),(⟨#[102,111,114,109]⟩:ByteArray),(⟨#[100,111,99,117,109,101,110,116]⟩:ByteArray),(⟨#[107,101,121]⟩:ByteArray),(⟨#[109,97,114,107]⟩:ByteArray),(⟨#[98,114,111,107,101,110]⟩:ByteArray),(⟨#[99,101,114,116,105,102,105,99,97,116,101]⟩:ByteArray),(⟨#[116,105,109,101]⟩:ByteArray),(⟨#[101,110,100,101,100]⟩:ByteArray),(⟨#[109,97,110,100,97,116,101]⟩:ByteArray)]:List ByteArray) A.toNat
def Jr(A:XE):ByteArray:=letI b:=xZ A.b;letI c:=(⟨#[]⟩:ByteArray);letI d:=jC A.c;letI e:=(⟨#[32]⟩:ByteArray);letI f:=b++e++d;bif b=c||d=c then c else bif A.a.d==0&&A.a.c==0 then f else f++e++Zu A.a.d++(⟨#[45]⟩:ByteArray)++Zu A.a.c
def zx(A:ZI)(C:ZU):ByteArray:=letI b:=(⟨#[32]⟩:ByteArray);(⟨#[35]⟩:ByteArray)++Zu C.b++(⟨#[32,107]⟩:ByteArray)++Zu C.d.a++b++Zu (C.a.b.length:Int)++(⟨#[47]⟩:ByteArray)++Zu (C.a.a.length:Int)++b++Jr (ky A C)
def KC(A:List ByteArray)(C:ByteArray):Nat->ByteArray->Nat->ByteArray
  |0,_,_=>default
  |K+1,J,U=>letI b:=I A U;bif(U:Int)<(A.length:Int)then bif(U:Int)>0 then KC A C K (J++C++b) (U+1)else KC A C K (J++b) (U+1)else J
def W3(A:List ByteArray)(C:ByteArray):ByteArray:=match KC A C (A.length+1) (⟨#[]⟩:ByteArray) 0 with|a=>a
def HA(A:List ByteArray)(C:ByteArray):ByteArray:=bif(A.length:Int)==0 then(⟨#[45]⟩:ByteArray)else W3 A C
def VV(A:ZI)(C:ZD):Nat->List ByteArray->Nat->List ByteArray
  |0,_,_=>default
  |K+1,J,U=>bif(U:Int)<(C.a.length:Int)then VV A C K (J++[zx A (I C.a U)]) (U+1)else J
def qi(A:ZI)(C:ZD):ByteArray:=match VV A C (C.a.length+1) [] 0 with|a=>HA a (⟨#[59,32]⟩:ByteArray)
def Q7(A:List Int)(C:Int):Nat->Nat->Nat
  |0,_=>default
  |K+1,J=>bif(J:Int)<(A.length:Int)&&I A J<C then Q7 A C K (J+1)else J
def yR(A:List Int)(C:Int):List Int:=match Q7 A C (A.length+1) 0 with|a=>bif(a:Int)<(A.length:Int)&&I A a==C then A else A.take a++[C]++A.drop a
def jf(A:ZU):Nat->List Int->Nat->List Int
  |0,_,_=>default
  |K+1,J,U=>bif(U:Int)<(A.a.a.length:Int)then jf A K (yR J (I A.a.a U).c) (U+1)else J
def Vi(A:ZU):List Int:=match jf A (A.a.a.length+1) [A.d.c] 0 with|a=>a
def zk(A:List Int)(C:ZO)(J:Nat):Nat->List Int->Nat->List Int
  |0,_,_=>default
  |n2+1,T,q=>bif(q:Int)<(A.length:Int)then zk A C J n2 (T++[WJ (I A q) (I C.b J) (I C.d J)]) (q+1)else T
def QT(A:List Int)(C:ZO)(E:List Int):Nat->Nat->List Bool->List ByteArray->List Int->List (List Int)->List Bool×List ByteArray×List Int×List (List Int)
  |0,_,_,_,_,_=>(default,default,default,default)
  |K+1,J,U,y,i,a=>letI b:=y6 E (J:Int);letI c:=([]:List Int);letI d:=U++[!b];letI e:=List Int;bif(J:Int)<(C.b.length:Int)then bif b then(match zk A C J (A.length+1) c 0 with|k=>QT A C E K (J+1) d (y++([(⟨#[]⟩:ByteArray)]:List ByteArray)) (i++[0]) (a++[k]))else QT A C E K (J+1) d (y++[I C.b J]) (i++[I C.d J]) (a++[c])else(U,y,i,a)
def Kq(A:List Int)(C:ZO)(E:List Int):t×Bool:=letI b:=([]:List Int);letI c:=([]:List Bool);letI d:=([]:List ByteArray);letI e:=([]:List (List Int));bif !(QC C)then(t.mk 0 b c d b e,false)else(match QT A C E (C.b.length+1) 0 c d b e with|(a,h,i,j)=>(t.mk C.e A a h i j,true))
def J3(A:ZU)(C:List Int):t×Bool:=letI b:=Kq (Vi A) A.c C;(b.1,b.2)
def QS(A:t):Nat->ByteArray->Nat->ByteArray
  |0,_,_=>default
  |K+1,J,U=>letI b:=U+1;bif(U:Int)<(A.a.length:Int)then bif !(I A.a U)then QS A K (J++(⟨#[32,42]⟩:ByteArray)) b else bif(U:Int)<(A.b.length:Int)then QS A K (J++((⟨#[32,91]⟩:ByteArray)++I A.b U++(⟨#[93]⟩:ByteArray))) b else QS A K (J++(⟨#[32,91,93]⟩:ByteArray)) b else J
def xr(A:t):ByteArray:=match QS A (A.a.length+1) (Zu A.e) 0 with|a=>a
def Jb(A:t):Nat->Nat->List ByteArray->List Int->Sum Bool (List ByteArray×List Int)
  |0,_,_,_=>.inr (default,default)
  |K+1,J,U,y=>letI b:=((I A.f J).length:Int);letI c:=I A.b J;letI d:=I A.d J;bif(J:Int)<(A.a.length:Int)then bif I A.a J then bif b>0 then .inl false else Jb A K (J+1) (U++[c]) (y++[d])else bif !decide (c=(⟨#[]⟩:ByteArray))||d !=0||b !=(A.c.length:Int)then .inl false else Jb A K (J+1) U y else .inr (U,y)
def z3(A:t):Bool:=letI b:=A.a.length;letI c:=(b:Int);bif !(ZW c 1 6)||(A.b.length:Int)!=c||(A.d.length:Int)!=c||(A.f.length:Int)!=c then false else(match Jb A (b+1) 0 [] []with|.inl r1=>r1|.inr (a,h)=>QC (ZO.mk A.e a h)||(a.length:Int)==0&&ZW A.e 0 999)
def Ja(A:t):Nat->Int->Nat->Int
  |0,_,_=>default
  |K+1,J,U=>bif(U:Int)<(A.a.length:Int)then bif I A.a U then Ja A K (W (J+1)) (U+1)else Ja A K J (U+1)else J
def jG(A:t):Int:=match Ja A (A.a.length+1) 0 0 with|a=>a
def JZ(A:Int)(C:t):Nat->List Int->Nat->List Int
  |0,_,_=>default
  |K+1,J,U=>bif(U:Int)<(C.a.length:Int)then bif I C.a U then JZ A C K (J++[WJ A (I C.b U) (I C.d U)]) (U+1)else JZ A C K (J++[I (I C.f U) (Kl C.c A).toNat]) (U+1)else J
def zt(A:Int)(C:t):Int:=letI b:=C.a.length;bif !(z3 C)||Kl C.c A<0&&jG C<(b:Int)then-1 else(match JZ A C (b+1) [C.e] 0 with|a=>Kg A a)
def KD(A:ZR)(C:t):Nat->List Int->Nat->List Int
  |0,_,_=>default
  |K+1,J,U=>bif(U:Int)<(A.a.length:Int)then KD A C K (J++[zt (I A.a U).c C]) (U+1)else J
def KL(A:ZR)(C:t):List Int:=match KD A C (A.a.length+1) [] 0 with|a=>a
def Qs(A:Q)(C:t):Nat->List (List Int)->Nat->List (List Int)
  |0,_,_=>default
  |K+1,J,U=>bif(U:Int)<(A.a.length:Int)then Qs A C K (J++([KL (I A.a U) C]:List (List Int))) (U+1)else J
def JW(A:Q)(C:t):List (List Int):=match Qs A C (A.a.length+1) ([]:List (List Int)) 0 with|a=>a
def Wv(A:ZI)(C:Q)(E:t)(N:G):XE:=kX A C (JW C E) (zt N.c E) N
def VJ(A:ZI)(C:ZU)(E:t):XE:=Wv A (yQ C) E C.d
def H4(A:P)(C E:Int):ByteArray:=letI b:=S A C;letI c:=(⟨#[110,111]⟩:ByteArray);letI d:=I (I A.a b.1.toNat).a b.2.toNat;letI e:=J3 d [E];bif b.1<0 then c else bif !e.2 then c else xr e.1++(⟨#[32]⟩:ByteArray)++Jr (VJ A.b d e.1)
def Jw(A:ZU):ZZ×Bool:=letI b:=A.a.a.length;bif(b:Int)==0 then(ZZ.mk 0 0 0 [] [],false)else(I A.a.a (b-1),true)
def NP(A:ZI)(C:Int):Int:=letI b:=Qd A.c C;bif b>=0 then(I A.c b.toNat).a else 0
def MO(A:ZI)(C:ZZ):Nat->Int->Nat->Sum Int Int
  |0,_,_=>.inr default
  |K+1,J,U=>letI b:=YA A.a (Xs A.b (I C.a U));letI c:=NP A (I A.a b.toNat).c;bif(U:Int)<(C.a.length:Int)then bif b<0 then .inl 0 else MO A C K (if c<J then c else J) (U+1)else .inr J
def Hf(A:ZI)(C:ZZ):Int:=match MO A C (C.a.length+1) (NP A C.c) 0 with|.inl r1=>r1|.inr a=>a
def UJ(A:ZI)(C:ZU)(E:Int):Bool:=!(Jw C).2||decide (W (Hf A (Jw C).1-A.d)<=E)
def Wq(A:ZI)(C:ZD)(E:Int):Nat->List Int->Nat->List Int
  |0,_,_=>default
  |K+1,J,U=>letI b:=I C.a U;bif(U:Int)<(C.a.length:Int)then bif UJ A b E then Wq A C E K (J++[b.b]) (U+1)else Wq A C E K J (U+1)else J
def UM(A:ZI)(C:ZD)(E:Int):List Int:=match Wq A C E (C.a.length+1) [] 0 with|a=>a
def R5(A:List Int):Nat->List ByteArray->Nat->List ByteArray
  |0,_,_=>default
  |K+1,J,U=>bif(U:Int)<(A.length:Int)then R5 A K (J++[Zu (I A U)]) (U+1)else J
def jd(A:List Int):ByteArray:=match R5 A (A.length+1) [] 0 with|a=>HA a (⟨#[32]⟩:ByteArray)
def Hc(A:List Zy)(C E:Int):Bool:=letI b:=Qd A C;letI c:=I A b.toNat;decide (b>=0)&&c.c<=E&&decide (E<c.d)
def JI(A:ZI):Nat->List Int->Nat->List Int
  |0,_,_=>default
  |K+1,J,U=>letI b:=I A.b U;letI c:=YA A.a b.a;letI d:=U+1;letI e:=I A.a c.toNat;bif(U:Int)<(A.b.length:Int)then bif c<0 then JI A K J d else bif e.a<=A.d&&Hc A.c e.c A.d&&NP A e.c>A.d then JI A K (J++[b.b]) d else JI A K J d else J
def KI(A:ZI):List Int:=match JI A (A.b.length+1) [] 0 with|a=>a
def Le(A:P):Nat->List ZU->Nat->List ZU
  |0,_,_=>default
  |K+1,J,U=>bif(U:Int)<(A.a.length:Int)then Le A K (J++(I A.a U).a) (U+1)else J
def Yv(A:P):List ZU:=match Le A (A.a.length+1) [] 0 with|a=>a
def KZ(A:List ZX)(J:Nat)(U:List ZX):Nat->Bool->Nat->Bool
  |0,_,_=>default
  |n2+1,T,q=>letI b:=I U q;letI c:=I A J;bif(q:Int)<(U.length:Int)then KZ A J U n2 (T||b.a==c.a&&(b.b==c.b&&(b.c==c.c&&(b.e==c.e&&b.f==c.f)))) (q+1)else T
def QI(A:List ZX):Nat->Nat->List ZX->List ZX
  |0,_,_=>default
  |K+1,J,U=>bif(J:Int)<(A.length:Int)then(match KZ A J U (U.length+1) false 0 with|k=>bif !k then QI A K (J+1) (U++[I A J])else QI A K (J+1) U)else U
def xY(A C:List ZX):List ZX:=match QI A (A.length+1) 0 C with|a=>a
def qj(A:Q)(J:Nat):Nat->Nat->List ZX->List ZX
  |0,_,_=>default
  |n2+1,T,q=>letI b:=(I A.a J).a;bif(T:Int)<(b.length:Int)then qj A J n2 (T+1) (xY (I b T).a q)else q
def Wb(A:Q):Nat->Nat->List ZX->List ZX
  |0,_,_=>default
  |X+1,j,s=>bif(j:Int)<(A.b.length:Int)then Wb A X (j+1) (xY (I A.b j) s)else s
def jT(A:Q):Nat->Nat->List ZX->List ZX
  |0,_,_=>default
  |K+1,J,U=>bif(J:Int)<(A.a.length:Int)then(match qj A J ((I A.a J).a.length+1) 0 U with|k=>jT A K (J+1) k)else U
def UO(A:Q):List ZX:=match jT A (A.a.length+1) 0 []with|a=>(match Wb A (A.b.length+1) 0 a with|e=>e)
def Th(A:P):Nat->Nat->List ZR->List ZR
  |0,_,_=>default
  |K+1,J,U=>bif(J:Int)<((Yv A).length:Int)then Th A K (J+1) (U++[(I (Yv A) J).a])else U
def WA(A:P):List ZX:=match Th A ((Yv A).length+1) 0 []with|a=>UO (Q.mk a ([]:List (List ZX)))
def zy(A:List YF)(C:List ZS)(E N:ZX):Bool:=letI b:=E.a;letI c:=N.a;letI d:=E.b;letI e:=N.b;letI f:=N.c;letI g:=E.c;bif b !=c||!(xC A C E)||!(xC A C N)then false else bif d>e then e==d&&!(c==b&&(e==d&&(f==g&&(N.e==E.e&&N.f==E.f))))||e<d&&decide (f>g)else d==e&&!(b==c&&(d==e&&(g==f&&(E.e==N.e&&E.f==N.f))))||d<e&&decide (g>f)
def UR(A:List YF)(C:List ZS)(E:List ZX)(J:Nat):Nat->Nat->List Bool->List Bool
  |0,_,_=>default
  |n2+1,T,q=>letI b:=E.take J;letI c:=I E J;letI d:=T+1;bif(T:Int)<(b.length:Int)then bif ZW c.a 0 99&&zy A C c (I b T)then UR A C E J n2 d (q.set c.a.toNat true)else UR A C E J n2 d q else q
def Vq(a:List Bool):Nat->List Int->Nat->List Int
  |0,_,_=>default
  |X+1,j,s=>letI b:=(s:Int);letI c:=s+1;bif b<100 then bif I a s then Vq a X (j++[b]) c else Vq a X j c else j
def WC(A:List YF)(C:List ZS)(E:List ZX):Nat->Nat->List Bool->List Bool
  |0,_,_=>default
  |K+1,J,U=>bif(J:Int)<(E.length:Int)then(match UR A C E J ((E.take J).length+1) 0 U with|k=>WC A C E K (J+1) k)else U
def Sv(A:List YF)(C:List ZS)(E:List ZX):List Int:=match WC A C E (E.length+1) 0 (zB 100)with|a=>(match Vq a 101 [] 0 with|e=>e)
def VI(A:ZZ):Int:=W (W (3+W (2*(A.b.length:Int)))+W (6*(A.a.length:Int)))
def RD(A:ZR):Nat->Int->Nat->Int
  |0,_,_=>default
  |n2+1,T,q=>bif(q:Int)<(A.b.length:Int)then RD A n2 (W (T+W (2+((I A.b q).b.length:Int)))) (q+1)else T
def RP(A:ZR):Nat->Int->Nat->Int
  |0,_,_=>default
  |K+1,J,U=>bif(U:Int)<(A.a.length:Int)then RP A K (W (J+VI (I A.a U))) (U+1)else J
def Rh(A:ZR):Int:=match RP A (A.a.length+1) 0 0 with|a=>(match RD A (A.b.length+1) a 0 with|k=>k)
def W1(A:ZD):Nat->Int->Nat->Int
  |0,_,_=>default
  |K+1,J,U=>bif(U:Int)<(A.a.length:Int)then W1 A K (W (J+Rh (I A.a U).a)) (U+1)else J
def ji(A:ZD):Int:=match W1 A (A.a.length+1) 0 0 with|a=>a
def ym(A:P)(C:Int):Nat->Int->Nat->Int
  |0,_,_=>default
  |K+1,J,U=>bif(U:Int)<((Yv A).length:Int)then bif(KP A (I (Yv A) U).b).b==C then ym A C K (W (J+1)) (U+1)else ym A C K J (U+1)else J
def Kb(A:P)(C:Int):Int:=match ym A C ((Yv A).length+1) 0 0 with|a=>a
def Ws(A:P):Nat->List ByteArray->Nat->List ByteArray
  |0,_,_=>default
  |n2+1,T,q=>letI b:=(q:Int);bif b<=3 then Ws A n2 (T++[Zu (Kb A b)]) (q+1)else T
def Tk(A:P):Nat->List ByteArray->Nat->List ByteArray
  |0,_,_=>default
  |K+1,J,U=>bif(U:Int)<(A.a.length:Int)then Tk A K (J++[Zu ((I A.a U).a.length:Int)]) (U+1)else J
def VM(A:P):ByteArray:=letI b:=([]:List ByteArray);letI c:=(⟨#[32]⟩:ByteArray);match Tk A (A.a.length+1) b 0 with|a=>(match Ws A 5 b 1 with|k=>Zu A.b.d++c++W3 a (⟨#[43]⟩:ByteArray)++c++W3 k (⟨#[47]⟩:ByteArray)++c++Zu (A.g.length:Int))
def kr(A:P)(q:Nat):Nat->List Int->Nat->Sum Bool (List Int)
  |0,_,_=>.inr default
  |X+1,j,s=>letI b:=(I A.a q).a;letI c:=(I b s).b;bif(s:Int)<(b.length:Int)then bif y6 j c||c>=A.h then .inl false else kr A q X (j++[c]) (s+1)else .inr j
def LS(A:P):Nat->Nat->Sum Bool Unit
  |0,_=>.inr ()
  |n5+1,n=>bif(n:Int)<(A.f.length:Int)then bif Zo A.b.b (I A.f n)<0 then .inl false else LS A n5 (n+1)else .inr ()
def LY(A:P):Nat->Nat->Sum Bool Unit
  |0,_=>.inr ()
  |Y+1,a=>bif(a:Int)<(A.e.length:Int)then bif I A.e a<0 then .inl false else LY A Y (a+1)else .inr ()
def V9(A:P):Nat->List Int->Nat->Sum Bool Unit
  |0,_,_=>.inr ()
  |n2+1,T,q=>letI b:=(q:Int);letI c:=I A.a q;bif b<(A.a.length:Int)then bif !(Kj c)||c.b !=b then .inl false else(match kr A q (c.a.length+1) T 0 with|.inl a=>.inl a|.inr e=>V9 A n2 e (q+1))else .inr ()
def Lt(A:P):Nat->Nat->Sum Bool Unit
  |0,_=>.inr ()
  |K+1,J=>letI b:=I A.c J;bif(J:Int)<(A.c.length:Int)then bif !(SZ A.b.a b)||Jc A.c b.b !=(J:Int)||!(ZW (I A.d J) (-1) 10001)then .inl false else Lt A K (J+1)else .inr ()
def HM(A:P):Bool:=letI b:=A.b;letI c:=A.c.length;letI d:=A.a.length;letI e:=A.e.length;letI f:=A.f.length;bif !(PR b)||(A.d.length:Int)!=(c:Int)||!(ZW (d:Int) 1 4)||(e:Int)!=(b.b.length:Int)||(f:Int)>b.e||A.h<1||!(xj A.f)||!(xj A.g)then false else(match Lt A (c+1) 0 with|.inl r1=>r1|.inr _=>(match V9 A (d+1) [] 0 with|.inl r2=>r2|.inr _=>(match LY A (e+1) 0 with|.inl j=>j|.inr _=>(match LS A (f+1) 0 with|.inl i=>i|.inr _=>true))))
def UB(A:P):Nat->List Int->Nat->List Int
  |0,_,_=>default
  |K+1,J,U=>letI b:=(I (Yv A) U).b;bif(U:Int)<((Yv A).length:Int)then bif(KP A b).b==1 then UB A K (J++[b]) (U+1)else UB A K J (U+1)else J
def QP(A:P):List Int:=match UB A ((Yv A).length+1) [] 0 with|a=>a
def qc(A:P):Nat->List Int->Nat->List Int
  |0,_,_=>default
  |K+1,J,U=>letI b:=I (QP A) U;bif(U:Int)<((QP A).length:Int)then bif y6 A.g b then qc A K (J++[b]) (U+1)else qc A K J (U+1)else J
def TJ(A:P):List Int:=match qc A ((QP A).length+1) [] 0 with|a=>a
def xu(A:P):ByteArray:=bif !(HM A)then(⟨#[119,111,114,108,100]⟩:ByteArray)else bif((TJ A).length:Int)>0 then(⟨#[102,111,114,103,101,100]⟩:ByteArray)else(⟨#[]⟩:ByteArray)
def kC(A:P)(C:ByteArray)(E:List Int):ByteArray:=letI b:=C++(⟨#[32]⟩:ByteArray)++Zu (E.length:Int);letI c:=I E 0;letI d:=!(Z5 A c);letI e:=(⟨#[110,111]⟩:ByteArray);letI f:=A.b;letI g:=I A.a c.toNat;letI h:=I E 1;bif b=(⟨#[115,104,111,119,32,49]⟩:ByteArray)then bif d then e else qi f g else bif b=(⟨#[100,117,101,32,50]⟩:ByteArray)then bif d then e else jd (UM f g h)else bif b=(⟨#[115,105,122,101,32,49]⟩:ByteArray)then bif d then e else Zu (ji g)else bif b=(⟨#[106,117,100,103,101,32,49]⟩:ByteArray)then bif(S A c).1<0 then e else Jr (KP A c)else bif b=(⟨#[104,105,100,101,32,50]⟩:ByteArray)then H4 A c h else bif b=(⟨#[112,108,97,110,32,48]⟩:ByteArray)then jd (KI f)else bif b=(⟨#[108,105,97,114,115,32,48]⟩:ByteArray)then jd (Sv f.a f.b (WA A))else bif b=(⟨#[119,111,114,108,100,32,48]⟩:ByteArray)then VM A else bif b=(⟨#[97,117,100,105,116,32,48]⟩:ByteArray)then bif !decide (xu A=(⟨#[]⟩:ByteArray))then xu A else(⟨#[111,107]⟩:ByteArray)else(⟨#[119,104,97,116]⟩:ByteArray)
def qd(A:P)(C:ByteArray):P×ByteArray:=letI b:=Zt C;letI c:=(A,(⟨#[119,104,97,116]⟩:ByteArray));letI d:=I b 0;letI e:=yu A b 4;letI f:=yu A b 3;letI g:=Zb (b.tail);letI h:=d++(⟨#[32]⟩:ByteArray)++Zu (g.1.length:Int);letI i:=I g.1 0;letI j:=([]:List Int);letI k:=ZO.mk 0 [] j;letI l:=YO A (YS.mk 1 i 0 0 0 k j);letI m:=YO A (YS.mk 3 i 0 0 0 k j);letI n:=YO A (YS.mk 4 i 0 0 0 k j);letI o:=YO A (YS.mk 7 i 0 0 0 k j);letI p:=I g.1 1;letI q:=YO A (YS.mk 6 i p (I g.1 2) 0 k j);letI r:=YO A (YS.mk 9 i p 0 0 k j);letI s:=YO A (YS.mk 10 i p 0 0 k j);bif(C.size:Int)>200||(b.length:Int)==0 then c else bif d=(⟨#[115,105,103,110]⟩:ByteArray)then(e.1,e.2)else bif d=(⟨#[102,111,114,103,101]⟩:ByteArray)then(f.1,f.2)else bif d=(⟨#[114,101,110,101,119]⟩:ByteArray)then((xT A b).1,(xT A b).2)else bif !g.2 then c else bif h=(⟨#[116,105,99,107,32,49]⟩:ByteArray)then(l.1,l.2)else bif h=(⟨#[97,110,115,119,101,114,32,49]⟩:ByteArray)then(m.1,m.2)else bif h=(⟨#[114,101,118,111,107,101,32,49]⟩:ByteArray)then(n.1,n.2)else bif h=(⟨#[102,111,114,103,101,116,32,49]⟩:ByteArray)then(o.1,o.2)else bif h=(⟨#[109,111,118,101,32,51]⟩:ByteArray)then(q.1,q.2)else bif h=(⟨#[98,97,99,107,100,97,116,101,32,50]⟩:ByteArray)then(r.1,r.2)else bif h=(⟨#[102,97,107,101,32,50]⟩:ByteArray)then(s.1,s.2)else(A,kC A d g.1)
def Z9(A:P)(C:ByteArray):P×ByteArray:=letI b:=qd A C;(b.1,b.2)
def UF(A:ByteArray):Nat->List ByteArray->Nat->List YF->List ZS->List Zy->Int->Int->List YE->List Int->List ZD->List Int->List Int->Int->List Int->List ByteArray×List YF×List ZS×List Zy×Int×Int×List YE×List Int×List ZD×List Int×List Int×Int×List Int
  |0,_,_,_,_,_,_,_,_,_,_,_,_,_,_=>(default,default,default,default,default,default,default,default,default,default,default,default,default)
  |K+1,J,U,y,i,a,o,s,j,h,F,G,L,X,O=>letI b:=Zk A 10;letI c:=b.take (b.length-1);letI d:=Z9 (P.mk (ZI.mk y i a o s) j h F G L X O) (I c U);letI e:=d.1;letI f:=e.b;bif(U:Int)<(c.length:Int)then UF A K (J++[d.2]) (U+1) f.a f.b f.c f.e f.d e.c e.d e.a e.e e.f e.h e.g else(J,y,i,a,o,s,j,h,F,G,L,X,O)
def Ub(A:ByteArray):Nat->List ByteArray->Nat->List YF->List ZS->List Zy->Int->Int->List YE->List Int->List ZD->List Int->List Int->Int->List Int->List ByteArray×List YF×List ZS×List Zy×Int×Int×List YE×List Int×List ZD×List Int×List Int×Int×List Int
  |0,_,_,_,_,_,_,_,_,_,_,_,_,_,_=>(default,default,default,default,default,default,default,default,default,default,default,default,default)
  |n2+1,T,q,p,t,S,al,ak,ad,ag,E,ao,am,Q,ai=>letI b:=Zk A 10;letI c:=Z9 (P.mk (ZI.mk p t S al ak) ad ag E ao am Q ai) (I b q);letI d:=c.1;letI e:=d.b;bif(q:Int)<(b.length:Int)then Ub A n2 (T++[c.2]) (q+1) e.a e.b e.c e.e e.d d.c d.d d.a d.e d.f d.h d.g else(T,p,t,S,al,ak,ad,ag,E,ao,am,Q,ai)
def Y9(A:ByteArray):(List ByteArray)×Bool:=letI b:=Zk A 10;letI c:=b.length;letI d:=(b.take (c-1)).length;letI e:=([]:List ByteArray);letI f:=YK 1;letI g:=f.b;bif I b (c-1)=(⟨#[]⟩:ByteArray)then bif(d:Int)>60 then(e,false)else(match UF A (d+1) e 0 g.a g.b g.c g.e g.d f.c f.d f.a f.e f.f f.h f.g with|(a,h,i,j,p,o,n,m,D,E,G,C,F)=>(a,true))else bif(c:Int)>60 then(e,false)else(match Ub A (c+1) e 0 g.a g.b g.c g.e g.d f.c f.d f.a f.e f.f f.h f.g with|(k,l,q,w,x,r,t,v,y,z,u,B,s)=>(k,true))
def Pr(A C:List ByteArray):Nat->Nat->Sum Bool Unit
  |0,_=>.inr ()
  |K+1,J=>bif(J:Int)<(A.length:Int)then bif !decide (I A J=I C J)then .inl false else Pr A C K (J+1)else .inr ()
def Sn(A C:List ByteArray):Bool:=bif(A.length:Int)!=(C.length:Int)then false else(match Pr A C (A.length+1) 0 with|.inl r1=>r1|.inr _=>true)
def Hw:Nat->Int->ByteArray->ByteArray
  |0,_,_=>default
  |K+1,J,U=>bif J>0 then Hw K (W (Int.tdiv J 10)) ((⟨([UInt8.ofInt (W (48+Int.tmod J 10))]:List UInt8).toArray⟩:ByteArray)++U)else U
def T4(A:Int):ByteArray:=bif A<=0 then(⟨#[109,48]⟩:ByteArray)else(match Hw 22 A (⟨#[]⟩:ByteArray)with|a=>(⟨#[109]⟩:ByteArray)++a)
def zZ:Nat->Int->Nat->List ByteArray->Int×List ByteArray
  |0,_,_,_=>(default,default)
  |K+1,J,U,y=>bif(U:Int)<(y.length:Int)then zZ K (W (J+1)) (U+1) (y.set U (T4 J))else(J,y)
def Xc(A:List ByteArray)(C:Int):(List ByteArray)×Int:=match zZ (A.length+1) C 0 A with|(a,h)=>(h,a)
def Ty(A:List ByteArray):Nat->Int->Nat->Sum Int Int
  |0,_,_=>.inr default
  |K+1,J,U=>bif(U:Int)<(A.length:Int)then bif !decide (I A U=T4 J)then .inl (-1)else Ty A K (W (J+1)) (U+1)else .inr J
def xb(A:List ByteArray)(C:Int):Int:=match Ty A (A.length+1) C 0 with|.inl r1=>r1|.inr a=>a
def jq(A:ByteArray):Bool:=letI b:=!(Sn (Y9 A).1 (zF A).1)||!((Y9 A).2==(zF A).2);letI c:=Xc (Y9 A).1 1;letI d:=xb c.1 1;letI e:=decide (d<0);letI f:=d !=c.2;bif(A.size:Int)>1048576 then true else bif b then false else bif e then false else bif f then false else bif b then false else bif e then false else bif f then false else true
end Go.Mo
