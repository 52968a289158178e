/- Models of the functions: what each computes, on typed data. No condition. -/
import Derived.Test.YthecodaabaaaoaaGreatMo
namespace Go.Mo
open Go.Vm
set_option linter.unusedVariables false
def vi(a0:List UInt8):Bool:=(decide ((a0.length:Int)>1048576))
def Ms(a0:List UInt8):Nat->Int->Nat->Int
  |0,_,_=>default
  |n1+1,J,U=>bif((decide ((U:Int)<(a0.length:Int)))&&(decide ((U:Int)<4000)))then Ms a0 n1 (EY .i64 (W (W (W (J*137)+W ((nth a0 U).toNat:Int))+11)) 1073741823) (U+1)else J
def Vj(a0:List UInt8):YI:=(match Ms a0 4001 (W (193017+(a0.length:Int))) 0 with|z1_0=>YI.mk a0 0 z1_0)
def Yh(a0:YI):YI×Int:=letI c:=W (W (a0.h*6364136223846793005)+1442695040888963407);letI d:=EY .i64 (te .i64 (c.fdiv (2^min 33 IntKind.i64.bits)) (c.fdiv (2^min 47 IntKind.i64.bits))) 255;(bif(decide ((a0.i:Int)<(a0.b.length:Int)))then(YI.mk a0.b (a0.i+1) c,EY .i64 (W (d+W ((nth a0.b a0.i).toNat:Int))) 255)else(YI.mk a0.b a0.i c,d))
def ZJ(a0:YI)(a1:Int):YI×Int:=letI b:=Yh (Yh a0).1;(bif(decide (a1<=0))then(a0,0)else(bif(decide (a1<=256))then((Yh a0).1,Int.tmod (Yh a0).2 a1)else((Yh b.1).1,Int.tmod (W (W (W ((Yh a0).2*65536)+W (b.2*256))+(Yh b.1).2)) a1)))
def qB(a0 a1:Int):Int:=bif(decide (a1>a0))then a1 else a0
def W3(a0 a1:Int):Int:=bif(decide (a1<a0))then a1 else a0
def yg:List Y4:=([Y4.mk 1 90 1 0 501,Y4.mk 2 90 3 40 502,Y4.mk 11 1 1 0 511,Y4.mk 12 1 2 20 512,Y4.mk 13 2 3 40 513,Y4.mk 21 50 1 0 521,Y4.mk 31 81 1 0 531,Y4.mk 32 82 2 20 532,Y4.mk 33 83 3 40 533,Y4.mk 34 84 4 60 534]:List Y4)
def YU:List Zi:=([Zi.mk 1 31 1,Zi.mk 2 32 2,Zi.mk 3 33 1,Zi.mk 4 34 0]:List Zi)
def kz:List YH:=([YH.mk 1 0 40 50,YH.mk 2 20 80 70,YH.mk 3 40 120 200,YH.mk 4 60 10001 10001]:List YH)
def kC(a0:List Y4)(a1:Int):Nat->Nat->Sum Int Unit
  |0,_=>.inr ()
  |n1+1,J=>bif(decide ((J:Int)<(a0.length:Int)))then(bif((nth a0 J).Number==a1)then(.inl (J:Int))else kC a0 a1 n1 (J+1))else(.inr ())
def Yk(a0:List Y4)(a1:Int):Int:=(match kC a0 a1 (a0.length+1) 0 with|.inl r1=>r1|.inr _=>-1)
def Ye(a0 a1 a2:Int):Bool:=(decide (a0>=a1))&&(decide (a0<=a2))
def WA(a0:YN):Ze:=Ze.mk a0.XH a0.To
def W2(a0:Int):Bool:=Ye a0 0 10000
def PI(a0:Ze):Bool:=(W2 a0.XH&&W2 a0.To)&&(decide (a0.XH<=a0.To))
def PK(a0:YN):Bool:=((((Ye a0.Za 1 999&&Ye a0.Key 1 99)&&Ye a0.Z4 1 99)&&(a0.Key !=a0.Z4))&&Ye a0.jE 0 99)&&PI (WA a0)
def yL(a0:YN):List Int:=([101,a0.Za,a0.Key,a0.jE,a0.XH,a0.To,a0.Z4]:List Int)
def C5(a0 a1:Int):Int:=bif(!(Ye a1 1 1000000000000))then 0 else Int.tmod (W (Int.tmod a0 a1+a1)) a1
def Rq(a0:List Int):Nat->Int->Nat->Int
  |0,_,_=>default
  |n1+1,J,U=>bif(decide ((U:Int)<(a0.length:Int)))then Rq a0 n1 (Int.tmod (W (W (W (J*1000003)+C5 (nth a0 U) 2147483647)+13)) 2147483647) (U+1)else J
def Ma(a0:List Int):Int:=(match Rq a0 (a0.length+1) 11 0 with|z1_0=>z1_0)
def xE(a0:Int)(a1:List Int):Int:=letI b:=([a0]:List Int);(Ma ((b++a1)++b))
def qH(a0:Y4)(a1:List Int):Int:=xE a0.PB (([a0.Method]:List Int)++a1)
def kA(a0:List Y4)(a1:YN):YN×Bool:=letI b:=Yk a0 a1.Z4;(bif(((!(PK a1))||(decide (b<0)))||(decide (Yk a0 a1.Key<0)))then(YN.mk 0 0 0 0 0 0 0,false)else(YN.mk a1.Za a1.Key a1.jE a1.XH a1.To a1.Z4 (qH (nth a0 b.toNat) (yL a1)),true))
def kE:List YN:=([(kA yg (YN.mk 1 11 1 0 60 1 0)).1,(kA yg (YN.mk 2 12 1 20 100 1 0)).1,(kA yg (YN.mk 3 13 2 40 150 2 0)).1]:List YN)
def QH(a0:Int):ZF:=letI b:=W3 1 (qB 0 a0);letI c:=ZO.mk yg YU kz b 0;letI d:=([-1,-1,-1]:List Int);letI e:=([]:List ZN);letI f:=([ZE.mk 0 e,ZE.mk 1 e]:List ZE);letI g:=([0,0,0,0]:List Int);letI h:=([]:List Int);(bif(b==1)then ZF.mk c kE d f g ([1]:List Int) 1 h else ZF.mk c kE d f g h 1 h)
def YE(a0:YI)(a1:Int):YI×Bool:=letI b:=ZJ a0 a1;(b.1,b.2==0)
def YB(a0:YI)(a1:List Int):YI×Int:=letI b:=ZJ a0 (a1.length:Int);(b.1,nth a1 b.2.toNat)
def Pm(a0:YI)(a1:List ByteArray):YI×ByteArray:=letI b:=ZJ a0 (a1.length:Int);(b.1,nth a1 b.2.toNat)
def y7(a0:YI):YI×ByteArray:=letI b:=Pm a0 ([(⟨#[]⟩:ByteArray),(⟨#[97]⟩:ByteArray),(⟨#[98]⟩:ByteArray),(⟨#[97,98]⟩:ByteArray),(⟨#[121,101,115]⟩:ByteArray),(⟨#[110,111]⟩:ByteArray),(⟨#[111,110,101,32,104,117,110,100,114,101,100]⟩:ByteArray)]:List ByteArray);(b.1,b.2)
def ym(a0:ZR):Nat->Nat->Sum Bool Unit
  |0,_=>.inr ()
  |n2+1,iF=>bif(decide ((iF:Int)<(a0.KZ.length:Int)))then(bif(!(Ye (nth a0.KZ iF) 1 1000000000000))then(.inl false)else ym a0 n2 (iF+1))else(.inr ())
def y5(a0:ZR):Nat->Nat->Sum Bool Unit
  |0,_=>.inr ()
  |n1+1,J=>bif(decide ((J:Int)<(a0.Xw.length:Int)))then(bif(decide (((nth a0.Xw J).size:Int)>40))then(.inl false)else y5 a0 n1 (J+1))else(.inr ())
def K7(a0:ZR):Bool:=letI b:=a0.Xw.length;letI c:=a0.KZ.length;(match y5 a0 (b+1) 0 with|.inl r1=>r1|.inr _=>(match ym a0 (c+1) 0 with|.inl r2=>r2|.inr _=>(Ye a0.UN 0 999&&Ye (b:Int) 1 6)&&((c:Int)==(b:Int))))
def kZ(a0:Int):Bool:=Ye a0 1 2147483646
def yj(a0:Int)(a1:List ByteArray)(a2:Int):Nat->Nat->List Int->List Int
  |0,_,_=>default
  |n1+1,J,U=>bif(decide ((J:Int)<(a1.length:Int)))then yj a0 a1 a2 n1 (J+1) (U++([qB 1 (xE a2 ([a0,(J:Int)]:List Int))]:List Int))else U
def yd(a0:Int)(a1:List ByteArray)(a2:Int):ZR×Bool:=letI b:=([]:List Int);(match yj a0 a1 a2 (a1.length+1) 0 b with|z1_0=>letI c:=ZR.mk a0 a1 z1_0;(bif((!(K7 c))||(!(kZ a2)))then(ZR.mk 0 ([]:List ByteArray) b,false)else(c,true)))
def WJ:Nat->List ByteArray->Int->List UInt8->Nat->Int->List ByteArray×List UInt8×Nat×Int
  |0,_,_,_,_,_=>(default,default,default,default)
  |n1+1,J,U,iD,iG,iP=>letI c:=y7 (YI.mk iD iG iP);(bif(decide (U>0))then WJ n1 (J++([c.2]:List ByteArray)) (W (U-1)) c.1.b c.1.i c.1.h else(J,iD,iG,iP))
def X1(a0:YI):YI×ZR:=letI c:=(ZJ a0 3).1;(match WJ 5 ([]:List ByteArray) (W (1+(ZJ a0 3).2)) c.b c.i c.h with|(z1_0,z1_1,z1_2,z1_3)=>letI d:=ZJ (YI.mk z1_1 z1_2 z1_3) 5;(d.1,(yd d.2 z1_0 11).1))
def Xa(a0:YI)(a1:Int):YI×Zx:=letI b:=decide (a1>=40);letI c:=decide (a1>=60);letI d:=YB a0 ([0,-10,40]:List Int);letI e:=ZR.mk 0 ([]:List ByteArray) ([]:List Int);letI f:=(d.1,Zx.mk 5 0 d.2 0 0 e ([2,3,4]:List Int));letI g:=bif c then f else(d.1,Zx.mk 5 0 d.2 0 0 e ([1,2,3]:List Int));(bif(decide (a1>=20))then(bif b then g else(bif c then f else(d.1,Zx.mk 5 0 d.2 0 0 e ([1,2]:List Int))))else(bif b then g else(bif c then f else(d.1,Zx.mk 5 0 d.2 0 0 e ([1]:List Int)))))
def Z5(a0:YI):YI×List Zx:=letI b:=YB a0 ([11,12]:List Int);letI c:=Xa (X1 b.1).1 25;letI d:=Xa c.1 43;letI e:=Xa d.1 65;letI f:=([]:List Int);letI g:=ZR.mk 0 ([]:List ByteArray) f;letI h:=Zx.mk 1 22 0 0 0 g f;(e.1,((([h,Zx.mk 2 0 b.2 0 10000 (X1 b.1).2 f,Zx.mk 1 3 0 0 0 g f,Zx.mk 3 1 0 0 0 g f]:List Zx)++([c.2,Zx.mk 1 18 0 0 0 g f]:List Zx))++([d.2,h]:List Zx))++([e.2,Zx.mk 1 20 0 0 0 g f]:List Zx))
def Xq(a0:YI):YI×Zx:=letI b:=ZJ a0 16;letI c:=b.2;letI d:=YB b.1 ([1,5,10,20,30]:List Int);letI e:=([]:List Int);letI f:=ZR.mk 0 ([]:List ByteArray) e;letI g:=(d.1,Zx.mk 1 d.2 0 0 0 f e);letI h:=ZJ b.1 2;letI i:=YB h.1 ([11,12,13]:List Int);letI j:=YB i.1 ([30,10000]:List Int);letI k:=((X1 j.1).1,Zx.mk 2 h.2 i.2 0 j.2 (X1 j.1).2 e);letI l:=ZJ b.1 3;letI m:=W (1+l.2);letI n:=(l.1,Zx.mk 3 m 0 0 0 f e);letI o:=ZJ h.1 2;letI p:=ZJ o.1 3;letI q:=YB h.1 ([11,12]:List Int);letI r:=ZJ b.1 4;letI s:=YB r.1 ([5,25,60]:List Int);letI t:=YB l.1 ([10,40,60]:List Int);letI u:=YB h.1 ([0,-10,40]:List Int);letI v:=ZJ u.1 3;(bif(c==0)then g else(bif(c==1)then g else(bif(c==2)then g else(bif(c==3)then k else(bif(c==4)then k else(bif(c==5)then n else(bif(c==6)then n else(bif(c==7)then(l.1,Zx.mk 4 l.2 0 0 0 f e)else(bif(c==8)then(p.1,Zx.mk 6 h.2 o.2 (W (1+p.2)) 0 f e)else(bif(c==9)then(h.1,Zx.mk 7 h.2 0 0 0 f e)else(bif(c==10)then((X1 q.1).1,Zx.mk 8 h.2 q.2 0 0 (X1 q.1).2 e)else(bif(c==11)then(s.1,Zx.mk 9 (W (1+r.2)) s.2 0 0 f e)else(bif(c==12)then(t.1,Zx.mk 10 m t.2 0 0 f e)else(v.1,Zx.mk 5 h.2 u.2 0 0 f ((([1,2,3,4]:List Int).drop v.2.toNat).take (4-v.2.toNat))))))))))))))))
def zE:Nat->List Zx->Int->List UInt8->Nat->Int->List Zx×List UInt8×Nat×Int
  |0,_,_,_,_,_=>(default,default,default,default)
  |n1+1,J,U,iD,iG,iP=>letI c:=Xq (YI.mk iD iG iP);(bif(decide (U>0))then zE n1 (J++([c.2]:List Zx)) (W (U-1)) c.1.b c.1.i c.1.h else(J,iD,iG,iP))
def zF:Nat->List Zx->Int->List UInt8->Nat->Int->List Zx×List UInt8×Nat×Int
  |0,_,_,_,_,_=>(default,default,default,default)
  |n2+1,iF,iI,gq,gv,dB=>letI c:=Xq (YI.mk gq gv dB);(bif(decide (iI>0))then zF n2 (iF++([c.2]:List Zx)) (W (iI-1)) c.1.b c.1.i c.1.h else(iF,gq,gv,dB))
def j8(a0:YI)(a1:Int):YI×List Zx:=letI c:=Z5 (YE a0 2).1;letI d:=ZJ c.1 (W ((c.2.length:Int)+1));letI e:=ZJ d.1 a1;letI f:=ZJ (YE a0 2).1 a1;(bif(YE a0 2).2 then(match zE (e.2.toNat+2) (c.2.take d.2.toNat) e.2 e.1.b e.1.i e.1.h with|(z1_0,z1_1,z1_2,z1_3)=>(YI.mk z1_1 z1_2 z1_3,z1_0))else(match zF (f.2.toNat+2) ([]:List Zx) f.2 f.1.b f.1.i f.1.h with|(gp,cW,z2_2,z2_3)=>(YI.mk cW z2_2 z2_3,gp)))
def ZP(a0:List UInt8):ZF×(List Zx):=letI b:=ZJ (Vj a0) 2;(QH b.2,(j8 b.1 12).2)
def R8(a0:ZO):ZO:=a0
def NF(a0:List Int):List Int:=a0
def UR(a0:ZR):ZR:=a0
def Pa(a0:ZT):ZT:=a0
def kb(a0:List ZT):Nat->List ZT->Nat->List ZT
  |0,_,_=>default
  |n1+1,J,U=>bif(decide ((U:Int)<(a0.length:Int)))then kb a0 n1 (J++([nth a0 U]:List ZT)) (U+1)else J
def VT(a0:List ZT):List ZT:=(match kb a0 (a0.length+1) ([]:List ZT) 0 with|z1_0=>z1_0)
def Se(a0:List Zm):List Zm:=a0
def TY(a0:Zb):Zb:=a0
def kT(a0:ZW):Nat->Nat->List Zb->List Zb
  |0,_,_=>default
  |n1+1,J,U=>bif(decide ((J:Int)<(a0.ZM.length:Int)))then kT a0 n1 (J+1) (U++([nth a0.ZM J]:List Zb))else U
def Vg(a0:ZW):ZW:=(match kT a0 (a0.ZM.length+1) 0 ([]:List Zb)with|z1_0=>ZW.mk a0.ZI z1_0)
def Ou(a0:ZN):ZN:=a0
def jX(a0:ZE):Nat->Nat->List ZN->List ZN
  |0,_,_=>default
  |n1+1,J,U=>bif(decide ((J:Int)<(a0.ZB.length:Int)))then jX a0 n1 (J+1) (U++([nth a0.ZB J]:List ZN))else U
def WY(a0:ZE):ZE:=(match jX a0 (a0.ZB.length+1) 0 ([]:List ZN)with|z1_0=>ZE.mk a0.Id z1_0)
def Wf(a0:ZF):Nat->Nat->List ZE->List ZE
  |0,_,_=>default
  |n1+1,J,U=>bif(decide ((J:Int)<(a0.ZA.length:Int)))then Wf a0 n1 (J+1) (U++([nth a0.ZA J]:List ZE))else U
def TE(a0:ZF):ZF:=(match Wf a0 (a0.ZA.length+1) 0 ([]:List ZE)with|z1_0=>ZF.mk a0.Frame a0.Zd a0.Zw z1_0 a0.Y2 a0.Yc a0.Next a0.YL)
def ZX(a0 a1 a2:Int):Bool:=(decide (a1<=a0))&&(decide (a0<=a2))
def KI(a0:ZF)(a1:Int):ZF×Bool:=letI b:=a0.Frame;letI c:=W (b.Now+a1);(bif((!(ZX a1 0 100))||(decide (c>10000)))then(a0,false)else(ZF.mk (ZO.mk b.Zt b.ZC b.Methods b.XJ c) a0.Zd a0.Zw a0.ZA a0.Y2 a0.Yc a0.Next a0.YL,true))
def j7(a0:List Y4)(a1:Int):Nat->Nat->Sum Int Unit
  |0,_=>.inr ()
  |n1+1,J=>bif(decide ((J:Int)<(a0.length:Int)))then(bif((nth a0 J).Number==a1)then(.inl (J:Int))else j7 a0 a1 n1 (J+1))else(.inr ())
def Z6(a0:List Y4)(a1:Int):Int:=(match j7 a0 a1 (a0.length+1) 0 with|.inl r1=>r1|.inr _=>-1)
def yo(a0:List YH)(a1:Int):Nat->Int->Nat->Int
  |0,_,_=>default
  |n1+1,J,U=>letI b:=nth a0 U;(bif(decide ((U:Int)<(a0.length:Int)))then(bif(((decide (b.Lz<=a1))&&(decide (a1<b.Ends)))&&((decide (J<0))||(decide (b.Ends>(nth a0 J.toNat).Ends))))then yo a0 a1 n1 (U:Int) (U+1)else yo a0 a1 n1 J (U+1))else J)
def ZS(a0:List YH)(a1:Int):Int:=(match yo a0 a1 (a0.length+1) (-1) 0 with|z1_0=>bif(decide (z1_0<0))then(-1)else(nth a0 z1_0.toNat).Id)
def YG(a0:ZF)(a1:Int):Bool:=ZX a1 0 (W ((a0.ZA.length:Int)-1))
def qe(a0:ZR):Nat->Nat->Sum Bool Unit
  |0,_=>.inr ()
  |n1+1,J=>bif(decide ((J:Int)<(a0.Xw.length:Int)))then(bif((decide (((nth a0.Xw J).size:Int)>40))||(!(ZX (nth a0.KZ J) 1 1000000000000)))then(.inl false)else qe a0 n1 (J+1))else(.inr ())
def z7(a0:ZR):Bool:=letI b:=a0.Xw.length;(bif(((!(ZX a0.UN 0 999))||(!(ZX (b:Int) 1 6)))||((a0.KZ.length:Int)!=(b:Int)))then false else(match qe a0 (b+1) 0 with|.inl r1=>r1|.inr _=>true))
def qZ(a0:List UInt8):Nat->List Int->Nat->List Int
  |0,_,_=>default
  |n1+1,J,U=>bif(decide ((U:Int)<(a0.length:Int)))then qZ a0 n1 (J++([W ((nth a0 U).toNat:Int)]:List Int)) (U+1)else J
def kv(a0:List UInt8):List Int:=(match qZ a0 (a0.length+1) ([]:List Int) 0 with|z1_0=>z1_0)
def Bf(a0 a1:Int):Int:=bif(!(ZX a1 1 1000000000000))then 0 else Int.tmod (W (Int.tmod a0 a1+a1)) a1
def Rs(a0:List Int):Nat->Int->Nat->Int
  |0,_,_=>default
  |n1+1,J,U=>bif(decide ((U:Int)<(a0.length:Int)))then Rs a0 n1 (Int.tmod (W (W (W (J*1000003)+Bf (nth a0 U) 2147483647)+13)) 2147483647) (U+1)else J
def M8(a0:List Int):Int:=(match Rs a0 (a0.length+1) 11 0 with|z1_0=>z1_0)
def Ju(a0:Int)(a1:List Int):Int:=M8 (([7,a0]:List Int)++a1)
def ka(a0:Int)(a1:ByteArray)(a2:Int):Int:=Ju a0 (([a2]:List Int)++kv a1.data.toList)
def jL(a0:Int)(a1:ZR):Nat->List Int->Nat->List Int
  |0,_,_=>default
  |n1+1,J,U=>bif(decide ((U:Int)<(a1.Xw.length:Int)))then jL a0 a1 n1 (J++([ka a0 (nth a1.Xw U) (nth a1.KZ U)]:List Int)) (U+1)else J
def Yb(a0:Int)(a1:ZR):Int:=bif(!(z7 a1))then(-1)else(match jL a0 a1 (a1.Xw.length+1) ([a1.UN]:List Int) 0 with|z1_0=>Ju a0 z1_0)
def X0(a0:Zl):List Int:=([104,a0.Key,a0.Za,a0.Method,a0.QL,a0.Ub,a0.Org,a0.V6,a0.UZ]:List Int)
def W6(a0:Int)(a1:List Int):Int:=letI b:=([a0]:List Int);(M8 ((b++a1)++b))
def UY(a0:Y4)(a1:List Int):Int:=W6 a0.PB (([a0.Method]:List Int)++a1)
def zS(a0:List Y4)(a1:Int)(a2:List Int):Int×Bool:=letI b:=Z6 a0 a1;(bif(decide (b<0))then(0,false)else(UY (nth a0 b.toNat) a2,true))
def K9(a0:Zl):Bool:=((((((ZX a0.Key 1 99&&ZX a0.Za 1 999)&&ZX a0.Method 0 99)&&ZX a0.Org 0 99)&&ZX a0.Ub 1 3)&&ZX a0.QL 0 1000000000000)&&ZX a0.V6 0 1000000000000)&&ZX a0.UZ 0 1000000000000
def XV(a0:List Y4)(a1:Zl):Zl×Bool:=letI b:=zS a0 a1.Key (X0 a1);(bif((!(K9 a1))||(!b.2))then(Zl.mk 0 0 0 0 0 0 0 0 0,false)else(Zl.mk a1.Key a1.Za a1.Method a1.QL a1.Ub a1.Org a1.V6 a1.UZ b.1,true))
def Yf(a0:Zl):ZT:=ZT.mk a0.Key (X0 a0) a0.Mark
def yR(a0:YN):List Int:=([101,a0.Za,a0.Key,a0.jE,a0.XH,a0.To,a0.Z4]:List Int)
def JJ(a0:YN):ZT:=ZT.mk a0.Z4 (yR a0) a0.Mark
def zm(a0:ZE)(a1:Int):Nat->Nat->Sum Int Unit
  |0,_=>.inr ()
  |n1+1,J=>bif(decide ((J:Int)<(a0.ZB.length:Int)))then(bif((nth a0.ZB J).Id==a1)then(.inl (J:Int))else zm a0 a1 n1 (J+1))else(.inr ())
def ZZ(a0:ZE)(a1:Int):Int:=(match zm a0 a1 (a0.ZB.length+1) 0 with|.inl r1=>r1|.inr _=>-1)
def KY(a0:Int):Bool:=ZX a0 0 10000
def WZ(a0 a1:List Int):Nat->Nat->Sum Bool Unit
  |0,_=>.inr ()
  |n1+1,J=>bif(decide ((J:Int)<(a0.length:Int)))then(bif(nth a0 J !=nth a1 J)then(.inl false)else WZ a0 a1 n1 (J+1))else(.inr ())
def TJ(a0 a1:List Int):Bool:=bif((a0.length:Int)!=(a1.length:Int))then false else(match WZ a0 a1 (a0.length+1) 0 with|.inl r1=>r1|.inr _=>true)
def KM(a0 a1:ZT):Bool:=((a0.Key==a1.Key)&&(a0.Mark==a1.Mark))&&TJ a0.YM a1.YM
def kL(a0:List ZT)(a1:ZT):Nat->Nat->Sum Bool Unit
  |0,_=>.inr ()
  |n1+1,J=>bif(decide ((J:Int)<(a0.length:Int)))then(bif KM (nth a0 J) a1 then(.inl true)else kL a0 a1 n1 (J+1))else(.inr ())
def KE(a0:List ZT)(a1:ZT):Bool:=(match kL a0 a1 (a0.length+1) 0 with|.inl r1=>r1|.inr _=>false)
def xI(a0:ZW):Nat->Nat->Sum Bool Unit
  |0,_=>.inr ()
  |n2+1,iF=>letI b:=(nth a0.ZM iF).Count;(bif(decide ((iF:Int)<(a0.ZM.length:Int)))then(bif((!(ZX b 1 (a0.ZI.length:Int)))||((decide ((iF:Int)>0))&&(decide (b<(nth a0.ZM (iF-1)).Count))))then(.inl false)else xI a0 n2 (iF+1))else(.inr ()))
def xG(a0:ZW):Nat->Nat->Sum Bool Unit
  |0,_=>.inr ()
  |n1+1,J=>bif(decide ((J:Int)<(a0.ZI.length:Int)))then(bif KE (a0.ZI.take J) (nth a0.ZI J)then(.inl false)else xG a0 n1 (J+1))else(.inr ())
def Xi(a0:ZW):Bool:=letI b:=a0.ZI.length;letI c:=a0.ZM.length;(bif((!(ZX (b:Int) 1 12))||(decide ((c:Int)>8)))then false else(match xG a0 (b+1) 0 with|.inl r1=>r1|.inr _=>(match xI a0 (c+1) 0 with|.inl r2=>r2|.inr _=>true)))
def JS(a0:ZN):Bool:=(((ZX a0.Id 1 999&&KY a0.XF)&&z7 a0.Doc)&&Xi a0.ZG)&&KM (nth a0.ZG.ZI 0) (Yf a0.Sig)
def xv(a0:ZE):Nat->Nat->Sum Bool Unit
  |0,_=>.inr ()
  |n1+1,J=>letI b:=nth a0.ZB J;(bif(decide ((J:Int)<(a0.ZB.length:Int)))then(bif((!(JS b))||((decide ((J:Int)>0))&&(decide ((nth a0.ZB (J-1)).Id>=b.Id))))then(.inl false)else xv a0 n1 (J+1))else(.inr ()))
def Ys(a0:ZE):Bool:=letI b:=a0.ZB.length;(match xv a0 (b+1) 0 with|.inl r1=>r1|.inr _=>ZX a0.Id 0 99&&(decide ((b:Int)<=8)))
def X4(a0:ZE)(a1:ZN):Nat->Nat->Nat
  |0,_=>default
  |n1+1,J=>bif((decide ((J:Int)<(a0.ZB.length:Int)))&&(decide ((nth a0.ZB J).Id<a1.Id)))then X4 a0 a1 n1 (J+1)else J
def YZ(a0:ZE)(a1:ZN):ZE×Bool:=bif((decide (ZZ a0 a1.Id>=0))||(!(Ys a0)))then(a0,false)else(match X4 a0 a1 (a0.ZB.length+1) 0 with|z1_0=>letI b:=ZE.mk a0.Id ((a0.ZB.take z1_0++([a1]:List ZN))++a0.ZB.drop z1_0);(bif(!(Ys b))then(a0,false)else(b,true)))
def JC(a0:ZF)(a1 a2:Int)(a3:ZR)(a4 a5:Int):Nat->Nat->Sum (ZF×Bool) Unit
  |0,_=>.inr ()
  |n1+1,J=>letI b:=nth a0.Zd J;letI c:=a0.Frame;letI d:=ZS c.Methods c.Now;letI e:=XV c.Zt (Zl.mk a2 b.Za d (Yb d a3) 1 a4 0 0 0);letI f:=YZ (nth a0.ZA a1.toNat) (ZN.mk a0.Next a5 a3 e.1 (ZW.mk ([Yf e.1,JJ b]:List ZT) ([]:List Zb)));(bif(decide ((J:Int)<(a0.Zd.length:Int)))then(bif(b.Key !=a2)then JC a0 a1 a2 a3 a4 a5 n1 (J+1)else(bif((!e.2)||(!f.2))then(.inl (a0,false))else(.inl (ZF.mk c a0.Zd a0.Zw (a0.ZA.set a1.toNat f.1) a0.Y2 a0.Yc (W (a0.Next+1)) a0.YL,true))))else(.inr ()))
def XR(a0:ZF)(a1 a2:Int)(a3:ZR)(a4 a5:Int):ZF×Bool:=letI b:=a0.Frame;(bif(((!(YG a0 a1))||(decide (Z6 b.Zt a2<0)))||(decide (ZS b.Methods b.Now<0)))then(a0,false)else(match JC a0 a1 a2 a3 a4 a5 (a0.Zd.length+1) 0 with|.inl r1=>r1|.inr _=>(a0,false)))
def Ja(a0:ZF)(a1 a2:Int)(a3:ZR)(a4 a5:Int):ZF×Bool:=letI b:=Z6 a0.Frame.Zt a2;letI c:=XR a0 a1 a2 a3 a4 a5;(bif((decide (b<0))||(decide ((nth a0.Frame.Zt b.toNat).VO>a0.Frame.Now)))then(a0,false)else(c.1,c.2))
def qE(a0:ZF)(a1:Int):Nat->Nat->Sum (Int×Int) Unit
  |0,_=>.inr ()
  |n1+1,J=>letI b:=ZZ (nth a0.ZA J) a1;(bif(decide ((J:Int)<(a0.ZA.length:Int)))then(bif(decide (b>=0))then(.inl ((J:Int),b))else qE a0 a1 n1 (J+1))else(.inr ()))
def ZK(a0:ZF)(a1:Int):Int×Int:=(match qE a0 a1 (a0.ZA.length+1) 0 with|.inl r1=>r1|.inr _=>(-1,-1))
def Yp(a0:ZT):Int:=letI b:=(a0.YM.length:Int);letI c:=nth a0.YM 0;(bif(((b==0)||(!(ZX c 101 105)))||(b !=nth ([7,5,5,9,6]:List Int) (W (c-101)).toNat))then 0 else c)
def YD(a0:ZT):YN×Bool:=letI b:=a0.YM;(bif((Yp a0 !=101)||(nth b 6 !=a0.Key))then(YN.mk 0 0 0 0 0 0 0,false)else(YN.mk (nth b 1) (nth b 2) (nth b 3) (nth b 4) (nth b 5) (nth b 6) a0.Mark,true))
def xQ(a0:List YN)(a1:Int):Nat->Nat->Sum Int Unit
  |0,_=>.inr ()
  |n1+1,J=>bif(decide ((J:Int)<(a0.length:Int)))then(bif((nth a0 J).Za==a1)then(.inl (J:Int))else xQ a0 a1 n1 (J+1))else(.inr ())
def Xy(a0:List YN)(a1:Int):Int:=(match xQ a0 a1 (a0.length+1) 0 with|.inl r1=>r1|.inr _=>-1)
def YP(a0:ZF)(a1:Int):Int×Int×Bool:=letI b:=ZK a0 a1;letI c:=(nth (nth a0.ZA b.1.toNat).ZB b.2.toNat).ZG.ZI;letI d:=YD (nth c 1);letI e:=Xy a0.Zd d.1.Za;(bif((decide (b.1<0))||(decide ((c.length:Int)<2)))then(0,0,false)else(b.1,e,d.2&&(decide (e>=0))))
def Jr(a0:Zp):List Int:=([102,a0.Za,a0.xw,a0.Zw,a0.Z4]:List Int)
def WB(a0:Zp):Bool:=((ZX a0.Za 1 999&&KY a0.xw)&&ZX a0.Zw (-1) (W (a0.xw+1)))&&ZX a0.Z4 1 99
def YT(a0:List Y4)(a1:Zp):Zp×Bool:=letI b:=zS a0 a1.Z4 (Jr a1);(bif((!(WB a1))||(!b.2))then(Zp.mk 0 0 0 0 0,false)else(Zp.mk a1.Za a1.xw a1.Zw a1.Z4 b.1,true))
def Yq(a0:Zp):ZT:=ZT.mk a0.Z4 (Jr a0) a0.Mark
def Qr(a0:ZW)(a1:ZT):ZW×Bool:=letI b:=ZW.mk (a0.ZI++([a1]:List ZT)) a0.ZM;(bif(!(Xi b))then(a0,false)else(b,true))
def Xl(a0:ZE)(a1:Int)(a2:ZT):ZE×Bool:=letI b:=ZZ a0 a1;letI c:=nth a0.ZB b.toNat;letI d:=Qr c.ZG a2;(bif(decide (b<0))then(a0,false)else(ZE.mk a0.Id (a0.ZB.set b.toNat (ZN.mk c.Id c.XF c.Doc c.Sig d.1)),d.2))
def Qi(a0:ZF)(a1 a2:Int)(a3:Zp):ZF×Bool:=letI b:=YT a0.Frame.Zt a3;letI c:=Xl (nth a0.ZA a1.toNat) a2 (Yq b.1);(bif((!b.2)||(!c.2))then(a0,false)else(ZF.mk a0.Frame a0.Zd a0.Zw (a0.ZA.set a1.toNat c.1) a0.Y2 a0.Yc a0.Next a0.YL,true))
def JA(a0:ZF)(a1:Int):ZF×Bool:=letI b:=YP a0 a1;letI c:=nth a0.Zd b.2.1.toNat;letI d:=Z6 a0.Frame.Zt c.Z4;letI e:=a0.Frame.Now;letI f:=nth a0.Zw b.2.1.toNat;letI g:=Qi a0 b.1 a1 (Zp.mk c.Za e (-1) c.Z4 0);letI h:=Qi a0 b.1 a1 (Zp.mk c.Za e f c.Z4 0);(bif((!b.2.2)||(decide (b.2.1>=(a0.Zw.length:Int))))then(a0,false)else(bif((decide (d<0))||(decide ((nth a0.Frame.Zt d.toNat).VO>e)))then(a0,false)else(bif(decide (f>W (e+1)))then(g.1,g.2)else(h.1,h.2))))
def QS(a0:ZF)(a1:Int):ZF×Bool:=bif((!(ZX a1 0 (W ((a0.Zw.length:Int)-1))))||(nth a0.Zw a1.toNat !=(-1)))then(a0,false)else(ZF.mk a0.Frame a0.Zd (a0.Zw.set a1.toNat (W (a0.Frame.Now+1))) a0.ZA a0.Y2 a0.Yc a0.Next a0.YL,true)
def jM(a0:List Int):Nat->Nat->Sum Bool Unit
  |0,_=>.inr ()
  |n1+1,J=>bif(decide ((J:Int)<(a0.length:Int)))then(bif(decide (nth a0 (J-1)>=nth a0 J))then(.inl false)else jM a0 n1 (J+1))else(.inr ())
def Qe(a0:List Int):Bool:=(match jM a0 (a0.length+1) 1 with|.inl r1=>r1|.inr _=>true)
def Jg(a0:Zm):List Int:=([103,a0.Authority,a0.Seq,a0.Time,a0.QL]:List Int)
def zo(a1:Zb):Nat->List Int->Nat->List Int
  |0,_,_=>default
  |n2+1,iF,iI=>letI b:=nth a1.YW iI;(bif(decide ((iI:Int)<(a1.YW.length:Int)))then zo a1 n2 ((iF++Jg b)++([b.Mark]:List Int)) (iI+1)else iF)
def Kj(a1:Zb):Nat->List Int->Nat->List Int
  |0,_,_=>default
  |n1+1,J,U=>letI b:=nth a1.Path U;(bif(decide ((U:Int)<(a1.Path.length:Int)))then(bif b.Left then Kj a1 n1 (J++([b.QL,1]:List Int)) (U+1)else Kj a1 n1 (J++([b.QL,0]:List Int)) (U+1))else J)
def JX(a0:Int)(a1:Zb):Int:=letI b:=a1.YW.length;(match Kj a1 (a1.Path.length+1) ([4,a1.Count,a1.Method,a1.BQ]:List Int) 0 with|z1_0=>(match zo a1 (b+1) (z1_0++([(b:Int)]:List Int)) 0 with|gp=>Ju a0 gp))
def yb(a0:Int)(a1:List ZT):Nat->List Int->Nat->List Int
  |0,_,_=>default
  |n1+1,J,U=>letI b:=nth a1 U;(bif(decide ((U:Int)<(a1.length:Int)))then yb a0 a1 n1 (J++([Ju a0 (([b.Key,b.Mark]:List Int)++b.YM)]:List Int)) (U+1)else J)
def Ki(a0:Int)(a1:List ZT):Int:=(match yb a0 a1 (a1.length+1) ([2]:List Int) 0 with|z1_0=>Ju a0 z1_0)
def Wz(a0 a1:Int)(a2:List ZT)(a3:Int):Int:=Ju a0 ([3,a1,Ki a0 a2,a3]:List Int)
def Q6(a0:ZN)(a1:Int):Int:=letI b:=a0.ZG.ZM.length;letI c:=Yb a1 a0.Doc;(bif(decide ((b:Int)>0))then Wz a1 c a0.ZG.ZI (JX a1 (nth a0.ZG.ZM (b-1)))else Wz a1 c a0.ZG.ZI 0)
def xo(a0:ZE)(a1:Int):Nat->List Int->Nat->List Int
  |0,_,_=>default
  |n1+1,J,U=>bif(decide ((U:Int)<(a0.ZB.length:Int)))then xo a0 a1 n1 (J++([Q6 (nth a0.ZB U) a1]:List Int)) (U+1)else J
def Xn(a0:ZE)(a1:Int):List Int:=(match xo a0 a1 (a0.ZB.length+1) ([]:List Int) 0 with|z1_0=>z1_0)
def xK(a0 a1 a2:Int):Int:=Ju a0 ([1,a1,a2]:List Int)
def Kc(a0:Int)(a1:List Int):Nat->List Int->Nat->List Int
  |0,_,_=>default
  |n1+1,J,U=>letI b:=(a1.length:Int);letI c:=W ((U:Int)+1);letI d:=nth a1 U;(bif(decide ((U:Int)<b))then(bif(decide (c<b))then Kc a0 a1 n1 (J++([xK a0 d (nth a1 c.toNat)]:List Int)) (U+2)else Kc a0 a1 n1 (J++([d]:List Int)) (U+2))else J)
def KP(a0:Int)(a1:List Int):List Int:=(match Kc a0 a1 (a1.length+1) ([]:List Int) 0 with|z1_0=>z1_0)
def kU(a0:Int):Nat->List Int->List Int
  |0,_=>default
  |n1+1,J=>bif(decide ((J.length:Int)>1))then kU a0 n1 (KP a0 J)else J
def jt(a0:Int)(a1:List Int):Int:=bif(!(ZX (a1.length:Int) 1 16))then(-1)else(match kU a0 (a1.length+1) a1 with|z1_0=>nth z1_0 0)
def QO(a0:ZE)(a1:Int):Int:=jt a1 (Xn a0 a1)
def Jx(a0:List Zi)(a1:Int):Nat->Nat->Sum Int Unit
  |0,_=>.inr ()
  |n1+1,J=>bif(decide ((J:Int)<(a0.length:Int)))then(bif((nth a0 J).Id==a1)then(.inl (J:Int))else Jx a0 a1 n1 (J+1))else(.inr ())
def ZY(a0:List Zi)(a1:Int):Int:=(match Jx a0 a1 (a0.length+1) 0 with|.inl r1=>r1|.inr _=>-1)
def U1(a0:List Int)(a1:Int):Nat->Nat->Sum Int Unit
  |0,_=>.inr ()
  |n1+1,J=>bif(decide ((J:Int)<(a0.length:Int)))then(bif(nth a0 J==a1)then(.inl (J:Int))else U1 a0 a1 n1 (J+1))else(.inr ())
def Pe(a0:List Int)(a1:Int):Int:=(match U1 a0 a1 (a0.length+1) 0 with|.inl r1=>r1|.inr _=>-1)
def QM(a0:List Int)(a1:Int):Bool:=(decide (Pe a0 a1>=0))
def Xk(a0:List Y4)(a1:List Zi)(a2:Zm):Zm×Bool:=letI b:=a2.Authority;letI c:=(Zm.mk 0 0 0 0 0,false);letI d:=zS a0 (nth a1 (ZY a1 b).toNat).Key (Jg a2);(bif(((decide (ZY a1 b<0))||(decide (a2.Seq<0)))||(!(KY a2.Time)))then c else(bif(!d.2)then c else(Zm.mk b a2.Seq a2.Time a2.QL d.1,true)))
def Kz(a0:Int):Nat->List Int->Int->List X8->List X8
  |0,_,_,_=>default
  |n1+1,J,U,iD=>letI b:=(J.length:Int);letI c:=KP a0 J;letI d:=W (Int.tdiv U 2);letI e:=W (U+1);(bif(decide (b>1))then(bif(Int.tmod U 2==1)then Kz a0 n1 c d (iD++([X8.mk (nth J (W (U-1)).toNat) true]:List X8))else(bif(decide (e<b))then Kz a0 n1 c d (iD++([X8.mk (nth J e.toNat) false]:List X8))else Kz a0 n1 c d iD))else iD)
def JH(a0:Int)(a1:List Int)(a2:Int):List X8:=letI b:=(a1.length:Int);letI c:=([]:List X8);(bif((!(ZX a2 0 (W (b-1))))||(decide (b>16)))then c else(match Kz a0 (a1.length+1) a1 a2 c with|z1_0=>z1_0))
def Y9(a0:ZW)(a1:Zb):ZW×Bool:=letI b:=ZW.mk a0.ZI (a0.ZM++([a1]:List Zb));(bif(!(Xi b))then(a0,false)else(b,true))
def Xz(a0:ZE)(a1:Int)(a2:List Zm):Nat->Nat->List ZN->Sum (ZE×Bool) (List ZN)
  |0,_,_=>.inr default
  |n1+1,J,U=>letI b:=(nth a0.ZB J).ZG;letI c:=Y9 b (Zb.mk (b.ZI.length:Int) a1 (QO a0 a1) (JH a1 (Xn a0 a1) (J:Int)) a2);letI d:=nth U J;(bif(decide ((J:Int)<(a0.ZB.length:Int)))then(bif(!c.2)then(.inl (a0,false))else Xz a0 a1 a2 n1 (J+1) (U.set J (ZN.mk d.Id d.XF d.Doc d.Sig c.1)))else(.inr U))
def XK(a0:ZE)(a1:Int)(a2:List Zm):ZE×Bool:=letI b:=a0.ZB.length;(bif(((b:Int)==0)||(!(Ys a0)))then(a0,false)else(match Xz a0 a1 a2 (b+1) 0 a0.ZB with|.inl r1=>r1|.inr z1_0=>letI c:=ZE.mk a0.Id z1_0;(bif(!(Ys c))then(a0,false)else(c,true))))
def Xh(a0:ZF)(a1:Int)(a2:List Int)(a3:Int):Nat->List Zm->Nat->List Int->Sum (ZF×Bool) (List Zm×List Int)
  |0,_,_,_=>.inr (default,default)
  |n1+1,J,U,iD=>letI b:=a0.Frame;letI c:=nth a2 U;letI d:=ZY b.ZC c;letI e:=d.toNat;letI f:=Z6 b.Zt (nth b.ZC e).Key;letI g:=b.Now;letI h:=nth a0.Y2 e;letI i:=W (g+a3);letI j:=if i<10000 then i else 10000;letI k:=QO (nth a0.ZA a1.toNat) (ZS b.Methods g);letI l:=Xk b.Zt b.ZC (Zm.mk c h (if j>0 then j else 0) k 0);letI m:=iD.set e (W (nth iD e+1));letI n:=Xk b.Zt b.ZC (Zm.mk c h g k 0);(bif(decide ((U:Int)<(a2.length:Int)))then(bif((decide (d<0))||(decide (d>=(a0.Y2.length:Int))))then(.inl (a0,false))else(bif((decide (f<0))||(decide ((nth b.Zt f.toNat).VO>g)))then(.inl (a0,false))else(bif QM a0.Yc c then(bif(!l.2)then(.inl (a0,false))else Xh a0 a1 a2 a3 n1 (J++([l.1]:List Zm)) (U+1) m)else(bif(!n.2)then(.inl (a0,false))else Xh a0 a1 a2 a3 n1 (J++([n.1]:List Zm)) (U+1) m))))else(.inr (J,iD)))
def Qd(a0:ZF)(a1:Int)(a2:List Int)(a3:Int):ZF×Bool:=letI b:=a0.Frame;letI c:=ZS b.Methods b.Now;(bif(((((!(YG a0 a1))||(decide (c<0)))||(!(Qe a2)))||((a2.length:Int)==0))||(!(ZX a3 (-10000) 10000)))then(a0,false)else(match Xh a0 a1 a2 a3 (a2.length+1) ([]:List Zm) 0 a0.Y2 with|.inl r1=>r1|.inr (z1_0,z1_1)=>letI d:=XK (nth a0.ZA a1.toNat) c z1_0;(bif(!d.2)then(a0,false)else(ZF.mk b a0.Zd a0.Zw (a0.ZA.set a1.toNat d.1) z1_1 a0.Yc a0.Next a0.YL,true))))
def qF(a0:Int)(a1:ZN):Nat->List Int->Nat->List Int
  |0,_,_=>default
  |n1+1,J,U=>bif(decide ((U:Int)<(a1.ZG.ZM.length:Int)))then qF a0 a1 n1 (J++([JX a0 (nth a1.ZG.ZM U)]:List Int)) (U+1)else J
def kn(a0:Int)(a1:ZN):Int:=(match qF a0 a1 (a1.ZG.ZM.length+1) ([5,a1.Id,a1.XF,Yb a0 a1.Doc,Ki a0 a1.ZG.ZI]:List Int) 0 with|z1_0=>Ju a0 z1_0)
def yG(a0:Int)(a1:List ZN):Nat->List Int->Nat->List Int
  |0,_,_=>default
  |n1+1,J,U=>bif(decide ((U:Int)<(a1.length:Int)))then yG a0 a1 n1 (J++([kn a0 (nth a1 U)]:List Int)) (U+1)else J
def QW(a0:Int)(a1:List ZN):Int:=(match yG a0 a1 (a1.length+1) ([]:List Int) 0 with|z1_0=>jt a0 z1_0)
def Qp(a0:ZE)(a2:List Int):Nat->Nat->List ZN->Sum (Yl×Bool) (List ZN)
  |0,_,_=>.inr default
  |n1+1,J,U=>letI b:=ZZ a0 (nth a2 J);(bif(decide ((J:Int)<(a2.length:Int)))then(bif(decide (b<0))then(.inl (Yl.mk 0 0 ([]:List ZN) 0,false))else Qp a0 a2 n1 (J+1) (U++([nth a0.ZB b.toNat]:List ZN)))else(.inr U))
def Y6(a0:ZE)(a1:Int)(a2:List Int)(a3:Int):Yl×Bool:=letI b:=([]:List ZN);(match Qp a0 a2 (a2.length+1) 0 b with|.inl r1=>r1|.inr z1_0=>bif((a2.length:Int)==0)then(Yl.mk 0 0 b 0,false)else(Yl.mk a0.Id a1 z1_0 (QW a3 z1_0),true))
def KB(a0:Yl):Nat->Nat->Sum Bool Unit
  |0,_=>.inr ()
  |n1+1,J=>bif(decide ((J:Int)<(a0.ZB.length:Int)))then(bif(!(JS (nth a0.ZB J)))then(.inl false)else KB a0 n1 (J+1))else(.inr ())
def Qz(a0:Yl)(a1:Int):Bool:=letI b:=a0.ZB.length;(match KB a0 (b+1) 0 with|.inl r1=>r1|.inr _=>ZX (b:Int) 1 8&&(a0.QL==QW a1 a0.ZB))
def QK(a0:ZE)(a1:Yl):Nat->Nat->Int->List ZN->Sum (ZE×Bool) (Int×List ZN)
  |0,_,_,_=>.inr (default,default)
  |n1+1,J,U,iD=>letI b:=YZ (ZE.mk U iD) (nth a1.ZB J);(bif(decide ((J:Int)<(a1.ZB.length:Int)))then(bif(!b.2)then(.inl (a0,false))else QK a0 a1 n1 (J+1) b.1.Id b.1.ZB)else(.inr (U,iD)))
def XL(a0:ZE)(a1:Yl)(a2:Int):ZE×Bool:=bif((!(Qz a1 a2))||(a1.To !=a0.Id))then(a0,false)else(match QK a0 a1 (a1.ZB.length+1) 0 a0.Id a0.ZB with|.inl r1=>r1|.inr (z1_0,z1_1)=>(ZE.mk z1_0 z1_1,true))
def QG(a0:ZE)(a1:Int):ZE×Bool:=letI b:=ZZ a0 a1;(bif(decide (b<0))then(a0,false)else(ZE.mk a0.Id (a0.ZB.take b.toNat++a0.ZB.drop (W (b+1)).toNat),true))
def QY(a0 a1:ZE)(a2:List Int):Nat->Nat->Int->List ZN->Sum (ZE×ZE×Bool) (Int×List ZN)
  |0,_,_,_=>.inr (default,default)
  |n1+1,J,U,iD=>letI b:=QG (ZE.mk U iD) (nth a2 J);(bif(decide ((J:Int)<(a2.length:Int)))then(bif(!b.2)then(.inl (a0,a1,false))else QY a0 a1 a2 n1 (J+1) b.1.Id b.1.ZB)else(.inr (U,iD)))
def Y8(a0 a1:ZE)(a2:List Int)(a3:Int):ZE×ZE×Bool:=letI b:=Y6 a0 a1.Id a2 a3;letI c:=XL a1 b.1 a3;(bif((!b.2)||(!c.2))then(a0,a1,false)else(match QY a0 a1 a2 (a2.length+1) 0 a0.Id a0.ZB with|.inl r1=>r1|.inr (z1_0,z1_1)=>(ZE.mk z1_0 z1_1,c.1,true)))
def KH(a0:ZF)(a1 a2 a3:Int):ZF×Bool:=letI b:=a0.Frame;letI c:=ZS b.Methods b.Now;letI d:=Y8 (nth a0.ZA a1.toNat) (nth a0.ZA a2.toNat) ([a3]:List Int) c;(bif((((!(YG a0 a1))||(!(YG a0 a2)))||(a1==a2))||(decide (c<0)))then(a0,false)else(bif d.2.2 then(ZF.mk b a0.Zd a0.Zw ((a0.ZA.set a1.toNat d.1).set a2.toNat d.2.1) a0.Y2 a0.Yc a0.Next a0.YL,d.2.2)else(a0,d.2.2)))
def QU(a0:ZE)(a1:Int):Nat->Nat->List ZN->List ZN
  |0,_,_=>default
  |n1+1,J,U=>letI b:=nth a0.ZB J;(bif(decide ((J:Int)<(a0.ZB.length:Int)))then(bif(decide (b.XF>=a1))then QU a0 a1 n1 (J+1) (U++([b]:List ZN))else QU a0 a1 n1 (J+1) U)else U)
def K6(a0:ZE)(a1:Int):ZE×Int:=letI b:=a0.ZB.length;(match QU a0 a1 (b+1) 0 ([]:List ZN)with|z1_0=>(ZE.mk a0.Id z1_0,W ((b:Int)-(z1_0.length:Int))))
def Q8(a0:ZF)(a1:Int):ZF×Bool:=bif(!(YG a0 a1))then(a0,false)else(ZF.mk a0.Frame a0.Zd a0.Zw (a0.ZA.set a1.toNat (K6 (nth a0.ZA a1.toNat) a0.Frame.Now).1) a0.Y2 a0.Yc a0.Next a0.YL,true)
def ya(a0:List YH)(a1:Int):Nat->Nat->Sum Int Unit
  |0,_=>.inr ()
  |n1+1,J=>bif(decide ((J:Int)<(a0.length:Int)))then(bif((nth a0 J).Id==a1)then(.inl (J:Int))else ya a0 a1 n1 (J+1))else(.inr ())
def zp(a0:List YH)(a1:Int):Int:=(match ya a0 a1 (a0.length+1) 0 with|.inl r1=>r1|.inr _=>-1)
def zL(a0:List YH)(a1:Int):Int:=letI b:=zp a0 a1;(bif(decide (b>=0))then(nth a0 b.toNat).On else 0)
def YJ(a0:ZO)(a1:Int):Int:=letI b:=Z6 a0.Zt a1;(bif(decide (b<0))then 0 else zL a0.Methods (nth a0.Zt b.toNat).Method)
def Qh(a0:ZO)(a1:Int):Bool:=(decide (Z6 a0.Zt a1>=0))&&(decide (a0.Now>=YJ a0 a1))
def JM(a0:ZF)(a1 a2:Int)(a3:ZR):ZF×Bool:=letI b:=XR a0 a1 a2 a3 0 10000;letI c:=b.1;(bif(!(Qh a0.Frame a2))then(a0,false)else(bif b.2 then(ZF.mk c.Frame c.Zd c.Zw c.ZA c.Y2 c.Yc c.Next (c.YL++([a0.Next]:List Int)),b.2)else(c,b.2)))
def X6(a0:ZF):Nat->List Int->Nat->List Int
  |0,_,_=>default
  |n1+1,J,U=>letI b:=nth a0.Frame.ZC U;(bif(decide ((U:Int)<(a0.Frame.ZC.length:Int)))then(bif(QM a0.Yc b.Id||Qh a0.Frame b.Key)then X6 a0 n1 (J++([b.Id]:List Int)) (U+1)else X6 a0 n1 J (U+1))else J)
def Zs(a0:ZF):List Int:=(match X6 a0 (a0.Frame.ZC.length+1) ([]:List Int) 0 with|z1_0=>z1_0)
def XN(a0:ZF)(a1 a2:Int):Nat->Nat->List Zm->Sum (ZF×Bool) (List Zm)
  |0,_,_=>.inr default
  |n1+1,J,U=>letI b:=a0.Frame;letI c:=ZK a0 a1;letI d:=Xk b.Zt b.ZC (Zm.mk (nth (Zs a0) J) 0 a2 (Q6 (nth (nth a0.ZA c.1.toNat).ZB c.2.toNat) (ZS b.Methods b.Now)) 0);(bif(decide ((J:Int)<((Zs a0).length:Int)))then(bif(!d.2)then(.inl (a0,false))else XN a0 a1 a2 n1 (J+1) (U++([d.1]:List Zm)))else(.inr U))
def X7(a0:ZF)(a1 a2:Int):ZF×Bool:=letI b:=ZK a0 a1;letI c:=a0.Frame;letI d:=ZS c.Methods c.Now;letI e:=(Zs a0).length;letI f:=nth a0.ZA b.1.toNat;letI g:=nth f.ZB b.2.toNat;(bif((((!(QM a0.YL a1))||(decide (b.1<0)))||(decide (d<0)))||((e:Int)==0))then(a0,false)else(match XN a0 a1 a2 (e+1) 0 ([]:List Zm)with|.inl r1=>r1|.inr z1_0=>letI h:=Y9 g.ZG (Zb.mk (g.ZG.ZI.length:Int) d (Q6 g d) ([]:List X8) z1_0);(ZF.mk c a0.Zd a0.Zw (a0.ZA.set b.1.toNat (ZE.mk f.Id (f.ZB.set b.2.toNat (ZN.mk g.Id g.XF g.Doc g.Sig h.1)))) a0.Y2 a0.Yc a0.Next a0.YL,h.2)))
def KJ(a0:ZF)(a1 a2:Int):ZF×Bool:=letI b:=YP a0 a1;letI c:=nth a0.Zd b.2.1.toNat;letI d:=Qi a0 b.1 a1 (Zp.mk c.Za a2 (-1) c.Z4 0);(bif((!b.2.2)||(!(Qh a0.Frame c.Z4)))then(a0,false)else(d.1,d.2))
def YF(a0:ZF)(a1:Zx):ZF×Bool:=letI b:=a1.Kind;letI c:=a1.A;letI d:=a1.B;letI e:=Ja a0 c d a1.Doc a1.C a1.D;letI f:=Qd a0 c a1.Ids d;letI g:=KH a0 c d a1.C;letI h:=JM a0 c d a1.Doc;letI i:=X7 a0 c d;letI j:=KJ a0 c d;(bif(b==1)then((KI a0 c).1,(KI a0 c).2)else(bif(b==2)then(e.1,e.2)else(bif(b==3)then((JA a0 c).1,(JA a0 c).2)else(bif(b==4)then((QS a0 c).1,(QS a0 c).2)else(bif(b==5)then(f.1,f.2)else(bif(b==6)then(g.1,g.2)else(bif(b==7)then((Q8 a0 c).1,(Q8 a0 c).2)else(bif(b==8)then(h.1,h.2)else(bif(b==9)then(i.1,i.2)else(bif(b==10)then(j.1,j.2)else(a0,false)))))))))))
def O3(a0:ZO):ZO:=a0
def Hs(a0:ZR):ZR:=a0
def LX(a0:ZT):ZT:=a0
def Sn(a0:List ZT):Nat->List ZT->Nat->List ZT
  |0,_,_=>default
  |n1+1,J,U=>bif(decide ((U:Int)<(a0.length:Int)))then Sn a0 n1 (J++([nth a0 U]:List ZT)) (U+1)else J
def MG(a0:List ZT):List ZT:=(match Sn a0 (a0.length+1) ([]:List ZT) 0 with|z1_0=>z1_0)
def Mq(a0:Zb):Zb:=a0
def TN(a0:ZW):Nat->Nat->List Zb->List Zb
  |0,_,_=>default
  |n1+1,J,U=>bif(decide ((J:Int)<(a0.ZM.length:Int)))then TN a0 n1 (J+1) (U++([nth a0.ZM J]:List Zb))else U
def Pt(a0:ZW):ZW:=(match TN a0 (a0.ZM.length+1) 0 ([]:List Zb)with|z1_0=>ZW.mk a0.ZI z1_0)
def LF(a0:ZN):ZN:=a0
def TO(a0:ZE):Nat->Nat->List ZN->List ZN
  |0,_,_=>default
  |n1+1,J,U=>bif(decide ((J:Int)<(a0.ZB.length:Int)))then TO a0 n1 (J+1) (U++([nth a0.ZB J]:List ZN))else U
def Po(a0:ZE):ZE:=(match TO a0 (a0.ZB.length+1) 0 ([]:List ZN)with|z1_0=>ZE.mk a0.Id z1_0)
def Uy(a0:ZF):Nat->Nat->List ZE->List ZE
  |0,_,_=>default
  |n1+1,J,U=>bif(decide ((J:Int)<(a0.ZA.length:Int)))then Uy a0 n1 (J+1) (U++([nth a0.ZA J]:List ZE))else U
def Pk(a0:ZF):ZF:=(match Uy a0 (a0.ZA.length+1) 0 ([]:List ZE)with|z1_0=>ZF.mk a0.Frame a0.Zd a0.Zw z1_0 a0.Y2 a0.Yc a0.Next a0.YL)
def jr(a0:ZF)(a1:Int):ZF×Bool:=letI b:=a0.Frame;letI c:=W (b.Now+a1);(bif((!(Ye a1 0 100))||(decide (c>10000)))then(a0,false)else(ZF.mk (ZO.mk b.Zt b.ZC b.Methods b.XJ c) a0.Zd a0.Zw a0.ZA a0.Y2 a0.Yc a0.Next a0.YL,true))
def JG(a0:ZF)(a1:Int):Bool:=Ye a1 0 (W ((a0.ZA.length:Int)-1))
def y0(a0:List YH)(a1:Int):Nat->Int->Nat->Int
  |0,_,_=>default
  |n1+1,J,U=>letI b:=nth a0 U;(bif(decide ((U:Int)<(a0.length:Int)))then(bif(((decide (a1>=b.Lz))&&(decide (a1<b.Ends)))&&((decide (J<0))||(decide (b.Ends>(nth a0 J.toNat).Ends))))then y0 a0 a1 n1 (U:Int) (U+1)else y0 a0 a1 n1 J (U+1))else J)
def Zo(a0:List YH)(a1:Int):Int:=(match y0 a0 a1 (a0.length+1) (-1) 0 with|z1_0=>bif(decide (z1_0<0))then(-1)else(nth a0 z1_0.toNat).Id)
def KL(a0:ZF)(a1:Int):Nat->Nat->Sum Int Unit
  |0,_=>.inr ()
  |n1+1,J=>bif(decide ((J:Int)<(a0.Zd.length:Int)))then(bif((nth a0.Zd J).Key==a1)then(.inl (J:Int))else KL a0 a1 n1 (J+1))else(.inr ())
def Xt(a0:ZF)(a1:Int):Int:=(match KL a0 a1 (a0.Zd.length+1) 0 with|.inl r1=>r1|.inr _=>-1)
def Ku(a0:Int)(a1:List Int):Int:=Ma (([7,a0]:List Int)++a1)
def qc(a1:ByteArray):Nat->List Int->Nat->List Int
  |0,_,_=>default
  |n1+1,J,U=>bif(decide ((U:Int)<(a1.size:Int)))then qc a1 n1 (J++([W ((bAt a1 U):Int)]:List Int)) (U+1)else J
def kg(a0:Int)(a1:ByteArray)(a2:Int):Int:=(match qc a1 (a1.size+1) ([a2]:List Int) 0 with|z1_0=>Ku a0 z1_0)
def jQ(a0:Int)(a1:ZR):Nat->List Int->Nat->List Int
  |0,_,_=>default
  |n1+1,J,U=>bif(decide ((U:Int)<(a1.Xw.length:Int)))then jQ a0 a1 n1 (J++([kg a0 (nth a1.Xw U) (nth a1.KZ U)]:List Int)) (U+1)else J
def JN(a0:Int)(a1:ZR):Int:=bif(!(K7 a1))then(-1)else(match jQ a0 a1 (a1.Xw.length+1) ([a1.UN]:List Int) 0 with|z1_0=>Ku a0 z1_0)
def jS(a0:Zl):Bool:=((((((Ye a0.Key 1 99&&Ye a0.Za 1 999)&&Ye a0.Method 0 99)&&Ye a0.Org 0 99)&&Ye a0.Ub 1 3)&&Ye a0.QL 0 1000000000000)&&Ye a0.V6 0 1000000000000)&&Ye a0.UZ 0 1000000000000
def Qx(a0:Zl):List Int:=([104,a0.Key,a0.Za,a0.Method,a0.QL,a0.Ub,a0.Org,a0.V6,a0.UZ]:List Int)
def K5(a0:List Y4)(a1:Zl):Zl×Bool:=letI b:=Yk a0 a1.Key;(bif((!(jS a1))||(decide (b<0)))then(Zl.mk 0 0 0 0 0 0 0 0 0,false)else(Zl.mk a1.Key a1.Za a1.Method a1.QL a1.Ub a1.Org a1.V6 a1.UZ (qH (nth a0 b.toNat) (Qx a1)),true))
def xC(a0:Zl):ZT:=ZT.mk a0.Key (Qx a0) a0.Mark
def kB(a0:YN):ZT:=ZT.mk a0.Z4 (yL a0) a0.Mark
def QI(a0:ZF)(a1:Int)(a2:ZR)(a3 a4:Int):ZN×Bool:=letI b:=a0.Frame;letI c:=Zo b.Methods b.Now;letI d:=Xt a0 a1;letI e:=([]:List Zb);letI f:=nth a0.Zd d.toNat;letI g:=K5 b.Zt (Zl.mk a1 f.Za c (JN c a2) 1 a3 0 0 0);(bif((decide (c<0))||(decide (d<0)))then(ZN.mk 0 0 (ZR.mk 0 ([]:List ByteArray) ([]:List Int)) (Zl.mk 0 0 0 0 0 0 0 0 0) (ZW.mk ([]:List ZT) e),false)else(ZN.mk a0.Next a4 a2 g.1 (ZW.mk ([xC g.1,kB f]:List ZT) e),g.2))
def WX(a0 a1:List Int):Nat->Nat->Sum Bool Unit
  |0,_=>.inr ()
  |n1+1,J=>bif(decide ((J:Int)<(a0.length:Int)))then(bif(nth a0 J !=nth a1 J)then(.inl false)else WX a0 a1 n1 (J+1))else(.inr ())
def TP(a0 a1:List Int):Bool:=bif((a0.length:Int)!=(a1.length:Int))then false else(match WX a0 a1 (a0.length+1) 0 with|.inl r1=>r1|.inr _=>true)
def xk(a0 a1:ZT):Bool:=((a0.Key==a1.Key)&&(a0.Mark==a1.Mark))&&TP a0.YM a1.YM
def xi(a0:ZW)(a1:ZT):Nat->Nat->Sum Int Unit
  |0,_=>.inr ()
  |n1+1,J=>bif(decide ((J:Int)<(a0.ZI.length:Int)))then(bif xk (nth a0.ZI J) a1 then(.inl (J:Int))else xi a0 a1 n1 (J+1))else(.inr ())
def qL(a0:ZW)(a1:ZT):Int:=(match xi a0 a1 (a0.ZI.length+1) 0 with|.inl r1=>r1|.inr _=>-1)
def qp(a0:ZW):Nat->Nat->Sum Bool Unit
  |0,_=>.inr ()
  |n2+1,iF=>letI b:=(nth a0.ZM iF).Count;(bif(decide ((iF:Int)<(a0.ZM.length:Int)))then(bif((!(Ye b 1 (a0.ZI.length:Int)))||((decide ((iF:Int)>0))&&(decide ((nth a0.ZM (iF-1)).Count>b))))then(.inl false)else qp a0 n2 (iF+1))else(.inr ()))
def qz(a0:ZW):Nat->Nat->Sum Bool Unit
  |0,_=>.inr ()
  |n1+1,J=>bif(decide ((J:Int)<(a0.ZI.length:Int)))then(bif(decide (qL a0 (nth a0.ZI J)<(J:Int)))then(.inl false)else qz a0 n1 (J+1))else(.inr ())
def xa(a0:ZW):Bool:=letI b:=a0.ZI.length;letI c:=a0.ZM.length;(match qz a0 (b+1) 0 with|.inl r1=>r1|.inr _=>(match qp a0 (c+1) 0 with|.inl r2=>r2|.inr _=>Ye (b:Int) 1 12&&(decide ((c:Int)<=8))))
def T3(a0:ZN):Bool:=(((Ye a0.Id 1 999&&W2 a0.XF)&&K7 a0.Doc)&&xa a0.ZG)&&xk (nth a0.ZG.ZI 0) (xC a0.Sig)
def jO(a0:ZE):Nat->Nat->Sum Bool Unit
  |0,_=>.inr ()
  |n1+1,J=>letI b:=nth a0.ZB J;(bif(decide ((J:Int)<(a0.ZB.length:Int)))then(bif((!(T3 b))||((decide ((J:Int)>0))&&(decide ((nth a0.ZB (J-1)).Id>=b.Id))))then(.inl false)else jO a0 n1 (J+1))else(.inr ()))
def Jf(a0:ZE):Bool:=letI b:=a0.ZB.length;(match jO a0 (b+1) 0 with|.inl r1=>r1|.inr _=>Ye a0.Id 0 99&&(decide ((b:Int)<=8)))
def qv(a0:ZE)(a1:Int):Nat->Nat->Sum Int Unit
  |0,_=>.inr ()
  |n1+1,J=>bif(decide ((J:Int)<(a0.ZB.length:Int)))then(bif((nth a0.ZB J).Id==a1)then(.inl (J:Int))else qv a0 a1 n1 (J+1))else(.inr ())
def Yz(a0:ZE)(a1:Int):Int:=(match qv a0 a1 (a0.ZB.length+1) 0 with|.inl r1=>r1|.inr _=>-1)
def Qq(a0:ZE)(a1:ZN):Nat->Bool->Nat->List ZN->Bool×List ZN
  |0,_,_,_=>(default,default)
  |n1+1,J,U,iD=>letI b:=nth a0.ZB U;letI c:=([b]:List ZN);(bif(decide ((U:Int)<(a0.ZB.length:Int)))then(bif((!J)&&(decide (a1.Id<b.Id)))then Qq a0 a1 n1 true (U+1) ((iD++([a1]:List ZN))++c)else Qq a0 a1 n1 J (U+1) (iD++c))else(J,iD))
def JO(a0:ZE)(a1:ZN):ZE×Bool:=letI b:=(a0,false);(bif((!(Jf a0))||(decide (Yz a0 a1.Id>=0)))then b else(match Qq a0 a1 (a0.ZB.length+1) false 0 ([]:List ZN)with|(z1_0,z1_1)=>letI c:=ZE.mk a0.Id (z1_1++([a1]:List ZN));letI d:=ZE.mk a0.Id z1_1;(bif(!z1_0)then(bif(!(Jf c))then b else(c,true))else(bif(!(Jf d))then b else(d,true)))))
def jm(a0:ZF)(a1 a2:Int)(a3:ZR)(a4 a5:Int):ZF×Bool:=letI b:=a0.Frame;letI c:=Yk b.Zt a2;letI d:=(a0,false);letI e:=QI a0 a2 a3 a4 a5;letI f:=JO (nth a0.ZA a1.toNat) e.1;(bif(((!(JG a0 a1))||(decide (c<0)))||(decide ((nth b.Zt c.toNat).VO>b.Now)))then d else(bif(!e.2)then d else(bif(!f.2)then d else(ZF.mk b a0.Zd a0.Zw (a0.ZA.set a1.toNat f.1) a0.Y2 a0.Yc (W (a0.Next+1)) a0.YL,true))))
def js(a0:ZF)(a1:Int):Nat->Nat->Sum (Int×Int) Unit
  |0,_=>.inr ()
  |n1+1,J=>letI b:=Yz (nth a0.ZA J) a1;(bif(decide ((J:Int)<(a0.ZA.length:Int)))then(bif(decide (b>=0))then(.inl ((J:Int),b))else js a0 a1 n1 (J+1))else(.inr ()))
def ZH(a0:ZF)(a1:Int):Int×Int:=(match js a0 a1 (a0.ZA.length+1) 0 with|.inl r1=>r1|.inr _=>(-1,-1))
def Qy(a0:ZT):Int:=letI b:=(a0.YM.length:Int);letI c:=nth a0.YM 0;(bif((b==0)||(!(Ye c 101 105)))then 0 else(bif(b !=nth ([7,5,5,9,6]:List Int) (W (c-101)).toNat)then 0 else c))
def Zg(a0:ZT):YN×Bool:=letI b:=a0.YM;(bif((Qy a0 !=101)||(nth b 6 !=a0.Key))then(YN.mk 0 0 0 0 0 0 0,false)else(YN.mk (nth b 1) (nth b 2) (nth b 3) (nth b 4) (nth b 5) (nth b 6) a0.Mark,true))
def ql(a0:List YN)(a1:Int):Nat->Nat->Sum Int Unit
  |0,_=>.inr ()
  |n1+1,J=>bif(decide ((J:Int)<(a0.length:Int)))then(bif((nth a0 J).Za==a1)then(.inl (J:Int))else ql a0 a1 n1 (J+1))else(.inr ())
def YA(a0:List YN)(a1:Int):Int:=(match ql a0 a1 (a0.length+1) 0 with|.inl r1=>r1|.inr _=>-1)
def Un(a0:Zp):Bool:=((Ye a0.Za 1 999&&W2 a0.xw)&&Ye a0.Zw (-1) (W (a0.xw+1)))&&Ye a0.Z4 1 99
def KQ(a0:Zp):List Int:=([102,a0.Za,a0.xw,a0.Zw,a0.Z4]:List Int)
def Yv(a0:List Y4)(a1:Zp):Zp×Bool:=letI b:=Yk a0 a1.Z4;(bif((!(Un a1))||(decide (b<0)))then(Zp.mk 0 0 0 0 0,false)else(Zp.mk a1.Za a1.xw a1.Zw a1.Z4 (qH (nth a0 b.toNat) (KQ a1)),true))
def XS(a0:Zp):ZT:=ZT.mk a0.Z4 (KQ a0) a0.Mark
def xH(a0:ZW)(a1:ZT):ZW×Bool:=letI b:=ZW.mk (a0.ZI++([a1]:List ZT)) a0.ZM;(bif(!(xa b))then(a0,false)else(b,true))
def QN(a0:ZE)(a1:Int)(a2:ZT):ZE×Bool:=letI b:=Yz a0 a1;letI c:=nth a0.ZB b.toNat;letI d:=xH c.ZG a2;(bif(decide (b<0))then(a0,false)else(ZE.mk a0.Id (a0.ZB.set b.toNat (ZN.mk c.Id c.XF c.Doc c.Sig d.1)),d.2))
def xP(a0:ZF)(a1:Int):ZF×Bool:=letI b:=ZH a0 a1;letI c:=b.1.toNat;letI d:=nth a0.ZA c;letI e:=(nth d.ZB b.2.toNat).ZG.ZI;letI f:=(a0,false);letI g:=Zg (nth e 1);letI h:=a0.Zd;letI i:=YA h g.1.Za;letI j:=a0.Zw;letI k:=nth j i.toNat;letI l:=a0.Frame;letI m:=l.Now;letI n:=(nth h i.toNat).Z4;letI o:=Yv l.Zt (Zp.mk g.1.Za m k n 0);letI p:=decide ((nth l.Zt (Yk l.Zt n).toNat).VO>m);letI q:=QN d a1 (XS o.1);letI r:=Yv l.Zt (Zp.mk g.1.Za m (-1) n 0);letI s:=QN d a1 (XS r.1);(bif((decide (b.1<0))||(decide ((e.length:Int)<2)))then f else(bif(((!g.2)||(decide (i<0)))||(decide (i>=(j.length:Int))))then f else(bif(decide (k<=W (m+1)))then(bif((!o.2)||p)then f else(ZF.mk l h j (a0.ZA.set c q.1) a0.Y2 a0.Yc a0.Next a0.YL,q.2))else(bif((!r.2)||p)then f else(ZF.mk l h j (a0.ZA.set c s.1) a0.Y2 a0.Yc a0.Next a0.YL,s.2)))))
def xL(a0:ZF)(a1:Int):ZF×Bool:=bif((!(Ye a1 0 (W ((a0.Zw.length:Int)-1))))||(nth a0.Zw a1.toNat !=(-1)))then(a0,false)else(ZF.mk a0.Frame a0.Zd (a0.Zw.set a1.toNat (W (a0.Frame.Now+1))) a0.ZA a0.Y2 a0.Yc a0.Next a0.YL,true)
def Km(a0:List Zi)(a1:Int):Nat->Nat->Sum Int Unit
  |0,_=>.inr ()
  |n1+1,J=>bif(decide ((J:Int)<(a0.length:Int)))then(bif((nth a0 J).Id==a1)then(.inl (J:Int))else Km a0 a1 n1 (J+1))else(.inr ())
def Zj(a0:List Zi)(a1:Int):Int:=(match Km a0 a1 (a0.length+1) 0 with|.inl r1=>r1|.inr _=>-1)
def jo(a0:ZF)(a1:List Int):Nat->Nat->Sum Bool Unit
  |0,_=>.inr ()
  |n1+1,J=>letI b:=a0.Frame;letI c:=nth a1 J;letI d:=Zj b.ZC c;letI e:=Yk b.Zt (nth b.ZC d.toNat).Key;(bif(decide ((J:Int)<(a1.length:Int)))then(bif(((decide (d<0))||(decide (d>=(a0.Y2.length:Int))))||((decide ((J:Int)>0))&&(decide (nth a1 (J-1)>=c))))then(.inl false)else(bif((decide (e<0))||(decide ((nth b.Zt e.toNat).VO>b.Now)))then(.inl false)else jo a0 a1 n1 (J+1)))else(.inr ()))
def yB(a0:ZF)(a1:List Int):Bool:=(match jo a0 a1 (a1.length+1) 0 with|.inl r1=>r1|.inr _=>(decide ((a1.length:Int)>0)))
def Kh(a0:ZW)(a1:ZR):Nat->List Int->Nat->List Int
  |0,_,_=>default
  |n1+1,J,U=>bif(decide ((U:Int)<(a0.ZM.length:Int)))then Kh a0 a1 n1 (J++([JN (nth a0.ZM U).Method a1]:List Int)) (U+1)else J
def JW(a0:ZW)(a1:ZR):List Int:=(match Kh a0 a1 (a0.ZM.length+1) ([]:List Int) 0 with|z1_0=>z1_0)
def zH(a0:Zm):List Int:=([103,a0.Authority,a0.Seq,a0.Time,a0.QL]:List Int)
def yC(a1:Zb):Nat->List Int->Nat->List Int
  |0,_,_=>default
  |n2+1,iF,iI=>letI b:=nth a1.YW iI;(bif(decide ((iI:Int)<(a1.YW.length:Int)))then yC a1 n2 ((iF++zH b)++([b.Mark]:List Int)) (iI+1)else iF)
def Kk(a1:Zb):Nat->List Int->Nat->List Int
  |0,_,_=>default
  |n1+1,J,U=>letI b:=nth a1.Path U;letI c:=J++([b.QL]:List Int);(bif(decide ((U:Int)<(a1.Path.length:Int)))then(bif b.Left then Kk a1 n1 (c++([1]:List Int)) (U+1)else Kk a1 n1 (c++([0]:List Int)) (U+1))else J)
def Kq(a0:Int)(a1:Zb):Int:=letI b:=a1.YW.length;(match Kk a1 (a1.Path.length+1) ([4,a1.Count,a1.Method,a1.BQ]:List Int) 0 with|z1_0=>(match yC a1 (b+1) (z1_0++([(b:Int)]:List Int)) 0 with|gp=>Ku a0 gp))
def yu(a0:Int)(a1:List ZT):Nat->List Int->Nat->List Int
  |0,_,_=>default
  |n1+1,J,U=>letI b:=nth a1 U;(bif(decide ((U:Int)<(a1.length:Int)))then yu a0 a1 n1 (J++([Ku a0 (([b.Key,b.Mark]:List Int)++b.YM)]:List Int)) (U+1)else J)
def Kg(a0:Int)(a1:List ZT):Int:=(match yu a0 a1 (a1.length+1) ([2]:List Int) 0 with|z1_0=>Ku a0 z1_0)
def SL(a0 a1:Int)(a2:List ZT)(a3:Int):Int:=Ku a0 ([3,a1,Kg a0 a2,a3]:List Int)
def W0(a0:ZW)(a1:List Int)(a2:Int):Int:=letI b:=(a0.ZM.length:Int);letI c:=nth a0.ZM a2.toNat;letI d:=c.Method;letI e:=nth a1 a2.toNat;letI f:=a0.ZI.take c.Count.toNat;(bif(((!(Ye a2 0 (W (b-1))))||((a1.length:Int)!=b))||(!(Ye c.Count 0 (a0.ZI.length:Int))))then(-1)else(bif(decide (a2>0))then SL d e f (Kq d (nth a0.ZM (W (a2-1)).toNat))else SL d e f 0))
def KR(a0:ZE)(a1:Int):Nat->List Int->Nat->List Int
  |0,_,_=>default
  |n1+1,J,U=>letI b:=nth a0.ZB U;letI c:=b.ZG.ZM++([Zb.mk (b.ZG.ZI.length:Int) a1 0 ([]:List X8) ([]:List Zm)]:List Zb);letI d:=ZW.mk b.ZG.ZI c;(bif(decide ((U:Int)<(a0.ZB.length:Int)))then KR a0 a1 n1 (J++([W0 d (JW d b.Doc) (W ((c.length:Int)-1))]:List Int)) (U+1)else J)
def YS(a0:ZE)(a1:Int):List Int:=(match KR a0 a1 (a0.ZB.length+1) ([]:List Int) 0 with|z1_0=>z1_0)
def ko(a0 a1 a2:Int):Int:=Ku a0 ([1,a1,a2]:List Int)
def kG(a0:Int)(a1:List Int):Nat->List Int->Nat->List Int
  |0,_,_=>default
  |n1+1,J,U=>letI b:=(a1.length:Int);letI c:=W ((U:Int)+1);letI d:=nth a1 U;(bif(decide ((U:Int)<b))then(bif(decide (c<b))then kG a0 a1 n1 (J++([ko a0 d (nth a1 c.toNat)]:List Int)) (U+2)else kG a0 a1 n1 (J++([d]:List Int)) (U+2))else J)
def Wa(a0:Int)(a1:List Int):List Int:=(match kG a0 a1 (a1.length+1) ([]:List Int) 0 with|z1_0=>z1_0)
def kc(a0:Int):Nat->List Int->List Int
  |0,_=>default
  |n1+1,J=>bif(decide ((J.length:Int)>1))then kc a0 n1 (Wa a0 J)else J
def Kt(a0:Int)(a1:List Int):Int:=bif(!(Ye (a1.length:Int) 1 16))then(-1)else(match kc a0 (a1.length+1) a1 with|z1_0=>nth z1_0 0)
def yx(a0:ZE)(a1:Int):Int:=Kt a1 (YS a0 a1)
def Pd(a0:List Int)(a1:Int):Nat->Nat->Sum Bool Unit
  |0,_=>.inr ()
  |n1+1,J=>bif(decide ((J:Int)<(a0.length:Int)))then(bif(nth a0 J==a1)then(.inl true)else Pd a0 a1 n1 (J+1))else(.inr ())
def Pv(a0:List Int)(a1:Int):Bool:=(match Pd a0 a1 (a0.length+1) 0 with|.inl r1=>r1|.inr _=>false)
def Kd(a0:List Y4)(a1:List Zi)(a2:Zm):Zm×Bool:=letI b:=a2.Authority;letI c:=(Zm.mk 0 0 0 0 0,false);letI d:=Yk a0 (nth a1 (Zj a1 b).toNat).Key;(bif(((decide (Zj a1 b<0))||(decide (a2.Seq<0)))||(!(W2 a2.Time)))then c else(bif(decide (d<0))then c else(Zm.mk b a2.Seq a2.Time a2.QL (qH (nth a0 d.toNat) (zH a2)),true)))
def Ky(a0:Int):Nat->Int->List X8->List Int->List X8
  |0,_,_,_=>default
  |n1+1,J,U,iD=>letI b:=(iD.length:Int);letI c:=W (Int.tdiv J 2);letI d:=Wa a0 iD;letI e:=W (J+1);(bif(decide (b>1))then(bif(Int.tmod J 2==1)then Ky a0 n1 c (U++([X8.mk (nth iD (W (J-1)).toNat) true]:List X8)) d else(bif(decide (e<b))then Ky a0 n1 c (U++([X8.mk (nth iD e.toNat) false]:List X8)) d else Ky a0 n1 c U d))else U)
def za(a0:Int)(a1:List Int)(a2:Int):List X8:=letI b:=(a1.length:Int);letI c:=([]:List X8);(bif((decide (b>16))||(!(Ye a2 0 (W (b-1)))))then c else(match Ky a0 (a1.length+1) a2 c a1 with|z1_0=>z1_0))
def JD(a0:ZW)(a1:Zb):ZW×Bool:=letI b:=ZW.mk a0.ZI (a0.ZM++([a1]:List Zb));(bif(!(xa b))then(a0,false)else(b,true))
def J7(a0:ZE)(a1:Int)(a2:List Zm):Nat->Bool->Nat->List ZN->Bool×List ZN
  |0,_,_,_=>(default,default)
  |n1+1,J,U,iD=>letI b:=(nth a0.ZB U).ZG;letI c:=YS a0 a1;letI d:=JD b (Zb.mk (b.ZI.length:Int) a1 (Kt a1 c) (za a1 c (U:Int)) a2);letI e:=nth iD U;(bif((decide ((U:Int)<(a0.ZB.length:Int)))&&J)then J7 a0 a1 a2 n1 d.2 (U+1) (iD.set U (ZN.mk e.Id e.XF e.Doc e.Sig d.1))else(J,iD))
def Qv(a0:ZE)(a1:Int)(a2:List Zm):ZE×Bool:=letI b:=a0.ZB.length;(match J7 a0 a1 a2 (b+1) (Jf a0&&(decide ((b:Int)>0))) 0 a0.ZB with|(z1_0,z1_1)=>letI c:=ZE.mk a0.Id z1_1;(bif((!z1_0)||(!(Jf c)))then(a0,false)else(c,true)))
def jN(a0:ZF)(a2:List Int):Nat->Nat->List Int->List Int
  |0,_,_=>default
  |n2+1,iF,iI=>letI b:=(Zj a0.Frame.ZC (nth a2 iF)).toNat;(bif(decide ((iF:Int)<(a2.length:Int)))then jN a0 a2 n2 (iF+1) (iI.set b (W (nth a0.Y2 b+1)))else iI)
def yS(a0:ZF)(a1:Int)(a2:List Int)(a3:Int):Nat->List Zm->Nat->Sum (ZF×Bool) (List Zm)
  |0,_,_=>.inr default
  |n1+1,J,U=>letI b:=nth a2 U;letI c:=a0.Frame;letI d:=nth a0.Y2 (Zj c.ZC b).toNat;letI e:=yx (nth a0.ZA a1.toNat) (Zo c.Methods c.Now);letI f:=Kd c.Zt c.ZC (Zm.mk b d (W3 10000 (qB 0 (W (c.Now+a3)))) e 0);letI g:=Kd c.Zt c.ZC (Zm.mk b d c.Now e 0);(bif(decide ((U:Int)<(a2.length:Int)))then(bif Pv a0.Yc b then(bif(!f.2)then(.inl (a0,false))else yS a0 a1 a2 a3 n1 (J++([f.1]:List Zm)) (U+1))else(bif(!g.2)then(.inl (a0,false))else yS a0 a1 a2 a3 n1 (J++([g.1]:List Zm)) (U+1)))else(.inr J))
def qY(a0:ZF)(a1:Int)(a2:List Int)(a3:Int):ZF×Bool:=letI b:=a0.Frame;letI c:=Zo b.Methods b.Now;letI d:=a2.length+1;(bif((((!(JG a0 a1))||(decide (c<0)))||(!(yB a0 a2)))||(!(Ye a3 (-10000) 10000)))then(a0,false)else(match yS a0 a1 a2 a3 d ([]:List Zm) 0 with|.inl r1=>r1|.inr z1_0=>letI e:=Qv (nth a0.ZA a1.toNat) c z1_0;(bif(!e.2)then(a0,false)else(match jN a0 a2 d 0 a0.Y2 with|gp=>(ZF.mk b a0.Zd a0.Zw (a0.ZA.set a1.toNat e.1) gp a0.Yc a0.Next a0.YL,true)))))
def qI(a0:Int)(a1:ZN):Nat->List Int->Nat->List Int
  |0,_,_=>default
  |n1+1,J,U=>bif(decide ((U:Int)<(a1.ZG.ZM.length:Int)))then qI a0 a1 n1 (J++([Kq a0 (nth a1.ZG.ZM U)]:List Int)) (U+1)else J
def kQ(a0:Int)(a1:ZN):Int:=(match qI a0 a1 (a1.ZG.ZM.length+1) ([5,a1.Id,a1.XF,JN a0 a1.Doc,Kg a0 a1.ZG.ZI]:List Int) 0 with|z1_0=>Ku a0 z1_0)
def Wr(a0:Int)(a1:List ZN):Nat->List Int->Nat->List Int
  |0,_,_=>default
  |n1+1,J,U=>bif(decide ((U:Int)<(a1.length:Int)))then Wr a0 a1 n1 (J++([kQ a0 (nth a1 U)]:List Int)) (U+1)else J
def Vx(a0:Int)(a1:List ZN):Int:=(match Wr a0 a1 (a1.length+1) ([]:List Int) 0 with|z1_0=>Kt a0 z1_0)
def J2(a0:ZE)(a2:List Int):Nat->Nat->List ZN->Sum (Yl×Bool) (List ZN)
  |0,_,_=>.inr default
  |n1+1,J,U=>letI b:=Yz a0 (nth a2 J);(bif(decide ((J:Int)<(a2.length:Int)))then(bif(decide (b<0))then(.inl (Yl.mk 0 0 ([]:List ZN) 0,false))else J2 a0 a2 n1 (J+1) (U++([nth a0.ZB b.toNat]:List ZN)))else(.inr U))
def X3(a0:ZE)(a1:Int)(a2:List Int)(a3:Int):Yl×Bool:=letI b:=([]:List ZN);(match J2 a0 a2 (a2.length+1) 0 b with|.inl r1=>r1|.inr z1_0=>bif((a2.length:Int)==0)then(Yl.mk 0 0 b 0,false)else(Yl.mk a0.Id a1 z1_0 (Vx a3 z1_0),true))
def KC(a0:Yl):Nat->Nat->Sum Bool Unit
  |0,_=>.inr ()
  |n1+1,J=>bif(decide ((J:Int)<(a0.ZB.length:Int)))then(bif(!(T3 (nth a0.ZB J)))then(.inl false)else KC a0 n1 (J+1))else(.inr ())
def zG(a0:Yl)(a1:Int):Bool:=letI b:=a0.ZB.length;(match KC a0 (b+1) 0 with|.inl r1=>r1|.inr _=>Ye (b:Int) 1 8&&(a0.QL==Vx a1 a0.ZB))
def Jk(a1:Yl):Nat->Bool->Nat->Int->List ZN->Bool×Int×List ZN
  |0,_,_,_,_=>(default,default,default)
  |n1+1,J,U,iD,iG=>letI b:=JO (ZE.mk iD iG) (nth a1.ZB U);(bif((decide ((U:Int)<(a1.ZB.length:Int)))&&J)then Jk a1 n1 b.2 (U+1) b.1.Id b.1.ZB else(J,iD,iG))
def Qo(a0:ZE)(a1:Yl)(a2:Int):ZE×Bool:=(match Jk a1 (a1.ZB.length+1) (zG a1 a2&&(a1.To==a0.Id)) 0 a0.Id a0.ZB with|(z1_0,z1_1,z1_2)=>bif(!z1_0)then(a0,false)else(ZE.mk z1_1 z1_2,true))
def Kw(a0:ZE)(a1:Int):Nat->Nat->List ZN->List ZN
  |0,_,_=>default
  |n1+1,J,U=>bif(decide ((J:Int)<(a0.ZB.length:Int)))then(bif((J:Int)!=Yz a0 a1)then Kw a0 a1 n1 (J+1) (U++([nth a0.ZB J]:List ZN))else Kw a0 a1 n1 (J+1) U)else U
def yK(a0:ZE)(a1:Int):ZE×Bool:=bif(decide (Yz a0 a1<0))then(a0,false)else(match Kw a0 a1 (a0.ZB.length+1) 0 ([]:List ZN)with|z1_0=>(ZE.mk a0.Id z1_0,true))
def zC(a0 a1:ZE)(a2:List Int)(a3:Int):Nat->Bool->Nat->Int->List ZN->Bool×Int×List ZN
  |0,_,_,_,_=>(default,default,default)
  |n1+1,J,U,iD,iG=>letI b:=yK (ZE.mk iD iG) (nth a2 U);(bif(((decide ((U:Int)<(a2.length:Int)))&&(X3 a0 a1.Id a2 a3).2)&&J)then zC a0 a1 a2 a3 n1 b.2 (U+1) b.1.Id b.1.ZB else(J,iD,iG))
def KA(a0 a1:ZE)(a2:List Int)(a3:Int):ZE×ZE×Bool:=letI b:=X3 a0 a1.Id a2 a3;letI c:=Qo a1 b.1 a3;(match zC a0 a1 a2 a3 (a2.length+1) c.2 0 a0.Id a0.ZB with|(z1_0,z1_1,z1_2)=>bif((!b.2)||(!z1_0))then(a0,a1,false)else(ZE.mk z1_1 z1_2,c.1,true))
def jg(a0:ZF)(a1 a2 a3:Int):ZF×Bool:=letI b:=a0.Frame;letI c:=Zo b.Methods b.Now;letI d:=KA (nth a0.ZA a1.toNat) (nth a0.ZA a2.toNat) ([a3]:List Int) c;(bif((((!(JG a0 a1))||(!(JG a0 a2)))||(a1==a2))||(decide (c<0)))then(a0,false)else(ZF.mk b a0.Zd a0.Zw ((a0.ZA.set a1.toNat d.1).set a2.toNat d.2.1) a0.Y2 a0.Yc a0.Next a0.YL,d.2.2))
def yp(a0:ZE)(a1:Int):Nat->Int->Nat->List ZN->Int×List ZN
  |0,_,_,_=>(default,default)
  |n1+1,J,U,iD=>letI b:=nth a0.ZB U;(bif(decide ((U:Int)<(a0.ZB.length:Int)))then(bif(decide (b.XF<a1))then yp a0 a1 n1 (W (J+1)) (U+1) iD else yp a0 a1 n1 J (U+1) (iD++([b]:List ZN)))else(J,iD))
def qx(a0:ZE)(a1:Int):ZE×Int:=(match yp a0 a1 (a0.ZB.length+1) 0 0 ([]:List ZN)with|(z1_0,z1_1)=>(ZE.mk a0.Id z1_1,z1_0))
def xO(a0:ZF)(a1:Int):ZF×Bool:=bif(!(JG a0 a1))then(a0,false)else(ZF.mk a0.Frame a0.Zd a0.Zw (a0.ZA.set a1.toNat (qx (nth a0.ZA a1.toNat) a0.Frame.Now).1) a0.Y2 a0.Yc a0.Next a0.YL,true)
def yl(a0:List YH)(a1:Int):Nat->Nat->Sum Int Unit
  |0,_=>.inr ()
  |n1+1,J=>bif(decide ((J:Int)<(a0.length:Int)))then(bif((nth a0 J).Id==a1)then(.inl (J:Int))else yl a0 a1 n1 (J+1))else(.inr ())
def z6(a0:List YH)(a1:Int):Int:=(match yl a0 a1 (a0.length+1) 0 with|.inl r1=>r1|.inr _=>-1)
def SG(a0:List YH)(a1:Int):Int:=letI b:=z6 a0 a1;(bif(decide (b<0))then 0 else(nth a0 b.toNat).On)
def jk(a0:ZO)(a1:Int):Bool:=letI b:=Yk a0.Zt a1;((decide (b>=0))&&(decide (a0.Now>=SG a0.Methods (nth a0.Zt b.toNat).Method)))
def qK(a0:ZF)(a1 a2:Int)(a3:ZR):ZF×Bool:=letI b:=(a0,false);letI c:=QI a0 a2 a3 0 10000;letI d:=JO (nth a0.ZA a1.toNat) c.1;(bif((!(JG a0 a1))||(!(jk a0.Frame a2)))then b else(bif(!c.2)then b else(bif(!d.2)then b else(ZF.mk a0.Frame a0.Zd a0.Zw (a0.ZA.set a1.toNat d.1) a0.Y2 a0.Yc (W (a0.Next+1)) (a0.YL++([a0.Next]:List Int)),true))))
def Qn(a0:ZF):Nat->List Int->Nat->List Int
  |0,_,_=>default
  |n1+1,J,U=>letI b:=nth a0.Frame.ZC U;(bif(decide ((U:Int)<(a0.Frame.ZC.length:Int)))then(bif(Pv a0.Yc b.Id||jk a0.Frame b.Key)then Qn a0 n1 (J++([b.Id]:List Int)) (U+1)else Qn a0 n1 J (U+1))else J)
def Yw(a0:ZF):List Int:=(match Qn a0 (a0.Frame.ZC.length+1) ([]:List Int) 0 with|z1_0=>z1_0)
def yz(a0:ZF)(a1 a2:Int):Nat->Nat->List Zm->Sum (ZF×Bool) (List Zm)
  |0,_,_=>.inr default
  |n1+1,J,U=>letI b:=a0.Frame;letI c:=ZH a0 a1;letI d:=Kd b.Zt b.ZC (Zm.mk (nth (Yw a0) J) 0 a2 (nth (YS (nth a0.ZA c.1.toNat) (Zo b.Methods b.Now)) c.2.toNat) 0);(bif(decide ((J:Int)<((Yw a0).length:Int)))then(bif(!d.2)then(.inl (a0,false))else yz a0 a1 a2 n1 (J+1) (U++([d.1]:List Zm)))else(.inr U))
def zW(a0:ZF)(a1 a2:Int):ZF×Bool:=letI b:=ZH a0 a1;letI c:=a0.Frame;letI d:=Zo c.Methods c.Now;letI e:=(Yw a0).length;letI f:=nth a0.ZA b.1.toNat;letI g:=b.2.toNat;letI h:=nth f.ZB g;(bif((((decide (b.1<0))||(decide (d<0)))||(!(Pv a0.YL a1)))||((e:Int)==0))then(a0,false)else(match yz a0 a1 a2 (e+1) 0 ([]:List Zm)with|.inl r1=>r1|.inr z1_0=>letI i:=JD h.ZG (Zb.mk (h.ZG.ZI.length:Int) d (nth (YS f d) g) ([]:List X8) z1_0);(ZF.mk c a0.Zd a0.Zw (a0.ZA.set b.1.toNat (ZE.mk f.Id (f.ZB.set g (ZN.mk h.Id h.XF h.Doc h.Sig i.1)))) a0.Y2 a0.Yc a0.Next a0.YL,i.2)))
def jh(a0:ZF)(a1 a2:Int):ZF×Bool:=letI b:=ZH a0 a1;letI c:=nth a0.ZA b.1.toNat;letI d:=(nth c.ZB b.2.toNat).ZG.ZI;letI e:=(a0,false);letI f:=Zg (nth d 1);letI g:=YA a0.Zd f.1.Za;letI h:=a0.Frame;letI i:=(nth a0.Zd g.toNat).Z4;letI j:=Yv h.Zt (Zp.mk f.1.Za a2 (-1) i 0);letI k:=QN c a1 (XS j.1);(bif((decide (b.1<0))||(decide ((d.length:Int)<2)))then e else(bif(((!f.2)||(decide (g<0)))||(!(jk h i)))then e else(bif(!j.2)then e else(ZF.mk h a0.Zd a0.Zw (a0.ZA.set b.1.toNat k.1) a0.Y2 a0.Yc a0.Next a0.YL,k.2))))
def xT(a0:ZF)(a1:Zx):ZF×Bool:=letI b:=a1.Kind;letI c:=a1.A;letI d:=a1.B;letI e:=jm a0 c d a1.Doc a1.C a1.D;letI f:=qY a0 c a1.Ids d;letI g:=jg a0 c d a1.C;letI h:=qK a0 c d a1.Doc;letI i:=zW a0 c d;letI j:=jh a0 c d;(bif(b==1)then((jr a0 c).1,(jr a0 c).2)else(bif(b==2)then(e.1,e.2)else(bif(b==3)then((xP a0 c).1,(xP a0 c).2)else(bif(b==4)then((xL a0 c).1,(xL a0 c).2)else(bif(b==5)then(f.1,f.2)else(bif(b==6)then(g.1,g.2)else(bif(b==7)then((xO a0 c).1,(xO a0 c).2)else(bif(b==8)then(h.1,h.2)else(bif(b==9)then(i.1,i.2)else(bif(b==10)then(j.1,j.2)else(a0,false)))))))))))
def kV(a0:Int):Bool:=ZX a0 1 2147483646
def Ca(a0:Y4):Bool:=(((ZX a0.Number 1 99&&ZX a0.jE 0 99)&&ZX a0.Method 0 99)&&KY a0.VO)&&kV a0.PB
def R7(a0:List Y4):Nat->Nat->Sum Bool Unit
  |0,_=>.inr ()
  |n1+1,J=>letI b:=nth a0 J;(bif(decide ((J:Int)<(a0.length:Int)))then(bif((!(Ca b))||((decide ((J:Int)>0))&&(decide ((nth a0 (J-1)).Number>=b.Number))))then(.inl false)else R7 a0 n1 (J+1))else(.inr ()))
def Li(a0:List Y4):Bool:=(match R7 a0 (a0.length+1) 0 with|.inl r1=>r1|.inr _=>(decide ((a0.length:Int)<=12)))
def ju(a0:List Zi):Nat->Nat->Sum Bool Unit
  |0,_=>.inr ()
  |n1+1,J=>letI b:=nth a0 J;(bif(decide ((J:Int)<(a0.length:Int)))then(bif((((!(ZX b.Id 0 99))||(!(ZX b.Key 1 99)))||(!(ZX b.Error 0 100)))||((decide ((J:Int)>0))&&(decide ((nth a0 (J-1)).Id>=b.Id))))then(.inl false)else ju a0 n1 (J+1))else(.inr ()))
def WD(a0:List Zi):Bool:=(match ju a0 (a0.length+1) 0 with|.inl r1=>r1|.inr _=>(decide ((a0.length:Int)<=6)))
def NG(a0:YH):Bool:=((((ZX a0.Id 0 99&&KY a0.Lz)&&ZX a0.Ends 1 10001)&&ZX a0.On 1 10001)&&(decide (a0.Lz<a0.Ends)))&&(decide (a0.Lz<a0.On))
def UL(a0:List YH):Nat->Nat->Sum Bool Unit
  |0,_=>.inr ()
  |n1+1,J=>letI b:=nth a0 J;(bif(decide ((J:Int)<(a0.length:Int)))then(bif((!(NG b))||((decide ((J:Int)>0))&&(decide ((nth a0 (J-1)).Id>=b.Id))))then(.inl false)else UL a0 n1 (J+1))else(.inr ()))
def Sj(a0:List YH):Bool:=(match UL a0 (a0.length+1) 0 with|.inl r1=>r1|.inr _=>(decide ((a0.length:Int)<=8)))
def yY(a0:ZO):Bool:=(((Li a0.Zt&&WD a0.ZC)&&Sj a0.Methods)&&ZX a0.XJ 0 6)&&KY a0.Now
def JI(a0:YN):Ze:=Ze.mk a0.XH a0.To
def Y7(a0:Ze):Bool:=(KY a0.XH&&KY a0.To)&&(decide (a0.XH<=a0.To))
def Rf(a0:YN):Bool:=((((ZX a0.Za 1 999&&ZX a0.Key 1 99)&&ZX a0.Z4 1 99)&&(a0.Key !=a0.Z4))&&ZX a0.jE 0 99)&&Y7 (JI a0)
def KW(a0:List Y4)(a1:Int)(a2:List Int)(a3:Int):Bool:=letI b:=zS a0 a1 a2;(b.2&&(b.1==a3))
def Pc(a0:List Y4)(a1:Int):Int:=letI b:=Z6 a0 a1;(bif(decide (b>=0))then(nth a0 b.toNat).jE else(-1))
def xD(a0:List Y4)(a1:YN):Bool:=(Rf a1&&KW a0 a1.Z4 (yR a1) a1.Mark)&&(a1.jE==Pc a0 a1.Key)
def z9(a0:ZF)(iI:Nat):Nat->List Int->Nat->Sum Bool (List Int)
  |0,_,_=>.inr default
  |n3+1,hH,hG=>letI b:=(nth a0.ZA iI).ZB;letI c:=(nth b hG).Id;(bif(decide ((hG:Int)<(b.length:Int)))then(bif(QM hH c||(decide (c>=a0.Next)))then(.inl false)else z9 a0 iI n3 (hH++([c]:List Int)) (hG+1))else(.inr hH))
def W1(a0:ZF):Nat->Nat->Sum Bool Unit
  |0,_=>.inr ()
  |n5+1,ed=>bif(decide ((ed:Int)<(a0.Yc.length:Int)))then(bif(decide (ZY a0.Frame.ZC (nth a0.Yc ed)<0))then(.inl false)else W1 a0 n5 (ed+1))else(.inr ())
def Wv(a0:ZF):Nat->Nat->Sum Bool Unit
  |0,_=>.inr ()
  |n4+1,fJ=>bif(decide ((fJ:Int)<(a0.Y2.length:Int)))then(bif(decide (nth a0.Y2 fJ<0))then(.inl false)else Wv a0 n4 (fJ+1))else(.inr ())
def xF(a0:ZF):Nat->List Int->Nat->Sum Bool Unit
  |0,_,_=>.inr ()
  |n2+1,iF,iI=>letI b:=nth a0.ZA iI;(bif(decide ((iI:Int)<(a0.ZA.length:Int)))then(bif((!(Ys b))||(b.Id !=(iI:Int)))then(.inl false)else(match z9 a0 iI (b.ZB.length+1) iF 0 with|.inl r3=>.inl r3|.inr z3_0=>xF a0 n2 z3_0 (iI+1)))else(.inr ()))
def Wp(a0:ZF):Nat->Nat->Sum Bool Unit
  |0,_=>.inr ()
  |n1+1,J=>letI b:=nth a0.Zd J;(bif(decide ((J:Int)<(a0.Zd.length:Int)))then(bif(((!(xD a0.Frame.Zt b))||(Xy a0.Zd b.Za !=(J:Int)))||(!(ZX (nth a0.Zw J) (-1) 10001)))then(.inl false)else Wp a0 n1 (J+1))else(.inr ()))
def Vy(a0:ZF):Bool:=letI b:=a0.Frame;letI c:=a0.Zd.length;letI d:=a0.ZA.length;letI e:=a0.Y2.length;letI f:=a0.Yc.length;(bif((((((((!(yY b))||((a0.Zw.length:Int)!=(c:Int)))||(!(ZX (d:Int) 1 4)))||((e:Int)!=(b.ZC.length:Int)))||(decide ((f:Int)>b.XJ)))||(decide (a0.Next<1)))||(!(Qe a0.Yc)))||(!(Qe a0.YL)))then false else(match Wp a0 (c+1) 0 with|.inl r1=>r1|.inr _=>(match xF a0 (d+1) ([]:List Int) 0 with|.inl r2=>r2|.inr _=>(match Wv a0 (e+1) 0 with|.inl r4=>r4|.inr _=>(match W1 a0 (f+1) 0 with|.inl r5=>r5|.inr _=>true)))))
def TK(a0:ZF):Nat->List ZN->Nat->List ZN
  |0,_,_=>default
  |n1+1,J,U=>bif(decide ((U:Int)<(a0.ZA.length:Int)))then TK a0 n1 (J++(nth a0.ZA U).ZB) (U+1)else J
def Q0(a0:ZF):List ZN:=(match TK a0 (a0.ZA.length+1) ([]:List ZN) 0 with|z1_0=>z1_0)
def ZU(a0:ZN):Z9:=Z9.mk ([a0.ZG]:List ZW) ([]:List (List Zm))
def zQ(a0:ZW)(a1:ZR):Nat->List Int->Nat->List Int
  |0,_,_=>default
  |n1+1,J,U=>bif(decide ((U:Int)<(a0.ZM.length:Int)))then zQ a0 a1 n1 (J++([Yb (nth a0.ZM U).Method a1]:List Int)) (U+1)else J
def XU(a0:ZW)(a1:ZR):List Int:=(match zQ a0 a1 (a0.ZM.length+1) ([]:List Int) 0 with|z1_0=>z1_0)
def Ko(a0:Z9)(a1:ZR):Nat->List (List Int)->Nat->List (List Int)
  |0,_,_=>default
  |n1+1,J,U=>bif(decide ((U:Int)<(a0.Z8.length:Int)))then Ko a0 a1 n1 (J++([XU (nth a0.Z8 U) a1]:List (List Int))) (U+1)else J
def Z3(a0:Z9)(a1:ZR):List (List Int):=(match Ko a0 a1 (a0.Z8.length+1) ([]:List (List Int)) 0 with|z1_0=>z1_0)
def SP(a0:Int):QF:=QF.mk 3 a0 (Ze.mk 0 0)
def Vu(a0:Int):QF:=QF.mk 2 a0 (Ze.mk 0 0)
def qt(a0:List Y4)(a1:Zl):Bool:=K9 a1&&KW a0 a1.Key (X0 a1) a1.Mark
def xn(a0:ZW)(a1:ZT):Nat->Nat->Sum Int Unit
  |0,_=>.inr ()
  |n1+1,J=>bif(decide ((J:Int)<(a0.ZI.length:Int)))then(bif KM (nth a0.ZI J) a1 then(.inl (J:Int))else xn a0 a1 n1 (J+1))else(.inr ())
def zn(a0:ZW)(a1:ZT):Int:=(match xn a0 a1 (a0.ZI.length+1) 0 with|.inl r1=>r1|.inr _=>-1)
def zT(a0 a1:Int):Ze×Bool:=letI b:=Ze.mk (if 0>a0 then 0 else a0) (if 10000<a1 then 10000 else a1);(bif((decide (a0>a1))||(!(Y7 b)))then(Ze.mk 0 0,false)else(b,true))
def Xu(a0:List Zi)(a1:Zm):Ze×Bool:=letI b:=ZY a0 a1.Authority;letI c:=(nth a0 b.toNat).Error;letI d:=a1.Time;letI e:=zT (W (d-c)) (W (d+c));(bif(((decide (b<0))||(decide (c<0)))||(!(KY d)))then(Ze.mk 0 0,false)else(e.1,e.2))
def jz(a0:List Ze)(a1:Int):Nat->Int->Nat->Int
  |0,_,_=>default
  |n1+1,J,U=>letI b:=nth a0 U;(bif(decide ((U:Int)<(a0.length:Int)))then(bif(Y7 b&&ZX a1 b.XH b.To)then jz a0 a1 n1 (W (J+1)) (U+1)else jz a0 a1 n1 J (U+1))else J)
def Pp(a0:List Ze)(a1:Int):Int:=(match jz a0 a1 (a0.length+1) 0 0 with|z1_0=>z1_0)
def JR(a0:List Ze)(a1 a2:Int):Bool:=letI b:=(a0.length:Int);(ZX a2 0 (W (b-1))&&(decide (Pp a0 a1>=W (b-a2))))
def J0(a0:List Ze)(a1:Int):Nat->Bool->Nat->Int->Int->Bool×Int×Int
  |0,_,_,_,_=>(default,default,default)
  |n1+1,J,U,iD,iG=>letI b:=(U:Int);letI c:=U+1;(bif(decide (b<=10000))then(bif JR a0 b a1 then(bif(!J)then J0 a0 a1 n1 true c b b else J0 a0 a1 n1 true c iD b)else J0 a0 a1 n1 J c iD iG)else(J,iD,iG))
def Jo(a0:List Ze)(a1:Int):Ze×Bool:=(match J0 a0 a1 10002 false 0 0 0 with|(z1_0,z1_1,z1_2)=>(Ze.mk z1_1 z1_2,z1_0))
def yH(a0:List Zi)(a1:List Zm):Nat->List Ze->Nat->Sum (Ze×Bool) (List Ze)
  |0,_,_=>.inr default
  |n1+1,J,U=>letI b:=Xu a0 (nth a1 U);(bif(decide ((U:Int)<(a1.length:Int)))then(bif(!b.2)then(.inl (Ze.mk 0 0,false))else yH a0 a1 n1 (J++([b.1]:List Ze)) (U+1))else(.inr J))
def Qf(a0:List Zi)(a1:List Zm)(a2:Int):Ze×Bool:=(match yH a0 a1 (a1.length+1) ([]:List Ze) 0 with|.inl r1=>r1|.inr z1_0=>letI b:=Jo z1_0 a2;(b.1,b.2))
def Yn(a0:List Zi)(a1:Zb)(a2:Int):Ze×Bool:=letI b:=Qf a0 a1.YW a2;(b.1,b.2)
def J3(a0:ZO)(a1:Zb):Ze×Bool:=letI b:=Yn a0.ZC a1 a0.XJ;(b.1,b.2)
def SH(a0:ZW)(a1:List Int)(a2:Int):Int:=letI b:=(a0.ZM.length:Int);letI c:=nth a0.ZM a2.toNat;letI d:=c.Method;letI e:=nth a1 a2.toNat;letI f:=a0.ZI.take c.Count.toNat;(bif(((!(ZX a2 0 (W (b-1))))||((a1.length:Int)!=b))||(!(ZX c.Count 0 (a0.ZI.length:Int))))then(-1)else(bif(decide (a2>0))then Wz d e f (JX d (nth a0.ZM (W (a2-1)).toNat))else Wz d e f 0))
def kN(a0:Int)(a2:List X8):Nat->Int->Nat->Int
  |0,_,_=>default
  |n1+1,J,U=>letI b:=nth a2 U;(bif(decide ((U:Int)<(a2.length:Int)))then(bif b.Left then kN a0 a2 n1 (xK a0 b.QL J) (U+1)else kN a0 a2 n1 (xK a0 J b.QL) (U+1))else J)
def S0(a0 a1:Int)(a2:List X8):Int:=(match kN a0 a2 (a2.length+1) a1 0 with|z1_0=>z1_0)
def x1(a0:List Zm):Nat->Nat->Sum Bool Unit
  |0,_=>.inr ()
  |n1+1,J=>bif(decide ((J:Int)<(a0.length:Int)))then(bif(decide ((nth a0 (J-1)).Authority>=(nth a0 J).Authority))then(.inl false)else x1 a0 n1 (J+1))else(.inr ())
def Kv(a0:List Zm):Bool:=(match x1 a0 (a0.length+1) 1 with|.inl r1=>r1|.inr _=>true)
def Sh(a0:List Y4)(a1:List Zi)(a2:Zm):Bool:=letI b:=Xk a0 a1 a2;(b.2&&((b.1.Authority==a2.Authority)&&((b.1.Seq==a2.Seq)&&((b.1.Time==a2.Time)&&((b.1.QL==a2.QL)&&(b.1.Mark==a2.Mark))))))
def WW(a0:List Y4)(a1:List Zi)(a2:Zb):Nat->Nat->Sum Bool Unit
  |0,_=>.inr ()
  |n1+1,J=>letI b:=nth a2.YW J;(bif(decide ((J:Int)<(a2.YW.length:Int)))then(bif((b.QL !=a2.BQ)||(!(Sh a0 a1 b)))then(.inl false)else WW a0 a1 a2 n1 (J+1))else(.inr ()))
def US(a0:List Y4)(a1:List Zi)(a2:Zb)(a3:Int):Bool:=letI b:=a2.YW.length;(bif((((decide ((a2.Path.length:Int)>4))||(S0 a2.Method a3 a2.Path !=a2.BQ))||(!(ZX (b:Int) 1 6)))||(!(Kv a2.YW)))then false else(match WW a0 a1 a2 (b+1) 0 with|.inl r1=>r1|.inr _=>true))
def X9(a0:List Zi)(a1:Zm):Int:=letI b:=ZY a0 a1.Authority;(bif(decide (b>=0))then(nth a0 b.toNat).Key else 0)
def yy(a0:List Y4)(a1:List Zi)(a2:List YH)(a3:Zb):Nat->Int->Nat->Sum Int Int
  |0,_,_=>.inr default
  |n1+1,J,U=>letI b:=Z6 a0 (X9 a1 (nth a3.YW U));letI c:=zL a2 (nth a0 b.toNat).Method;(bif(decide ((U:Int)<(a3.YW.length:Int)))then(bif(decide (b<0))then(.inl 0)else yy a0 a1 a2 a3 n1 (if c<J then c else J) (U+1))else(.inr J))
def Jt(a0:List Y4)(a1:List Zi)(a2:List YH)(a3:Zb):Int:=(match yy a0 a1 a2 a3 (a3.YW.length+1) (zL a2 a3.Method) 0 with|.inl r1=>r1|.inr z1_0=>z1_0)
def yF(a0:ZO)(a1:ZW)(a2:Int):Bool:=letI b:=W ((a1.ZM.length:Int)-1);letI c:=Jt a0.Zt a0.ZC a0.Methods (nth a1.ZM a2.toNat);letI d:=J3 a0 (nth a1.ZM (W (a2+1)).toNat);(bif(!(ZX a2 0 b))then false else(bif(a2==b)then(decide (a0.Now<c))else(d.2&&(decide (d.1.To<c)))))
def K8(a0:ZO)(a1:ZW)(a2:List Int):Nat->Nat->Nat
  |0,_=>default
  |n1+1,J=>letI b:=nth a1.ZM (J-1);letI c:=W ((J:Int)-1);(bif(decide ((J:Int)>0))then(bif(((!(J3 a0 b).2)||(!(US a0.Zt a0.ZC b (SH a1 a2 c))))||(!(yF a0 a1 c)))then J else K8 a0 a1 a2 n1 (J-1))else J)
def Je(a0:ZO)(a1:ZW)(a2:List Int):Int:=letI b:=a1.ZM.length;(match K8 a0 a1 a2 (b+1) b with|z1_0=>(z1_0:Int))
def zt(a0:ZO)(a1:ZW)(a3:Int):Nat->Int->Int->Int
  |0,_,_=>default
  |n1+1,J,U=>letI b:=nth a1.ZM U.toNat;letI c:=(J3 a0 b).1.To;letI d:=W (U+1);(bif(decide (U<(a1.ZM.length:Int)))then(bif(decide (b.Count>a3))then zt a0 a1 a3 n1 (if c<J then c else J) d else zt a0 a1 a3 n1 J d)else J)
def zj(a0:ZO)(a1:ZW)(a2:List Int)(a3:Int):Int:=(match zt a0 a1 a3 (a1.ZM.length+2) a0.Now (Je a0 a1 a2)with|z1_0=>z1_0)
def zq(a0:ZO)(a1:ZW)(a2:List Int)(a3:ZT):Int:=letI b:=zn a1 a3;(bif(decide (b<0))then a0.Now else zj a0 a1 a2 b)
def yA(a0:ZO)(a1:Z9)(a2:List (List Int))(a3:ZT):Nat->Int->Nat->Int
  |0,_,_=>default
  |n1+1,J,U=>letI b:=zq a0 (nth a1.Z8 U) (nth a2 U) a3;(bif(decide ((U:Int)<(a1.Z8.length:Int)))then(bif(decide ((U:Int)<(a2.length:Int)))then yA a0 a1 a2 a3 n1 (if b<J then b else J) (U+1)else yA a0 a1 a2 a3 n1 J (U+1))else J)
def Zz(a0:ZO)(a1:Z9)(a2:List (List Int))(a3:ZT):Int:=(match yA a0 a1 a2 a3 (a1.Z8.length+1) a0.Now 0 with|z1_0=>z1_0)
def XB(a0:ZT):Zp×Bool:=letI b:=a0.YM;(bif((Yp a0 !=102)||(nth b 4 !=a0.Key))then(Zp.mk 0 0 0 0 0,false)else(Zp.mk (nth b 1) (nth b 2) (nth b 3) (nth b 4) a0.Mark,true))
def VP(a0:ZT):Zm×Bool:=letI b:=a0.YM;(bif(Yp a0 !=103)then(Zm.mk 0 0 0 0 0,false)else(Zm.mk (nth b 1) (nth b 2) (nth b 3) (nth b 4) a0.Mark,true))
def Uv(a0:ZT):Zl×Bool:=letI b:=a0.YM;(bif((Yp a0 !=104)||(nth b 1 !=a0.Key))then(Zl.mk 0 0 0 0 0 0 0 0 0,false)else(Zl.mk (nth b 1) (nth b 2) (nth b 3) (nth b 4) (nth b 5) (nth b 6) (nth b 7) (nth b 8) a0.Mark,true))
def Jp(a0:ZT):Xd×Bool:=letI b:=a0.YM;(bif((Yp a0 !=105)||(nth b 5 !=a0.Key))then(Xd.mk 0 0 0 0 0 0,false)else(Xd.mk (nth b 1) (nth b 2) (nth b 3) (nth b 4) (nth b 5) a0.Mark,true))
def QT(a0:List Y4)(a1:ZT):Bool:=letI b:=Yp a1;letI c:=KW a0 a1.Key a1.YM a1.Mark;(bif(b==101)then((YD a1).2&&c)else(bif(b==102)then((XB a1).2&&c)else(bif(b==103)then((VP a1).2&&c)else(bif(b==104)then((Uv a1).2&&c)else(bif(b==105)then((Jp a1).2&&c)else(false&&c))))))
def W9(a0 a1:ZT):Nat->Nat->Sum Bool Unit
  |0,_=>.inr ()
  |n1+1,J=>letI b:=nth a0.YM J;letI c:=nth a1.YM J;(bif((decide ((J:Int)<(a0.YM.length:Int)))&&(decide ((J:Int)<(a1.YM.length:Int))))then(bif(b !=c)then(.inl (decide (b<c)))else W9 a0 a1 n1 (J+1))else(.inr ()))
def Tk(a0 a1:ZT):Bool:=letI b:=a0.YM.length;letI c:=(a1.YM.length:Int);(match W9 a0 a1 (b+1) 0 with|.inl r1=>r1|.inr _=>bif((b:Int)!=c)then(decide ((b:Int)<c))else(bif(a0.Key !=a1.Key)then(decide (a0.Key<a1.Key))else(decide (a0.Mark<a1.Mark))))
def yr(a1:Z9)(U:Nat)(iF:List ZT)(iI:Nat):Nat->Nat->Nat
  |0,_=>default
  |n3+1,hH=>bif((decide ((hH:Int)<(iF.length:Int)))&&Tk (nth iF hH) (nth (nth a1.Z8 U).ZI iI))then yr a1 U iF iI n3 (hH+1)else hH
def QX(a0:ZO)(a1:Z9)(a2:List (List Int))(U:Nat):Nat->List ZT->Nat->List ZT
  |0,_,_=>default
  |n2+1,iF,iI=>letI b:=(nth a1.Z8 U).ZI;letI c:=nth b iI;(bif(decide ((iI:Int)<(b.length:Int)))then(bif((KE iF c||(!(QT a0.Zt c)))||(decide (Zz a0 a1 a2 c>=YJ a0 c.Key)))then QX a0 a1 a2 U n2 iF (iI+1)else(match yr a1 U iF iI (iF.length+1) 0 with|z3_0=>QX a0 a1 a2 U n2 ((iF.take z3_0++([c]:List ZT))++(iF.drop z3_0).take (iF.length-z3_0)) (iI+1)))else iF)
def zN(a0:ZO)(a1:Z9)(a2:List (List Int)):Nat->List ZT->Nat->List ZT
  |0,_,_=>default
  |n1+1,J,U=>bif(decide ((U:Int)<(a1.Z8.length:Int)))then(match QX a0 a1 a2 U ((nth a1.Z8 U).ZI.length+1) J 0 with|gp=>zN a0 a1 a2 n1 gp (U+1))else J
def Zq(a0:ZO)(a1:Z9)(a2:List (List Int)):List ZT:=(match zN a0 a1 a2 (a1.Z8.length+1) ([]:List ZT) 0 with|z1_0=>z1_0)
def j6(a0:ZO)(a1:List ZT)(a2:Zl):Nat->Int->Nat->Int->Int->Int->Int->Int->Int->Int->Int×Int×Int×Int×Int×Int×Int×Int
  |0,_,_,_,_,_,_,_,_,_=>(default,default,default,default,default,default,default,default)
  |n1+1,J,U,iD,iG,iP,iV,iX,iY,iU=>letI b:=YD (nth a1 U);letI c:=b.1;(bif(decide ((U:Int)<(a1.length:Int)))then(bif(((b.2&&xD a0.Zt c)&&(c.Za==a2.Za))&&(c.Key==a2.Key))then j6 a0 a1 a2 n1 (W (J+1)) (U+1) c.Za c.Key c.jE c.XH c.To c.Z4 c.Mark else j6 a0 a1 a2 n1 J (U+1) iD iG iP iV iX iY iU)else(J,iD,iG,iP,iV,iX,iY,iU))
def Qm(a0:ZO)(a1:List ZT)(a2:Zl):YN×Bool:=(match j6 a0 a1 a2 (a1.length+1) 0 0 0 0 0 0 0 0 0 with|(z1_0,z1_1,z1_2,z1_3,z1_4,z1_5,z1_6,z1_7)=>bif(z1_0 !=1)then(YN.mk 0 0 0 0 0 0 0,false)else(YN.mk z1_1 z1_2 z1_3 z1_4 z1_5 z1_6 z1_7,true))
def tT(a0 a1:Int):Int:=if a1>a0 then a1 else a0
def WT(a1:List Zm):Nat->List Int->Nat->List Int
  |0,_,_=>default
  |n1+1,J,U=>bif(decide ((U:Int)<(a1.length:Int)))then WT a1 n1 (J++([(nth a1 U).Mark]:List Int)) (U+1)else J
def kM(a0:Int)(a1:List Zm):Int:=bif((a1.length:Int)==0)then 0 else(match WT a1 (a1.length+1) ([]:List Int) 0 with|z1_0=>tT 1 (Ju a0 z1_0))
def jA(a0:Int)(a1:Zm):ZT:=ZT.mk a0 (Jg a1) a1.Mark
def TZ(a0:ZO)(a1:Z9)(a2:List ZT)(U:Nat):Nat->Bool->Nat->Bool
  |0,_,_=>default
  |n2+1,iF,iI=>letI b:=nth a1.XI U;letI c:=nth b iI;(bif(decide ((iI:Int)<(b.length:Int)))then TZ a0 a1 a2 U n2 (iF&&KE a2 (jA (X9 a0.ZC c) c)) (iI+1)else iF)
def xr(a0:ZO)(a1:Z9)(a2:List ZT)(a3:Zl):Nat->Int->Nat->Int
  |0,_,_=>default
  |n1+1,J,U=>letI b:=nth a1.XI U;letI c:=U+1;letI d:=Qf a0.ZC b a0.XJ;(bif(decide ((U:Int)<(a1.XI.length:Int)))then(bif(((a3.UZ==0)||(!(Kv b)))||(kM a3.Method b !=a3.UZ))then xr a0 a1 a2 a3 n1 J c else(match TZ a0 a1 a2 U (b.length+1) true 0 with|gp=>bif(gp&&d.2)then xr a0 a1 a2 a3 n1 (if d.1.XH>J then d.1.XH else J) c else xr a0 a1 a2 a3 n1 J c))else J)
def Tg(a0:ZO)(a1:Z9)(a2:List ZT)(hG:Nat):Nat->Bool->Nat->Bool
  |0,_,_=>default
  |n4+1,fJ,fP=>letI b:=nth a1.XI hG;letI c:=nth b fP;(bif(decide ((fP:Int)<(b.length:Int)))then Tg a0 a1 a2 hG n4 (fJ&&KE a2 (jA (X9 a0.ZC c) c)) (fP+1)else fJ)
def xu(a0:ZO)(a1:Z9)(a2:List ZT)(a3:Zl):Nat->Int->Nat->Int
  |0,_,_=>default
  |n3+1,hH,hG=>letI b:=nth a1.XI hG;letI c:=hG+1;letI d:=Qf a0.ZC b a0.XJ;(bif(decide ((hG:Int)<(a1.XI.length:Int)))then(bif(((a3.UZ==0)||(!(Kv b)))||(kM a3.Method b !=a3.UZ))then xu a0 a1 a2 a3 n3 hH c else(match Tg a0 a1 a2 hG (b.length+1) true 0 with|z4_0=>bif(z4_0&&d.2)then xu a0 a1 a2 a3 n3 (if d.1.XH>hH then d.1.XH else hH) c else xu a0 a1 a2 a3 n3 hH c))else hH)
def Xv(a0:ZO)(a1:Z9)(a2:List ZT)(a3:Zl):Int:=letI b:=Z6 a0.Zt a3.Key;letI c:=a1.XI.length+1;(bif(decide (b>=0))then(match xr a0 a1 a2 a3 c (nth a0.Zt b.toNat).VO 0 with|z1_0=>z1_0)else(match xu a0 a1 a2 a3 c 0 0 with|z3_0=>z3_0))
def J8(a0:List ZT)(a1:YN):Nat->List Zp->Nat->List Zp
  |0,_,_=>default
  |n1+1,J,U=>letI b:=XB (nth a0 U);(bif(decide ((U:Int)<(a0.length:Int)))then(bif((b.2&&(b.1.Za==a1.Za))&&(b.1.Z4==a1.Z4))then J8 a0 a1 n1 (J++([b.1]:List Zp)) (U+1)else J8 a0 a1 n1 J (U+1))else J)
def QB(a0:List ZT)(a1:YN):List Zp:=(match J8 a0 a1 (a0.length+1) ([]:List Zp) 0 with|z1_0=>z1_0)
def Zu(a0 a1:Int)(a2:List Ze):List Ze:=letI b:=zT a0 a1;(bif b.2 then(a2++([b.1]:List Ze))else a2)
def jP(a0:List Zp)(a1:Int):Nat->Int->Int->Int->Nat->Int×Int×Int
  |0,_,_,_,_=>(default,default,default)
  |n1+1,J,U,iD,iG=>letI b:=nth a0 iG;letI c:=iG+1;letI d:=b.Zw;letI e:=if d>U then d else U;(bif(decide ((iG:Int)<(a0.length:Int)))then(bif(b.Za !=a1)then jP a0 a1 n1 J U iD c else(bif(decide (d<0))then jP a0 a1 n1 J U (if b.xw>iD then b.xw else iD) c else(bif((decide (J<0))||(decide (d<J)))then jP a0 a1 n1 d e iD c else jP a0 a1 n1 J e iD c)))else(J,U,iD))
def qP(a0:List Zp)(a1:Int):Int×Int×Int:=(match jP a0 a1 (a0.length+1) (-1) (-1) (-1) 0 with|(z1_0,z1_1,z1_2)=>(z1_0,z1_1,z1_2))
def Qb(a0:List Zp)(a1:Int):Int:=letI b:=(qP a0 a1).2;letI c:=W (b.2+1);(bif(decide (b.1<0))then 10001 else(if c>b.1 then c else b.1))
def TI(gp:List Ze)(cW:Int):Nat->Nat->Nat
  |0,_=>default
  |n3+1,hH=>bif((decide ((hH:Int)<(gp.length:Int)))&&(decide ((nth gp hH).XH<cW)))then TI gp cW n3 (hH+1)else hH
def Qc(J:List Ze):Nat->List Ze->Nat->Int->Int->List Ze×Int×Int
  |0,_,_,_,_=>(default,default,default)
  |n2+1,iF,iI,gq,gv=>letI b:=nth J iI;(bif(decide ((iI:Int)<(J.length:Int)))then(bif((decide (W (b.To+1)<gq))||(decide (W (gv+1)<b.XH)))then Qc J n2 (iF++([b]:List Ze)) (iI+1) gq gv else Qc J n2 iF (iI+1) (if b.XH<gq then b.XH else gq) (if b.To>gv then b.To else gv))else(iF,gq,gv))
def z8(a0:List Ze):Nat->List Ze->Nat->List Ze
  |0,_,_=>default
  |n1+1,J,U=>letI b:=nth a0 U;(bif(decide ((U:Int)<(a0.length:Int)))then(bif(!(Y7 b))then z8 a0 n1 J (U+1)else(match Qc J (J.length+1) ([]:List Ze) 0 b.XH b.To with|(gp,cW,z2_2)=>(match TI gp cW (gp.length+1) 0 with|z3_0=>z8 a0 n1 ((gp.take z3_0++([Ze.mk cW z2_2]:List Ze))++(gp.drop z3_0).take (gp.length-z3_0)) (U+1))))else J)
def Xg(a0:List Ze):List Ze:=(match z8 a0 (a0.length+1) ([]:List Ze) 0 with|z1_0=>z1_0)
def jj(a0:YN)(a1:List Zp):List Ze:=letI b:=decide (a0.To<10000);letI c:=Qb a1 a0.Za;letI d:=W (a0.To+1);letI e:=([]:List Ze);letI f:=Zu 0 (W (a0.XH-1)) e;(bif(decide (a0.XH>0))then(bif b then Xg (Zu c 10000 (Zu d 10000 f))else Xg (Zu c 10000 f))else(bif b then Xg (Zu c 10000 (Zu d 10000 e))else Xg (Zu c 10000 e)))
def jn(a0 a1:Ze):Bool:=((Y7 a0&&Y7 a1)&&(decide (a1.XH<=a0.XH)))&&(decide (a0.To<=a1.To))
def kP(a0:List Ze)(a1:Ze):Nat->Nat->Sum Bool Unit
  |0,_=>.inr ()
  |n1+1,J=>bif(decide ((J:Int)<((Xg a0).length:Int)))then(bif jn a1 (nth (Xg a0) J)then(.inl true)else kP a0 a1 n1 (J+1))else(.inr ())
def yI(a0:List Ze)(a1:Ze):Bool:=(match kP a0 a1 ((Xg a0).length+1) 0 with|.inl r1=>r1|.inr _=>false)
def V8(a0:YN)(a1:List Zp)(a2:Ze):Bool:=yI (jj a0 a1) a2
def Ji(a0:List Zp)(a1:Int):Int:=letI b:=qP a0 a1;(bif(decide (b.1>=0))then W (b.1-1)else b.2.2)
def X5(a0 a1:Ze):Ze×Bool:=letI b:=Ze.mk (if a1.XH>a0.XH then a1.XH else a0.XH) (if a1.To<a0.To then a1.To else a0.To);(bif(((!(Y7 a0))||(!(Y7 a1)))||(!(Y7 b)))then(Ze.mk 0 0,false)else(b,true))
def j9(a0 a1:List Ze)(U:Nat):Nat->List Ze->Nat->List Ze
  |0,_,_=>default
  |n2+1,iF,iI=>letI b:=X5 (nth a0 U) (nth a1 iI);(bif(decide ((iI:Int)<(a1.length:Int)))then(bif b.2 then j9 a0 a1 U n2 (iF++([b.1]:List Ze)) (iI+1)else j9 a0 a1 U n2 iF (iI+1))else iF)
def Ww(a0 a1:List Ze):Nat->List Ze->Nat->List Ze
  |0,_,_=>default
  |n1+1,J,U=>bif(decide ((U:Int)<(a0.length:Int)))then(match j9 a0 a1 U (a1.length+1) J 0 with|gp=>Ww a0 a1 n1 gp (U+1))else J
def Vw(a0 a1:List Ze):List Ze:=(match Ww a0 a1 (a0.length+1) ([]:List Ze) 0 with|z1_0=>Xg z1_0)
def qR(a0:YN)(a1:List Zp):List Ze:=Vw ([JI a0]:List Ze) ([Ze.mk 0 (Ji a1 a0.Za)]:List Ze)
def qj(a0:YN)(a1:List Zp)(a2:Ze):Bool:=yI (qR a0 a1) a2
def zU(a0:List ZT):Nat->List Xd->Nat->List Xd
  |0,_,_=>default
  |n1+1,J,U=>letI b:=Jp (nth a0 U);(bif(decide ((U:Int)<(a0.length:Int)))then(bif b.2 then zU a0 n1 (J++([b.1]:List Xd)) (U+1)else zU a0 n1 J (U+1))else J)
def K1(a0:List ZT):List Xd:=(match zU a0 (a0.length+1) ([]:List Xd) 0 with|z1_0=>z1_0)
def Rz(a0:Xd):Bool:=((ZX a0.Org 1 99&&ZX a0.LJ 0 99)&&ZX a0.Key 1 99)&&Y7 (Ze.mk a0.XH a0.To)
def yT(a0:Xd):List Int:=([105,a0.Org,a0.LJ,a0.XH,a0.To,a0.Key]:List Int)
def V5(a0:List Y4)(a1:Xd):Bool:=(Rz a1&&(Pc a0 a1.Key==a1.Org))&&KW a0 a1.Key (yT a1) a1.Mark
def yi(a0:List Y4)(a1:List Xd)(a2 a3:Int):Nat->List Ze->Nat->List Ze
  |0,_,_=>default
  |n1+1,J,U=>letI b:=nth a1 U;(bif(decide ((U:Int)<(a1.length:Int)))then(bif(((b.Org==a2)&&(b.LJ==a3))&&V5 a0 b)then yi a0 a1 a2 a3 n1 (J++([Ze.mk b.XH b.To]:List Ze)) (U+1)else yi a0 a1 a2 a3 n1 J (U+1))else J)
def qT(a0:List Y4)(a1:List Xd)(a2 a3:Int):List Ze:=(match yi a0 a1 a2 a3 (a1.length+1) ([]:List Ze) 0 with|z1_0=>Xg z1_0)
def VW(a0:List Y4)(a1:List Xd)(a2 a3:Int)(a4:Ze):Bool:=((a2==0)&&Y7 a4)||yI (qT a0 a1 a2 a3) a4
def qG(a0:ZO)(a1:Z9)(a2:List (List Int))(a3:Int)(a4:Zl):QF:=letI b:=Zz a0 a1 a2 (Yf a4);letI c:=Zq a0 a1 a2;letI d:=Qm a0 c a4;letI e:=Xv a0 a1 c a4;letI f:=QB c d.1;letI g:=Ze.mk e b;(bif(!(yY a0))then SP 1 else(bif(!(K9 a4))then Vu 1 else(bif(decide (a3<0))then SP 2 else(bif(a3 !=a4.QL)then Vu 2 else(bif(decide (Z6 a0.Zt a4.Key<0))then SP 3 else(bif(!(qt a0.Zt a4))then Vu 4 else(bif((decide (b>=YJ a0 a4.Key))||(decide (b>=zL a0.Methods a4.Method)))then SP 5 else(bif(!d.2)then SP 6 else(bif(decide (e>b))then SP 7 else(bif V8 d.1 f g then QF.mk 2 8 g else(bif(!(qj d.1 f g))then QF.mk 3 7 g else(bif(!(VW a0.Zt (K1 c) a4.Org d.1.jE g))then QF.mk 3 9 g else QF.mk 1 0 g))))))))))))
def Nn(a0:ZO)(a1:Z9)(a2:ZR)(a3:Zl):QF:=qG a0 a1 (Z3 a1 a2) (Yb a3.Method a2) a3
def yD(a0:ZO)(a1:ZN):QF:=Nn a0 (ZU a1) a1.Doc a1.Sig
def Yr(a0:ZF)(a1:Int):QF:=letI b:=ZK a0 a1;(bif(decide (b.1<0))then QF.mk 0 0 (Ze.mk 0 0)else yD a0.Frame (nth (nth a0.ZA b.1.toNat).ZB b.2.toNat))
def Jq(a0:ZF):Nat->List Int->Nat->List Int
  |0,_,_=>default
  |n1+1,J,U=>letI b:=(nth (Q0 a0) U).Id;(bif(decide ((U:Int)<((Q0 a0).length:Int)))then(bif((Yr a0 b).Code==1)then Jq a0 n1 (J++([b]:List Int)) (U+1)else Jq a0 n1 J (U+1))else J)
def Zn(a0:ZF):List Int:=(match Jq a0 ((Q0 a0).length+1) ([]:List Int) 0 with|z1_0=>z1_0)
def zk(a0:ZF):Nat->List Int->Nat->List Int
  |0,_,_=>default
  |n1+1,J,U=>letI b:=nth (Zn a0) U;(bif(decide ((U:Int)<((Zn a0).length:Int)))then(bif QM a0.YL b then zk a0 n1 (J++([b]:List Int)) (U+1)else zk a0 n1 J (U+1))else J)
def We(a0:ZF):List Int:=(match zk a0 ((Zn a0).length+1) ([]:List Int) 0 with|z1_0=>z1_0)
def Vt(a0:ZF):ByteArray:=bif(!(Vy a0))then(⟨#[119,111,114,108,100]⟩:ByteArray)else(bif(decide (((We a0).length:Int)>0))then(⟨#[102,111,114,103,101,100]⟩:ByteArray)else(⟨#[]⟩:ByteArray))
def K4(a0:ZO)(a1:ZW)(a2:List Int):Bool:=(decide ((a1.ZM.length:Int)>0))&&(Je a0 a1 a2==0)
def TH(a0:ZO)(a1:ZW):Nat->Nat->Sum Bool Unit
  |0,_=>.inr ()
  |n1+1,J=>letI b:=Yn a0.ZC (nth a1.ZM J) a0.XJ;(bif(decide ((J:Int)<(a1.ZM.length:Int)))then(bif((!b.2)||(decide (b.1.To>a0.Now)))then(.inl false)else TH a0 a1 n1 (J+1))else(.inr ()))
def Vv(a0:ZO)(a1:ZW)(a2:List Int):Bool:=letI b:=a1.ZM.length;(bif((!(K4 a0 a1 a2))||((nth a1.ZM (b-1)).Count !=(a1.ZI.length:Int)))then false else(match TH a0 a1 (b+1) 0 with|.inl r1=>r1|.inr _=>true))
def zM(a0:ZF)(a1:Int):Bool:=letI b:=ZK a0 a1;letI c:=nth (nth a0.ZA b.1.toNat).ZB b.2.toNat;(bif(decide (b.1<0))then false else K4 a0.Frame c.ZG (XU c.ZG c.Doc))
def SN(a0:List UInt8)(J:Nat)(U:List Y4)(iD:List Zi)(iG:List YH)(iP iV:Int)(iX:List YN)(iY:List Int)(iU:List ZE)(ia iK:List Int)(iL:Int)(iM:List Int):Nat->Nat->Sum Bool Unit
  |0,_=>.inr ()
  |n2+1,iF=>letI b:=ZO.mk U iD iG iP iV;letI c:=ZF.mk b iX iY iU ia iK iL iM;letI d:=nth (Zn c) iF;letI e:=nth (nth iU (ZK c d).1.toNat).ZB (ZK c d).2.toNat;letI f:=(YF c (nth (ZP a0).2 J)).1;(bif(decide ((iF:Int)<((Zn c).length:Int)))then(bif((Vv b e.ZG (XU e.ZG e.Doc)&&zM f d)&&((Yr f d).Code !=1))then(.inl false)else SN a0 J U iD iG iP iV iX iY iU ia iK iL iM n2 (iF+1))else(.inr ()))
def Tz(a0:List UInt8):Nat->Nat->List Y4->List Zi->List YH->Int->Int->List YN->List Int->List ZE->List Int->List Int->Int->List Int->Sum Bool (List Y4×List Zi×List YH×Int×Int×List YN×List Int×List ZE×List Int×List Int×Int×List Int)
  |0,_,_,_,_,_,_,_,_,_,_,_,_,_=>.inr (default,default,default,default,default,default,default,default,default,default,default,default)
  |n1+1,J,U,iD,iG,iP,iV,iX,iY,iU,ia,iK,iL,iM=>letI b:=ZF.mk (ZO.mk U iD iG iP iV) iX iY iU ia iK iL iM;letI c:=nth (ZP a0).2 J;letI d:=(YF b c).1;letI e:=d.Frame;(bif(decide ((J:Int)<((ZP a0).2.length:Int)))then(bif(!((YF b c).2==(xT b c).2))then(.inl false)else(bif(!decide (Vt d=(⟨#[]⟩:ByteArray)))then(.inl false)else(match SN a0 J U iD iG iP iV iX iY iU ia iK iL iM ((Zn b).length+1) 0 with|.inl r2=>.inl r2|.inr _=>Tz a0 n1 (J+1) e.Zt e.ZC e.Methods e.XJ e.Now d.Zd d.Zw d.ZA d.Y2 d.Yc d.Next d.YL)))else(.inr (U,iD,iG,iP,iV,iX,iY,iU,ia,iK,iL,iM)))
def Ni(a0:List UInt8):Bool:=letI b:=(ZP a0).1;letI c:=b.Frame;(bif vi a0 then true else(match Tz a0 ((ZP a0).2.length+1) 0 c.Zt c.ZC c.Methods c.XJ c.Now b.Zd b.Zw b.ZA b.Y2 b.Yc b.Next b.YL with|.inl r1=>r1|.inr (z1_0,z1_1,z1_2,z1_3,z1_4,z1_5,z1_6,z1_7,z1_8,z1_9,z1_10,z1_11)=>true))
end Go.Mo
