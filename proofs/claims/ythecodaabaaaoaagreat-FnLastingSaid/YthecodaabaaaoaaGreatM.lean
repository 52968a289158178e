/- Models of the functions: what each computes, on typed data. No condition. -/
import Derived.Test.YthecodaabaaaoaaGreatMo
namespace Go.Mo
open Go.Vm
set_option linter.unusedVariables false
def wO(a0:List UInt8):Bool:=decide ((a0.length:Int)>1048576)
def N8(a0:List UInt8):Nat->Int->Nat->Int
  |0,_,_=>default
  |n1+1,J,U=>bif(U:Int)<(a0.length:Int)&&(U:Int)<4000 then N8 a0 n1 (EG .i64 (W (W (W (J*137)+W ((nth a0 U).toNat:Int))+11)) 1073741823) (U+1)else J
def Ws(a0:List UInt8):YI:=match N8 a0 4001 (W (193017+(a0.length:Int))) 0 with|z1_0=>YI.mk a0 0 z1_0
def Ye(a0:YI):YI×Int:=letI c:=W (W (a0.h*6364136223846793005)+1442695040888963407);letI d:=EG .i64 (tE .i64 (c.fdiv (2^min 33 IntKind.i64.bits)) (c.fdiv (2^min 47 IntKind.i64.bits))) 255;bif(a0.i:Int)<(a0.b.length:Int)then(YI.mk a0.b (a0.i+1) c,EG .i64 (W (d+W ((nth a0.b a0.i).toNat:Int))) 255)else(YI.mk a0.b a0.i c,d)
def ZL(a0:YI)(a1:Int):YI×Int:=letI b:=Ye (Ye a0).1;bif a1<=0 then(a0,0)else bif a1<=256 then((Ye a0).1,Int.tmod (Ye a0).2 a1)else((Ye b.1).1,Int.tmod (W (W (W ((Ye a0).2*65536)+W (b.2*256))+(Ye b.1).2)) a1)
def jb(a0 a1:Int):Int:=bif a1>a0 then a1 else a0
def Tt(a0 a1:Int):Int:=bif a1<a0 then a1 else a0
def yD:List Y6:=([Y6.mk 1 90 1 0 501,Y6.mk 2 90 3 40 502,Y6.mk 11 1 1 0 511,Y6.mk 12 1 2 20 512,Y6.mk 13 2 3 40 513,Y6.mk 21 50 1 0 521,Y6.mk 31 81 1 0 531,Y6.mk 32 82 2 20 532,Y6.mk 33 83 3 40 533,Y6.mk 34 84 4 60 534]:List Y6)
def YR:List Zo:=([Zo.mk 1 31 1,Zo.mk 2 32 2,Zo.mk 3 33 1,Zo.mk 4 34 0]:List Zo)
def kW:List YJ:=([YJ.mk 1 0 40 50,YJ.mk 2 20 80 70,YJ.mk 3 40 120 200,YJ.mk 4 60 10001 10001]:List YJ)
def UK(a0:List Y6)(a1:Int):Nat->Nat->Sum Int Unit
  |0,_=>.inr ()
  |n1+1,J=>bif(J:Int)<(a0.length:Int)then bif(nth a0 J).Number==a1 then .inl (J:Int)else UK a0 a1 n1 (J+1)else .inr ()
def Ys(a0:List Y6)(a1:Int):Int:=match UK a0 a1 (a0.length+1) 0 with|.inl r1=>r1|.inr _=>-1
def Yd(a0 a1 a2:Int):Bool:=decide (a0>=a1)&&decide (a0<=a2)
def SH(a0:YO):Zh:=Zh.mk a0.XF a0.To
def VS(a0:Int):Bool:=Yd a0 0 10000
def GY(a0:Zh):Bool:=VS a0.XF&&VS a0.To&&decide (a0.XF<=a0.To)
def HC(a0:YO):Bool:=Yd a0.Zc 1 999&&Yd a0.Key 1 99&&Yd a0.YA 1 99&&a0.Key !=a0.YA&&Yd a0.qf 0 99&&GY (SH a0)
def xy(a0:YO):List Int:=([101,a0.Zc,a0.Key,a0.qf,a0.XF,a0.To,a0.YA]:List Int)
def u6(a0 a1:Int):Int:=bif !(Yd a1 1 1000000000000)then 0 else Int.tmod (W (Int.tmod a0 a1+a1)) a1
def H7(a0:List Int):Nat->Int->Nat->Int
  |0,_,_=>default
  |n1+1,J,U=>bif(U:Int)<(a0.length:Int)then H7 a0 n1 (Int.tmod (W (W (W (J*1000003)+u6 (nth a0 U) 2147483647)+13)) 2147483647) (U+1)else J
def CD(a0:List Int):Int:=match H7 a0 (a0.length+1) 11 0 with|z1_0=>z1_0
def jc(a0:Int)(a1:List Int):Int:=letI b:=([a0]:List Int);CD (b++a1++b)
def ka(a0:Y6)(a1:List Int):Int:=jc a0.Ri (([a0.Method]:List Int)++a1)
def jS(a0:List Y6)(a1:YO):YO×Bool:=letI b:=Ys a0 a1.YA;bif !(HC a1)||b<0||Ys a0 a1.Key<0 then(YO.mk 0 0 0 0 0 0 0,false)else(YO.mk a1.Zc a1.Key a1.qf a1.XF a1.To a1.YA (ka (nth a0 b.toNat) (xy a1)),true)
def jN:List YO:=([(jS yD (YO.mk 1 11 1 0 60 1 0)).1,(jS yD (YO.mk 2 12 1 20 100 1 0)).1,(jS yD (YO.mk 3 13 2 40 150 2 0)).1]:List YO)
def QG(a0:Int):ZG:=letI b:=Tt 1 (jb 0 a0);letI c:=Zb.mk yD YR kW b 0;letI d:=([-1,-1,-1]:List Int);letI e:=([]:List ZR);letI f:=([ZE.mk 0 e,ZE.mk 1 e]:List ZE);letI g:=([0,0,0,0]:List Int);letI h:=([]:List Int);bif b==1 then ZG.mk c jN d f g ([1]:List Int) 1 h else ZG.mk c jN d f g h 1 h
def YG(a0:YI)(a1:Int):YI×Bool:=letI b:=ZL a0 a1;(b.1,b.2==0)
def YD(a0:YI)(a1:List Int):YI×Int:=letI b:=ZL a0 (a1.length:Int);(b.1,nth a1 b.2.toNat)
def PU(a0:YI)(a1:List ByteArray):YI×ByteArray:=letI b:=ZL a0 (a1.length:Int);(b.1,nth a1 b.2.toNat)
def yW(a0:YI):YI×ByteArray:=letI b:=PU a0 ([(⟨#[]⟩:ByteArray),(⟨#[97]⟩:ByteArray),(⟨#[98]⟩:ByteArray),(⟨#[97,98]⟩:ByteArray),(⟨#[121,101,115]⟩:ByteArray),(⟨#[110,111]⟩:ByteArray),(⟨#[111,110,101,32,104,117,110,100,114,101,100]⟩:ByteArray)]:List ByteArray);(b.1,b.2)
def xu(a0:ZW):Nat->Nat->Sum Bool Unit
  |0,_=>.inr ()
  |n2+1,nc=>bif(nc:Int)<(a0.KS.length:Int)then bif !(Yd (nth a0.KS nc) 1 1000000000000)then .inl false else xu a0 n2 (nc+1)else .inr ()
def xe(a0:ZW):Nat->Nat->Sum Bool Unit
  |0,_=>.inr ()
  |n1+1,J=>bif(J:Int)<(a0.X3.length:Int)then bif((nth a0.X3 J).size:Int)>40 then .inl false else xe a0 n1 (J+1)else .inr ()
def yy(a0:ZW):Bool:=letI b:=a0.X3.length;letI c:=a0.KS.length;match xe a0 (b+1) 0 with|.inl r1=>r1|.inr _=>(match xu a0 (c+1) 0 with|.inl r2=>r2|.inr _=>Yd a0.Vi 0 999&&Yd (b:Int) 1 6&&(c:Int)==(b:Int))
def T7(a0:Int):Bool:=Yd a0 1 2147483646
def yI(a0:Int)(a1:List ByteArray)(a2:Int):Nat->Nat->List Int->List Int
  |0,_,_=>default
  |n1+1,J,U=>bif(J:Int)<(a1.length:Int)then yI a0 a1 a2 n1 (J+1) (U++([jb 1 (jc a2 ([a0,(J:Int)]:List Int))]:List Int))else U
def yA(a0:Int)(a1:List ByteArray)(a2:Int):ZW×Bool:=letI b:=([]:List Int);(match yI a0 a1 a2 (a1.length+1) 0 b with|z1_0=>letI c:=ZW.mk a0 a1 z1_0;bif !(yy c)||!(T7 a2)then(ZW.mk 0 ([]:List ByteArray) b,false)else(c,true))
def kp:Nat->List ByteArray->Int->List UInt8->Nat->Int->List ByteArray×List UInt8×Nat×Int
  |0,_,_,_,_,_=>(default,default,default,default)
  |n1+1,J,U,nb,nm,mA=>letI c:=yW (YI.mk nb nm mA);bif U>0 then kp n1 (J++([c.2]:List ByteArray)) (W (U-1)) c.1.b c.1.i c.1.h else(J,nb,nm,mA)
def X0(a0:YI):YI×ZW:=letI c:=(ZL a0 3).1;(match kp 5 ([]:List ByteArray) (W (1+(ZL a0 3).2)) c.b c.i c.h with|(z1_0,z1_1,z1_2,z1_3)=>letI d:=ZL (YI.mk z1_1 z1_2 z1_3) 5;(d.1,(yA d.2 z1_0 11).1))
def XU(a0:YI)(a1:Int):YI×Zt:=letI b:=decide (a1>=40);letI c:=decide (a1>=60);letI d:=YD a0 ([0,-10,40]:List Int);letI e:=ZW.mk 0 ([]:List ByteArray) ([]:List Int);letI f:=(d.1,Zt.mk 5 0 d.2 0 0 e ([2,3,4]:List Int));letI g:=bif c then f else(d.1,Zt.mk 5 0 d.2 0 0 e ([1,2,3]:List Int));bif a1>=20 then bif b then g else bif c then f else(d.1,Zt.mk 5 0 d.2 0 0 e ([1,2]:List Int))else bif b then g else bif c then f else(d.1,Zt.mk 5 0 d.2 0 0 e ([1]:List Int))
def Z6(a0:YI):YI×List Zt:=letI b:=YD a0 ([11,12]:List Int);letI c:=XU (X0 b.1).1 25;letI d:=XU c.1 43;letI e:=XU d.1 65;letI f:=([]:List Int);letI g:=ZW.mk 0 ([]:List ByteArray) f;letI h:=Zt.mk 1 22 0 0 0 g f;(e.1,([h,Zt.mk 2 0 b.2 0 10000 (X0 b.1).2 f,Zt.mk 1 3 0 0 0 g f,Zt.mk 3 1 0 0 0 g f]:List Zt)++([c.2,Zt.mk 1 18 0 0 0 g f]:List Zt)++([d.2,h]:List Zt)++([e.2,Zt.mk 1 20 0 0 0 g f]:List Zt))
def Xu(a0:YI):YI×Zt:=letI b:=ZL a0 16;letI c:=b.2;letI d:=YD b.1 ([1,5,10,20,30]:List Int);letI e:=([]:List Int);letI f:=ZW.mk 0 ([]:List ByteArray) e;letI g:=(d.1,Zt.mk 1 d.2 0 0 0 f e);letI h:=ZL b.1 2;letI i:=YD h.1 ([11,12,13]:List Int);letI j:=YD i.1 ([30,10000]:List Int);letI k:=((X0 j.1).1,Zt.mk 2 h.2 i.2 0 j.2 (X0 j.1).2 e);letI l:=ZL b.1 3;letI m:=W (1+l.2);letI n:=(l.1,Zt.mk 3 m 0 0 0 f e);letI o:=ZL h.1 2;letI p:=ZL o.1 3;letI q:=YD h.1 ([11,12]:List Int);letI r:=ZL b.1 4;letI s:=YD r.1 ([5,25,60]:List Int);letI t:=YD l.1 ([10,40,60]:List Int);letI u:=YD h.1 ([0,-10,40]:List Int);letI v:=ZL u.1 3;bif c==0 then g else bif c==1 then g else bif c==2 then g else bif c==3 then k else bif c==4 then k else bif c==5 then n else bif c==6 then n else bif c==7 then(l.1,Zt.mk 4 l.2 0 0 0 f e)else bif c==8 then(p.1,Zt.mk 6 h.2 o.2 (W (1+p.2)) 0 f e)else bif c==9 then(h.1,Zt.mk 7 h.2 0 0 0 f e)else bif c==10 then((X0 q.1).1,Zt.mk 8 h.2 q.2 0 0 (X0 q.1).2 e)else bif c==11 then(s.1,Zt.mk 9 (W (1+r.2)) s.2 0 0 f e)else bif c==12 then(t.1,Zt.mk 10 m t.2 0 0 f e)else(v.1,Zt.mk 5 h.2 u.2 0 0 f ((([1,2,3,4]:List Int).drop v.2.toNat).take (4-v.2.toNat)))
def Ko:Nat->List Zt->Int->List UInt8->Nat->Int->List Zt×List UInt8×Nat×Int
  |0,_,_,_,_,_=>(default,default,default,default)
  |n1+1,J,U,nb,nm,mA=>letI c:=Xu (YI.mk nb nm mA);bif U>0 then Ko n1 (J++([c.2]:List Zt)) (W (U-1)) c.1.b c.1.i c.1.h else(J,nb,nm,mA)
def Ks:Nat->List Zt->Int->List UInt8->Nat->Int->List Zt×List UInt8×Nat×Int
  |0,_,_,_,_,_=>(default,default,default,default)
  |n2+1,nc,nh,lT,lV,gY=>letI c:=Xu (YI.mk lT lV gY);bif nh>0 then Ks n2 (nc++([c.2]:List Zt)) (W (nh-1)) c.1.b c.1.i c.1.h else(nc,lT,lV,gY)
def jR(a0:YI)(a1:Int):YI×List Zt:=letI c:=Z6 (YG a0 2).1;letI d:=ZL c.1 (W ((c.2.length:Int)+1));letI e:=ZL d.1 a1;letI f:=ZL (YG a0 2).1 a1;bif(YG a0 2).2 then(match Ko (e.2.toNat+2) (c.2.take d.2.toNat) e.2 e.1.b e.1.i e.1.h with|(z1_0,z1_1,z1_2,z1_3)=>(YI.mk z1_1 z1_2 z1_3,z1_0))else(match Ks (f.2.toNat+2) ([]:List Zt) f.2 f.1.b f.1.i f.1.h with|(lQ,fY,z2_2,z2_3)=>(YI.mk fY z2_2 z2_3,lQ))
def ZA(a0:List UInt8):ZG×(List Zt):=letI b:=ZL (Ws a0) 2;(QG b.2,(jR b.1 12).2)
def XO(a0:List UInt8)(a1:Int):Int:=letI b:=(a0.length:Int);bif a1<b then W ((nth a0 a1.toNat).toNat:Int)else Int.tmod (W (W (a1*31)+W (b*7))) 256
def RX(a0:Zb):Zb:=a0
def OW(a0:List Int):List Int:=a0
def UC(a0:ZW):ZW:=a0
def PF(a0:ZU):ZU:=a0
def kC(a0:List ZU):Nat->List ZU->Nat->List ZU
  |0,_,_=>default
  |n1+1,J,U=>bif(U:Int)<(a0.length:Int)then kC a0 n1 (J++([nth a0 U]:List ZU)) (U+1)else J
def VB(a0:List ZU):List ZU:=match kC a0 (a0.length+1) ([]:List ZU) 0 with|z1_0=>z1_0
def SO(a0:List Zm):List Zm:=a0
def Ta(a0:Ze):Ze:=a0
def jy(a0:ZX):Nat->Nat->List Ze->List Ze
  |0,_,_=>default
  |n1+1,J,U=>bif(J:Int)<(a0.ZQ.length:Int)then jy a0 n1 (J+1) (U++([nth a0.ZQ J]:List Ze))else U
def Wz(a0:ZX):ZX:=match jy a0 (a0.ZQ.length+1) 0 ([]:List Ze)with|z1_0=>ZX.mk a0.ZM z1_0
def Oh(a0:ZR):ZR:=a0
def qz(a0:ZE):Nat->Nat->List ZR->List ZR
  |0,_,_=>default
  |n1+1,J,U=>bif(J:Int)<(a0.ZC.length:Int)then qz a0 n1 (J+1) (U++([nth a0.ZC J]:List ZR))else U
def WG(a0:ZE):ZE:=match qz a0 (a0.ZC.length+1) 0 ([]:List ZR)with|z1_0=>ZE.mk a0.Id z1_0
def kx(a0:ZG):Nat->Nat->List ZE->List ZE
  |0,_,_=>default
  |n1+1,J,U=>bif(J:Int)<(a0.ZB.length:Int)then kx a0 n1 (J+1) (U++([nth a0.ZB J]:List ZE))else U
def Uq(a0:ZG):ZG:=match kx a0 (a0.ZB.length+1) 0 ([]:List ZE)with|z1_0=>ZG.mk a0.Frame a0.Zf a0.Zy z1_0 a0.Y9 a0.Yg a0.Next a0.YN
def ZZ(a0 a1 a2:Int):Bool:=decide (a1<=a0)&&decide (a0<=a2)
def K4(a0:ZG)(a1:Int):ZG×Bool:=letI b:=a0.Frame;letI c:=W (b.Now+a1);bif !(ZZ a1 0 100)||c>10000 then(a0,false)else(ZG.mk (Zb.mk b.Z0 b.ZD b.Methods b.XB c) a0.Zf a0.Zy a0.ZB a0.Y9 a0.Yg a0.Next a0.YN,true)
def UN(a0:List Y6)(a1:Int):Nat->Nat->Sum Int Unit
  |0,_=>.inr ()
  |n1+1,J=>bif(J:Int)<(a0.length:Int)then bif(nth a0 J).Number==a1 then .inl (J:Int)else UN a0 a1 n1 (J+1)else .inr ()
def YT(a0:List Y6)(a1:Int):Int:=match UN a0 a1 (a0.length+1) 0 with|.inl r1=>r1|.inr _=>-1
def jj(a0:List YJ)(a1:Int):Nat->Int->Nat->Int
  |0,_,_=>default
  |n1+1,J,U=>letI b:=nth a0 U;bif(U:Int)<(a0.length:Int)then bif b.Li<=a1&&a1<b.Ends&&(J<0||b.Ends>(nth a0 J.toNat).Ends)then jj a0 a1 n1 (U:Int) (U+1)else jj a0 a1 n1 J (U+1)else J
def ZY(a0:List YJ)(a1:Int):Int:=match jj a0 a1 (a0.length+1) (-1) 0 with|z1_0=>bif z1_0<0 then-1 else(nth a0 z1_0.toNat).Id
def Yt(a0:ZG)(a1:Int):Bool:=ZZ a1 0 (W ((a0.ZB.length:Int)-1))
def V8(a0:ZW):Nat->Nat->Sum Bool Unit
  |0,_=>.inr ()
  |n1+1,J=>bif(J:Int)<(a0.X3.length:Int)then bif((nth a0.X3 J).size:Int)>40||!(ZZ (nth a0.KS J) 1 1000000000000)then .inl false else V8 a0 n1 (J+1)else .inr ()
def qM(a0:ZW):Bool:=letI b:=a0.X3.length;bif !(ZZ a0.Vi 0 999)||!(ZZ (b:Int) 1 6)||(a0.KS.length:Int)!=(b:Int)then false else(match V8 a0 (b+1) 0 with|.inl r1=>r1|.inr _=>true)
def WN(a0:List UInt8):Nat->List Int->Nat->List Int
  |0,_,_=>default
  |n1+1,J,U=>bif(U:Int)<(a0.length:Int)then WN a0 n1 (J++([W ((nth a0 U).toNat:Int)]:List Int)) (U+1)else J
def VK(a0:List UInt8):List Int:=match WN a0 (a0.length+1) ([]:List Int) 0 with|z1_0=>z1_0
def uS(a0 a1:Int):Int:=bif !(ZZ a1 1 1000000000000)then 0 else Int.tmod (W (Int.tmod a0 a1+a1)) a1
def Gv(a0:List Int):Nat->Int->Nat->Int
  |0,_,_=>default
  |n1+1,J,U=>bif(U:Int)<(a0.length:Int)then Gv a0 n1 (Int.tmod (W (W (W (J*1000003)+uS (nth a0 U) 2147483647)+13)) 2147483647) (U+1)else J
def CJ(a0:List Int):Int:=match Gv a0 (a0.length+1) 11 0 with|z1_0=>z1_0
def Kc(a0:Int)(a1:List Int):Int:=CJ (([7,a0]:List Int)++a1)
def SA(a0:Int)(a1:ByteArray)(a2:Int):Int:=Kc a0 (([a2]:List Int)++VK a1.data.toList)
def TQ(a0:Int)(a1:ZW):Nat->List Int->Nat->List Int
  |0,_,_=>default
  |n1+1,J,U=>bif(U:Int)<(a1.X3.length:Int)then TQ a0 a1 n1 (J++([SA a0 (nth a1.X3 U) (nth a1.KS U)]:List Int)) (U+1)else J
def Yx(a0:Int)(a1:ZW):Int:=bif !(qM a1)then-1 else(match TQ a0 a1 (a1.X3.length+1) ([a1.Vi]:List Int) 0 with|z1_0=>Kc a0 z1_0)
def QQ(a0:Zp):List Int:=([104,a0.Key,a0.Zc,a0.Method,a0.QI,a0.VU,a0.Org,a0.V3,a0.UF]:List Int)
def RO(a0:Int)(a1:List Int):Int:=letI b:=([a0]:List Int);CJ (b++a1++b)
def Oc(a0:Y6)(a1:List Int):Int:=RO a0.Ri (([a0.Method]:List Int)++a1)
def y8(a0:List Y6)(a1:Int)(a2:List Int):Int×Bool:=letI b:=YT a0 a1;bif b<0 then(0,false)else(Oc (nth a0 b.toNat) a2,true)
def xL(a0:Zp):Bool:=ZZ a0.Key 1 99&&ZZ a0.Zc 1 999&&ZZ a0.Method 0 99&&ZZ a0.Org 0 99&&ZZ a0.VU 1 3&&ZZ a0.QI 0 1000000000000&&ZZ a0.V3 0 1000000000000&&ZZ a0.UF 0 1000000000000
def Xg(a0:List Y6)(a1:Zp):Zp×Bool:=letI b:=y8 a0 a1.Key (QQ a1);bif !(xL a1)||!b.2 then(Zp.mk 0 0 0 0 0 0 0 0 0,false)else(Zp.mk a1.Key a1.Zc a1.Method a1.QI a1.VU a1.Org a1.V3 a1.UF b.1,true)
def Yo(a0:Zp):ZU:=ZU.mk a0.Key (QQ a0) a0.Mark
def xv(a0:YO):List Int:=([101,a0.Zc,a0.Key,a0.qf,a0.XF,a0.To,a0.YA]:List Int)
def Ju(a0:YO):ZU:=ZU.mk a0.YA (xv a0) a0.Mark
def kF(a0:ZE)(a1:Int):Nat->Nat->Sum Int Unit
  |0,_=>.inr ()
  |n1+1,J=>bif(J:Int)<(a0.ZC.length:Int)then bif(nth a0.ZC J).Id==a1 then .inl (J:Int)else kF a0 a1 n1 (J+1)else .inr ()
def Zg(a0:ZE)(a1:Int):Int:=match kF a0 a1 (a0.ZC.length+1) 0 with|.inl r1=>r1|.inr _=>-1
def Kd(a0:Int):Bool:=ZZ a0 0 10000
def WD(a0 a1:List Int):Nat->Nat->Sum Bool Unit
  |0,_=>.inr ()
  |n1+1,J=>bif(J:Int)<(a0.length:Int)then bif nth a0 J !=nth a1 J then .inl false else WD a0 a1 n1 (J+1)else .inr ()
def Ub(a0 a1:List Int):Bool:=bif(a0.length:Int)!=(a1.length:Int)then false else(match WD a0 a1 (a0.length+1) 0 with|.inl r1=>r1|.inr _=>true)
def KB(a0 a1:ZU):Bool:=a0.Key==a1.Key&&a0.Mark==a1.Mark&&Ub a0.YM a1.YM
def Wv(a0:List ZU)(a1:ZU):Nat->Nat->Sum Bool Unit
  |0,_=>.inr ()
  |n1+1,J=>bif(J:Int)<(a0.length:Int)then bif KB (nth a0 J) a1 then .inl true else Wv a0 a1 n1 (J+1)else .inr ()
def K8(a0:List ZU)(a1:ZU):Bool:=match Wv a0 a1 (a0.length+1) 0 with|.inl r1=>r1|.inr _=>false
def jn(a0:ZX):Nat->Nat->Sum Bool Unit
  |0,_=>.inr ()
  |n2+1,nc=>letI b:=(nth a0.ZQ nc).Count;bif(nc:Int)<(a0.ZQ.length:Int)then bif !(ZZ b 1 (a0.ZM.length:Int))||(nc:Int)>0&&b<(nth a0.ZQ (nc-1)).Count then .inl false else jn a0 n2 (nc+1)else .inr ()
def kD(a0:ZX):Nat->Nat->Sum Bool Unit
  |0,_=>.inr ()
  |n1+1,J=>bif(J:Int)<(a0.ZM.length:Int)then bif K8 (a0.ZM.take J) (nth a0.ZM J)then .inl false else kD a0 n1 (J+1)else .inr ()
def Xv(a0:ZX):Bool:=letI b:=a0.ZM.length;letI c:=a0.ZQ.length;bif !(ZZ (b:Int) 1 12)||(c:Int)>8 then false else(match kD a0 (b+1) 0 with|.inl r1=>r1|.inr _=>(match jn a0 (c+1) 0 with|.inl r2=>r2|.inr _=>true))
def Jy(a0:ZR):Bool:=ZZ a0.Id 1 999&&Kd a0.XI&&qM a0.Doc&&Xv a0.ZK&&KB (nth a0.ZK.ZM 0) (Yo a0.Sig)
def WA(a0:ZE):Nat->Nat->Sum Bool Unit
  |0,_=>.inr ()
  |n1+1,J=>letI b:=nth a0.ZC J;bif(J:Int)<(a0.ZC.length:Int)then bif !(Jy b)||(J:Int)>0&&(nth a0.ZC (J-1)).Id>=b.Id then .inl false else WA a0 n1 (J+1)else .inr ()
def Y7(a0:ZE):Bool:=letI b:=a0.ZC.length;match WA a0 (b+1) 0 with|.inl r1=>r1|.inr _=>ZZ a0.Id 0 99&&decide ((b:Int)<=8)
def Ul(a0:ZE)(a1:ZR):Nat->Nat->Nat
  |0,_=>default
  |n1+1,J=>bif(J:Int)<(a0.ZC.length:Int)&&(nth a0.ZC J).Id<a1.Id then Ul a0 a1 n1 (J+1)else J
def Yr(a0:ZE)(a1:ZR):ZE×Bool:=bif Zg a0 a1.Id>=0||!(Y7 a0)then(a0,false)else(match Ul a0 a1 (a0.ZC.length+1) 0 with|z1_0=>letI b:=ZE.mk a0.Id (a0.ZC.take z1_0++([a1]:List ZR)++a0.ZC.drop z1_0);bif !(Y7 b)then(a0,false)else(b,true))
def Jh(a0:ZG)(a1 a2:Int)(a3:ZW)(a4 a5:Int):Nat->Nat->Sum (ZG×Bool) Unit
  |0,_=>.inr ()
  |n1+1,J=>letI b:=nth a0.Zf J;letI c:=a0.Frame;letI d:=ZY c.Methods c.Now;letI e:=Xg c.Z0 (Zp.mk a2 b.Zc d (Yx d a3) 1 a4 0 0 0);letI f:=Yr (nth a0.ZB a1.toNat) (ZR.mk a0.Next a5 a3 e.1 (ZX.mk ([Yo e.1,Ju b]:List ZU) ([]:List Ze)));bif(J:Int)<(a0.Zf.length:Int)then bif b.Key !=a2 then Jh a0 a1 a2 a3 a4 a5 n1 (J+1)else bif !e.2||!f.2 then .inl (a0,false)else .inl (ZG.mk c a0.Zf a0.Zy (a0.ZB.set a1.toNat f.1) a0.Y9 a0.Yg (W (a0.Next+1)) a0.YN,true)else .inr ()
def Xa(a0:ZG)(a1 a2:Int)(a3:ZW)(a4 a5:Int):ZG×Bool:=letI b:=a0.Frame;bif !(Yt a0 a1)||YT b.Z0 a2<0||ZY b.Methods b.Now<0 then(a0,false)else(match Jh a0 a1 a2 a3 a4 a5 (a0.Zf.length+1) 0 with|.inl r1=>r1|.inr _=>(a0,false))
def J2(a0:ZG)(a1 a2:Int)(a3:ZW)(a4 a5:Int):ZG×Bool:=letI b:=YT a0.Frame.Z0 a2;letI c:=Xa a0 a1 a2 a3 a4 a5;bif b<0||(nth a0.Frame.Z0 b.toNat).RH>a0.Frame.Now then(a0,false)else(c.1,c.2)
def kZ(a0:ZG)(a1:Int):Nat->Nat->Sum (Int×Int) Unit
  |0,_=>.inr ()
  |n1+1,J=>letI b:=Zg (nth a0.ZB J) a1;bif(J:Int)<(a0.ZB.length:Int)then bif b>=0 then .inl ((J:Int),b)else kZ a0 a1 n1 (J+1)else .inr ()
def ZO(a0:ZG)(a1:Int):Int×Int:=match kZ a0 a1 (a0.ZB.length+1) 0 with|.inl r1=>r1|.inr _=>(-1,-1)
def Y0(a0:ZU):Int:=letI b:=(a0.YM.length:Int);letI c:=nth a0.YM 0;bif b==0||!(ZZ c 101 105)||b !=nth ([7,5,5,9,6]:List Int) (W (c-101)).toNat then 0 else c
def YK(a0:ZU):YO×Bool:=letI b:=a0.YM;bif Y0 a0 !=101||nth b 6 !=a0.Key then(YO.mk 0 0 0 0 0 0 0,false)else(YO.mk (nth b 1) (nth b 2) (nth b 3) (nth b 4) (nth b 5) (nth b 6) a0.Mark,true)
def Wu(a0:List YO)(a1:Int):Nat->Nat->Sum Int Unit
  |0,_=>.inr ()
  |n1+1,J=>bif(J:Int)<(a0.length:Int)then bif(nth a0 J).Zc==a1 then .inl (J:Int)else Wu a0 a1 n1 (J+1)else .inr ()
def jG(a0:List YO)(a1:Int):Int:=match Wu a0 a1 (a0.length+1) 0 with|.inl r1=>r1|.inr _=>-1
def YW(a0:ZG)(a1:Int):Int×Int×Bool:=letI b:=ZO a0 a1;letI c:=(nth (nth a0.ZB b.1.toNat).ZC b.2.toNat).ZK.ZM;letI d:=YK (nth c 1);letI e:=jG a0.Zf d.1.Zc;bif b.1<0||(c.length:Int)<2 then(0,0,false)else(b.1,e,d.2&&e>=0)
def Kg(a0:Zs):List Int:=([102,a0.Zc,a0.xP,a0.Zy,a0.YA]:List Int)
def SE(a0:Zs):Bool:=ZZ a0.Zc 1 999&&Kd a0.xP&&ZZ a0.Zy (-1) (W (a0.xP+1))&&ZZ a0.YA 1 99
def XS(a0:List Y6)(a1:Zs):Zs×Bool:=letI b:=y8 a0 a1.YA (Kg a1);bif !(SE a1)||!b.2 then(Zs.mk 0 0 0 0 0,false)else(Zs.mk a1.Zc a1.xP a1.Zy a1.YA b.1,true)
def XX(a0:Zs):ZU:=ZU.mk a0.YA (Kg a0) a0.Mark
def J3(a0:ZX)(a1:ZU):ZX×Bool:=letI b:=ZX.mk (a0.ZM++([a1]:List ZU)) a0.ZQ;bif !(Xv b)then(a0,false)else(b,true)
def Jv(a0:ZE)(a1:Int)(a2:ZU):ZE×Bool:=letI b:=Zg a0 a1;letI c:=nth a0.ZC b.toNat;letI d:=J3 c.ZK a2;bif b<0 then(a0,false)else(ZE.mk a0.Id (a0.ZC.set b.toNat (ZR.mk c.Id c.XI c.Doc c.Sig d.1)),d.2)
def JI(a0:ZG)(a1 a2:Int)(a3:Zs):ZG×Bool:=letI b:=XS a0.Frame.Z0 a3;letI c:=Jv (nth a0.ZB a1.toNat) a2 (XX b.1);bif !b.2||!c.2 then(a0,false)else(ZG.mk a0.Frame a0.Zf a0.Zy (a0.ZB.set a1.toNat c.1) a0.Y9 a0.Yg a0.Next a0.YN,true)
def Qv(a0:ZG)(a1:Int):ZG×Bool:=letI b:=YW a0 a1;letI c:=nth a0.Zf b.2.1.toNat;letI d:=YT a0.Frame.Z0 c.YA;letI e:=a0.Frame.Now;letI f:=nth a0.Zy b.2.1.toNat;letI g:=JI a0 b.1 a1 (Zs.mk c.Zc e (-1) c.YA 0);letI h:=JI a0 b.1 a1 (Zs.mk c.Zc e f c.YA 0);bif !b.2.2||b.2.1>=(a0.Zy.length:Int)then(a0,false)else bif d<0||(nth a0.Frame.Z0 d.toNat).RH>e then(a0,false)else bif f>W (e+1)then(g.1,g.2)else(h.1,h.2)
def QO(a0:ZG)(a1:Int):ZG×Bool:=bif !(ZZ a1 0 (W ((a0.Zy.length:Int)-1)))||nth a0.Zy a1.toNat !=-1 then(a0,false)else(ZG.mk a0.Frame a0.Zf (a0.Zy.set a1.toNat (W (a0.Frame.Now+1))) a0.ZB a0.Y9 a0.Yg a0.Next a0.YN,true)
def kr(a0:List Int):Nat->Nat->Sum Bool Unit
  |0,_=>.inr ()
  |n1+1,J=>bif(J:Int)<(a0.length:Int)then bif nth a0 (J-1)>=nth a0 J then .inl false else kr a0 n1 (J+1)else .inr ()
def JV(a0:List Int):Bool:=match kr a0 (a0.length+1) 1 with|.inl r1=>r1|.inr _=>true
def KH(a0:Zm):List Int:=([103,a0.Authority,a0.Seq,a0.Time,a0.QI]:List Int)
def ju(a1:Ze):Nat->List Int->Nat->List Int
  |0,_,_=>default
  |n2+1,nc,nh=>letI b:=nth a1.YV nh;bif(nh:Int)<(a1.YV.length:Int)then ju a1 n2 (nc++KH b++([b.Mark]:List Int)) (nh+1)else nc
def xV(a1:Ze):Nat->List Int->Nat->List Int
  |0,_,_=>default
  |n1+1,J,U=>letI b:=nth a1.Path U;bif(U:Int)<(a1.Path.length:Int)then bif b.Left then xV a1 n1 (J++([b.QI,1]:List Int)) (U+1)else xV a1 n1 (J++([b.QI,0]:List Int)) (U+1)else J
def KZ(a0:Int)(a1:Ze):Int:=letI b:=a1.YV.length;match xV a1 (a1.Path.length+1) ([4,a1.Count,a1.Method,a1.BX]:List Int) 0 with|z1_0=>(match ju a1 (b+1) (z1_0++([(b:Int)]:List Int)) 0 with|lQ=>Kc a0 lQ)
def kn(a0:Int)(a1:List ZU):Nat->List Int->Nat->List Int
  |0,_,_=>default
  |n1+1,J,U=>letI b:=nth a1 U;bif(U:Int)<(a1.length:Int)then kn a0 a1 n1 (J++([Kc a0 (([b.Key,b.Mark]:List Int)++b.YM)]:List Int)) (U+1)else J
def yU(a0:Int)(a1:List ZU):Int:=match kn a0 a1 (a1.length+1) ([2]:List Int) 0 with|z1_0=>Kc a0 z1_0
def Tm(a0 a1:Int)(a2:List ZU)(a3:Int):Int:=Kc a0 ([3,a1,yU a0 a2,a3]:List Int)
def KV(a0:ZR)(a1:Int):Int:=letI b:=a0.ZK.ZQ.length;letI c:=Yx a1 a0.Doc;bif(b:Int)>0 then Tm a1 c a0.ZK.ZM (KZ a1 (nth a0.ZK.ZQ (b-1)))else Tm a1 c a0.ZK.ZM 0
def ks(a0:ZE)(a1:Int):Nat->List Int->Nat->List Int
  |0,_,_=>default
  |n1+1,J,U=>bif(U:Int)<(a0.ZC.length:Int)then ks a0 a1 n1 (J++([KV (nth a0.ZC U) a1]:List Int)) (U+1)else J
def QK(a0:ZE)(a1:Int):List Int:=match ks a0 a1 (a0.ZC.length+1) ([]:List Int) 0 with|z1_0=>z1_0
def jw(a0 a1 a2:Int):Int:=Kc a0 ([1,a1,a2]:List Int)
def yS(a0:Int)(a1:List Int):Nat->List Int->Nat->List Int
  |0,_,_=>default
  |n1+1,J,U=>letI b:=(a1.length:Int);letI c:=W ((U:Int)+1);letI d:=nth a1 U;bif(U:Int)<b then bif c<b then yS a0 a1 n1 (J++([jw a0 d (nth a1 c.toNat)]:List Int)) (U+2)else yS a0 a1 n1 (J++([d]:List Int)) (U+2)else J
def zQ(a0:Int)(a1:List Int):List Int:=match yS a0 a1 (a1.length+1) ([]:List Int) 0 with|z1_0=>z1_0
def Sg(a0:Int):Nat->List Int->List Int
  |0,_=>default
  |n1+1,J=>bif(J.length:Int)>1 then Sg a0 n1 (zQ a0 J)else J
def SW(a0:Int)(a1:List Int):Int:=bif !(ZZ (a1.length:Int) 1 16)then-1 else(match Sg a0 (a1.length+1) a1 with|z1_0=>nth z1_0 0)
def Qt(a0:ZE)(a1:Int):Int:=SW a1 (QK a0 a1)
def xW(a0:List Zo)(a1:Int):Nat->Nat->Sum Int Unit
  |0,_=>.inr ()
  |n1+1,J=>bif(J:Int)<(a0.length:Int)then bif(nth a0 J).Id==a1 then .inl (J:Int)else xW a0 a1 n1 (J+1)else .inr ()
def Zk(a0:List Zo)(a1:Int):Int:=match xW a0 a1 (a0.length+1) 0 with|.inl r1=>r1|.inr _=>-1
def US(a0:List Int)(a1:Int):Nat->Nat->Sum Int Unit
  |0,_=>.inr ()
  |n1+1,J=>bif(J:Int)<(a0.length:Int)then bif nth a0 J==a1 then .inl (J:Int)else US a0 a1 n1 (J+1)else .inr ()
def PZ(a0:List Int)(a1:Int):Int:=match US a0 a1 (a0.length+1) 0 with|.inl r1=>r1|.inr _=>-1
def Qj(a0:List Int)(a1:Int):Bool:=decide (PZ a0 a1>=0)
def Xy(a0:List Y6)(a1:List Zo)(a2:Zm):Zm×Bool:=letI b:=a2.Authority;letI c:=(Zm.mk 0 0 0 0 0,false);letI d:=y8 a0 (nth a1 (Zk a1 b).toNat).Key (KH a2);bif Zk a1 b<0||a2.Seq<0||!(Kd a2.Time)then c else bif !d.2 then c else(Zm.mk b a2.Seq a2.Time a2.QI d.1,true)
def ym(a0:Int):Nat->List Int->Int->List X4->List X4
  |0,_,_,_=>default
  |n1+1,J,U,nb=>letI b:=(J.length:Int);letI c:=zQ a0 J;letI d:=W (Int.tdiv U 2);letI e:=W (U+1);bif b>1 then bif Int.tmod U 2==1 then ym a0 n1 c d (nb++([X4.mk (nth J (W (U-1)).toNat) true]:List X4))else bif e<b then ym a0 n1 c d (nb++([X4.mk (nth J e.toNat) false]:List X4))else ym a0 n1 c d nb else nb
def J0(a0:Int)(a1:List Int)(a2:Int):List X4:=letI b:=(a1.length:Int);letI c:=([]:List X4);bif !(ZZ a2 0 (W (b-1)))||b>16 then c else(match ym a0 (a1.length+1) a1 a2 c with|z1_0=>z1_0)
def XK(a0:ZX)(a1:Ze):ZX×Bool:=letI b:=ZX.mk a0.ZM (a0.ZQ++([a1]:List Ze));bif !(Xv b)then(a0,false)else(b,true)
def Qo(a0:ZE)(a1:Int)(a2:List Zm):Nat->Nat->List ZR->Sum (ZE×Bool) (List ZR)
  |0,_,_=>.inr default
  |n1+1,J,U=>letI b:=(nth a0.ZC J).ZK;letI c:=XK b (Ze.mk (b.ZM.length:Int) a1 (Qt a0 a1) (J0 a1 (QK a0 a1) (J:Int)) a2);letI d:=nth U J;bif(J:Int)<(a0.ZC.length:Int)then bif !c.2 then .inl (a0,false)else Qo a0 a1 a2 n1 (J+1) (U.set J (ZR.mk d.Id d.XI d.Doc d.Sig c.1))else .inr U
def XW(a0:ZE)(a1:Int)(a2:List Zm):ZE×Bool:=letI b:=a0.ZC.length;bif(b:Int)==0||!(Y7 a0)then(a0,false)else(match Qo a0 a1 a2 (b+1) 0 a0.ZC with|.inl r1=>r1|.inr z1_0=>letI c:=ZE.mk a0.Id z1_0;bif !(Y7 c)then(a0,false)else(c,true))
def QH(a0:ZG)(a1:Int)(a2:List Int)(a3:Int):Nat->List Zm->Nat->List Int->Sum (ZG×Bool) (List Zm×List Int)
  |0,_,_,_=>.inr (default,default)
  |n1+1,J,U,nb=>letI b:=a0.Frame;letI c:=nth a2 U;letI d:=Zk b.ZD c;letI e:=d.toNat;letI f:=YT b.Z0 (nth b.ZD e).Key;letI g:=b.Now;letI h:=nth a0.Y9 e;letI i:=W (g+a3);letI j:=if i<10000 then i else 10000;letI k:=Qt (nth a0.ZB a1.toNat) (ZY b.Methods g);letI l:=Xy b.Z0 b.ZD (Zm.mk c h (if j>0 then j else 0) k 0);letI m:=nb.set e (W (nth nb e+1));letI n:=Xy b.Z0 b.ZD (Zm.mk c h g k 0);bif(U:Int)<(a2.length:Int)then bif d<0||d>=(a0.Y9.length:Int)then .inl (a0,false)else bif f<0||(nth b.Z0 f.toNat).RH>g then .inl (a0,false)else bif Qj a0.Yg c then bif !l.2 then .inl (a0,false)else QH a0 a1 a2 a3 n1 (J++([l.1]:List Zm)) (U+1) m else bif !n.2 then .inl (a0,false)else QH a0 a1 a2 a3 n1 (J++([n.1]:List Zm)) (U+1) m else .inr (J,nb)
def Q6(a0:ZG)(a1:Int)(a2:List Int)(a3:Int):ZG×Bool:=letI b:=a0.Frame;letI c:=ZY b.Methods b.Now;bif !(Yt a0 a1)||c<0||!(JV a2)||(a2.length:Int)==0||!(ZZ a3 (-10000) 10000)then(a0,false)else(match QH a0 a1 a2 a3 (a2.length+1) ([]:List Zm) 0 a0.Y9 with|.inl r1=>r1|.inr (z1_0,z1_1)=>letI d:=XW (nth a0.ZB a1.toNat) c z1_0;bif !d.2 then(a0,false)else(ZG.mk b a0.Zf a0.Zy (a0.ZB.set a1.toNat d.1) z1_1 a0.Yg a0.Next a0.YN,true))
def VP(a0:Int)(a1:ZR):Nat->List Int->Nat->List Int
  |0,_,_=>default
  |n1+1,J,U=>bif(U:Int)<(a1.ZK.ZQ.length:Int)then VP a0 a1 n1 (J++([KZ a0 (nth a1.ZK.ZQ U)]:List Int)) (U+1)else J
def SL(a0:Int)(a1:ZR):Int:=match VP a0 a1 (a1.ZK.ZQ.length+1) ([5,a1.Id,a1.XI,Yx a0 a1.Doc,yU a0 a1.ZK.ZM]:List Int) 0 with|z1_0=>Kc a0 z1_0
def kH(a0:Int)(a1:List ZR):Nat->List Int->Nat->List Int
  |0,_,_=>default
  |n1+1,J,U=>bif(U:Int)<(a1.length:Int)then kH a0 a1 n1 (J++([SL a0 (nth a1 U)]:List Int)) (U+1)else J
def JF(a0:Int)(a1:List ZR):Int:=match kH a0 a1 (a1.length+1) ([]:List Int) 0 with|z1_0=>SW a0 z1_0
def Jd(a0:ZE)(a2:List Int):Nat->Nat->List ZR->Sum (Yk×Bool) (List ZR)
  |0,_,_=>.inr default
  |n1+1,J,U=>letI b:=Zg a0 (nth a2 J);bif(J:Int)<(a2.length:Int)then bif b<0 then .inl (Yk.mk 0 0 ([]:List ZR) 0,false)else Jd a0 a2 n1 (J+1) (U++([nth a0.ZC b.toNat]:List ZR))else .inr U
def Xo(a0:ZE)(a1:Int)(a2:List Int)(a3:Int):Yk×Bool:=letI b:=([]:List ZR);match Jd a0 a2 (a2.length+1) 0 b with|.inl r1=>r1|.inr z1_0=>bif(a2.length:Int)==0 then(Yk.mk 0 0 b 0,false)else(Yk.mk a0.Id a1 z1_0 (JF a3 z1_0),true)
def zO(a0:Yk):Nat->Nat->Sum Bool Unit
  |0,_=>.inr ()
  |n1+1,J=>bif(J:Int)<(a0.ZC.length:Int)then bif !(Jy (nth a0.ZC J))then .inl false else zO a0 n1 (J+1)else .inr ()
def xE(a0:Yk)(a1:Int):Bool:=letI b:=a0.ZC.length;match zO a0 (b+1) 0 with|.inl r1=>r1|.inr _=>ZZ (b:Int) 1 8&&a0.QI==JF a1 a0.ZC
def JL(a0:ZE)(a1:Yk):Nat->Nat->Int->List ZR->Sum (ZE×Bool) (Int×List ZR)
  |0,_,_,_=>.inr (default,default)
  |n1+1,J,U,nb=>letI b:=Yr (ZE.mk U nb) (nth a1.ZC J);bif(J:Int)<(a1.ZC.length:Int)then bif !b.2 then .inl (a0,false)else JL a0 a1 n1 (J+1) b.1.Id b.1.ZC else .inr (U,nb)
def Xs(a0:ZE)(a1:Yk)(a2:Int):ZE×Bool:=bif !(xE a1 a2)||a1.To !=a0.Id then(a0,false)else(match JL a0 a1 (a1.ZC.length+1) 0 a0.Id a0.ZC with|.inl r1=>r1|.inr (z1_0,z1_1)=>(ZE.mk z1_0 z1_1,true))
def Qf(a0:ZE)(a1:Int):ZE×Bool:=letI b:=Zg a0 a1;bif b<0 then(a0,false)else(ZE.mk a0.Id (a0.ZC.take b.toNat++a0.ZC.drop (W (b+1)).toNat),true)
def Kn(a0 a1:ZE)(a2:List Int):Nat->Nat->Int->List ZR->Sum (ZE×ZE×Bool) (Int×List ZR)
  |0,_,_,_=>.inr (default,default)
  |n1+1,J,U,nb=>letI b:=Qf (ZE.mk U nb) (nth a2 J);bif(J:Int)<(a2.length:Int)then bif !b.2 then .inl (a0,a1,false)else Kn a0 a1 a2 n1 (J+1) b.1.Id b.1.ZC else .inr (U,nb)
def XZ(a0 a1:ZE)(a2:List Int)(a3:Int):ZE×ZE×Bool:=letI b:=Xo a0 a1.Id a2 a3;letI c:=Xs a1 b.1 a3;bif !b.2||!c.2 then(a0,a1,false)else(match Kn a0 a1 a2 (a2.length+1) 0 a0.Id a0.ZC with|.inl r1=>r1|.inr (z1_0,z1_1)=>(ZE.mk z1_0 z1_1,c.1,true))
def K3(a0:ZG)(a1 a2 a3:Int):ZG×Bool:=letI b:=a0.Frame;letI c:=ZY b.Methods b.Now;letI d:=XZ (nth a0.ZB a1.toNat) (nth a0.ZB a2.toNat) ([a3]:List Int) c;bif !(Yt a0 a1)||!(Yt a0 a2)||a1==a2||c<0 then(a0,false)else bif d.2.2 then(ZG.mk b a0.Zf a0.Zy ((a0.ZB.set a1.toNat d.1).set a2.toNat d.2.1) a0.Y9 a0.Yg a0.Next a0.YN,d.2.2)else(a0,d.2.2)
def Q8(a0:ZE)(a1:Int):Nat->Nat->List ZR->List ZR
  |0,_,_=>default
  |n1+1,J,U=>letI b:=nth a0.ZC J;bif(J:Int)<(a0.ZC.length:Int)then bif b.XI>=a1 then Q8 a0 a1 n1 (J+1) (U++([b]:List ZR))else Q8 a0 a1 n1 (J+1) U else U
def yj(a0:ZE)(a1:Int):ZE×Int:=letI b:=a0.ZC.length;match Q8 a0 a1 (b+1) 0 ([]:List ZR)with|z1_0=>(ZE.mk a0.Id z1_0,W ((b:Int)-(z1_0.length:Int)))
def JZ(a0:ZG)(a1:Int):ZG×Bool:=bif !(Yt a0 a1)then(a0,false)else(ZG.mk a0.Frame a0.Zf a0.Zy (a0.ZB.set a1.toNat (yj (nth a0.ZB a1.toNat) a0.Frame.Now).1) a0.Y9 a0.Yg a0.Next a0.YN,true)
def kE(a0:List YJ)(a1:Int):Nat->Nat->Sum Int Unit
  |0,_=>.inr ()
  |n1+1,J=>bif(J:Int)<(a0.length:Int)then bif(nth a0 J).Id==a1 then .inl (J:Int)else kE a0 a1 n1 (J+1)else .inr ()
def qc(a0:List YJ)(a1:Int):Int:=match kE a0 a1 (a0.length+1) 0 with|.inl r1=>r1|.inr _=>-1
def yL(a0:List YJ)(a1:Int):Int:=letI b:=qc a0 a1;bif b>=0 then(nth a0 b.toNat).ON else 0
def YS(a0:Zb)(a1:Int):Int:=letI b:=YT a0.Z0 a1;bif b<0 then 0 else yL a0.Methods (nth a0.Z0 b.toNat).Method
def J4(a0:Zb)(a1:Int):Bool:=decide (YT a0.Z0 a1>=0)&&decide (a0.Now>=YS a0 a1)
def Jt(a0:ZG)(a1 a2:Int)(a3:ZW):ZG×Bool:=letI b:=Xa a0 a1 a2 a3 0 10000;letI c:=b.1;bif !(J4 a0.Frame a2)then(a0,false)else bif b.2 then(ZG.mk c.Frame c.Zf c.Zy c.ZB c.Y9 c.Yg c.Next (c.YN++([a0.Next]:List Int)),b.2)else(c,b.2)
def Qg(a0:ZG):Nat->List Int->Nat->List Int
  |0,_,_=>default
  |n1+1,J,U=>letI b:=nth a0.Frame.ZD U;bif(U:Int)<(a0.Frame.ZD.length:Int)then bif Qj a0.Yg b.Id||J4 a0.Frame b.Key then Qg a0 n1 (J++([b.Id]:List Int)) (U+1)else Qg a0 n1 J (U+1)else J
def Zv(a0:ZG):List Int:=match Qg a0 (a0.Frame.ZD.length+1) ([]:List Int) 0 with|z1_0=>z1_0
def Xh(a0:ZG)(a1 a2:Int):Nat->Nat->List Zm->Sum (ZG×Bool) (List Zm)
  |0,_,_=>.inr default
  |n1+1,J,U=>letI b:=a0.Frame;letI c:=ZO a0 a1;letI d:=Xy b.Z0 b.ZD (Zm.mk (nth (Zv a0) J) 0 a2 (KV (nth (nth a0.ZB c.1.toNat).ZC c.2.toNat) (ZY b.Methods b.Now)) 0);bif(J:Int)<((Zv a0).length:Int)then bif !d.2 then .inl (a0,false)else Xh a0 a1 a2 n1 (J+1) (U++([d.1]:List Zm))else .inr U
def QS(a0:ZG)(a1 a2:Int):ZG×Bool:=letI b:=ZO a0 a1;letI c:=a0.Frame;letI d:=ZY c.Methods c.Now;letI e:=(Zv a0).length;letI f:=nth a0.ZB b.1.toNat;letI g:=nth f.ZC b.2.toNat;bif !(Qj a0.YN a1)||b.1<0||d<0||(e:Int)==0 then(a0,false)else(match Xh a0 a1 a2 (e+1) 0 ([]:List Zm)with|.inl r1=>r1|.inr z1_0=>letI h:=XK g.ZK (Ze.mk (g.ZK.ZM.length:Int) d (KV g d) ([]:List X4) z1_0);(ZG.mk c a0.Zf a0.Zy (a0.ZB.set b.1.toNat (ZE.mk f.Id (f.ZC.set b.2.toNat (ZR.mk g.Id g.XI g.Doc g.Sig h.1)))) a0.Y9 a0.Yg a0.Next a0.YN,h.2))
def J1(a0:ZG)(a1 a2:Int):ZG×Bool:=letI b:=YW a0 a1;letI c:=nth a0.Zf b.2.1.toNat;letI d:=JI a0 b.1 a1 (Zs.mk c.Zc a2 (-1) c.YA 0);bif !b.2.2||!(J4 a0.Frame c.YA)then(a0,false)else(d.1,d.2)
def Y3(a0:ZG)(a1:Zt):ZG×Bool:=letI b:=a1.Kind;letI c:=a1.A;letI d:=a1.B;letI e:=J2 a0 c d a1.Doc a1.C a1.D;letI f:=Q6 a0 c a1.Ids d;letI g:=K3 a0 c d a1.C;letI h:=Jt a0 c d a1.Doc;letI i:=QS a0 c d;letI j:=J1 a0 c d;bif b==1 then((K4 a0 c).1,(K4 a0 c).2)else bif b==2 then(e.1,e.2)else bif b==3 then((Qv a0 c).1,(Qv a0 c).2)else bif b==4 then((QO a0 c).1,(QO a0 c).2)else bif b==5 then(f.1,f.2)else bif b==6 then(g.1,g.2)else bif b==7 then((JZ a0 c).1,(JZ a0 c).2)else bif b==8 then(h.1,h.2)else bif b==9 then(i.1,i.2)else bif b==10 then(j.1,j.2)else(a0,false)
def zn(a1:List Zt):Nat->Nat->List Y6->List Zo->List YJ->Int->Int->List YO->List Int->List ZE->List Int->List Int->Int->List Int->List Y6×List Zo×List YJ×Int×Int×List YO×List Int×List ZE×List Int×List Int×Int×List Int
  |0,_,_,_,_,_,_,_,_,_,_,_,_,_=>(default,default,default,default,default,default,default,default,default,default,default,default)
  |n1+1,J,U,nb,nm,mA,mW,mS,mT,mU,mb,mD,mI,mE=>letI b:=(Y3 (ZG.mk (Zb.mk U nb nm mA mW) mS mT mU mb mD mI mE) (nth a1 J)).1;letI c:=b.Frame;bif(J:Int)<(a1.length:Int)then zn a1 n1 (J+1) c.Z0 c.ZD c.Methods c.XB c.Now b.Zf b.Zy b.ZB b.Y9 b.Yg b.Next b.YN else(U,nb,nm,mA,mW,mS,mT,mU,mb,mD,mI,mE)
def ZI(a0:ZG)(a1:List Zt):ZG:=letI b:=a0.Frame;match zn a1 (a1.length+1) 0 b.Z0 b.ZD b.Methods b.XB b.Now a0.Zf a0.Zy a0.ZB a0.Y9 a0.Yg a0.Next a0.YN with|(z1_0,z1_1,z1_2,z1_3,z1_4,z1_5,z1_6,z1_7,z1_8,z1_9,z1_10,z1_11)=>ZG.mk (Zb.mk z1_0 z1_1 z1_2 z1_3 z1_4) z1_5 z1_6 z1_7 z1_8 z1_9 z1_10 z1_11
def OM(a0:Zb):Zb:=a0
def Hh(a0:ZW):ZW:=a0
def M9(a0:ZU):ZU:=a0
def SP(a0:List ZU):Nat->List ZU->Nat->List ZU
  |0,_,_=>default
  |n1+1,J,U=>bif(U:Int)<(a0.length:Int)then SP a0 n1 (J++([nth a0 U]:List ZU)) (U+1)else J
def NH(a0:List ZU):List ZU:=match SP a0 (a0.length+1) ([]:List ZU) 0 with|z1_0=>z1_0
def MJ(a0:Ze):Ze:=a0
def Uk(a0:ZX):Nat->Nat->List Ze->List Ze
  |0,_,_=>default
  |n1+1,J,U=>bif(J:Int)<(a0.ZQ.length:Int)then Uk a0 n1 (J+1) (U++([nth a0.ZQ J]:List Ze))else U
def PK(a0:ZX):ZX:=match Uk a0 (a0.ZQ.length+1) 0 ([]:List Ze)with|z1_0=>ZX.mk a0.ZM z1_0
def MT(a0:ZR):ZR:=a0
def UX(a0:ZE):Nat->Nat->List ZR->List ZR
  |0,_,_=>default
  |n1+1,J,U=>bif(J:Int)<(a0.ZC.length:Int)then UX a0 n1 (J+1) (U++([nth a0.ZC J]:List ZR))else U
def PI(a0:ZE):ZE:=match UX a0 (a0.ZC.length+1) 0 ([]:List ZR)with|z1_0=>ZE.mk a0.Id z1_0
def Uy(a0:ZG):Nat->Nat->List ZE->List ZE
  |0,_,_=>default
  |n1+1,J,U=>bif(J:Int)<(a0.ZB.length:Int)then Uy a0 n1 (J+1) (U++([nth a0.ZB J]:List ZE))else U
def PH(a0:ZG):ZG:=match Uy a0 (a0.ZB.length+1) 0 ([]:List ZE)with|z1_0=>ZG.mk a0.Frame a0.Zf a0.Zy z1_0 a0.Y9 a0.Yg a0.Next a0.YN
def xm(a0:ZG)(a1:Int):ZG×Bool:=letI b:=a0.Frame;letI c:=W (b.Now+a1);bif !(Yd a1 0 100)||c>10000 then(a0,false)else(ZG.mk (Zb.mk b.Z0 b.ZD b.Methods b.XB c) a0.Zf a0.Zy a0.ZB a0.Y9 a0.Yg a0.Next a0.YN,true)
def JS(a0:ZG)(a1:Int):Bool:=Yd a1 0 (W ((a0.ZB.length:Int)-1))
def jr(a0:List YJ)(a1:Int):Nat->Int->Nat->Int
  |0,_,_=>default
  |n1+1,J,U=>letI b:=nth a0 U;bif(U:Int)<(a0.length:Int)then bif a1>=b.Li&&a1<b.Ends&&(J<0||b.Ends>(nth a0 J.toNat).Ends)then jr a0 a1 n1 (U:Int) (U+1)else jr a0 a1 n1 J (U+1)else J
def Zq(a0:List YJ)(a1:Int):Int:=match jr a0 a1 (a0.length+1) (-1) 0 with|z1_0=>bif z1_0<0 then-1 else(nth a0 z1_0.toNat).Id
def WC(a0:ZG)(a1:Int):Nat->Nat->Sum Int Unit
  |0,_=>.inr ()
  |n1+1,J=>bif(J:Int)<(a0.Zf.length:Int)then bif(nth a0.Zf J).Key==a1 then .inl (J:Int)else WC a0 a1 n1 (J+1)else .inr ()
def JM(a0:ZG)(a1:Int):Int:=match WC a0 a1 (a0.Zf.length+1) 0 with|.inl r1=>r1|.inr _=>-1
def zp(a0:Int)(a1:List Int):Int:=CD (([7,a0]:List Int)++a1)
def Vw(a1:ByteArray):Nat->List Int->Nat->List Int
  |0,_,_=>default
  |n1+1,J,U=>bif(U:Int)<(a1.size:Int)then Vw a1 n1 (J++([W ((bAt a1 U):Int)]:List Int)) (U+1)else J
def SZ(a0:Int)(a1:ByteArray)(a2:Int):Int:=match Vw a1 (a1.size+1) ([a2]:List Int) 0 with|z1_0=>zp a0 z1_0
def TR(a0:Int)(a1:ZW):Nat->List Int->Nat->List Int
  |0,_,_=>default
  |n1+1,J,U=>bif(U:Int)<(a1.X3.length:Int)then TR a0 a1 n1 (J++([SZ a0 (nth a1.X3 U) (nth a1.KS U)]:List Int)) (U+1)else J
def Kr(a0:Int)(a1:ZW):Int:=bif !(yy a1)then-1 else(match TR a0 a1 (a1.X3.length+1) ([a1.Vi]:List Int) 0 with|z1_0=>zp a0 z1_0)
def TO(a0:Zp):Bool:=Yd a0.Key 1 99&&Yd a0.Zc 1 999&&Yd a0.Method 0 99&&Yd a0.Org 0 99&&Yd a0.VU 1 3&&Yd a0.QI 0 1000000000000&&Yd a0.V3 0 1000000000000&&Yd a0.UF 0 1000000000000
def Js(a0:Zp):List Int:=([104,a0.Key,a0.Zc,a0.Method,a0.QI,a0.VU,a0.Org,a0.V3,a0.UF]:List Int)
def yw(a0:List Y6)(a1:Zp):Zp×Bool:=letI b:=Ys a0 a1.Key;bif !(TO a1)||b<0 then(Zp.mk 0 0 0 0 0 0 0 0 0,false)else(Zp.mk a1.Key a1.Zc a1.Method a1.QI a1.VU a1.Org a1.V3 a1.UF (ka (nth a0 b.toNat) (Js a1)),true)
def jO(a0:Zp):ZU:=ZU.mk a0.Key (Js a0) a0.Mark
def U1(a0:YO):ZU:=ZU.mk a0.YA (xy a0) a0.Mark
def Qr(a0:ZG)(a1:Int)(a2:ZW)(a3 a4:Int):ZR×Bool:=letI b:=a0.Frame;letI c:=Zq b.Methods b.Now;letI d:=JM a0 a1;letI e:=([]:List Ze);letI f:=nth a0.Zf d.toNat;letI g:=yw b.Z0 (Zp.mk a1 f.Zc c (Kr c a2) 1 a3 0 0 0);bif c<0||d<0 then(ZR.mk 0 0 (ZW.mk 0 ([]:List ByteArray) ([]:List Int)) (Zp.mk 0 0 0 0 0 0 0 0 0) (ZX.mk ([]:List ZU) e),false)else(ZR.mk a0.Next a4 a2 g.1 (ZX.mk ([jO g.1,U1 f]:List ZU) e),g.2)
def TH(a0 a1:List Int):Nat->Nat->Sum Bool Unit
  |0,_=>.inr ()
  |n1+1,J=>bif(J:Int)<(a0.length:Int)then bif nth a0 J !=nth a1 J then .inl false else TH a0 a1 n1 (J+1)else .inr ()
def Rl(a0 a1:List Int):Bool:=bif(a0.length:Int)!=(a1.length:Int)then false else(match TH a0 a1 (a0.length+1) 0 with|.inl r1=>r1|.inr _=>true)
def WB(a0 a1:ZU):Bool:=a0.Key==a1.Key&&a0.Mark==a1.Mark&&Rl a0.YM a1.YM
def Tc(a0:ZX)(a1:ZU):Nat->Nat->Sum Int Unit
  |0,_=>.inr ()
  |n1+1,J=>bif(J:Int)<(a0.ZM.length:Int)then bif WB (nth a0.ZM J) a1 then .inl (J:Int)else Tc a0 a1 n1 (J+1)else .inr ()
def RP(a0:ZX)(a1:ZU):Int:=match Tc a0 a1 (a0.ZM.length+1) 0 with|.inl r1=>r1|.inr _=>-1
def jm(a0:ZX):Nat->Nat->Sum Bool Unit
  |0,_=>.inr ()
  |n2+1,nc=>letI b:=(nth a0.ZQ nc).Count;bif(nc:Int)<(a0.ZQ.length:Int)then bif !(Yd b 1 (a0.ZM.length:Int))||(nc:Int)>0&&(nth a0.ZQ (nc-1)).Count>b then .inl false else jm a0 n2 (nc+1)else .inr ()
def jt(a0:ZX):Nat->Nat->Sum Bool Unit
  |0,_=>.inr ()
  |n1+1,J=>bif(J:Int)<(a0.ZM.length:Int)then bif RP a0 (nth a0.ZM J)<(J:Int)then .inl false else jt a0 n1 (J+1)else .inr ()
def jE(a0:ZX):Bool:=letI b:=a0.ZM.length;letI c:=a0.ZQ.length;match jt a0 (b+1) 0 with|.inl r1=>r1|.inr _=>(match jm a0 (c+1) 0 with|.inl r2=>r2|.inr _=>Yd (b:Int) 1 12&&(c:Int)<=8)
def Ov(a0:ZR):Bool:=Yd a0.Id 1 999&&VS a0.XI&&yy a0.Doc&&jE a0.ZK&&WB (nth a0.ZK.ZM 0) (jO a0.Sig)
def TK(a0:ZE):Nat->Nat->Sum Bool Unit
  |0,_=>.inr ()
  |n1+1,J=>letI b:=nth a0.ZC J;bif(J:Int)<(a0.ZC.length:Int)then bif !(Ov b)||(J:Int)>0&&(nth a0.ZC (J-1)).Id>=b.Id then .inl false else TK a0 n1 (J+1)else .inr ()
def JP(a0:ZE):Bool:=letI b:=a0.ZC.length;match TK a0 (b+1) 0 with|.inl r1=>r1|.inr _=>Yd a0.Id 0 99&&decide ((b:Int)<=8)
def Wp(a0:ZE)(a1:Int):Nat->Nat->Sum Int Unit
  |0,_=>.inr ()
  |n1+1,J=>bif(J:Int)<(a0.ZC.length:Int)then bif(nth a0.ZC J).Id==a1 then .inl (J:Int)else Wp a0 a1 n1 (J+1)else .inr ()
def Y2(a0:ZE)(a1:Int):Int:=match Wp a0 a1 (a0.ZC.length+1) 0 with|.inl r1=>r1|.inr _=>-1
def zR(a0:ZE)(a1:ZR):Nat->Bool->Nat->List ZR->Bool×List ZR
  |0,_,_,_=>(default,default)
  |n1+1,J,U,nb=>letI b:=nth a0.ZC U;letI c:=([b]:List ZR);bif(U:Int)<(a0.ZC.length:Int)then bif !J&&a1.Id<b.Id then zR a0 a1 n1 true (U+1) (nb++([a1]:List ZR)++c)else zR a0 a1 n1 J (U+1) (nb++c)else(J,nb)
def Q7(a0:ZE)(a1:ZR):ZE×Bool:=letI b:=(a0,false);bif !(JP a0)||Y2 a0 a1.Id>=0 then b else(match zR a0 a1 (a0.ZC.length+1) false 0 ([]:List ZR)with|(z1_0,z1_1)=>letI c:=ZE.mk a0.Id (z1_1++([a1]:List ZR));letI d:=ZE.mk a0.Id z1_1;bif !z1_0 then bif !(JP c)then b else(c,true)else bif !(JP d)then b else(d,true))
def x1(a0:ZG)(a1 a2:Int)(a3:ZW)(a4 a5:Int):ZG×Bool:=letI b:=a0.Frame;letI c:=Ys b.Z0 a2;letI d:=(a0,false);letI e:=Qr a0 a2 a3 a4 a5;letI f:=Q7 (nth a0.ZB a1.toNat) e.1;bif !(JS a0 a1)||c<0||(nth b.Z0 c.toNat).RH>b.Now then d else bif !e.2 then d else bif !f.2 then d else(ZG.mk b a0.Zf a0.Zy (a0.ZB.set a1.toNat f.1) a0.Y9 a0.Yg (W (a0.Next+1)) a0.YN,true)
def Vx(a0:ZG)(a1:Int):Nat->Nat->Sum (Int×Int) Unit
  |0,_=>.inr ()
  |n1+1,J=>letI b:=Y2 (nth a0.ZB J) a1;bif(J:Int)<(a0.ZB.length:Int)then bif b>=0 then .inl ((J:Int),b)else Vx a0 a1 n1 (J+1)else .inr ()
def ZJ(a0:ZG)(a1:Int):Int×Int:=match Vx a0 a1 (a0.ZB.length+1) 0 with|.inl r1=>r1|.inr _=>(-1,-1)
def JX(a0:ZU):Int:=letI b:=(a0.YM.length:Int);letI c:=nth a0.YM 0;bif b==0||!(Yd c 101 105)then 0 else bif b !=nth ([7,5,5,9,6]:List Int) (W (c-101)).toNat then 0 else c
def Zl(a0:ZU):YO×Bool:=letI b:=a0.YM;bif JX a0 !=101||nth b 6 !=a0.Key then(YO.mk 0 0 0 0 0 0 0,false)else(YO.mk (nth b 1) (nth b 2) (nth b 3) (nth b 4) (nth b 5) (nth b 6) a0.Mark,true)
def Ww(a0:List YO)(a1:Int):Nat->Nat->Sum Int Unit
  |0,_=>.inr ()
  |n1+1,J=>bif(J:Int)<(a0.length:Int)then bif(nth a0 J).Zc==a1 then .inl (J:Int)else Ww a0 a1 n1 (J+1)else .inr ()
def YE(a0:List YO)(a1:Int):Int:=match Ww a0 a1 (a0.length+1) 0 with|.inl r1=>r1|.inr _=>-1
def OY(a0:Zs):Bool:=Yd a0.Zc 1 999&&VS a0.xP&&Yd a0.Zy (-1) (W (a0.xP+1))&&Yd a0.YA 1 99
def zm(a0:Zs):List Int:=([102,a0.Zc,a0.xP,a0.Zy,a0.YA]:List Int)
def Y4(a0:List Y6)(a1:Zs):Zs×Bool:=letI b:=Ys a0 a1.YA;bif !(OY a1)||b<0 then(Zs.mk 0 0 0 0 0,false)else(Zs.mk a1.Zc a1.xP a1.Zy a1.YA (ka (nth a0 b.toNat) (zm a1)),true)
def XQ(a0:Zs):ZU:=ZU.mk a0.YA (zm a0) a0.Mark
def yu(a0:ZX)(a1:ZU):ZX×Bool:=letI b:=ZX.mk (a0.ZM++([a1]:List ZU)) a0.ZQ;bif !(jE b)then(a0,false)else(b,true)
def X9(a0:ZE)(a1:Int)(a2:ZU):ZE×Bool:=letI b:=Y2 a0 a1;letI c:=nth a0.ZC b.toNat;letI d:=yu c.ZK a2;bif b<0 then(a0,false)else(ZE.mk a0.Id (a0.ZC.set b.toNat (ZR.mk c.Id c.XI c.Doc c.Sig d.1)),d.2)
def zY(a0:ZG)(a1:Int):ZG×Bool:=letI b:=ZJ a0 a1;letI c:=b.1.toNat;letI d:=nth a0.ZB c;letI e:=(nth d.ZC b.2.toNat).ZK.ZM;letI f:=(a0,false);letI g:=Zl (nth e 1);letI h:=a0.Zf;letI i:=YE h g.1.Zc;letI j:=a0.Zy;letI k:=nth j i.toNat;letI l:=a0.Frame;letI m:=l.Now;letI n:=(nth h i.toNat).YA;letI o:=Y4 l.Z0 (Zs.mk g.1.Zc m k n 0);letI p:=decide ((nth l.Z0 (Ys l.Z0 n).toNat).RH>m);letI q:=X9 d a1 (XQ o.1);letI r:=Y4 l.Z0 (Zs.mk g.1.Zc m (-1) n 0);letI s:=X9 d a1 (XQ r.1);bif b.1<0||(e.length:Int)<2 then f else bif !g.2||i<0||i>=(j.length:Int)then f else bif k<=W (m+1)then bif !o.2||p then f else(ZG.mk l h j (a0.ZB.set c q.1) a0.Y9 a0.Yg a0.Next a0.YN,q.2)else bif !r.2||p then f else(ZG.mk l h j (a0.ZB.set c s.1) a0.Y9 a0.Yg a0.Next a0.YN,s.2)
def ze(a0:ZG)(a1:Int):ZG×Bool:=bif !(Yd a1 0 (W ((a0.Zy.length:Int)-1)))||nth a0.Zy a1.toNat !=-1 then(a0,false)else(ZG.mk a0.Frame a0.Zf (a0.Zy.set a1.toNat (W (a0.Frame.Now+1))) a0.ZB a0.Y9 a0.Yg a0.Next a0.YN,true)
def xX(a0:List Zo)(a1:Int):Nat->Nat->Sum Int Unit
  |0,_=>.inr ()
  |n1+1,J=>bif(J:Int)<(a0.length:Int)then bif(nth a0 J).Id==a1 then .inl (J:Int)else xX a0 a1 n1 (J+1)else .inr ()
def Zu(a0:List Zo)(a1:Int):Int:=match xX a0 a1 (a0.length+1) 0 with|.inl r1=>r1|.inr _=>-1
def VO(a0:ZG)(a1:List Int):Nat->Nat->Sum Bool Unit
  |0,_=>.inr ()
  |n1+1,J=>letI b:=a0.Frame;letI c:=nth a1 J;letI d:=Zu b.ZD c;letI e:=Ys b.Z0 (nth b.ZD d.toNat).Key;bif(J:Int)<(a1.length:Int)then bif d<0||d>=(a0.Y9.length:Int)||(J:Int)>0&&nth a1 (J-1)>=c then .inl false else bif e<0||(nth b.Z0 e.toNat).RH>b.Now then .inl false else VO a0 a1 n1 (J+1)else .inr ()
def Ru(a0:ZG)(a1:List Int):Bool:=match VO a0 a1 (a1.length+1) 0 with|.inl r1=>r1|.inr _=>decide ((a1.length:Int)>0)
def xr(a0:ZX)(a1:ZW):Nat->List Int->Nat->List Int
  |0,_,_=>default
  |n1+1,J,U=>bif(U:Int)<(a0.ZQ.length:Int)then xr a0 a1 n1 (J++([Kr (nth a0.ZQ U).Method a1]:List Int)) (U+1)else J
def qO(a0:ZX)(a1:ZW):List Int:=match xr a0 a1 (a0.ZQ.length+1) ([]:List Int) 0 with|z1_0=>z1_0
def yf(a0:Zm):List Int:=([103,a0.Authority,a0.Seq,a0.Time,a0.QI]:List Int)
def kN(a1:Ze):Nat->List Int->Nat->List Int
  |0,_,_=>default
  |n2+1,nc,nh=>letI b:=nth a1.YV nh;bif(nh:Int)<(a1.YV.length:Int)then kN a1 n2 (nc++yf b++([b.Mark]:List Int)) (nh+1)else nc
def xU(a1:Ze):Nat->List Int->Nat->List Int
  |0,_,_=>default
  |n1+1,J,U=>letI b:=nth a1.Path U;letI c:=J++([b.QI]:List Int);bif(U:Int)<(a1.Path.length:Int)then bif b.Left then xU a1 n1 (c++([1]:List Int)) (U+1)else xU a1 n1 (c++([0]:List Int)) (U+1)else J
def y9(a0:Int)(a1:Ze):Int:=letI b:=a1.YV.length;match xU a1 (a1.Path.length+1) ([4,a1.Count,a1.Method,a1.BX]:List Int) 0 with|z1_0=>(match kN a1 (b+1) (z1_0++([(b:Int)]:List Int)) 0 with|lQ=>zp a0 lQ)
def kT(a0:Int)(a1:List ZU):Nat->List Int->Nat->List Int
  |0,_,_=>default
  |n1+1,J,U=>letI b:=nth a1 U;bif(U:Int)<(a1.length:Int)then kT a0 a1 n1 (J++([zp a0 (([b.Key,b.Mark]:List Int)++b.YM)]:List Int)) (U+1)else J
def yF(a0:Int)(a1:List ZU):Int:=match kT a0 a1 (a1.length+1) ([2]:List Int) 0 with|z1_0=>zp a0 z1_0
def Nh(a0 a1:Int)(a2:List ZU)(a3:Int):Int:=zp a0 ([3,a1,yF a0 a2,a3]:List Int)
def Gq(a0:ZX)(a1:List Int)(a2:Int):Int:=letI b:=(a0.ZQ.length:Int);letI c:=nth a0.ZQ a2.toNat;letI d:=c.Method;letI e:=nth a1 a2.toNat;letI f:=a0.ZM.take c.Count.toNat;bif !(Yd a2 0 (W (b-1)))||(a1.length:Int)!=b||!(Yd c.Count 0 (a0.ZM.length:Int))then-1 else bif a2>0 then Nh d e f (y9 d (nth a0.ZQ (W (a2-1)).toNat))else Nh d e f 0
def xK(a0:ZE)(a1:Int):Nat->List Int->Nat->List Int
  |0,_,_=>default
  |n1+1,J,U=>letI b:=nth a0.ZC U;letI c:=b.ZK.ZQ++([Ze.mk (b.ZK.ZM.length:Int) a1 0 ([]:List X4) ([]:List Zm)]:List Ze);letI d:=ZX.mk b.ZK.ZM c;bif(U:Int)<(a0.ZC.length:Int)then xK a0 a1 n1 (J++([Gq d (qO d b.Doc) (W ((c.length:Int)-1))]:List Int)) (U+1)else J
def Yn(a0:ZE)(a1:Int):List Int:=match xK a0 a1 (a0.ZC.length+1) ([]:List Int) 0 with|z1_0=>z1_0
def T4(a0 a1 a2:Int):Int:=zp a0 ([1,a1,a2]:List Int)
def VN(a0:Int)(a1:List Int):Nat->List Int->Nat->List Int
  |0,_,_=>default
  |n1+1,J,U=>letI b:=(a1.length:Int);letI c:=W ((U:Int)+1);letI d:=nth a1 U;bif(U:Int)<b then bif c<b then VN a0 a1 n1 (J++([T4 a0 d (nth a1 c.toNat)]:List Int)) (U+2)else VN a0 a1 n1 (J++([d]:List Int)) (U+2)else J
def UT(a0:Int)(a1:List Int):List Int:=match VN a0 a1 (a1.length+1) ([]:List Int) 0 with|z1_0=>z1_0
def SD(a0:Int):Nat->List Int->List Int
  |0,_=>default
  |n1+1,J=>bif(J.length:Int)>1 then SD a0 n1 (UT a0 J)else J
def zz(a0:Int)(a1:List Int):Int:=bif !(Yd (a1.length:Int) 1 16)then-1 else(match SD a0 (a1.length+1) a1 with|z1_0=>nth z1_0 0)
def qT(a0:ZE)(a1:Int):Int:=zz a1 (Yn a0 a1)
def N9(a0:List Int)(a1:Int):Nat->Nat->Sum Bool Unit
  |0,_=>.inr ()
  |n1+1,J=>bif(J:Int)<(a0.length:Int)then bif nth a0 J==a1 then .inl true else N9 a0 a1 n1 (J+1)else .inr ()
def Na(a0:List Int)(a1:Int):Bool:=match N9 a0 a1 (a0.length+1) 0 with|.inl r1=>r1|.inr _=>false
def zW(a0:List Y6)(a1:List Zo)(a2:Zm):Zm×Bool:=letI b:=a2.Authority;letI c:=(Zm.mk 0 0 0 0 0,false);letI d:=Ys a0 (nth a1 (Zu a1 b).toNat).Key;bif Zu a1 b<0||a2.Seq<0||!(VS a2.Time)then c else bif d<0 then c else(Zm.mk b a2.Seq a2.Time a2.QI (ka (nth a0 d.toNat) (yf a2)),true)
def yz(a0:Int):Nat->Int->List X4->List Int->List X4
  |0,_,_,_=>default
  |n1+1,J,U,nb=>letI b:=(nb.length:Int);letI c:=W (Int.tdiv J 2);letI d:=UT a0 nb;letI e:=W (J+1);bif b>1 then bif Int.tmod J 2==1 then yz a0 n1 c (U++([X4.mk (nth nb (W (J-1)).toNat) true]:List X4)) d else bif e<b then yz a0 n1 c (U++([X4.mk (nth nb e.toNat) false]:List X4)) d else yz a0 n1 c U d else U
def yq(a0:Int)(a1:List Int)(a2:Int):List X4:=letI b:=(a1.length:Int);letI c:=([]:List X4);bif b>16||!(Yd a2 0 (W (b-1)))then c else(match yz a0 (a1.length+1) a2 c a1 with|z1_0=>z1_0)
def Qw(a0:ZX)(a1:Ze):ZX×Bool:=letI b:=ZX.mk a0.ZM (a0.ZQ++([a1]:List Ze));bif !(jE b)then(a0,false)else(b,true)
def Ka(a0:ZE)(a1:Int)(a2:List Zm):Nat->Bool->Nat->List ZR->Bool×List ZR
  |0,_,_,_=>(default,default)
  |n1+1,J,U,nb=>letI b:=(nth a0.ZC U).ZK;letI c:=Yn a0 a1;letI d:=Qw b (Ze.mk (b.ZM.length:Int) a1 (zz a1 c) (yq a1 c (U:Int)) a2);letI e:=nth nb U;bif(U:Int)<(a0.ZC.length:Int)&&J then Ka a0 a1 a2 n1 d.2 (U+1) (nb.set U (ZR.mk e.Id e.XI e.Doc e.Sig d.1))else(J,nb)
def Qm(a0:ZE)(a1:Int)(a2:List Zm):ZE×Bool:=letI b:=a0.ZC.length;(match Ka a0 a1 a2 (b+1) (JP a0&&(b:Int)>0) 0 a0.ZC with|(z1_0,z1_1)=>letI c:=ZE.mk a0.Id z1_1;bif !z1_0||!(JP c)then(a0,false)else(c,true))
def qn(a0:ZG)(a2:List Int):Nat->Nat->List Int->List Int
  |0,_,_=>default
  |n2+1,nc,nh=>letI b:=(Zu a0.Frame.ZD (nth a2 nc)).toNat;bif(nc:Int)<(a2.length:Int)then qn a0 a2 n2 (nc+1) (nh.set b (W (nth a0.Y9 b+1)))else nh
def Qn(a0:ZG)(a1:Int)(a2:List Int)(a3:Int):Nat->List Zm->Nat->Sum (ZG×Bool) (List Zm)
  |0,_,_=>.inr default
  |n1+1,J,U=>letI b:=nth a2 U;letI c:=a0.Frame;letI d:=nth a0.Y9 (Zu c.ZD b).toNat;letI e:=qT (nth a0.ZB a1.toNat) (Zq c.Methods c.Now);letI f:=zW c.Z0 c.ZD (Zm.mk b d (Tt 10000 (jb 0 (W (c.Now+a3)))) e 0);letI g:=zW c.Z0 c.ZD (Zm.mk b d c.Now e 0);bif(U:Int)<(a2.length:Int)then bif Na a0.Yg b then bif !f.2 then .inl (a0,false)else Qn a0 a1 a2 a3 n1 (J++([f.1]:List Zm)) (U+1)else bif !g.2 then .inl (a0,false)else Qn a0 a1 a2 a3 n1 (J++([g.1]:List Zm)) (U+1)else .inr J
def zU(a0:ZG)(a1:Int)(a2:List Int)(a3:Int):ZG×Bool:=letI b:=a0.Frame;letI c:=Zq b.Methods b.Now;letI d:=a2.length+1;bif !(JS a0 a1)||c<0||!(Ru a0 a2)||!(Yd a3 (-10000) 10000)then(a0,false)else(match Qn a0 a1 a2 a3 d ([]:List Zm) 0 with|.inl r1=>r1|.inr z1_0=>letI e:=Qm (nth a0.ZB a1.toNat) c z1_0;bif !e.2 then(a0,false)else(match qn a0 a2 d 0 a0.Y9 with|lQ=>(ZG.mk b a0.Zf a0.Zy (a0.ZB.set a1.toNat e.1) lQ a0.Yg a0.Next a0.YN,true)))
def VQ(a0:Int)(a1:ZR):Nat->List Int->Nat->List Int
  |0,_,_=>default
  |n1+1,J,U=>bif(U:Int)<(a1.ZK.ZQ.length:Int)then VQ a0 a1 n1 (J++([y9 a0 (nth a1.ZK.ZQ U)]:List Int)) (U+1)else J
def SU(a0:Int)(a1:ZR):Int:=match VQ a0 a1 (a1.ZK.ZQ.length+1) ([5,a1.Id,a1.XI,Kr a0 a1.Doc,yF a0 a1.ZK.ZM]:List Int) 0 with|z1_0=>zp a0 z1_0
def RN(a0:Int)(a1:List ZR):Nat->List Int->Nat->List Int
  |0,_,_=>default
  |n1+1,J,U=>bif(U:Int)<(a1.length:Int)then RN a0 a1 n1 (J++([SU a0 (nth a1 U)]:List Int)) (U+1)else J
def PJ(a0:Int)(a1:List ZR):Int:=match RN a0 a1 (a1.length+1) ([]:List Int) 0 with|z1_0=>zz a0 z1_0
def zA(a0:ZE)(a2:List Int):Nat->Nat->List ZR->Sum (Yk×Bool) (List ZR)
  |0,_,_=>.inr default
  |n1+1,J,U=>letI b:=Y2 a0 (nth a2 J);bif(J:Int)<(a2.length:Int)then bif b<0 then .inl (Yk.mk 0 0 ([]:List ZR) 0,false)else zA a0 a2 n1 (J+1) (U++([nth a0.ZC b.toNat]:List ZR))else .inr U
def Xn(a0:ZE)(a1:Int)(a2:List Int)(a3:Int):Yk×Bool:=letI b:=([]:List ZR);match zA a0 a2 (a2.length+1) 0 b with|.inl r1=>r1|.inr z1_0=>bif(a2.length:Int)==0 then(Yk.mk 0 0 b 0,false)else(Yk.mk a0.Id a1 z1_0 (PJ a3 z1_0),true)
def zM(a0:Yk):Nat->Nat->Sum Bool Unit
  |0,_=>.inr ()
  |n1+1,J=>bif(J:Int)<(a0.ZC.length:Int)then bif !(Ov (nth a0.ZC J))then .inl false else zM a0 n1 (J+1)else .inr ()
def z6(a0:Yk)(a1:Int):Bool:=letI b:=a0.ZC.length;match zM a0 (b+1) 0 with|.inl r1=>r1|.inr _=>Yd (b:Int) 1 8&&a0.QI==PJ a1 a0.ZC
def Kx(a1:Yk):Nat->Bool->Nat->Int->List ZR->Bool×Int×List ZR
  |0,_,_,_,_=>(default,default,default)
  |n1+1,J,U,nb,nm=>letI b:=Q7 (ZE.mk nb nm) (nth a1.ZC U);bif(U:Int)<(a1.ZC.length:Int)&&J then Kx a1 n1 b.2 (U+1) b.1.Id b.1.ZC else(J,nb,nm)
def QF(a0:ZE)(a1:Yk)(a2:Int):ZE×Bool:=match Kx a1 (a1.ZC.length+1) (z6 a1 a2&&a1.To==a0.Id) 0 a0.Id a0.ZC with|(z1_0,z1_1,z1_2)=>bif !z1_0 then(a0,false)else(ZE.mk z1_1 z1_2,true)
def y0(a0:ZE)(a1:Int):Nat->Nat->List ZR->List ZR
  |0,_,_=>default
  |n1+1,J,U=>bif(J:Int)<(a0.ZC.length:Int)then bif(J:Int)!=Y2 a0 a1 then y0 a0 a1 n1 (J+1) (U++([nth a0.ZC J]:List ZR))else y0 a0 a1 n1 (J+1) U else U
def qC(a0:ZE)(a1:Int):ZE×Bool:=bif Y2 a0 a1<0 then(a0,false)else(match y0 a0 a1 (a0.ZC.length+1) 0 ([]:List ZR)with|z1_0=>(ZE.mk a0.Id z1_0,true))
def xF(a0 a1:ZE)(a2:List Int)(a3:Int):Nat->Bool->Nat->Int->List ZR->Bool×Int×List ZR
  |0,_,_,_,_=>(default,default,default)
  |n1+1,J,U,nb,nm=>letI b:=qC (ZE.mk nb nm) (nth a2 U);bif(U:Int)<(a2.length:Int)&&(Xn a0 a1.Id a2 a3).2&&J then xF a0 a1 a2 a3 n1 b.2 (U+1) b.1.Id b.1.ZC else(J,nb,nm)
def JR(a0 a1:ZE)(a2:List Int)(a3:Int):ZE×ZE×Bool:=letI b:=Xn a0 a1.Id a2 a3;letI c:=QF a1 b.1 a3;match xF a0 a1 a2 a3 (a2.length+1) c.2 0 a0.Id a0.ZC with|(z1_0,z1_1,z1_2)=>bif !b.2||!z1_0 then(a0,a1,false)else(ZE.mk z1_1 z1_2,c.1,true)
def xf(a0:ZG)(a1 a2 a3:Int):ZG×Bool:=letI b:=a0.Frame;letI c:=Zq b.Methods b.Now;letI d:=JR (nth a0.ZB a1.toNat) (nth a0.ZB a2.toNat) ([a3]:List Int) c;bif !(JS a0 a1)||!(JS a0 a2)||a1==a2||c<0 then(a0,false)else(ZG.mk b a0.Zf a0.Zy ((a0.ZB.set a1.toNat d.1).set a2.toNat d.2.1) a0.Y9 a0.Yg a0.Next a0.YN,d.2.2)
def KI(a0:ZE)(a1:Int):Nat->Int->Nat->List ZR->Int×List ZR
  |0,_,_,_=>(default,default)
  |n1+1,J,U,nb=>letI b:=nth a0.ZC U;bif(U:Int)<(a0.ZC.length:Int)then bif b.XI<a1 then KI a0 a1 n1 (W (J+1)) (U+1) nb else KI a0 a1 n1 J (U+1) (nb++([b]:List ZR))else(J,nb)
def qL(a0:ZE)(a1:Int):ZE×Int:=match KI a0 a1 (a0.ZC.length+1) 0 0 ([]:List ZR)with|(z1_0,z1_1)=>(ZE.mk a0.Id z1_1,z1_0)
def za(a0:ZG)(a1:Int):ZG×Bool:=bif !(JS a0 a1)then(a0,false)else(ZG.mk a0.Frame a0.Zf a0.Zy (a0.ZB.set a1.toNat (qL (nth a0.ZB a1.toNat) a0.Frame.Now).1) a0.Y9 a0.Yg a0.Next a0.YN,true)
def js(a0:List YJ)(a1:Int):Nat->Nat->Sum Int Unit
  |0,_=>.inr ()
  |n1+1,J=>bif(J:Int)<(a0.length:Int)then bif(nth a0 J).Id==a1 then .inl (J:Int)else js a0 a1 n1 (J+1)else .inr ()
def qd(a0:List YJ)(a1:Int):Int:=match js a0 a1 (a0.length+1) 0 with|.inl r1=>r1|.inr _=>-1
def Md(a0:List YJ)(a1:Int):Int:=letI b:=qd a0 a1;bif b<0 then 0 else(nth a0 b.toNat).ON
def VZ(a0:Zb)(a1:Int):Bool:=letI b:=Ys a0.Z0 a1;decide (b>=0)&&decide (a0.Now>=Md a0.Methods (nth a0.Z0 b.toNat).Method)
def yZ(a0:ZG)(a1 a2:Int)(a3:ZW):ZG×Bool:=letI b:=(a0,false);letI c:=Qr a0 a2 a3 0 10000;letI d:=Q7 (nth a0.ZB a1.toNat) c.1;bif !(JS a0 a1)||!(VZ a0.Frame a2)then b else bif !c.2 then b else bif !d.2 then b else(ZG.mk a0.Frame a0.Zf a0.Zy (a0.ZB.set a1.toNat d.1) a0.Y9 a0.Yg (W (a0.Next+1)) (a0.YN++([a0.Next]:List Int)),true)
def KM(a0:ZG):Nat->List Int->Nat->List Int
  |0,_,_=>default
  |n1+1,J,U=>letI b:=nth a0.Frame.ZD U;bif(U:Int)<(a0.Frame.ZD.length:Int)then bif Na a0.Yg b.Id||VZ a0.Frame b.Key then KM a0 n1 (J++([b.Id]:List Int)) (U+1)else KM a0 n1 J (U+1)else J
def YP(a0:ZG):List Int:=match KM a0 (a0.Frame.ZD.length+1) ([]:List Int) 0 with|z1_0=>z1_0
def QC(a0:ZG)(a1 a2:Int):Nat->Nat->List Zm->Sum (ZG×Bool) (List Zm)
  |0,_,_=>.inr default
  |n1+1,J,U=>letI b:=a0.Frame;letI c:=ZJ a0 a1;letI d:=zW b.Z0 b.ZD (Zm.mk (nth (YP a0) J) 0 a2 (nth (Yn (nth a0.ZB c.1.toNat) (Zq b.Methods b.Now)) c.2.toNat) 0);bif(J:Int)<((YP a0).length:Int)then bif !d.2 then .inl (a0,false)else QC a0 a1 a2 n1 (J+1) (U++([d.1]:List Zm))else .inr U
def Jb(a0:ZG)(a1 a2:Int):ZG×Bool:=letI b:=ZJ a0 a1;letI c:=a0.Frame;letI d:=Zq c.Methods c.Now;letI e:=(YP a0).length;letI f:=nth a0.ZB b.1.toNat;letI g:=b.2.toNat;letI h:=nth f.ZC g;bif b.1<0||d<0||!(Na a0.YN a1)||(e:Int)==0 then(a0,false)else(match QC a0 a1 a2 (e+1) 0 ([]:List Zm)with|.inl r1=>r1|.inr z1_0=>letI i:=Qw h.ZK (Ze.mk (h.ZK.ZM.length:Int) d (nth (Yn f d) g) ([]:List X4) z1_0);(ZG.mk c a0.Zf a0.Zy (a0.ZB.set b.1.toNat (ZE.mk f.Id (f.ZC.set g (ZR.mk h.Id h.XI h.Doc h.Sig i.1)))) a0.Y9 a0.Yg a0.Next a0.YN,i.2))
def xa(a0:ZG)(a1 a2:Int):ZG×Bool:=letI b:=ZJ a0 a1;letI c:=nth a0.ZB b.1.toNat;letI d:=(nth c.ZC b.2.toNat).ZK.ZM;letI e:=(a0,false);letI f:=Zl (nth d 1);letI g:=YE a0.Zf f.1.Zc;letI h:=a0.Frame;letI i:=(nth a0.Zf g.toNat).YA;letI j:=Y4 h.Z0 (Zs.mk f.1.Zc a2 (-1) i 0);letI k:=X9 c a1 (XQ j.1);bif b.1<0||(d.length:Int)<2 then e else bif !f.2||g<0||!(VZ h i)then e else bif !j.2 then e else(ZG.mk h a0.Zf a0.Zy (a0.ZB.set b.1.toNat k.1) a0.Y9 a0.Yg a0.Next a0.YN,k.2)
def Xj(a0:ZG)(a1:Zt):ZG×Bool:=letI b:=a1.Kind;letI c:=a1.A;letI d:=a1.B;letI e:=x1 a0 c d a1.Doc a1.C a1.D;letI f:=zU a0 c a1.Ids d;letI g:=xf a0 c d a1.C;letI h:=yZ a0 c d a1.Doc;letI i:=Jb a0 c d;letI j:=xa a0 c d;bif b==1 then((xm a0 c).1,(xm a0 c).2)else bif b==2 then(e.1,e.2)else bif b==3 then((zY a0 c).1,(zY a0 c).2)else bif b==4 then((ze a0 c).1,(ze a0 c).2)else bif b==5 then(f.1,f.2)else bif b==6 then(g.1,g.2)else bif b==7 then((za a0 c).1,(za a0 c).2)else bif b==8 then(h.1,h.2)else bif b==9 then(i.1,i.2)else bif b==10 then(j.1,j.2)else(a0,false)
def zy(a1:List Zt):Nat->Nat->List Y6->List Zo->List YJ->Int->Int->List YO->List Int->List ZE->List Int->List Int->Int->List Int->List Y6×List Zo×List YJ×Int×Int×List YO×List Int×List ZE×List Int×List Int×Int×List Int
  |0,_,_,_,_,_,_,_,_,_,_,_,_,_=>(default,default,default,default,default,default,default,default,default,default,default,default)
  |n1+1,J,U,nb,nm,mA,mW,mS,mT,mU,mb,mD,mI,mE=>letI b:=(Xj (ZG.mk (Zb.mk U nb nm mA mW) mS mT mU mb mD mI mE) (nth a1 J)).1;letI c:=b.Frame;bif(J:Int)<(a1.length:Int)then zy a1 n1 (J+1) c.Z0 c.ZD c.Methods c.XB c.Now b.Zf b.Zy b.ZB b.Y9 b.Yg b.Next b.YN else(U,nb,nm,mA,mW,mS,mT,mU,mb,mD,mI,mE)
def Qz(a0:ZG)(a1:List Zt):ZG:=letI b:=a0.Frame;match zy a1 (a1.length+1) 0 b.Z0 b.ZD b.Methods b.XB b.Now a0.Zf a0.Zy a0.ZB a0.Y9 a0.Yg a0.Next a0.YN with|(z1_0,z1_1,z1_2,z1_3,z1_4,z1_5,z1_6,z1_7,z1_8,z1_9,z1_10,z1_11)=>ZG.mk (Zb.mk z1_0 z1_1 z1_2 z1_3 z1_4) z1_5 z1_6 z1_7 z1_8 z1_9 z1_10 z1_11
def UO(a0:ZG):Nat->List ZR->Nat->List ZR
  |0,_,_=>default
  |n1+1,J,U=>bif(U:Int)<(a0.ZB.length:Int)then UO a0 n1 (J++(nth a0.ZB U).ZC) (U+1)else J
def Jo(a0:ZG):List ZR:=match UO a0 (a0.ZB.length+1) ([]:List ZR) 0 with|z1_0=>z1_0
def ZV(a0:ZR):YB:=YB.mk ([a0.ZK]:List ZX) ([]:List (List Zm))
def xn(a0:ZX)(a1:ZW):Nat->List Int->Nat->List Int
  |0,_,_=>default
  |n1+1,J,U=>bif(U:Int)<(a0.ZQ.length:Int)then xn a0 a1 n1 (J++([Yx (nth a0.ZQ U).Method a1]:List Int)) (U+1)else J
def XR(a0:ZX)(a1:ZW):List Int:=match xn a0 a1 (a0.ZQ.length+1) ([]:List Int) 0 with|z1_0=>z1_0
def KT(a0:YB)(a1:ZW):Nat->List (List Int)->Nat->List (List Int)
  |0,_,_=>default
  |n1+1,J,U=>bif(U:Int)<(a0.Z9.length:Int)then KT a0 a1 n1 (J++([XR (nth a0.Z9 U) a1]:List (List Int))) (U+1)else J
def Z7(a0:YB)(a1:ZW):List (List Int):=match KT a0 a1 (a0.Z9.length+1) ([]:List (List Int)) 0 with|z1_0=>z1_0
def Sl(a0:Int):Bool:=ZZ a0 1 2147483646
def Dr(a0:Y6):Bool:=ZZ a0.Number 1 99&&ZZ a0.qf 0 99&&ZZ a0.Method 0 99&&Kd a0.RH&&Sl a0.Ri
def Rz(a0:List Y6):Nat->Nat->Sum Bool Unit
  |0,_=>.inr ()
  |n1+1,J=>letI b:=nth a0 J;bif(J:Int)<(a0.length:Int)then bif !(Dr b)||(J:Int)>0&&(nth a0 (J-1)).Number>=b.Number then .inl false else Rz a0 n1 (J+1)else .inr ()
def Mj(a0:List Y6):Bool:=match Rz a0 (a0.length+1) 0 with|.inl r1=>r1|.inr _=>decide ((a0.length:Int)<=12)
def jM(a0:List Zo):Nat->Nat->Sum Bool Unit
  |0,_=>.inr ()
  |n1+1,J=>letI b:=nth a0 J;bif(J:Int)<(a0.length:Int)then bif !(ZZ b.Id 0 99)||!(ZZ b.Key 1 99)||!(ZZ b.Error 0 100)||(J:Int)>0&&(nth a0 (J-1)).Id>=b.Id then .inl false else jM a0 n1 (J+1)else .inr ()
def kS(a0:List Zo):Bool:=match jM a0 (a0.length+1) 0 with|.inl r1=>r1|.inr _=>decide ((a0.length:Int)<=6)
def Ol(a0:YJ):Bool:=ZZ a0.Id 0 99&&Kd a0.Li&&ZZ a0.Ends 1 10001&&ZZ a0.ON 1 10001&&a0.Li<a0.Ends&&decide (a0.Li<a0.ON)
def Vr(a0:List YJ):Nat->Nat->Sum Bool Unit
  |0,_=>.inr ()
  |n1+1,J=>letI b:=nth a0 J;bif(J:Int)<(a0.length:Int)then bif !(Ol b)||(J:Int)>0&&(nth a0 (J-1)).Id>=b.Id then .inl false else Vr a0 n1 (J+1)else .inr ()
def Si(a0:List YJ):Bool:=match Vr a0 (a0.length+1) 0 with|.inl r1=>r1|.inr _=>decide ((a0.length:Int)<=8)
def yR(a0:Zb):Bool:=Mj a0.Z0&&kS a0.ZD&&Si a0.Methods&&ZZ a0.XB 0 6&&Kd a0.Now
def SJ(a0:Int):JN:=JN.mk 3 a0 (Zh.mk 0 0)
def VH(a0:Int):JN:=JN.mk 2 a0 (Zh.mk 0 0)
def KN(a0:List Y6)(a1:Int)(a2:List Int)(a3:Int):Bool:=letI b:=y8 a0 a1 a2;b.2&&b.1==a3
def qV(a0:List Y6)(a1:Zp):Bool:=xL a1&&KN a0 a1.Key (QQ a1) a1.Mark
def ku(a0:ZX)(a1:ZU):Nat->Nat->Sum Int Unit
  |0,_=>.inr ()
  |n1+1,J=>bif(J:Int)<(a0.ZM.length:Int)then bif KB (nth a0.ZM J) a1 then .inl (J:Int)else ku a0 a1 n1 (J+1)else .inr ()
def xZ(a0:ZX)(a1:ZU):Int:=match ku a0 a1 (a0.ZM.length+1) 0 with|.inl r1=>r1|.inr _=>-1
def Y8(a0:Zh):Bool:=Kd a0.XF&&Kd a0.To&&decide (a0.XF<=a0.To)
def K5(a0 a1:Int):Zh×Bool:=letI b:=Zh.mk (if 0>a0 then 0 else a0) (if 10000<a1 then 10000 else a1);bif a0>a1||!(Y8 b)then(Zh.mk 0 0,false)else(b,true)
def Xw(a0:List Zo)(a1:Zm):Zh×Bool:=letI b:=Zk a0 a1.Authority;letI c:=(nth a0 b.toNat).Error;letI d:=a1.Time;letI e:=K5 (W (d-c)) (W (d+c));bif b<0||c<0||!(Kd d)then(Zh.mk 0 0,false)else(e.1,e.2)
def jV(a0:List Zh)(a1:Int):Nat->Int->Nat->Int
  |0,_,_=>default
  |n1+1,J,U=>letI b:=nth a0 U;bif(U:Int)<(a0.length:Int)then bif Y8 b&&ZZ a1 b.XF b.To then jV a0 a1 n1 (W (J+1)) (U+1)else jV a0 a1 n1 J (U+1)else J
def Pa(a0:List Zh)(a1:Int):Int:=match jV a0 a1 (a0.length+1) 0 0 with|z1_0=>z1_0
def JC(a0:List Zh)(a1 a2:Int):Bool:=letI b:=(a0.length:Int);ZZ a2 0 (W (b-1))&&decide (Pa a0 a1>=W (b-a2))
def Jj(a0:List Zh)(a1:Int):Nat->Bool->Nat->Int->Int->Bool×Int×Int
  |0,_,_,_,_=>(default,default,default)
  |n1+1,J,U,nb,nm=>letI b:=(U:Int);letI c:=U+1;bif b<=10000 then bif JC a0 b a1 then bif !J then Jj a0 a1 n1 true c b b else Jj a0 a1 n1 true c nb b else Jj a0 a1 n1 J c nb nm else(J,nb,nm)
def Ja(a0:List Zh)(a1:Int):Zh×Bool:=match Jj a0 a1 10002 false 0 0 0 with|(z1_0,z1_1,z1_2)=>(Zh.mk z1_1 z1_2,z1_0)
def zZ(a0:List Zo)(a1:List Zm):Nat->List Zh->Nat->Sum (Zh×Bool) (List Zh)
  |0,_,_=>.inr default
  |n1+1,J,U=>letI b:=Xw a0 (nth a1 U);bif(U:Int)<(a1.length:Int)then bif !b.2 then .inl (Zh.mk 0 0,false)else zZ a0 a1 n1 (J++([b.1]:List Zh)) (U+1)else .inr J
def QY(a0:List Zo)(a1:List Zm)(a2:Int):Zh×Bool:=(match zZ a0 a1 (a1.length+1) ([]:List Zh) 0 with|.inl r1=>r1|.inr z1_0=>letI b:=Ja z1_0 a2;(b.1,b.2))
def Yj(a0:List Zo)(a1:Ze)(a2:Int):Zh×Bool:=letI b:=QY a0 a1.YV a2;(b.1,b.2)
def Jg(a0:Zb)(a1:Ze):Zh×Bool:=letI b:=Yj a0.ZD a1 a0.XB;(b.1,b.2)
def Ni(a0:ZX)(a1:List Int)(a2:Int):Int:=letI b:=(a0.ZQ.length:Int);letI c:=nth a0.ZQ a2.toNat;letI d:=c.Method;letI e:=nth a1 a2.toNat;letI f:=a0.ZM.take c.Count.toNat;bif !(ZZ a2 0 (W (b-1)))||(a1.length:Int)!=b||!(ZZ c.Count 0 (a0.ZM.length:Int))then-1 else bif a2>0 then Tm d e f (KZ d (nth a0.ZQ (W (a2-1)).toNat))else Tm d e f 0
def jo(a0:Int)(a2:List X4):Nat->Int->Nat->Int
  |0,_,_=>default
  |n1+1,J,U=>letI b:=nth a2 U;bif(U:Int)<(a2.length:Int)then bif b.Left then jo a0 a2 n1 (jw a0 b.QI J) (U+1)else jo a0 a2 n1 (jw a0 J b.QI) (U+1)else J
def Sp(a0 a1:Int)(a2:List X4):Int:=match jo a0 a2 (a2.length+1) a1 0 with|z1_0=>z1_0
def xT(a0:List Zm):Nat->Nat->Sum Bool Unit
  |0,_=>.inr ()
  |n1+1,J=>bif(J:Int)<(a0.length:Int)then bif(nth a0 (J-1)).Authority>=(nth a0 J).Authority then .inl false else xT a0 n1 (J+1)else .inr ()
def Ke(a0:List Zm):Bool:=match xT a0 (a0.length+1) 1 with|.inl r1=>r1|.inr _=>true
def SG(a0:List Y6)(a1:List Zo)(a2:Zm):Bool:=letI b:=Xy a0 a1 a2;b.2&&(b.1.Authority==a2.Authority&&(b.1.Seq==a2.Seq&&(b.1.Time==a2.Time&&(b.1.QI==a2.QI&&b.1.Mark==a2.Mark))))
def kU(a0:List Y6)(a1:List Zo)(a2:Ze):Nat->Nat->Sum Bool Unit
  |0,_=>.inr ()
  |n1+1,J=>letI b:=nth a2.YV J;bif(J:Int)<(a2.YV.length:Int)then bif b.QI !=a2.BX||!(SG a0 a1 b)then .inl false else kU a0 a1 a2 n1 (J+1)else .inr ()
def V7(a0:List Y6)(a1:List Zo)(a2:Ze)(a3:Int):Bool:=letI b:=a2.YV.length;bif(a2.Path.length:Int)>4||Sp a2.Method a3 a2.Path !=a2.BX||!(ZZ (b:Int) 1 6)||!(Ke a2.YV)then false else(match kU a0 a1 a2 (b+1) 0 with|.inl r1=>r1|.inr _=>true)
def X7(a0:List Zo)(a1:Zm):Int:=letI b:=Zk a0 a1.Authority;bif b>=0 then(nth a0 b.toNat).Key else 0
def yP(a0:List Y6)(a1:List Zo)(a2:List YJ)(a3:Ze):Nat->Int->Nat->Sum Int Int
  |0,_,_=>.inr default
  |n1+1,J,U=>letI b:=YT a0 (X7 a1 (nth a3.YV U));letI c:=yL a2 (nth a0 b.toNat).Method;bif(U:Int)<(a3.YV.length:Int)then bif b<0 then .inl 0 else yP a0 a1 a2 a3 n1 (if c<J then c else J) (U+1)else .inr J
def Jn(a0:List Y6)(a1:List Zo)(a2:List YJ)(a3:Ze):Int:=match yP a0 a1 a2 a3 (a3.YV.length+1) (yL a2 a3.Method) 0 with|.inl r1=>r1|.inr z1_0=>z1_0
def zS(a0:Zb)(a1:ZX)(a2:Int):Bool:=letI b:=W ((a1.ZQ.length:Int)-1);letI c:=Jn a0.Z0 a0.ZD a0.Methods (nth a1.ZQ a2.toNat);letI d:=Jg a0 (nth a1.ZQ (W (a2+1)).toNat);bif !(ZZ a2 0 b)then false else bif a2==b then decide (a0.Now<c)else d.2&&decide (d.1.To<c)
def Kt(a0:Zb)(a1:ZX)(a2:List Int):Nat->Nat->Nat
  |0,_=>default
  |n1+1,J=>letI b:=nth a1.ZQ (J-1);letI c:=W ((J:Int)-1);bif(J:Int)>0 then bif !(Jg a0 b).2||!(V7 a0.Z0 a0.ZD b (Ni a1 a2 c))||!(zS a0 a1 c)then J else Kt a0 a1 a2 n1 (J-1)else J
def JT(a0:Zb)(a1:ZX)(a2:List Int):Int:=letI b:=a1.ZQ.length;match Kt a0 a1 a2 (b+1) b with|z1_0=>(z1_0:Int)
def zi(a0:Zb)(a1:ZX)(a3:Int):Nat->Int->Int->Int
  |0,_,_=>default
  |n1+1,J,U=>letI b:=nth a1.ZQ U.toNat;letI c:=(Jg a0 b).1.To;letI d:=W (U+1);bif U<(a1.ZQ.length:Int)then bif b.Count>a3 then zi a0 a1 a3 n1 (if c<J then c else J) d else zi a0 a1 a3 n1 J d else J
def zK(a0:Zb)(a1:ZX)(a2:List Int)(a3:Int):Int:=match zi a0 a1 a3 (a1.ZQ.length+2) a0.Now (JT a0 a1 a2)with|z1_0=>z1_0
def zX(a0:Zb)(a1:ZX)(a2:List Int)(a3:ZU):Int:=letI b:=xZ a1 a3;bif b<0 then a0.Now else zK a0 a1 a2 b
def zd(a0:Zb)(a1:YB)(a2:List (List Int))(a3:ZU):Nat->Int->Nat->Int
  |0,_,_=>default
  |n1+1,J,U=>letI b:=zX a0 (nth a1.Z9 U) (nth a2 U) a3;bif(U:Int)<(a1.Z9.length:Int)then bif(U:Int)<(a2.length:Int)then zd a0 a1 a2 a3 n1 (if b<J then b else J) (U+1)else zd a0 a1 a2 a3 n1 J (U+1)else J
def Z4(a0:Zb)(a1:YB)(a2:List (List Int))(a3:ZU):Int:=match zd a0 a1 a2 a3 (a1.Z9.length+1) a0.Now 0 with|z1_0=>z1_0
def XA(a0:ZU):Zs×Bool:=letI b:=a0.YM;bif Y0 a0 !=102||nth b 4 !=a0.Key then(Zs.mk 0 0 0 0 0,false)else(Zs.mk (nth b 1) (nth b 2) (nth b 3) (nth b 4) a0.Mark,true)
def W0(a0:ZU):Zm×Bool:=letI b:=a0.YM;bif Y0 a0 !=103 then(Zm.mk 0 0 0 0 0,false)else(Zm.mk (nth b 1) (nth b 2) (nth b 3) (nth b 4) a0.Mark,true)
def Uu(a0:ZU):Zp×Bool:=letI b:=a0.YM;bif Y0 a0 !=104||nth b 1 !=a0.Key then(Zp.mk 0 0 0 0 0 0 0 0 0,false)else(Zp.mk (nth b 1) (nth b 2) (nth b 3) (nth b 4) (nth b 5) (nth b 6) (nth b 7) (nth b 8) a0.Mark,true)
def Je(a0:ZU):Xc×Bool:=letI b:=a0.YM;bif Y0 a0 !=105||nth b 5 !=a0.Key then(Xc.mk 0 0 0 0 0 0,false)else(Xc.mk (nth b 1) (nth b 2) (nth b 3) (nth b 4) (nth b 5) a0.Mark,true)
def QP(a0:List Y6)(a1:ZU):Bool:=letI b:=Y0 a1;letI c:=KN a0 a1.Key a1.YM a1.Mark;bif b==101 then(YK a1).2&&c else bif b==102 then(XA a1).2&&c else bif b==103 then(W0 a1).2&&c else bif b==104 then(Uu a1).2&&c else bif b==105 then(Je a1).2&&c else false&&c
def WZ(a0 a1:ZU):Nat->Nat->Sum Bool Unit
  |0,_=>.inr ()
  |n1+1,J=>letI b:=nth a0.YM J;letI c:=nth a1.YM J;bif(J:Int)<(a0.YM.length:Int)&&(J:Int)<(a1.YM.length:Int)then bif b !=c then .inl (decide (b<c))else WZ a0 a1 n1 (J+1)else .inr ()
def TV(a0 a1:ZU):Bool:=letI b:=a0.YM.length;letI c:=(a1.YM.length:Int);match WZ a0 a1 (b+1) 0 with|.inl r1=>r1|.inr _=>bif(b:Int)!=c then decide ((b:Int)<c)else bif a0.Key !=a1.Key then decide (a0.Key<a1.Key)else decide (a0.Mark<a1.Mark)
def yJ(a1:YB)(U:Nat)(nc:List ZU)(nh:Nat):Nat->Nat->Nat
  |0,_=>default
  |n3+1,mR=>bif(mR:Int)<(nc.length:Int)&&TV (nth nc mR) (nth (nth a1.Z9 U).ZM nh)then yJ a1 U nc nh n3 (mR+1)else mR
def QU(a0:Zb)(a1:YB)(a2:List (List Int))(U:Nat):Nat->List ZU->Nat->List ZU
  |0,_,_=>default
  |n2+1,nc,nh=>letI b:=(nth a1.Z9 U).ZM;letI c:=nth b nh;bif(nh:Int)<(b.length:Int)then bif K8 nc c||!(QP a0.Z0 c)||Z4 a0 a1 a2 c>=YS a0 c.Key then QU a0 a1 a2 U n2 nc (nh+1)else(match yJ a1 U nc nh (nc.length+1) 0 with|z3_0=>QU a0 a1 a2 U n2 (nc.take z3_0++([c]:List ZU)++(nc.drop z3_0).take (nc.length-z3_0)) (nh+1))else nc
def K0(a0:Zb)(a1:YB)(a2:List (List Int)):Nat->List ZU->Nat->List ZU
  |0,_,_=>default
  |n1+1,J,U=>bif(U:Int)<(a1.Z9.length:Int)then(match QU a0 a1 a2 U ((nth a1.Z9 U).ZM.length+1) J 0 with|lQ=>K0 a0 a1 a2 n1 lQ (U+1))else J
def Zr(a0:Zb)(a1:YB)(a2:List (List Int)):List ZU:=match K0 a0 a1 a2 (a1.Z9.length+1) ([]:List ZU) 0 with|z1_0=>z1_0
def Jm(a0:YO):Zh:=Zh.mk a0.XF a0.To
def GZ(a0:YO):Bool:=ZZ a0.Zc 1 999&&ZZ a0.Key 1 99&&ZZ a0.YA 1 99&&a0.Key !=a0.YA&&ZZ a0.qf 0 99&&Y8 (Jm a0)
def PS(a0:List Y6)(a1:Int):Int:=letI b:=YT a0 a1;bif b>=0 then(nth a0 b.toNat).qf else-1
def yd(a0:List Y6)(a1:YO):Bool:=GZ a1&&KN a0 a1.YA (xv a1) a1.Mark&&a1.qf==PS a0 a1.Key
def jU(a0:Zb)(a1:List ZU)(a2:Zp):Nat->Int->Nat->Int->Int->Int->Int->Int->Int->Int->Int×Int×Int×Int×Int×Int×Int×Int
  |0,_,_,_,_,_,_,_,_,_=>(default,default,default,default,default,default,default,default)
  |n1+1,J,U,nb,nm,mA,mW,mS,mT,mU=>letI b:=YK (nth a1 U);letI c:=b.1;bif(U:Int)<(a1.length:Int)then bif b.2&&yd a0.Z0 c&&c.Zc==a2.Zc&&c.Key==a2.Key then jU a0 a1 a2 n1 (W (J+1)) (U+1) c.Zc c.Key c.qf c.XF c.To c.YA c.Mark else jU a0 a1 a2 n1 J (U+1) nb nm mA mW mS mT mU else(J,nb,nm,mA,mW,mS,mT,mU)
def Qe(a0:Zb)(a1:List ZU)(a2:Zp):YO×Bool:=match jU a0 a1 a2 (a1.length+1) 0 0 0 0 0 0 0 0 0 with|(z1_0,z1_1,z1_2,z1_3,z1_4,z1_5,z1_6,z1_7)=>bif z1_0 !=1 then(YO.mk 0 0 0 0 0 0 0,false)else(YO.mk z1_1 z1_2 z1_3 z1_4 z1_5 z1_6 z1_7,true)
def tR(a0 a1:Int):Int:=if a1>a0 then a1 else a0
def kc(a1:List Zm):Nat->List Int->Nat->List Int
  |0,_,_=>default
  |n1+1,J,U=>bif(U:Int)<(a1.length:Int)then kc a1 n1 (J++([(nth a1 U).Mark]:List Int)) (U+1)else J
def jv(a0:Int)(a1:List Zm):Int:=bif(a1.length:Int)==0 then 0 else(match kc a1 (a1.length+1) ([]:List Int) 0 with|z1_0=>tR 1 (Kc a0 z1_0))
def qb(a0:Int)(a1:Zm):ZU:=ZU.mk a0 (KH a1) a1.Mark
def U7(a0:Zb)(a1:YB)(a2:List ZU)(U:Nat):Nat->Bool->Nat->Bool
  |0,_,_=>default
  |n2+1,nc,nh=>letI b:=nth a1.XG U;letI c:=nth b nh;bif(nh:Int)<(b.length:Int)then U7 a0 a1 a2 U n2 (nc&&K8 a2 (qb (X7 a0.ZD c) c)) (nh+1)else nc
def xM(a0:Zb)(a1:YB)(a2:List ZU)(a3:Zp):Nat->Int->Nat->Int
  |0,_,_=>default
  |n1+1,J,U=>letI b:=nth a1.XG U;letI c:=U+1;letI d:=QY a0.ZD b a0.XB;bif(U:Int)<(a1.XG.length:Int)then bif a3.UF==0||!(Ke b)||jv a3.Method b !=a3.UF then xM a0 a1 a2 a3 n1 J c else(match U7 a0 a1 a2 U (b.length+1) true 0 with|lQ=>bif lQ&&d.2 then xM a0 a1 a2 a3 n1 (if d.1.XF>J then d.1.XF else J) c else xM a0 a1 a2 a3 n1 J c)else J
def TD(a0:Zb)(a1:YB)(a2:List ZU)(mO:Nat):Nat->Bool->Nat->Bool
  |0,_,_=>default
  |n4+1,gZ,iC=>letI b:=nth a1.XG mO;letI c:=nth b iC;bif(iC:Int)<(b.length:Int)then TD a0 a1 a2 mO n4 (gZ&&K8 a2 (qb (X7 a0.ZD c) c)) (iC+1)else gZ
def xH(a0:Zb)(a1:YB)(a2:List ZU)(a3:Zp):Nat->Int->Nat->Int
  |0,_,_=>default
  |n3+1,mR,mO=>letI b:=nth a1.XG mO;letI c:=mO+1;letI d:=QY a0.ZD b a0.XB;bif(mO:Int)<(a1.XG.length:Int)then bif a3.UF==0||!(Ke b)||jv a3.Method b !=a3.UF then xH a0 a1 a2 a3 n3 mR c else(match TD a0 a1 a2 mO (b.length+1) true 0 with|z4_0=>bif z4_0&&d.2 then xH a0 a1 a2 a3 n3 (if d.1.XF>mR then d.1.XF else mR) c else xH a0 a1 a2 a3 n3 mR c)else mR
def Xx(a0:Zb)(a1:YB)(a2:List ZU)(a3:Zp):Int:=letI b:=YT a0.Z0 a3.Key;letI c:=a1.XG.length+1;bif b>=0 then(match xM a0 a1 a2 a3 c (nth a0.Z0 b.toNat).RH 0 with|z1_0=>z1_0)else(match xH a0 a1 a2 a3 c 0 0 with|z3_0=>z3_0)
def Jw(a0:List ZU)(a1:YO):Nat->List Zs->Nat->List Zs
  |0,_,_=>default
  |n1+1,J,U=>letI b:=XA (nth a0 U);bif(U:Int)<(a0.length:Int)then bif b.2&&b.1.Zc==a1.Zc&&b.1.YA==a1.YA then Jw a0 a1 n1 (J++([b.1]:List Zs)) (U+1)else Jw a0 a1 n1 J (U+1)else J
def X5(a0:List ZU)(a1:YO):List Zs:=match Jw a0 a1 (a0.length+1) ([]:List Zs) 0 with|z1_0=>z1_0
def Zw(a0 a1:Int)(a2:List Zh):List Zh:=letI b:=K5 a0 a1;bif b.2 then a2++([b.1]:List Zh)else a2
def qm(a0:List Zs)(a1:Int):Nat->Int->Int->Int->Nat->Int×Int×Int
  |0,_,_,_,_=>(default,default,default)
  |n1+1,J,U,nb,nm=>letI b:=nth a0 nm;letI c:=nm+1;letI d:=b.Zy;letI e:=if d>U then d else U;bif(nm:Int)<(a0.length:Int)then bif b.Zc !=a1 then qm a0 a1 n1 J U nb c else bif d<0 then qm a0 a1 n1 J U (if b.xP>nb then b.xP else nb) c else bif J<0||d<J then qm a0 a1 n1 d e nb c else qm a0 a1 n1 J e nb c else(J,U,nb)
def xl(a0:List Zs)(a1:Int):Int×Int×Int:=match qm a0 a1 (a0.length+1) (-1) (-1) (-1) 0 with|(z1_0,z1_1,z1_2)=>(z1_0,z1_1,z1_2)
def QT(a0:List Zs)(a1:Int):Int:=letI b:=(xl a0 a1).2;letI c:=W (b.2+1);bif b.1<0 then 10001 else if c>b.1 then c else b.1
def Um(lQ:List Zh)(fY:Int):Nat->Nat->Nat
  |0,_=>default
  |n3+1,mR=>bif(mR:Int)<(lQ.length:Int)&&(nth lQ mR).XF<fY then Um lQ fY n3 (mR+1)else mR
def QX(J:List Zh):Nat->List Zh->Nat->Int->Int->List Zh×Int×Int
  |0,_,_,_,_=>(default,default,default)
  |n2+1,nc,nh,lT,lV=>letI b:=nth J nh;bif(nh:Int)<(J.length:Int)then bif W (b.To+1)<lT||W (lV+1)<b.XF then QX J n2 (nc++([b]:List Zh)) (nh+1) lT lV else QX J n2 nc (nh+1) (if b.XF<lT then b.XF else lT) (if b.To>lV then b.To else lV)else(nc,lT,lV)
def zk(a0:List Zh):Nat->List Zh->Nat->List Zh
  |0,_,_=>default
  |n1+1,J,U=>letI b:=nth a0 U;bif(U:Int)<(a0.length:Int)then bif !(Y8 b)then zk a0 n1 J (U+1)else(match QX J (J.length+1) ([]:List Zh) 0 b.XF b.To with|(lQ,fY,z2_2)=>(match Um lQ fY (lQ.length+1) 0 with|z3_0=>zk a0 n1 (lQ.take z3_0++([Zh.mk fY z2_2]:List Zh)++(lQ.drop z3_0).take (lQ.length-z3_0)) (U+1)))else J
def Xi(a0:List Zh):List Zh:=match zk a0 (a0.length+1) ([]:List Zh) 0 with|z1_0=>z1_0
def jF(a0:YO)(a1:List Zs):List Zh:=letI b:=decide (a0.To<10000);letI c:=QT a1 a0.Zc;letI d:=W (a0.To+1);letI e:=([]:List Zh);letI f:=Zw 0 (W (a0.XF-1)) e;bif a0.XF>0 then bif b then Xi (Zw c 10000 (Zw d 10000 f))else Xi (Zw c 10000 f)else bif b then Xi (Zw c 10000 (Zw d 10000 e))else Xi (Zw c 10000 e)
def jL(a0 a1:Zh):Bool:=Y8 a0&&Y8 a1&&a1.XF<=a0.XF&&decide (a0.To<=a1.To)
def jq(a0:List Zh)(a1:Zh):Nat->Nat->Sum Bool Unit
  |0,_=>.inr ()
  |n1+1,J=>bif(J:Int)<((Xi a0).length:Int)then bif jL a1 (nth (Xi a0) J)then .inl true else jq a0 a1 n1 (J+1)else .inr ()
def zh(a0:List Zh)(a1:Zh):Bool:=match jq a0 a1 ((Xi a0).length+1) 0 with|.inl r1=>r1|.inr _=>false
def UG(a0:YO)(a1:List Zs)(a2:Zh):Bool:=zh (jF a0 a1) a2
def JU(a0:List Zs)(a1:Int):Int:=letI b:=xl a0 a1;bif b.1>=0 then W (b.1-1)else b.2.2
def X1(a0 a1:Zh):Zh×Bool:=letI b:=Zh.mk (if a1.XF>a0.XF then a1.XF else a0.XF) (if a1.To<a0.To then a1.To else a0.To);bif !(Y8 a0)||!(Y8 a1)||!(Y8 b)then(Zh.mk 0 0,false)else(b,true)
def jY(a0 a1:List Zh)(U:Nat):Nat->List Zh->Nat->List Zh
  |0,_,_=>default
  |n2+1,nc,nh=>letI b:=X1 (nth a0 U) (nth a1 nh);bif(nh:Int)<(a1.length:Int)then bif b.2 then jY a0 a1 U n2 (nc++([b.1]:List Zh)) (nh+1)else jY a0 a1 U n2 nc (nh+1)else nc
def WT(a0 a1:List Zh):Nat->List Zh->Nat->List Zh
  |0,_,_=>default
  |n1+1,J,U=>bif(U:Int)<(a0.length:Int)then(match jY a0 a1 U (a1.length+1) J 0 with|lQ=>WT a0 a1 n1 lQ (U+1))else J
def VI(a0 a1:List Zh):List Zh:=match WT a0 a1 (a0.length+1) ([]:List Zh) 0 with|z1_0=>Xi z1_0
def xz(a0:YO)(a1:List Zs):List Zh:=VI ([Jm a0]:List Zh) ([Zh.mk 0 (JU a1 a0.Zc)]:List Zh)
def qa(a0:YO)(a1:List Zs)(a2:Zh):Bool:=zh (xz a0 a1) a2
def K9(a0:List ZU):Nat->List Xc->Nat->List Xc
  |0,_,_=>default
  |n1+1,J,U=>letI b:=Je (nth a0 U);bif(U:Int)<(a0.length:Int)then bif b.2 then K9 a0 n1 (J++([b.1]:List Xc)) (U+1)else K9 a0 n1 J (U+1)else J
def Kl(a0:List ZU):List Xc:=match K9 a0 (a0.length+1) ([]:List Xc) 0 with|z1_0=>z1_0
def PB(a0:Xc):Bool:=ZZ a0.Org 1 99&&ZZ a0.Mp 0 99&&ZZ a0.Key 1 99&&Y8 (Zh.mk a0.XF a0.To)
def z7(a0:Xc):List Int:=([105,a0.Org,a0.Mp,a0.XF,a0.To,a0.Key]:List Int)
def V9(a0:List Y6)(a1:Xc):Bool:=PB a1&&PS a0 a1.Key==a1.Org&&KN a0 a1.Key (z7 a1) a1.Mark
def yQ(a0:List Y6)(a1:List Xc)(a2 a3:Int):Nat->List Zh->Nat->List Zh
  |0,_,_=>default
  |n1+1,J,U=>letI b:=nth a1 U;bif(U:Int)<(a1.length:Int)then bif b.Org==a2&&b.Mp==a3&&V9 a0 b then yQ a0 a1 a2 a3 n1 (J++([Zh.mk b.XF b.To]:List Zh)) (U+1)else yQ a0 a1 a2 a3 n1 J (U+1)else J
def qD(a0:List Y6)(a1:List Xc)(a2 a3:Int):List Zh:=match yQ a0 a1 a2 a3 (a1.length+1) ([]:List Zh) 0 with|z1_0=>Xi z1_0
def W7(a0:List Y6)(a1:List Xc)(a2 a3:Int)(a4:Zh):Bool:=a2==0&&Y8 a4||zh (qD a0 a1 a2 a3) a4
def j8(a0:Zb)(a1:YB)(a2:List (List Int))(a3:Int)(a4:Zp):JN:=letI b:=Z4 a0 a1 a2 (Yo a4);letI c:=Zr a0 a1 a2;letI d:=Qe a0 c a4;letI e:=Xx a0 a1 c a4;letI f:=X5 c d.1;letI g:=Zh.mk e b;bif !(yR a0)then SJ 1 else bif !(xL a4)then VH 1 else bif a3<0 then SJ 2 else bif a3 !=a4.QI then VH 2 else bif YT a0.Z0 a4.Key<0 then SJ 3 else bif !(qV a0.Z0 a4)then VH 4 else bif b>=YS a0 a4.Key||b>=yL a0.Methods a4.Method then SJ 5 else bif !d.2 then SJ 6 else bif e>b then SJ 7 else bif UG d.1 f g then JN.mk 2 8 g else bif !(qa d.1 f g)then JN.mk 3 7 g else bif !(W7 a0.Z0 (Kl c) a4.Org d.1.qf g)then JN.mk 3 9 g else JN.mk 1 0 g
def Ix(a0:Zb)(a1:YB)(a2:ZW)(a3:Zp):JN:=j8 a0 a1 (Z7 a1 a2) (Yx a3.Method a2) a3
def xp(a0:Zb)(a1:ZR):JN:=Ix a0 (ZV a1) a1.Doc a1.Sig
def XP(a0:ZG)(a1:Int):JN:=letI b:=ZO a0 a1;bif b.1<0 then JN.mk 0 0 (Zh.mk 0 0)else xp a0.Frame (nth (nth a0.ZB b.1.toNat).ZC b.2.toNat)
def KO(a0:ZG):Nat->List Int->Nat->List Int
  |0,_,_=>default
  |n1+1,J,U=>letI b:=(nth (Jo a0) U).Id;bif(U:Int)<((Jo a0).length:Int)then bif(XP a0 b).Code==1 then KO a0 n1 (J++([b]:List Int)) (U+1)else KO a0 n1 J (U+1)else J
def Zd(a0:ZG):List Int:=match KO a0 ((Jo a0).length+1) ([]:List Int) 0 with|z1_0=>z1_0
def Ki(a0:Zb)(a1:ZX)(a2:List Int):Bool:=decide ((a1.ZQ.length:Int)>0)&&JT a0 a1 a2==0
def UM(a0:Zb)(a1:ZX):Nat->Nat->Sum Bool Unit
  |0,_=>.inr ()
  |n1+1,J=>letI b:=Yj a0.ZD (nth a1.ZQ J) a0.XB;bif(J:Int)<(a1.ZQ.length:Int)then bif !b.2||b.1.To>a0.Now then .inl false else UM a0 a1 n1 (J+1)else .inr ()
def kY(a0:Zb)(a1:ZX)(a2:List Int):Bool:=letI b:=a1.ZQ.length;bif !(Ki a0 a1 a2)||(nth a1.ZQ (b-1)).Count !=(a1.ZM.length:Int)then false else(match UM a0 a1 (b+1) 0 with|.inl r1=>r1|.inr _=>true)
def J7(a0:ZG)(a1:Int):Bool:=letI b:=ZO a0 a1;letI c:=nth (nth a0.ZB b.1.toNat).ZC b.2.toNat;bif b.1<0 then false else Ki a0.Frame c.ZK (XR c.ZK c.Doc)
def xD(a0:List UInt8):Nat->Nat->Sum Bool Unit
  |0,_=>.inr ()
  |n1+1,J=>letI b:=(ZA a0).2;letI c:=(Int.tmod (XO a0 5) (b.length:Int)).toNat;letI d:=ZI (ZA a0).1 (b.take c);letI e:=nth (Zd d) J;letI f:=nth (nth d.ZB (ZO d e).1.toNat).ZC (ZO d e).2.toNat;letI g:=ZI d (b.drop c);bif(J:Int)<((Zd d).length:Int)then bif !(kY d.Frame f.ZK (XR f.ZK f.Doc))||!(J7 g e)then xD a0 n1 (J+1)else bif(XP g e).Code !=1 then .inl false else xD a0 n1 (J+1)else .inr ()
def xN(a0:List UInt8):Nat->Nat->Sum Bool Unit
  |0,_=>.inr ()
  |n2+1,nc=>letI b:=ZI (ZA a0).1 ([]:List _);letI c:=nth (Zd b) nc;letI d:=nth (nth b.ZB (ZO b c).1.toNat).ZC (ZO b c).2.toNat;letI e:=ZI b (ZA a0).2;bif(nc:Int)<((Zd b).length:Int)then bif !(kY b.Frame d.ZK (XR d.ZK d.Doc))||!(J7 e c)then xN a0 n2 (nc+1)else bif(XP e c).Code !=1 then .inl false else xN a0 n2 (nc+1)else .inr ()
def WS(a0:List UInt8):Bool:=letI b:=(ZA a0).2;letI c:=(b.length:Int);letI d:=(ZA a0).1;letI e:=(Int.tmod (XO a0 5) c).toNat;letI f:=b.take e;letI g:=b.drop e;letI h:=([]:List _);bif wO a0 then true else bif c>0 then bif((ZI (ZI d f) g).ZB.length:Int)!=((Qz (Qz d f) g).ZB.length:Int)then false else(match xD a0 ((Zd (ZI d f)).length+1) 0 with|.inl r1=>r1|.inr _=>true)else bif((ZI (ZI d h) b).ZB.length:Int)!=((Qz (Qz d h) b).ZB.length:Int)then false else(match xN a0 ((Zd (ZI d h)).length+1) 0 with|.inl r2=>r2|.inr _=>true)
def yY(a0:ZG)(nh:Nat):Nat->List Int->Nat->Sum Bool (List Int)
  |0,_,_=>.inr default
  |n3+1,mR,mO=>letI b:=(nth a0.ZB nh).ZC;letI c:=(nth b mO).Id;bif(mO:Int)<(b.length:Int)then bif Qj mR c||c>=a0.Next then .inl false else yY a0 nh n3 (mR++([c]:List Int)) (mO+1)else .inr mR
def UR(a0:ZG):Nat->Nat->Sum Bool Unit
  |0,_=>.inr ()
  |n5+1,bW=>bif(bW:Int)<(a0.Yg.length:Int)then bif Zk a0.Frame.ZD (nth a0.Yg bW)<0 then .inl false else UR a0 n5 (bW+1)else .inr ()
def Ux(a0:ZG):Nat->Nat->Sum Bool Unit
  |0,_=>.inr ()
  |n4+1,gZ=>bif(gZ:Int)<(a0.Y9.length:Int)then bif nth a0.Y9 gZ<0 then .inl false else Ux a0 n4 (gZ+1)else .inr ()
def xj(a0:ZG):Nat->List Int->Nat->Sum Bool Unit
  |0,_,_=>.inr ()
  |n2+1,nc,nh=>letI b:=nth a0.ZB nh;bif(nh:Int)<(a0.ZB.length:Int)then bif !(Y7 b)||b.Id !=(nh:Int)then .inl false else(match yY a0 nh (b.ZC.length+1) nc 0 with|.inl r3=>.inl r3|.inr z3_0=>xj a0 n2 z3_0 (nh+1))else .inr ()
def Un(a0:ZG):Nat->Nat->Sum Bool Unit
  |0,_=>.inr ()
  |n1+1,J=>letI b:=nth a0.Zf J;bif(J:Int)<(a0.Zf.length:Int)then bif !(yd a0.Frame.Z0 b)||jG a0.Zf b.Zc !=(J:Int)||!(ZZ (nth a0.Zy J) (-1) 10001)then .inl false else Un a0 n1 (J+1)else .inr ()
def Mr(a0:ZG):Bool:=letI b:=a0.Frame;letI c:=a0.Zf.length;letI d:=a0.ZB.length;letI e:=a0.Y9.length;letI f:=a0.Yg.length;bif !(yR b)||(a0.Zy.length:Int)!=(c:Int)||!(ZZ (d:Int) 1 4)||(e:Int)!=(b.ZD.length:Int)||(f:Int)>b.XB||a0.Next<1||!(JV a0.Yg)||!(JV a0.YN)then false else(match Un a0 (c+1) 0 with|.inl r1=>r1|.inr _=>(match xj a0 (d+1) ([]:List Int) 0 with|.inl r2=>r2|.inr _=>(match Ux a0 (e+1) 0 with|.inl r4=>r4|.inr _=>(match UR a0 (f+1) 0 with|.inl r5=>r5|.inr _=>true))))
end Go.Mo
