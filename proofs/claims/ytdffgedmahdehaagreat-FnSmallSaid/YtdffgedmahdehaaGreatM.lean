/- Models of the functions: what each computes, on typed data. No condition. -/
import Derived.Test.YtdffgedmahdehaaGreatMo
namespace Go.Mo
open Go.Vm
set_option linter.unusedVariables false
def OX(a0:List UInt8):Bool:=decide ((a0.length:Int)>1048576)
def VP(a0:List UInt8):Nat->Int->Nat->Int
  |0,_,_=>default
  |n1+1,J,U=>bif(U:Int)<(a0.length:Int)&&(U:Int)<4000 then VP a0 n1 (SU .i64 (W (W (W (J*137)+W ((nth a0 U).toNat:Int))+11)) 1073741823) (U+1)else J
def Y1(a0:List UInt8):ZL:=match VP a0 4001 (W (193017+(a0.length:Int))) 0 with|z1_0=>ZL.mk a0 0 z1_0
def Zi(a0:ZL):ZL×Int:=letI c:=W (W (a0.h*6364136223846793005)+1442695040888963407);letI d:=SU .i64 (L6 .i64 (c.fdiv (2^min 33 IntKind.i64.bits)) (c.fdiv (2^min 47 IntKind.i64.bits))) 255;bif(a0.i:Int)<(a0.b.length:Int)then(ZL.mk a0.b (a0.i+1) c,SU .i64 (W (d+W ((nth a0.b a0.i).toNat:Int))) 255)else(ZL.mk a0.b a0.i c,d)
def ZA(a0:ZL)(a1:Int):ZL×Int:=letI b:=Zi (Zi a0).1;bif a1<=0 then(a0,0)else bif a1<=256 then((Zi a0).1,Int.tmod (Zi a0).2 a1)else((Zi b.1).1,Int.tmod (W (W (W ((Zi a0).2*65536)+W (b.2*256))+(Zi b.1).2)) a1)
def jm(a0:ZL)(a1:List ByteArray):ZL×ByteArray:=letI b:=ZA a0 (a1.length:Int);(b.1,nth a1 b.2.toNat)
def XY(a0:ZL):ZL×ByteArray:=letI b:=jm a0 ([(⟨#[]⟩:ByteArray),(⟨#[97]⟩:ByteArray),(⟨#[98]⟩:ByteArray),(⟨#[97,98]⟩:ByteArray),(⟨#[121,101,115]⟩:ByteArray),(⟨#[110,111]⟩:ByteArray),(⟨#[111,110,101,32,104,117,110,100,114,101,100]⟩:ByteArray)]:List ByteArray);(b.1,b.2)
def Zt(a0 a1 a2:Int):Bool:=decide (a0>=a1)&&decide (a0<=a2)
def kI(a0 a1:Int):Int:=bif !(Zt a1 1 1000000000000)then 0 else Int.tmod (W (Int.tmod a0 a1+a1)) a1
def zb(a0:List Int):Nat->Int->Nat->Int
  |0,_,_=>default
  |n1+1,J,U=>bif(U:Int)<(a0.length:Int)then zb a0 n1 (Int.tmod (W (W (W (J*1000003)+kI (nth a0 U) 2147483647)+13)) 2147483647) (U+1)else J
def qp(a0:List Int):Int:=match zb a0 (a0.length+1) 11 0 with|z1_0=>z1_0
def Jc(a0:Int)(a1:List Int):Int:=letI b:=([a0]:List Int);qp (b++a1++b)
def Tx(a0 a1:Int):Int:=bif a1>a0 then a1 else a0
def XT(a0:ZP):Nat->Nat->Sum Bool Unit
  |0,_=>.inr ()
  |n2+1,wK=>bif(wK:Int)<(a0.Yw.length:Int)then bif !(Zt (nth a0.Yw wK) 1 1000000000000)then .inl false else XT a0 n2 (wK+1)else .inr ()
def XP(a0:ZP):Nat->Nat->Sum Bool Unit
  |0,_=>.inr ()
  |n1+1,J=>bif(J:Int)<(a0.Zz.length:Int)then bif((nth a0.Zz J).size:Int)>40 then .inl false else XP a0 n1 (J+1)else .inr ()
def YJ(a0:ZP):Bool:=letI b:=a0.Zz.length;letI c:=a0.Yw.length;match XP a0 (b+1) 0 with|.inl r1=>r1|.inr _=>(match XT a0 (c+1) 0 with|.inl r2=>r2|.inr _=>Zt a0.zj 0 999&&Zt (b:Int) 1 6&&(c:Int)==(b:Int))
def yK(a0:Int):Bool:=Zt a0 1 2147483646
def Ye(a0:Int)(a1:List ByteArray)(a2:Int):Nat->Nat->List Int->List Int
  |0,_,_=>default
  |n1+1,J,U=>bif(J:Int)<(a1.length:Int)then Ye a0 a1 a2 n1 (J+1) (U++([Tx 1 (Jc a2 ([a0,(J:Int)]:List Int))]:List Int))else U
def XX(a0:Int)(a1:List ByteArray)(a2:Int):ZP×Bool:=letI b:=([]:List Int);(match Ye a0 a1 a2 (a1.length+1) 0 b with|z1_0=>letI c:=ZP.mk a0 a1 z1_0;bif !(YJ c)||!(yK a2)then(ZP.mk 0 ([]:List ByteArray) b,false)else(c,true))
def QY:Nat->List ByteArray->Int->List UInt8->Nat->Int->List ByteArray×List UInt8×Nat×Int
  |0,_,_,_,_,_=>(default,default,default,default)
  |n1+1,J,U,wB,wS,wX=>letI c:=XY (ZL.mk wB wS wX);bif U>0 then QY n1 (J++([c.2]:List ByteArray)) (W (U-1)) c.1.b c.1.i c.1.h else(J,wB,wS,wX)
def Z7(a0:ZL):ZL×ZP:=letI c:=(ZA a0 3).1;(match QY 5 ([]:List ByteArray) (W (1+(ZA a0 3).2)) c.b c.i c.h with|(z1_0,z1_1,z1_2,z1_3)=>letI d:=ZA (ZL.mk z1_1 z1_2 z1_3) 5;(d.1,(XX d.2 z1_0 11).1))
def Zx:List Yt:=([Yt.mk 1 90 1 0 501,Yt.mk 2 90 3 40 502,Yt.mk 11 1 1 0 511,Yt.mk 12 1 2 20 512,Yt.mk 13 2 3 40 513,Yt.mk 21 50 1 0 521,Yt.mk 31 81 1 0 531,Yt.mk 32 82 2 20 532,Yt.mk 33 83 3 40 533,Yt.mk 34 84 4 60 534]:List Yt)
def Xy(a0:Int)(a1:List Int):Int:=qp (([7,a0]:List Int)++a1)
def Jk(a1:ByteArray):Nat->List Int->Nat->List Int
  |0,_,_=>default
  |n1+1,J,U=>bif(U:Int)<(a1.size:Int)then Jk a1 n1 (J++([W ((bAt a1 U):Int)]:List Int)) (U+1)else J
def Km(a0:Int)(a1:ByteArray)(a2:Int):Int:=match Jk a1 (a1.size+1) ([a2]:List Int) 0 with|z1_0=>Xy a0 z1_0
def KC(a0:Int)(a1:ZP):Nat->List Int->Nat->List Int
  |0,_,_=>default
  |n1+1,J,U=>bif(U:Int)<(a1.Zz.length:Int)then KC a0 a1 n1 (J++([Km a0 (nth a1.Zz U) (nth a1.Yw U)]:List Int)) (U+1)else J
def Yl(a0:Int)(a1:ZP):Int:=bif !(YJ a1)then-1 else(match KC a0 a1 (a1.Zz.length+1) ([a1.zj]:List Int) 0 with|z1_0=>Xy a0 z1_0)
def xB(a0:List Yt)(a1:Int):Nat->Nat->Sum Int Unit
  |0,_=>.inr ()
  |n1+1,J=>bif(J:Int)<(a0.length:Int)then bif(nth a0 J).Number==a1 then .inl (J:Int)else xB a0 a1 n1 (J+1)else .inr ()
def YB(a0:List Yt)(a1:Int):Int:=match xB a0 a1 (a0.length+1) 0 with|.inl r1=>r1|.inr _=>-1
def KG(a0:ZY):Bool:=Zt a0.Key 1 99&&Zt a0.YC 1 999&&Zt a0.Method 0 99&&Zt a0.Org 0 99&&Zt a0.jS 1 3&&Zt a0.Xk 0 1000000000000&&Zt a0.jH 0 1000000000000&&Zt a0.Vu 0 1000000000000
def YZ(a0:ZY):List Int:=([104,a0.Key,a0.YC,a0.Method,a0.Xk,a0.jS,a0.Org,a0.jH,a0.Vu]:List Int)
def KW(a0:Yt)(a1:List Int):Int:=Jc a0.RY (([a0.Method]:List Int)++a1)
def Jt(a0:List Yt)(a1:ZY):ZY×Bool:=letI b:=YB a0 a1.Key;bif !(KG a1)||b<0 then(ZY.mk 0 0 0 0 0 0 0 0 0,false)else(ZY.mk a1.Key a1.YC a1.Method a1.Xk a1.jS a1.Org a1.jH a1.Vu (KW (nth a0 b.toNat) (YZ a1)),true)
def Jr(a0:List Yt)(a1 a2 a3:Int)(a4:ZP)(a5:Int):ZY×Bool:=letI b:=Jt a0 (ZY.mk a1 a2 a3 (Yl a3 a4) a5 0 0 0 0);(b.1,b.2)
def ZR(a0:ZL):ZL×ZY×ZP:=letI b:=ZA (Z7 a0).1 3;letI c:=ZA b.1 3;letI d:=W (1+b.2);(c.1,(Jr Zx (W (11+b.2)) d d (Z7 a0).2 (W (1+c.2))).1,(Z7 a0).2)
def YE(a0:ZY):ZM:=ZM.mk a0.Key (YZ a0) a0.Mark
def qL(a0:XG):xq:=xq.mk a0.y0 a0.To
def zi(a0:Int):Bool:=Zt a0 0 10000
def Wh(a0:xq):Bool:=zi a0.y0&&zi a0.To&&decide (a0.y0<=a0.To)
def U1(a0:XG):Bool:=Zt a0.YC 1 999&&Zt a0.Key 1 99&&Zt a0.Yc 1 99&&a0.Key !=a0.Yc&&Zt a0.WB 0 99&&Wh (qL a0)
def Jb(a0:XG):List Int:=([101,a0.YC,a0.Key,a0.WB,a0.y0,a0.To,a0.Yc]:List Int)
def Kg(a0:List Yt)(a1:XG):XG×Bool:=letI b:=YB a0 a1.Yc;bif !(U1 a1)||b<0||YB a0 a1.Key<0 then(XG.mk 0 0 0 0 0 0 0,false)else(XG.mk a1.YC a1.Key a1.WB a1.y0 a1.To a1.Yc (KW (nth a0 b.toNat) (Jb a1)),true)
def YP:List XG:=([(Kg Zx (XG.mk 1 11 1 0 60 1 0)).1,(Kg Zx (XG.mk 2 12 1 20 100 1 0)).1,(Kg Zx (XG.mk 3 13 2 40 150 2 0)).1]:List XG)
def YX(a0:XG):ZM:=ZM.mk a0.Yc (Jb a0) a0.Mark
def Zn(a0:ZL)(a1:List Int):ZL×Int:=letI b:=ZA a0 (a1.length:Int);(b.1,nth a1 b.2.toNat)
def kW(a0:YK):Bool:=Zt a0.YC 1 999&&zi a0.Ok&&Zt a0.jJ (-1) (W (a0.Ok+1))&&Zt a0.Yc 1 99
def QE(a0:YK):List Int:=([102,a0.YC,a0.Ok,a0.jJ,a0.Yc]:List Int)
def XM(a0:List Yt)(a1:YK):YK×Bool:=letI b:=YB a0 a1.Yc;bif !(kW a1)||b<0 then(YK.mk 0 0 0 0 0,false)else(YK.mk a1.YC a1.Ok a1.jJ a1.Yc (KW (nth a0 b.toNat) (QE a1)),true)
def Zb(a0:ZL)(a1:Int):ZL×Bool:=letI b:=ZA a0 a1;(b.1,b.2==0)
def Y3(a0:YK):ZM:=ZM.mk a0.Yc (QE a0) a0.Mark
def VG(a0:ZM):ZM:=a0
def qC(a0:List ZM):Nat->List ZM->Nat->List ZM
  |0,_,_=>default
  |n1+1,J,U=>bif(U:Int)<(a0.length:Int)then qC a0 n1 (J++([nth a0 U]:List ZM)) (U+1)else J
def WT(a0:List ZM):List ZM:=match qC a0 (a0.length+1) ([]:List ZM) 0 with|z1_0=>z1_0
def W6(a0:ZE):ZE:=a0
def y5(a0:ZH):Nat->Nat->List ZE->List ZE
  |0,_,_=>default
  |n1+1,J,U=>bif(J:Int)<(a0.ZK.length:Int)then y5 a0 n1 (J+1) (U++([nth a0.ZK J]:List ZE))else U
def jo(a0:ZH):ZH:=match y5 a0 (a0.ZK.length+1) 0 ([]:List ZE)with|z1_0=>ZH.mk a0.ZG z1_0
def zX(a0 a1:List Int):Nat->Nat->Sum Bool Unit
  |0,_=>.inr ()
  |n1+1,J=>bif(J:Int)<(a0.length:Int)then bif nth a0 J !=nth a1 J then .inl false else zX a0 a1 n1 (J+1)else .inr ()
def xE(a0 a1:List Int):Bool:=bif(a0.length:Int)!=(a1.length:Int)then false else(match zX a0 a1 (a0.length+1) 0 with|.inl r1=>r1|.inr _=>true)
def JQ(a0 a1:ZM):Bool:=a0.Key==a1.Key&&a0.Mark==a1.Mark&&xE a0.zo a1.zo
def zR(a0:ZH)(a1:ZM):Nat->Nat->Sum Int Unit
  |0,_=>.inr ()
  |n1+1,J=>bif(J:Int)<(a0.ZG.length:Int)then bif JQ (nth a0.ZG J) a1 then .inl (J:Int)else zR a0 a1 n1 (J+1)else .inr ()
def zf(a0:ZH)(a1:ZM):Int:=match zR a0 a1 (a0.ZG.length+1) 0 with|.inl r1=>r1|.inr _=>-1
def J4(a0:ZH):Nat->Nat->Sum Bool Unit
  |0,_=>.inr ()
  |n2+1,wK=>letI b:=(nth a0.ZK wK).Count;bif(wK:Int)<(a0.ZK.length:Int)then bif !(Zt b 1 (a0.ZG.length:Int))||(wK:Int)>0&&(nth a0.ZK (wK-1)).Count>b then .inl false else J4 a0 n2 (wK+1)else .inr ()
def Jy(a0:ZH):Nat->Nat->Sum Bool Unit
  |0,_=>.inr ()
  |n1+1,J=>bif(J:Int)<(a0.ZG.length:Int)then bif zf a0 (nth a0.ZG J)<(J:Int)then .inl false else Jy a0 n1 (J+1)else .inr ()
def JE(a0:ZH):Bool:=letI b:=a0.ZG.length;letI c:=a0.ZK.length;match Jy a0 (b+1) 0 with|.inl r1=>r1|.inr _=>(match J4 a0 (c+1) 0 with|.inl r2=>r2|.inr _=>Zt (b:Int) 1 12&&(c:Int)<=8)
def Xd(a0:ZH)(a1:ZM):ZH×Bool:=letI b:=ZH.mk (a0.ZG++([a1]:List ZM)) a0.ZK;bif !(JE b)then(a0,false)else(b,true)
def yP(a0:ZL):ZL×YK:=letI b:=ZA a0 60;letI c:=ZA b.1 3;letI d:=ZA c.1 2;letI e:=Zb d.1 3;letI f:=ZA e.1 (W (b.2+2));letI g:=W (1+c.2);letI h:=W (1+d.2);bif e.2 then(f.1,(XM Zx (YK.mk g b.2 f.2 h 0)).1)else(e.1,(XM Zx (YK.mk g b.2 (-1) h 0)).1)
def Zm:List ZZ:=([ZZ.mk 1 31 1,ZZ.mk 2 32 2,ZZ.mk 3 33 1,ZZ.mk 4 34 0]:List ZZ)
def JW(a0:List ZZ)(a1:Int):Nat->Nat->Sum Int Unit
  |0,_=>.inr ()
  |n1+1,J=>bif(J:Int)<(a0.length:Int)then bif(nth a0 J).Id==a1 then .inl (J:Int)else JW a0 a1 n1 (J+1)else .inr ()
def Z6(a0:List ZZ)(a1:Int):Int:=match JW a0 a1 (a0.length+1) 0 with|.inl r1=>r1|.inr _=>-1
def XQ(a0:ZO):List Int:=([103,a0.Authority,a0.Seq,a0.Time,a0.Xk]:List Int)
def Xt(a0:List Yt)(a1:List ZZ)(a2:ZO):ZO×Bool:=letI b:=a2.Authority;letI c:=(ZO.mk 0 0 0 0 0,false);letI d:=YB a0 (nth a1 (Z6 a1 b).toNat).Key;bif Z6 a1 b<0||a2.Seq<0||!(zi a2.Time)then c else bif d<0 then c else(ZO.mk b a2.Seq a2.Time a2.Xk (KW (nth a0 d.toNat) (XQ a2)),true)
def Q8(a0:ZL):ZL×ZO:=letI b:=ZA (ZA a0 4).1 9;letI c:=ZA b.1 60;letI d:=ZA c.1 99;(d.1,(Xt Zx Zm (ZO.mk (W (1+(ZA a0 4).2)) b.2 c.2 d.2 0)).1)
def qS(a0:List ZZ)(a1:ZO):Int:=letI b:=Z6 a0 a1.Authority;bif b<0 then 0 else(nth a0 b.toNat).Key
def yC(a0:Int)(a1:ZO):ZM:=ZM.mk a0 (XQ a1) a1.Mark
def qk(a0:YW):Bool:=Zt a0.Org 1 99&&Zt a0.VL 0 99&&Zt a0.Key 1 99&&Wh (xq.mk a0.y0 a0.To)
def Xu(a0:YW):List Int:=([105,a0.Org,a0.VL,a0.y0,a0.To,a0.Key]:List Int)
def zU(a0:List Yt)(a1:YW):YW×Bool:=letI b:=YB a0 a1.Key;bif !(qk a1)||b<0 then(YW.mk 0 0 0 0 0 0,false)else(YW.mk a1.Org a1.VL a1.y0 a1.To a1.Key (KW (nth a0 b.toNat) (Xu a1)),true)
def yM(a0:ZL):ZL×YW:=letI b:=ZA a0 40;letI c:=ZA b.1 2;letI d:=ZA c.1 30;(d.1,(zU Zx (YW.mk 50 (W (1+c.2)) b.2 (W (b.2+d.2)) 21 0)).1)
def Ko(a0:YW):ZM:=ZM.mk a0.Key (Xu a0) a0.Mark
def Qg(a0:ZL):ZL×ZM:=letI b:=(ZA a0 5).2;letI c:=(ZA a0 5).1;bif b==0 then((ZA c 3).1,YX (nth YP (ZA c 3).2.toNat))else bif b==1 then((yP c).1,Y3 (yP c).2)else bif b==2 then((Q8 c).1,yC (qS Zm (Q8 c).2) (Q8 c).2)else bif b==3 then((ZR c).1,YE (ZR c).2.1)else((yM c).1,Ko (yM c).2)
def ZW(a0:ZL):ZL×ZH×ZP×ZY:=letI b:=Zn (ZR a0).1 ([10,30,60,90]:List Int);letI c:=Zb b.1 4;letI d:=Zb c.1 4;letI e:=(ZR a0).2.1;letI f:=nth YP (W (e.YC-1)).toNat;letI g:=ZH.mk ([YE e,YX f]:List ZM) ([]:List ZE);letI h:=(Xd g (Y3 (XM Zx (YK.mk e.YC b.2 (-1) f.Yc 0)).1)).1;letI i:=(ZR a0).2.2;bif !c.2 then bif d.2 then((Qg d.1).1,(Xd h (Qg d.1).2).1,i,e)else(d.1,h,i,e)else bif d.2 then((Qg d.1).1,(Xd g (Qg d.1).2).1,i,e)else(d.1,g,i,e)
def ZX(a0:ZH)(a1:ZE):ZH×Bool:=letI b:=ZH.mk a0.ZG (a0.ZK++([a1]:List ZE));bif !(JE b)then(a0,false)else(b,true)
def Qd(a0:ZH)(a1:ZP):Nat->List Int->Nat->List Int
  |0,_,_=>default
  |n1+1,J,U=>bif(U:Int)<(a0.ZK.length:Int)then Qd a0 a1 n1 (J++([Yl (nth a0.ZK U).Method a1]:List Int)) (U+1)else J
def YI(a0:ZH)(a1:ZP):List Int:=match Qd a0 a1 (a0.ZK.length+1) ([]:List Int) 0 with|z1_0=>z1_0
def QI(a1:ZE):Nat->List Int->Nat->List Int
  |0,_,_=>default
  |n2+1,wK,wa=>letI b:=nth a1.YQ wa;bif(wa:Int)<(a1.YQ.length:Int)then QI a1 n2 (wK++XQ b++([b.Mark]:List Int)) (wa+1)else wK
def Xa(a1:ZE):Nat->List Int->Nat->List Int
  |0,_,_=>default
  |n1+1,J,U=>letI b:=nth a1.Path U;letI c:=J++([b.Xk]:List Int);bif(U:Int)<(a1.Path.length:Int)then bif b.Left then Xa a1 n1 (c++([1]:List Int)) (U+1)else Xa a1 n1 (c++([0]:List Int)) (U+1)else J
def QA(a0:Int)(a1:ZE):Int:=letI b:=a1.YQ.length;match Xa a1 (a1.Path.length+1) ([4,a1.Count,a1.Method,a1.Mh]:List Int) 0 with|z1_0=>(match QI a1 (b+1) (z1_0++([(b:Int)]:List Int)) 0 with|z2_0=>Xy a0 z2_0)
def Qs(a0:Int)(a1:List ZM):Nat->List Int->Nat->List Int
  |0,_,_=>default
  |n1+1,J,U=>letI b:=nth a1 U;bif(U:Int)<(a1.length:Int)then Qs a0 a1 n1 (J++([Xy a0 (([b.Key,b.Mark]:List Int)++b.zo)]:List Int)) (U+1)else J
def Qe(a0:Int)(a1:List ZM):Int:=match Qs a0 a1 (a1.length+1) ([2]:List Int) 0 with|z1_0=>Xy a0 z1_0
def xi(a0 a1:Int)(a2:List ZM)(a3:Int):Int:=Xy a0 ([3,a1,Qe a0 a2,a3]:List Int)
def Jg(a0:ZH)(a1:List Int)(a2:Int):Int:=letI b:=(a0.ZK.length:Int);letI c:=nth a0.ZK a2.toNat;letI d:=c.Method;letI e:=nth a1 a2.toNat;letI f:=a0.ZG.take c.Count.toNat;bif !(Zt a2 0 (W (b-1)))||(a1.length:Int)!=b||!(Zt c.Count 0 (a0.ZG.length:Int))then-1 else bif a2>0 then xi d e f (QA d (nth a0.ZK (W (a2-1)).toNat))else xi d e f 0
def JT:Nat->List Int->Int->List UInt8->Nat->Int->List Int×List UInt8×Nat×Int
  |0,_,_,_,_,_=>(default,default,default,default)
  |n1+1,J,U,wB,wS,wX=>letI c:=ZA (ZL.mk wB wS wX) 99;bif U>0 then JT n1 (J++([c.2]:List Int)) (W (U-1)) c.1.b c.1.i c.1.h else(J,wB,wS,wX)
def Z3(a0:ZL)(a1:Int):ZL×List Int:=letI c:=ZA a0 a1;match JT (c.2.toNat+2) ([]:List Int) c.2 c.1.b c.1.i c.1.h with|(z1_0,z1_1,z1_2,z1_3)=>(ZL.mk z1_1 z1_2 z1_3,z1_0)
def Kn(a0 a1 a2:Int):Int:=Xy a0 ([1,a1,a2]:List Int)
def Ke(a0:Int)(a1:List Int):Nat->List Int->Nat->List Int
  |0,_,_=>default
  |n1+1,J,U=>letI b:=(a1.length:Int);letI c:=W ((U:Int)+1);letI d:=nth a1 U;bif(U:Int)<b then bif c<b then Ke a0 a1 n1 (J++([Kn a0 d (nth a1 c.toNat)]:List Int)) (U+2)else Ke a0 a1 n1 (J++([d]:List Int)) (U+2)else J
def za(a0:Int)(a1:List Int):List Int:=match Ke a0 a1 (a1.length+1) ([]:List Int) 0 with|z1_0=>z1_0
def K2(a0:Int):Nat->List Int->List Int
  |0,_=>default
  |n1+1,J=>bif(J.length:Int)>1 then K2 a0 n1 (za a0 J)else J
def Yh(a0:Int)(a1:List Int):Int:=bif !(Zt (a1.length:Int) 1 16)then-1 else(match K2 a0 (a1.length+1) a1 with|z1_0=>nth z1_0 0)
def Xl(a0:Int):Nat->Int->List Zs->List Int->List Zs
  |0,_,_,_=>default
  |n1+1,J,U,wB=>letI b:=(wB.length:Int);letI c:=W (Int.tdiv J 2);letI d:=za a0 wB;letI e:=W (J+1);bif b>1 then bif Int.tmod J 2==1 then Xl a0 n1 c (U++([Zs.mk (nth wB (W (J-1)).toNat) true]:List Zs)) d else bif e<b then Xl a0 n1 c (U++([Zs.mk (nth wB e.toNat) false]:List Zs)) d else Xl a0 n1 c U d else U
def Y4(a0:Int)(a1:List Int)(a2:Int):List Zs:=letI b:=(a1.length:Int);letI c:=([]:List Zs);bif b>16||!(Zt a2 0 (W (b-1)))then c else(match Xl a0 (a1.length+1) a2 c a1 with|z1_0=>z1_0)
def Kj(a0:List Yt)(a1:List ZZ)(a2 a3:Int)(a4 a6:List Int)(a7 a8:Int):Nat->Nat->List ZO->List ZO
  |0,_,_=>default
  |n1+1,J,U=>letI b:=Xt a0 a1 (ZO.mk (nth a6 J) a7 a8 (Yh a2 (a4++([a3]:List Int))) 0);bif(J:Int)<(a6.length:Int)then bif b.2 then Kj a0 a1 a2 a3 a4 a6 a7 a8 n1 (J+1) (U++([b.1]:List ZO))else Kj a0 a1 a2 a3 a4 a6 a7 a8 n1 (J+1) U else U
def KZ(a0:List Yt)(a1:List ZZ)(a2 a3:Int)(a4:List Int)(a5:Int)(a6:List Int)(a7 a8:Int):ZE:=letI b:=a4++([a3]:List Int);match Kj a0 a1 a2 a3 a4 a6 a7 a8 (a6.length+1) 0 ([]:List ZO)with|z1_0=>ZE.mk a5 a2 (Yh a2 b) (Y4 a2 b (W ((b.length:Int)-1))) z1_0
def Xf(a0:ZL)(a1:ZH)(a2:ZP)(a3 a4:Int):ZL×ZH:=letI b:=(a1.ZG.length:Int);letI c:=ZX a1 (ZE.mk b a3 0 ([]:List Zs) ([]:List ZO));letI d:=Z3 (Zb a0 3).1 4;letI e:=ZA d.1 9;letI f:=Jg c.1 (YI c.1 a2) (W ((c.1.ZK.length:Int)-1));bif !c.2 then(a0,a1)else bif(Zb a0 3).2 then(e.1,(ZX a1 (KZ Zx Zm a3 f d.2 b ([1,3,4]:List Int) e.2 a4)).1)else(e.1,(ZX a1 (KZ Zx Zm a3 f d.2 b ([1,2,3,4]:List Int) e.2 a4)).1)
def Jp(a0:ZL):Nat->Int->Int->List UInt8->Nat->Int->List ZM->List ZE->List UInt8×Nat×Int×List ZM×List ZE
  |0,_,_,_,_,_,_,_=>(default,default,default,default,default)
  |n1+1,J,U,wB,wS,wX,vC,vv=>letI c:=ZA (ZL.mk wB wS wX) 4;letI d:=Xf c.1 (ZH.mk vC vv) (ZW a0).2.2.1 (W (1+c.2)) J;letI e:=Zn d.1 ([10,20,40]:List Int);bif U>0 then Jp a0 n1 (W (J+e.2)) (W (U-1)) e.1.b e.1.i e.1.h d.2.ZG d.2.ZK else(wB,wS,wX,vC,vv)
def XA(a0:ZL):ZL×ZH×ZP×ZY:=letI c:=Zn (ZW a0).1 ([10,25,30]:List Int);letI d:=ZA c.1 4;match Jp a0 5 c.2 d.2 d.1.b d.1.i d.1.h (ZW a0).2.1.ZG (ZW a0).2.1.ZK with|(z1_0,z1_1,z1_2,z1_3,z1_4)=>(ZL.mk z1_0 z1_1 z1_2,ZH.mk z1_3 z1_4,(ZW a0).2.2.1,(ZW a0).2.2.2)
def Y7(a0:ZL):ZL×ZQ:=letI b:=ZA (XA a0).1 9;letI c:=Zn b.1 ([50,100,10000]:List Int);(c.1,ZQ.mk (W (1+b.2)) c.2 (XA a0).2.2.1 (XA a0).2.2.2 (XA a0).2.1)
def jb(a0:ZQ):Bool:=Zt a0.Id 1 999&&zi a0.YL&&YJ a0.Doc&&JE a0.ZJ&&JQ (nth a0.ZJ.ZG 0) (YE a0.Sig)
def KJ(a0:ZF):Nat->Nat->Sum Bool Unit
  |0,_=>.inr ()
  |n1+1,J=>letI b:=nth a0.ZC J;bif(J:Int)<(a0.ZC.length:Int)then bif !(jb b)||(J:Int)>0&&(nth a0.ZC (J-1)).Id>=b.Id then .inl false else KJ a0 n1 (J+1)else .inr ()
def Yx(a0:ZF):Bool:=letI b:=a0.ZC.length;match KJ a0 (b+1) 0 with|.inl r1=>r1|.inr _=>Zt a0.Id 0 99&&decide ((b:Int)<=8)
def qK(a0:ZF)(a1:Int):Nat->Nat->Sum Int Unit
  |0,_=>.inr ()
  |n1+1,J=>bif(J:Int)<(a0.ZC.length:Int)then bif(nth a0.ZC J).Id==a1 then .inl (J:Int)else qK a0 a1 n1 (J+1)else .inr ()
def qO(a0:ZF)(a1:Int):Int:=match qK a0 a1 (a0.ZC.length+1) 0 with|.inl r1=>r1|.inr _=>-1
def Tv(a0:ZP):ZP:=a0
def Vn(a0:ZQ):ZQ:=a0
def xD(a0:ZF):Nat->Nat->List ZQ->List ZQ
  |0,_,_=>default
  |n1+1,J,U=>bif(J:Int)<(a0.ZC.length:Int)then xD a0 n1 (J+1) (U++([nth a0.ZC J]:List ZQ))else U
def jx(a0:ZF):ZF:=match xD a0 (a0.ZC.length+1) 0 ([]:List ZQ)with|z1_0=>ZF.mk a0.Id z1_0
def QF(a0:ZF)(a1:ZQ):Nat->Bool->Nat->List ZQ->Bool×List ZQ
  |0,_,_,_=>(default,default)
  |n1+1,J,U,wB=>letI b:=nth a0.ZC U;letI c:=([b]:List ZQ);bif(U:Int)<(a0.ZC.length:Int)then bif !J&&a1.Id<b.Id then QF a0 a1 n1 true (U+1) (wB++([a1]:List ZQ)++c)else QF a0 a1 n1 J (U+1) (wB++c)else(J,wB)
def Jv(a0:ZF)(a1:ZQ):ZF×Bool:=letI b:=(a0,false);bif !(Yx a0)||qO a0 a1.Id>=0 then b else(match QF a0 a1 (a0.ZC.length+1) false 0 ([]:List ZQ)with|(z1_0,z1_1)=>letI c:=ZF.mk a0.Id (z1_1++([a1]:List ZQ));letI d:=ZF.mk a0.Id z1_1;bif !z1_0 then bif !(Yx c)then b else(c,true)else bif !(Yx d)then b else(d,true))
def Qj:Nat->Int->List UInt8->Nat->Int->Int->List ZQ->List UInt8×Nat×Int×Int×List ZQ
  |0,_,_,_,_,_,_=>(default,default,default,default,default)
  |n1+1,J,U,wB,wS,wX,vC=>letI c:=Y7 (ZL.mk U wB wS);letI d:=(Jv (ZF.mk wX vC) c.2).1;bif J>0 then Qj n1 (W (J-1)) c.1.b c.1.i c.1.h d.Id d.ZC else(U,wB,wS,wX,vC)
def QM(a0:ZL):ZL×ZF:=letI c:=ZA (ZA a0 3).1 4;match Qj 5 c.2 c.1.b c.1.i c.1.h (ZA a0 3).2 ([]:List ZQ)with|(z1_0,z1_1,z1_2,z1_3,z1_4)=>(ZL.mk z1_0 z1_1 z1_2,ZF.mk z1_3 z1_4)
def Za(a0:List UInt8):ZF×Int:=letI b:=QM (Y1 a0);(b.2,W (1+(ZA b.1 4).2))
def JK(a0:ZF)(a1:Int):Nat->List Int->Nat->List Int
  |0,_,_=>default
  |n1+1,J,U=>letI b:=nth a0.ZC U;letI c:=b.ZJ.ZK++([ZE.mk (b.ZJ.ZG.length:Int) a1 0 ([]:List Zs) ([]:List ZO)]:List ZE);letI d:=ZH.mk b.ZJ.ZG c;bif(U:Int)<(a0.ZC.length:Int)then JK a0 a1 n1 (J++([Jg d (YI d b.Doc) (W ((c.length:Int)-1))]:List Int)) (U+1)else J
def Z0(a0:ZF)(a1:Int):List Int:=match JK a0 a1 (a0.ZC.length+1) ([]:List Int) 0 with|z1_0=>z1_0
def J1(a0:ZF)(a1:Int):Int:=Yh a1 (Z0 a0 a1)
def Q4(a0:List Yt)(a1:List ZZ)(a2:List Int)(a3:Int)(a4:List Int)(a5:Int):Nat->List ZO->Nat->List ZO
  |0,_,_=>default
  |n1+1,J,U=>letI b:=Xt a0 a1 (ZO.mk (nth a2 U) a3 (nth a4 U) a5 0);bif(U:Int)<(a2.length:Int)&&(U:Int)<(a4.length:Int)then bif b.2 then Q4 a0 a1 a2 a3 a4 a5 n1 (J++([b.1]:List ZO)) (U+1)else Q4 a0 a1 a2 a3 a4 a5 n1 J (U+1)else J
def KR(a0:List Yt)(a1:List ZZ)(a2:List Int)(a3:Int)(a4:List Int)(a5:Int):List ZO:=match Q4 a0 a1 a2 a3 a4 a5 (a2.length+1) ([]:List ZO) 0 with|z1_0=>z1_0
def Xh:Nat->List ZQ->List ZQ
  |0,_=>default
  |n1+1,J=>letI b:=nth J 0;bif(b.ZJ.ZK.length:Int)<8 then Xh n1 (J.set 0 (ZQ.mk b.Id b.YL b.Doc b.Sig (ZH.mk b.ZJ.ZG (b.ZJ.ZK++([ZE.mk (b.ZJ.ZG.length:Int) 0 0 ([]:List Zs) ([]:List ZO)]:List ZE)))))else J
def ZB(a0:List UInt8):ZF×Int×(List ZO):=letI b:=ZA (Y1 a0) 60;letI c:=(Za a0).1;letI d:=(Za a0).2;letI e:=KR Zx Zm ([1,2,3]:List Int) 1 ([b.2,b.2,W (b.2+1)]:List Int) (J1 c d);bif(Zb b.1 10).2&&(c.ZC.length:Int)>0 then(match Xh 9 c.ZC with|z1_0=>(ZF.mk c.Id z1_0,d,e))else(c,d,e)
def Zc(a0 a1 a2:Int):Bool:=decide (a1<=a0)&&decide (a0<=a2)
def WA(a0:Int):Bool:=Zc a0 0 10000
def Jo(a0:ZP):Nat->Nat->Sum Bool Unit
  |0,_=>.inr ()
  |n1+1,J=>bif(J:Int)<(a0.Zz.length:Int)then bif((nth a0.Zz J).size:Int)>40||!(Zc (nth a0.Yw J) 1 1000000000000)then .inl false else Jo a0 n1 (J+1)else .inr ()
def QK(a0:ZP):Bool:=letI b:=a0.Zz.length;bif !(Zc a0.zj 0 999)||!(Zc (b:Int) 1 6)||(a0.Yw.length:Int)!=(b:Int)then false else(match Jo a0 (b+1) 0 with|.inl r1=>r1|.inr _=>true)
def zZ(a0 a1:List Int):Nat->Nat->Sum Bool Unit
  |0,_=>.inr ()
  |n1+1,J=>bif(J:Int)<(a0.length:Int)then bif nth a0 J !=nth a1 J then .inl false else zZ a0 a1 n1 (J+1)else .inr ()
def y2(a0 a1:List Int):Bool:=bif(a0.length:Int)!=(a1.length:Int)then false else(match zZ a0 a1 (a0.length+1) 0 with|.inl r1=>r1|.inr _=>true)
def JP(a0 a1:ZM):Bool:=a0.Key==a1.Key&&a0.Mark==a1.Mark&&y2 a0.zo a1.zo
def yD(a0:List ZM)(a1:ZM):Nat->Nat->Sum Bool Unit
  |0,_=>.inr ()
  |n1+1,J=>bif(J:Int)<(a0.length:Int)then bif JP (nth a0 J) a1 then .inl true else yD a0 a1 n1 (J+1)else .inr ()
def yW(a0:List ZM)(a1:ZM):Bool:=match yD a0 a1 (a0.length+1) 0 with|.inl r1=>r1|.inr _=>false
def J6(a0:ZH):Nat->Nat->Sum Bool Unit
  |0,_=>.inr ()
  |n2+1,wK=>letI b:=(nth a0.ZK wK).Count;bif(wK:Int)<(a0.ZK.length:Int)then bif !(Zc b 1 (a0.ZG.length:Int))||(wK:Int)>0&&b<(nth a0.ZK (wK-1)).Count then .inl false else J6 a0 n2 (wK+1)else .inr ()
def Js(a0:ZH):Nat->Nat->Sum Bool Unit
  |0,_=>.inr ()
  |n1+1,J=>bif(J:Int)<(a0.ZG.length:Int)then bif yW (a0.ZG.take J) (nth a0.ZG J)then .inl false else Js a0 n1 (J+1)else .inr ()
def JD(a0:ZH):Bool:=letI b:=a0.ZG.length;letI c:=a0.ZK.length;bif !(Zc (b:Int) 1 12)||(c:Int)>8 then false else(match Js a0 (b+1) 0 with|.inl r1=>r1|.inr _=>(match J6 a0 (c+1) 0 with|.inl r2=>r2|.inr _=>true))
def X8(a0:ZY):List Int:=([104,a0.Key,a0.YC,a0.Method,a0.Xk,a0.jS,a0.Org,a0.jH,a0.Vu]:List Int)
def Kf(a0:ZY):ZM:=ZM.mk a0.Key (X8 a0) a0.Mark
def qo(a0:ZQ):Bool:=Zc a0.Id 1 999&&WA a0.YL&&QK a0.Doc&&JD a0.ZJ&&JP (nth a0.ZJ.ZG 0) (Kf a0.Sig)
def Xr(a0:ZF):Nat->Nat->Sum Bool Unit
  |0,_=>.inr ()
  |n1+1,J=>letI b:=nth a0.ZC J;bif(J:Int)<(a0.ZC.length:Int)then bif !(qo b)||(J:Int)>0&&(nth a0.ZC (J-1)).Id>=b.Id then .inl false else Xr a0 n1 (J+1)else .inr ()
def XZ(a0:ZF):Bool:=letI b:=a0.ZC.length;match Xr a0 (b+1) 0 with|.inl r1=>r1|.inr _=>Zc a0.Id 0 99&&decide ((b:Int)<=8)
def kg(a0:List Int):List Int:=a0
def ye(a0:ZP):ZP:=a0
def jX(a0:ZM):ZM:=a0
def Kw(a0:List ZM):Nat->List ZM->Nat->List ZM
  |0,_,_=>default
  |n1+1,J,U=>bif(U:Int)<(a0.length:Int)then Kw a0 n1 (J++([nth a0 U]:List ZM)) (U+1)else J
def yI(a0:List ZM):List ZM:=match Kw a0 (a0.length+1) ([]:List ZM) 0 with|z1_0=>z1_0
def qQ(a0:List ZO):List ZO:=a0
def xR(a0:ZE):ZE:=a0
def Kz(a0:ZH):Nat->Nat->List ZE->List ZE
  |0,_,_=>default
  |n1+1,J,U=>bif(J:Int)<(a0.ZK.length:Int)then Kz a0 n1 (J+1) (U++([nth a0.ZK J]:List ZE))else U
def yA(a0:ZH):ZH:=match Kz a0 (a0.ZK.length+1) 0 ([]:List ZE)with|z1_0=>ZH.mk a0.ZG z1_0
def ka(a0:ZQ):ZQ:=a0
def KN(a0:ZF):Nat->Nat->List ZQ->List ZQ
  |0,_,_=>default
  |n1+1,J,U=>bif(J:Int)<(a0.ZC.length:Int)then KN a0 n1 (J+1) (U++([nth a0.ZC J]:List ZQ))else U
def zV(a0:ZF):ZF:=match KN a0 (a0.ZC.length+1) 0 ([]:List ZQ)with|z1_0=>ZF.mk a0.Id z1_0
def KY(a0:ZO):List Int:=([103,a0.Authority,a0.Seq,a0.Time,a0.Xk]:List Int)
def Pt(a0 a1:Int):Int:=bif !(Zc a1 1 1000000000000)then 0 else Int.tmod (W (Int.tmod a0 a1+a1)) a1
def qq(a0:List Int):Nat->Int->Nat->Int
  |0,_,_=>default
  |n1+1,J,U=>bif(U:Int)<(a0.length:Int)then qq a0 n1 (Int.tmod (W (W (W (J*1000003)+Pt (nth a0 U) 2147483647)+13)) 2147483647) (U+1)else J
def TU(a0:List Int):Int:=match qq a0 (a0.length+1) 11 0 with|z1_0=>z1_0
def Xz(a0:Int)(a1:List Int):Int:=TU (([7,a0]:List Int)++a1)
def QN(a1:ZE):Nat->List Int->Nat->List Int
  |0,_,_=>default
  |n2+1,wK,wa=>letI b:=nth a1.YQ wa;bif(wa:Int)<(a1.YQ.length:Int)then QN a1 n2 (wK++KY b++([b.Mark]:List Int)) (wa+1)else wK
def Xb(a1:ZE):Nat->List Int->Nat->List Int
  |0,_,_=>default
  |n1+1,J,U=>letI b:=nth a1.Path U;bif(U:Int)<(a1.Path.length:Int)then bif b.Left then Xb a1 n1 (J++([b.Xk,1]:List Int)) (U+1)else Xb a1 n1 (J++([b.Xk,0]:List Int)) (U+1)else J
def X7(a0:Int)(a1:ZE):Int:=letI b:=a1.YQ.length;match Xb a1 (a1.Path.length+1) ([4,a1.Count,a1.Method,a1.Mh]:List Int) 0 with|z1_0=>(match QN a1 (b+1) (z1_0++([(b:Int)]:List Int)) 0 with|z2_0=>Xz a0 z2_0)
def Ji(a0:List UInt8):Nat->List Int->Nat->List Int
  |0,_,_=>default
  |n1+1,J,U=>bif(U:Int)<(a0.length:Int)then Ji a0 n1 (J++([W ((nth a0 U).toNat:Int)]:List Int)) (U+1)else J
def zO(a0:List UInt8):List Int:=match Ji a0 (a0.length+1) ([]:List Int) 0 with|z1_0=>z1_0
def Kq(a0:Int)(a1:ByteArray)(a2:Int):Int:=Xz a0 (([a2]:List Int)++zO a1.data.toList)
def KI(a0:Int)(a1:ZP):Nat->List Int->Nat->List Int
  |0,_,_=>default
  |n1+1,J,U=>bif(U:Int)<(a1.Zz.length:Int)then KI a0 a1 n1 (J++([Kq a0 (nth a1.Zz U) (nth a1.Yw U)]:List Int)) (U+1)else J
def XD(a0:Int)(a1:ZP):Int:=bif !(QK a1)then-1 else(match KI a0 a1 (a1.Zz.length+1) ([a1.zj]:List Int) 0 with|z1_0=>Xz a0 z1_0)
def Qf(a0:Int)(a1:List ZM):Nat->List Int->Nat->List Int
  |0,_,_=>default
  |n1+1,J,U=>letI b:=nth a1 U;bif(U:Int)<(a1.length:Int)then Qf a0 a1 n1 (J++([Xz a0 (([b.Key,b.Mark]:List Int)++b.zo)]:List Int)) (U+1)else J
def Qm(a0:Int)(a1:List ZM):Int:=match Qf a0 a1 (a1.length+1) ([2]:List Int) 0 with|z1_0=>Xz a0 z1_0
def xr(a0 a1:Int)(a2:List ZM)(a3:Int):Int:=Xz a0 ([3,a1,Qm a0 a2,a3]:List Int)
def yR(a0:ZQ)(a1:Int):Int:=letI b:=a0.ZJ.ZK.length;letI c:=XD a1 a0.Doc;bif(b:Int)>0 then xr a1 c a0.ZJ.ZG (X7 a1 (nth a0.ZJ.ZK (b-1)))else xr a1 c a0.ZJ.ZG 0
def Xp(a0:ZF)(a1:Int):Nat->List Int->Nat->List Int
  |0,_,_=>default
  |n1+1,J,U=>bif(U:Int)<(a0.ZC.length:Int)then Xp a0 a1 n1 (J++([yR (nth a0.ZC U) a1]:List Int)) (U+1)else J
def Zo(a0:ZF)(a1:Int):List Int:=match Xp a0 a1 (a0.ZC.length+1) ([]:List Int) 0 with|z1_0=>z1_0
def K6(a0 a1 a2:Int):Int:=Xz a0 ([1,a1,a2]:List Int)
def XS(a0:Int)(a1:List Int):Nat->List Int->Nat->List Int
  |0,_,_=>default
  |n1+1,J,U=>letI b:=(a1.length:Int);letI c:=W ((U:Int)+1);letI d:=nth a1 U;bif(U:Int)<b then bif c<b then XS a0 a1 n1 (J++([K6 a0 d (nth a1 c.toNat)]:List Int)) (U+2)else XS a0 a1 n1 (J++([d]:List Int)) (U+2)else J
def Yr(a0:Int)(a1:List Int):List Int:=match XS a0 a1 (a1.length+1) ([]:List Int) 0 with|z1_0=>z1_0
def Kt(a0:Int):Nat->List Int->List Int
  |0,_=>default
  |n1+1,J=>bif(J.length:Int)>1 then Kt a0 n1 (Yr a0 J)else J
def zG(a0:Int)(a1:List Int):Int:=bif !(Zc (a1.length:Int) 1 16)then-1 else(match Kt a0 (a1.length+1) a1 with|z1_0=>nth z1_0 0)
def XL(a0:ZF)(a1:Int):Int:=zG a1 (Zo a0 a1)
def Yp(a0:Int):Nat->List Int->Int->List Zs->List Zs
  |0,_,_,_=>default
  |n1+1,J,U,wB=>letI b:=(J.length:Int);letI c:=Yr a0 J;letI d:=W (Int.tdiv U 2);letI e:=W (U+1);bif b>1 then bif Int.tmod U 2==1 then Yp a0 n1 c d (wB++([Zs.mk (nth J (W (U-1)).toNat) true]:List Zs))else bif e<b then Yp a0 n1 c d (wB++([Zs.mk (nth J e.toNat) false]:List Zs))else Yp a0 n1 c d wB else wB
def YH(a0:Int)(a1:List Int)(a2:Int):List Zs:=letI b:=(a1.length:Int);letI c:=([]:List Zs);bif !(Zc a2 0 (W (b-1)))||b>16 then c else(match Yp a0 (a1.length+1) a1 a2 c with|z1_0=>z1_0)
def Z2(a0:ZH)(a1:ZE):ZH×Bool:=letI b:=ZH.mk a0.ZG (a0.ZK++([a1]:List ZE));bif !(JD b)then(a0,false)else(b,true)
def Zv(a0:ZF)(a1:Int)(a2:List ZO):Nat->Nat->List ZQ->Sum (ZF×Bool) (List ZQ)
  |0,_,_=>.inr default
  |n1+1,J,U=>letI b:=(nth a0.ZC J).ZJ;letI c:=Z2 b (ZE.mk (b.ZG.length:Int) a1 (XL a0 a1) (YH a1 (Zo a0 a1) (J:Int)) a2);letI d:=nth U J;bif(J:Int)<(a0.ZC.length:Int)then bif !c.2 then .inl (a0,false)else Zv a0 a1 a2 n1 (J+1) (U.set J (ZQ.mk d.Id d.YL d.Doc d.Sig c.1))else .inr U
def ZS(a0:ZF)(a1:Int)(a2:List ZO):ZF×Bool:=letI b:=a0.ZC.length;bif(b:Int)==0||!(XZ a0)then(a0,false)else(match Zv a0 a1 a2 (b+1) 0 a0.ZC with|.inl r1=>r1|.inr z1_0=>letI c:=ZF.mk a0.Id z1_0;bif !(XZ c)then(a0,false)else(c,true))
def XH(a0:ZF)(a1:Int)(a2:List ZO):Nat->Bool->Nat->List ZQ->Bool×List ZQ
  |0,_,_,_=>(default,default)
  |n1+1,J,U,wB=>letI b:=(nth a0.ZC U).ZJ;letI c:=Z0 a0 a1;letI d:=ZX b (ZE.mk (b.ZG.length:Int) a1 (Yh a1 c) (Y4 a1 c (U:Int)) a2);letI e:=nth wB U;bif(U:Int)<(a0.ZC.length:Int)&&J then XH a0 a1 a2 n1 d.2 (U+1) (wB.set U (ZQ.mk e.Id e.YL e.Doc e.Sig d.1))else(J,wB)
def JO(a0:ZF)(a1:Int)(a2:List ZO):ZF×Bool:=letI b:=a0.ZC.length;(match XH a0 a1 a2 (b+1) (Yx a0&&(b:Int)>0) 0 a0.ZC with|(z1_0,z1_1)=>letI c:=ZF.mk a0.Id z1_1;bif !z1_0||!(Yx c)then(a0,false)else(c,true))
def qI(a0:Int):Nat->Nat->Nat
  |0,_=>default
  |n1+1,J=>bif Zc a0 1 16&&W (1*2^min (IntKind.u64.wrap (J:Int)).toNat IntKind.i64.bits)<a0 then qI a0 n1 (J+1)else J
def X2(a0:Int):Int:=match qI a0 6 0 with|z1_0=>(z1_0:Int)
def Xv(a0 a1:Int):Int:=bif !(Zc a0 1 16)||!(Zc a1 0 6)then 0 else W (W (3+W (2*X2 a0))+W (6*a1))
def KD(a0:ZE):Int:=W (W (3+W (2*(a0.Path.length:Int)))+W (6*(a0.YQ.length:Int)))
def Jf(a0:ZH):Nat->Int->Nat->Int
  |0,_,_=>default
  |n2+1,wK,wa=>bif(wa:Int)<(a0.ZG.length:Int)then Jf a0 n2 (W (wK+W (2+((nth a0.ZG wa).zo.length:Int)))) (wa+1)else wK
def Jm(a0:ZH):Nat->Int->Nat->Int
  |0,_,_=>default
  |n1+1,J,U=>bif(U:Int)<(a0.ZK.length:Int)then Jm a0 n1 (W (J+KD (nth a0.ZK U))) (U+1)else J
def Y6(a0:ZH):Int:=match Jm a0 (a0.ZK.length+1) 0 0 with|z1_0=>(match Jf a0 (a0.ZG.length+1) z1_0 0 with|z2_0=>z2_0)
def JF(a0:ZF):Nat->Int->Nat->Int
  |0,_,_=>default
  |n1+1,J,U=>bif(U:Int)<(a0.ZC.length:Int)then JF a0 n1 (W (J+Y6 (nth a0.ZC U).ZJ)) (U+1)else J
def Xs(a0:ZF):Int:=match JF a0 (a0.ZC.length+1) 0 0 with|z1_0=>z1_0
def XB(a0:ZF)(U:Nat):Nat->Int->Nat->Int
  |0,_,_=>default
  |n2+1,wK,wa=>letI b:=(nth a0.ZC U).ZJ.ZK;letI c:=((nth b wa).Path.length:Int);bif(wa:Int)<(b.length:Int)then XB a0 U n2 (if c>wK then c else wK) (wa+1)else wK
def Xc(a0:ZF):Nat->Int->Nat->Int
  |0,_,_=>default
  |n1+1,J,U=>bif(U:Int)<(a0.ZC.length:Int)then(match XB a0 U ((nth a0.ZC U).ZJ.ZK.length+1) J 0 with|z2_0=>Xc a0 n1 z2_0 (U+1))else J
def YO(a0:ZF):Int:=match Xc a0 (a0.ZC.length+1) 0 0 with|z1_0=>z1_0
def Tf(a0 a1:Int):Int:=if a1>a0 then a1 else a0
def ze(a0:List UInt8):Nat->Nat->Sum Bool Unit
  |0,_=>.inr ()
  |n1+1,J=>letI b:=(ZS (ZB a0).1 (ZB a0).2.1 (ZB a0).2.2).1.ZC;letI c:=(ZB a0).1.ZC;bif(J:Int)<(b.length:Int)then bif W (Y6 (nth b J).ZJ-Y6 (nth c J).ZJ)>Xv (c.length:Int) ((ZB a0).2.2.length:Int)then .inl false else ze a0 n1 (J+1)else .inr ()
def xn(a0:List UInt8):Bool:=letI b:=(ZB a0).1;letI c:=(ZB a0).2.2;letI d:=ZS b (ZB a0).2.1 c;letI e:=(b.ZC.length:Int);bif OX a0 then true else bif !(d.2==(JO b (ZB a0).2.1 c).2)then false else bif !d.2 then true else(match ze a0 (d.1.ZC.length+1) 0 with|.inl r1=>r1|.inr _=>decide (Xs d.1<=W (Xs b+W (Xv e (c.length:Int)*e)))&&YO d.1<=Tf (YO b) (X2 e))
end Go.Mo
