/- Models of the functions: what each computes, on typed data. No condition. -/
import Derived.Test.YtdffgedmahdehaaGreatMo
namespace Go.Mo
open Go.Vm
set_option linter.unusedVariables false
def tk(a0:List UInt8):Bool:=decide ((a0.length:Int)>1048576)
def GB(a0:List UInt8):Nat->Int->Nat->Int
  |0,_,_=>default
  |n1+1,J,U=>bif(U:Int)<(a0.length:Int)&&(U:Int)<4000 then GB a0 n1 (Ba .i64 (W (W (W (J*137)+W ((nth a0 U).toNat:Int))+11)) 1073741823) (U+1)else J
def WT(a0:List UInt8):Z3:=match GB a0 4001 (W (193017+(a0.length:Int))) 0 with|ic=>Z3.mk a0 0 ic
def Yi(a0:Z3):Z3×Int:=letI c:=W (W (a0.h*6364136223846793005)+1442695040888963407);letI d:=Ba .i64 (py .i64 (c.fdiv (2^min 33 IntKind.i64.bits)) (c.fdiv (2^min 47 IntKind.i64.bits))) 255;bif(a0.i:Int)<(a0.b.length:Int)then(Z3.mk a0.b (a0.i+1) c,Ba .i64 (W (d+W ((nth a0.b a0.i).toNat:Int))) 255)else(Z3.mk a0.b a0.i c,d)
def ZI(a0:Z3)(a1:Int):Z3×Int:=letI b:=Yi (Yi a0).1;bif a1<=0 then(a0,0)else bif a1<=256 then((Yi a0).1,Int.tmod (Yi a0).2 a1)else((Yi b.1).1,Int.tmod (W (W (W ((Yi a0).2*65536)+W (b.2*256))+(Yi b.1).2)) a1)
def O1(a0 a1:Int):Int:=bif a1>a0 then a1 else a0
def G3(a0 a1:Int):Int:=bif a1<a0 then a1 else a0
def xQ:List Yg:=([Yg.mk 1 90 1 0 501,Yg.mk 2 90 3 40 502,Yg.mk 11 1 1 0 511,Yg.mk 12 1 2 20 512,Yg.mk 13 2 3 40 513,Yg.mk 21 50 1 0 521,Yg.mk 31 81 1 0 531,Yg.mk 32 82 2 20 532,Yg.mk 33 83 3 40 533,Yg.mk 34 84 4 60 534]:List Yg)
def K3:List Za:=([Za.mk 1 31 1,Za.mk 2 32 2,Za.mk 3 33 1,Za.mk 4 34 0]:List Za)
def TX:List Z9:=([Z9.mk 1 0 40 50,Z9.mk 2 20 80 70,Z9.mk 3 40 120 200,Z9.mk 4 60 10001 10001]:List Z9)
def Sx(a0:List Yg)(a1:Int):Nat->Nat->Sum Int Unit
  |0,_=>.inr ()
  |n1+1,J=>bif(J:Int)<(a0.length:Int)then bif(nth a0 J).Number==a1 then .inl (J:Int)else Sx a0 a1 n1 (J+1)else .inr ()
def Yt(a0:List Yg)(a1:Int):Int:=match Sx a0 a1 (a0.length+1) 0 with|.inl r1=>r1|.inr _=>-1
def Ye(a0 a1 a2:Int):Bool:=decide (a0>=a1)&&decide (a0<=a2)
def P2(a0:YL):Zn:=Zn.mk a0.Xv a0.To
def SO(a0:Int):Bool:=Ye a0 0 10000
def CF(a0:Zn):Bool:=SO a0.Xv&&SO a0.To&&decide (a0.Xv<=a0.To)
def Dd(a0:YL):Bool:=Ye a0.Zk 1 999&&Ye a0.Key 1 99&&Ye a0.YG 1 99&&a0.Key !=a0.YG&&Ye a0.z9 0 99&&CF (P2 a0)
def qY(a0:YL):List Int:=([101,a0.Zk,a0.Key,a0.z9,a0.Xv,a0.To,a0.YG]:List Int)
def rk(a0 a1:Int):Int:=bif !(Ye a1 1 1000000000000)then 0 else Int.tmod (W (Int.tmod a0 a1+a1)) a1
def CB(a0:List Int):Nat->Int->Nat->Int
  |0,_,_=>default
  |n1+1,J,U=>bif(U:Int)<(a0.length:Int)then CB a0 n1 (Int.tmod (W (W (W (J*1000003)+rk (nth a0 U) 2147483647)+13)) 2147483647) (U+1)else J
def wM(a0:List Int):Int:=match CB a0 (a0.length+1) 11 0 with|ic=>ic
def WB(a0:Int)(a1:List Int):Int:=letI b:=([a0]:List Int);wM (b++a1++b)
def VY(a0:Yg)(a1:List Int):Int:=WB a0.Um (([a0.Method]:List Int)++a1)
def WH(a0:List Yg)(a1:YL):YL×Bool:=letI b:=Yt a0 a1.YG;bif !(Dd a1)||b<0||Yt a0 a1.Key<0 then(YL.mk 0 0 0 0 0 0 0,false)else(YL.mk a1.Zk a1.Key a1.z9 a1.Xv a1.To a1.YG (VY (nth a0 b.toNat) (qY a1)),true)
def Ta:List YL:=([(WH xQ (YL.mk 1 11 1 0 60 1 0)).1,(WH xQ (YL.mk 2 12 1 20 100 1 0)).1,(WH xQ (YL.mk 3 13 2 40 150 2 0)).1]:List YL)
def kV(a0:Int):ZF:=letI b:=G3 1 (O1 0 a0);letI c:=ZT.mk xQ K3 TX b 0;letI d:=([-1,-1,-1]:List Int);letI e:=([]:List ZO);letI f:=([ZD.mk 0 e,ZD.mk 1 e]:List ZD);letI g:=([0,0,0,0]:List Int);letI h:=([]:List Int);bif b==1 then ZF.mk c Ta d f g ([1]:List Int) 1 h else ZF.mk c Ta d f g h 1 h
def Zv(a0:Z3)(a1:Int):Z3×Bool:=letI b:=ZI a0 a1;(b.1,b.2==0)
def YF(a0:Z3)(a1:List Int):Z3×Int:=letI b:=ZI a0 (a1.length:Int);(b.1,nth a1 b.2.toNat)
def U3(a0:Z3)(a1:List ByteArray):Z3×ByteArray:=letI b:=ZI a0 (a1.length:Int);(b.1,nth a1 b.2.toNat)
def yJ(a0:Z3):Z3×ByteArray:=letI b:=U3 a0 ([(⟨#[]⟩:ByteArray),(⟨#[97]⟩:ByteArray),(⟨#[98]⟩:ByteArray),(⟨#[97,98]⟩:ByteArray),(⟨#[121,101,115]⟩:ByteArray),(⟨#[110,111]⟩:ByteArray),(⟨#[111,110,101,32,104,117,110,100,114,101,100]⟩:ByteArray)]:List ByteArray);(b.1,b.2)
def qh(a0:ZL):Nat->Nat->Sum Bool Unit
  |0,_=>.inr ()
  |n2+1,ia=>bif(ia:Int)<(a0.Xl.length:Int)then bif !(Ye (nth a0.Xl ia) 1 1000000000000)then .inl false else qh a0 n2 (ia+1)else .inr ()
def qH(a0:ZL):Nat->Nat->Sum Bool Unit
  |0,_=>.inr ()
  |n1+1,J=>bif(J:Int)<(a0.Yf.length:Int)then bif((nth a0.Yf J).size:Int)>40 then .inl false else qH a0 n1 (J+1)else .inr ()
def yr(a0:ZL):Bool:=letI b:=a0.Yf.length;letI c:=a0.Xl.length;match qH a0 (b+1) 0 with|.inl r1=>r1|.inr _=>(match qh a0 (c+1) 0 with|.inl r2=>r2|.inr _=>Ye a0.KK 0 999&&Ye (b:Int) 1 6&&(c:Int)==(b:Int))
def OW(a0:Int):Bool:=Ye a0 1 2147483646
def yb(a0:Int)(a1:List ByteArray)(a2:Int):Nat->Nat->List Int->List Int
  |0,_,_=>default
  |n1+1,J,U=>bif(J:Int)<(a1.length:Int)then yb a0 a1 a2 n1 (J+1) (U++([O1 1 (WB a2 ([a0,(J:Int)]:List Int))]:List Int))else U
def yW(a0:Int)(a1:List ByteArray)(a2:Int):ZL×Bool:=letI b:=([]:List Int);(match yb a0 a1 a2 (a1.length+1) 0 b with|ic=>letI c:=ZL.mk a0 a1 ic;bif !(yr c)||!(OW a2)then(ZL.mk 0 ([]:List ByteArray) b,false)else(c,true))
def VP:Nat->List ByteArray->Int->List UInt8->Nat->Int->List ByteArray×List UInt8×Nat×Int
  |0,_,_,_,_,_=>(default,default,default,default)
  |n1+1,J,U,ib,iq,hE=>letI c:=yJ (Z3.mk ib iq hE);bif U>0 then VP n1 (J++([c.2]:List ByteArray)) (W (U-1)) c.1.b c.1.i c.1.h else(J,ib,iq,hE)
def Xn(a0:Z3):Z3×ZL:=letI c:=(ZI a0 3).1;(match VP 5 ([]:List ByteArray) (W (1+(ZI a0 3).2)) c.b c.i c.h with|(ic,z1_1,z1_2,z1_3)=>letI d:=ZI (Z3.mk z1_1 z1_2 z1_3) 5;(d.1,(yW d.2 ic 11).1))
def XI(a0:Z3)(a1:Int):Z3×Zo:=letI b:=decide (a1>=40);letI c:=decide (a1>=60);letI d:=YF a0 ([0,-10,40]:List Int);letI e:=ZL.mk 0 ([]:List ByteArray) ([]:List Int);letI f:=(d.1,Zo.mk 5 0 d.2 0 0 e ([2,3,4]:List Int));letI g:=bif c then f else(d.1,Zo.mk 5 0 d.2 0 0 e ([1,2,3]:List Int));bif a1>=20 then bif b then g else bif c then f else(d.1,Zo.mk 5 0 d.2 0 0 e ([1,2]:List Int))else bif b then g else bif c then f else(d.1,Zo.mk 5 0 d.2 0 0 e ([1]:List Int))
def Z5(a0:Z3):Z3×List Zo:=letI b:=YF a0 ([11,12]:List Int);letI c:=XI (Xn b.1).1 25;letI d:=XI c.1 43;letI e:=XI d.1 65;letI f:=([]:List Int);letI g:=ZL.mk 0 ([]:List ByteArray) f;letI h:=Zo.mk 1 22 0 0 0 g f;(e.1,([h,Zo.mk 2 0 b.2 0 10000 (Xn b.1).2 f,Zo.mk 1 3 0 0 0 g f,Zo.mk 3 1 0 0 0 g f]:List Zo)++([c.2,Zo.mk 1 18 0 0 0 g f]:List Zo)++([d.2,h]:List Zo)++([e.2,Zo.mk 1 20 0 0 0 g f]:List Zo))
def Xd(a0:Z3):Z3×Zo:=letI b:=ZI a0 16;letI c:=b.2;letI d:=YF b.1 ([1,5,10,20,30]:List Int);letI e:=([]:List Int);letI f:=ZL.mk 0 ([]:List ByteArray) e;letI g:=(d.1,Zo.mk 1 d.2 0 0 0 f e);letI h:=ZI b.1 2;letI i:=YF h.1 ([11,12,13]:List Int);letI j:=YF i.1 ([30,10000]:List Int);letI k:=((Xn j.1).1,Zo.mk 2 h.2 i.2 0 j.2 (Xn j.1).2 e);letI l:=ZI b.1 3;letI m:=W (1+l.2);letI n:=(l.1,Zo.mk 3 m 0 0 0 f e);letI o:=ZI h.1 2;letI p:=ZI o.1 3;letI q:=YF h.1 ([11,12]:List Int);letI r:=ZI b.1 4;letI s:=YF r.1 ([5,25,60]:List Int);letI t:=YF l.1 ([10,40,60]:List Int);letI u:=YF h.1 ([0,-10,40]:List Int);letI v:=ZI u.1 3;bif c==0 then g else bif c==1 then g else bif c==2 then g else bif c==3 then k else bif c==4 then k else bif c==5 then n else bif c==6 then n else bif c==7 then(l.1,Zo.mk 4 l.2 0 0 0 f e)else bif c==8 then(p.1,Zo.mk 6 h.2 o.2 (W (1+p.2)) 0 f e)else bif c==9 then(h.1,Zo.mk 7 h.2 0 0 0 f e)else bif c==10 then((Xn q.1).1,Zo.mk 8 h.2 q.2 0 0 (Xn q.1).2 e)else bif c==11 then(s.1,Zo.mk 9 (W (1+r.2)) s.2 0 0 f e)else bif c==12 then(t.1,Zo.mk 10 m t.2 0 0 f e)else(v.1,Zo.mk 5 h.2 u.2 0 0 f ((([1,2,3,4]:List Int).drop v.2.toNat).take (4-v.2.toNat)))
def Kr:Nat->List Zo->Int->List UInt8->Nat->Int->List Zo×List UInt8×Nat×Int
  |0,_,_,_,_,_=>(default,default,default,default)
  |n1+1,J,U,ib,iq,hE=>letI c:=Xd (Z3.mk ib iq hE);bif U>0 then Kr n1 (J++([c.2]:List Zo)) (W (U-1)) c.1.b c.1.i c.1.h else(J,ib,iq,hE)
def Kv:Nat->List Zo->Int->List UInt8->Nat->Int->List Zo×List UInt8×Nat×Int
  |0,_,_,_,_,_=>(default,default,default,default)
  |n2+1,ia,iZ,gI,gJ,gZ=>letI c:=Xd (Z3.mk gI gJ gZ);bif iZ>0 then Kv n2 (ia++([c.2]:List Zo)) (W (iZ-1)) c.1.b c.1.i c.1.h else(ia,gI,gJ,gZ)
def zk(a0:Z3)(a1:Int):Z3×List Zo:=letI c:=Z5 (Zv a0 2).1;letI d:=ZI c.1 (W ((c.2.length:Int)+1));letI e:=ZI d.1 a1;letI f:=ZI (Zv a0 2).1 a1;bif(Zv a0 2).2 then(match Kr (e.2.toNat+2) (c.2.take d.2.toNat) e.2 e.1.b e.1.i e.1.h with|(ic,z1_1,z1_2,z1_3)=>(Z3.mk z1_1 z1_2 z1_3,ic))else(match Kv (f.2.toNat+2) ([]:List Zo) f.2 f.1.b f.1.i f.1.h with|(gX,dS,z2_2,z2_3)=>(Z3.mk dS z2_2 z2_3,gX))
def Li(a0:ZT):ZT:=a0
def E1(a0:ZL):ZL:=a0
def GV(a0:ZV):ZV:=a0
def P9(a0:List ZV):Nat->List ZV->Nat->List ZV
  |0,_,_=>default
  |n1+1,J,U=>bif(U:Int)<(a0.length:Int)then P9 a0 n1 (J++([nth a0 U]:List ZV)) (U+1)else J
def IM(a0:List ZV):List ZV:=match P9 a0 (a0.length+1) ([]:List ZV) 0 with|ic=>ic
def GN(a0:ZZ):ZZ:=a0
def RO(a0:ZU):Nat->Nat->List ZZ->List ZZ
  |0,_,_=>default
  |n1+1,J,U=>bif(J:Int)<(a0.ZR.length:Int)then RO a0 n1 (J+1) (U++([nth a0.ZR J]:List ZZ))else U
def Mb(a0:ZU):ZU:=match RO a0 (a0.ZR.length+1) 0 ([]:List ZZ)with|ic=>ZU.mk a0.ZM ic
def Gl(a0:ZO):ZO:=a0
def S9(a0:ZD):Nat->Nat->List ZO->List ZO
  |0,_,_=>default
  |n1+1,J,U=>bif(J:Int)<(a0.ZE.length:Int)then S9 a0 n1 (J+1) (U++([nth a0.ZE J]:List ZO))else U
def MV(a0:ZD):ZD:=match S9 a0 (a0.ZE.length+1) 0 ([]:List ZO)with|ic=>ZD.mk a0.Id ic
def S0(a0:ZF):Nat->Nat->List ZD->List ZD
  |0,_,_=>default
  |n1+1,J,U=>bif(J:Int)<(a0.ZA.length:Int)then S0 a0 n1 (J+1) (U++([nth a0.ZA J]:List ZD))else U
def MZ(a0:ZF):ZF:=match S0 a0 (a0.ZA.length+1) 0 ([]:List ZD)with|ic=>ZF.mk a0.Frame a0.Zd a0.YW ic a0.XW a0.XA a0.Next a0.Ym
def VR(a0:ZF)(a1:Int):ZF×Bool:=letI b:=a0.Frame;letI c:=W (b.Now+a1);bif !(Ye a1 0 100)||c>10000 then(a0,false)else(ZF.mk (ZT.mk b.Zz b.ZC b.Methods b.Jb c) a0.Zd a0.YW a0.ZA a0.XW a0.XA a0.Next a0.Ym,true)
def Q7(a0:ZF)(a1:Int):Bool:=Ye a1 0 (W ((a0.ZA.length:Int)-1))
def Ws(a0:List Z9)(a1:Int):Nat->Int->Nat->Int
  |0,_,_=>default
  |n1+1,J,U=>letI b:=nth a0 U;bif(U:Int)<(a0.length:Int)then bif a1>=b.PR&&a1<b.Ends&&(J<0||b.Ends>(nth a0 J.toNat).Ends)then Ws a0 a1 n1 (U:Int) (U+1)else Ws a0 a1 n1 J (U+1)else J
def Zp(a0:List Z9)(a1:Int):Int:=match Ws a0 a1 (a0.length+1) (-1) 0 with|ic=>bif ic<0 then-1 else(nth a0 ic.toNat).Id
def V2(a0:ZF)(a1:Int):Nat->Nat->Sum Int Unit
  |0,_=>.inr ()
  |n1+1,J=>bif(J:Int)<(a0.Zd.length:Int)then bif(nth a0.Zd J).Key==a1 then .inl (J:Int)else V2 a0 a1 n1 (J+1)else .inr ()
def JE(a0:ZF)(a1:Int):Int:=match V2 a0 a1 (a0.Zd.length+1) 0 with|.inl r1=>r1|.inr _=>-1
def zq(a0:Int)(a1:List Int):Int:=wM (([7,a0]:List Int)++a1)
def Tu(a1:ByteArray):Nat->List Int->Nat->List Int
  |0,_,_=>default
  |n1+1,J,U=>bif(U:Int)<(a1.size:Int)then Tu a1 n1 (J++([W ((bAt a1 U):Int)]:List Int)) (U+1)else J
def Om(a0:Int)(a1:ByteArray)(a2:Int):Int:=match Tu a1 (a1.size+1) ([a2]:List Int) 0 with|ic=>zq a0 ic
def R5(a0:Int)(a1:ZL):Nat->List Int->Nat->List Int
  |0,_,_=>default
  |n1+1,J,U=>bif(U:Int)<(a1.Yf.length:Int)then R5 a0 a1 n1 (J++([Om a0 (nth a1.Yf U) (nth a1.Xl U)]:List Int)) (U+1)else J
def Ks(a0:Int)(a1:ZL):Int:=bif !(yr a1)then-1 else(match R5 a0 a1 (a1.Yf.length+1) ([a1.KK]:List Int) 0 with|ic=>zq a0 ic)
def PL(a0:Zs):Bool:=Ye a0.Key 1 99&&Ye a0.Zk 1 999&&Ye a0.Method 0 99&&Ye a0.Org 0 99&&Ye a0.kl 1 3&&Ye a0.Y6 0 1000000000000&&Ye a0.kj 0 1000000000000&&Ye a0.Wl 0 1000000000000
def JY(a0:Zs):List Int:=([104,a0.Key,a0.Zk,a0.Method,a0.Y6,a0.kl,a0.Org,a0.kj,a0.Wl]:List Int)
def xB(a0:List Yg)(a1:Zs):Zs×Bool:=letI b:=Yt a0 a1.Key;bif !(PL a1)||b<0 then(Zs.mk 0 0 0 0 0 0 0 0 0,false)else(Zs.mk a1.Key a1.Zk a1.Method a1.Y6 a1.kl a1.Org a1.kj a1.Wl (VY (nth a0 b.toNat) (JY a1)),true)
def kq(a0:Zs):ZV:=ZV.mk a0.Key (JY a0) a0.Mark
def Su(a0:YL):ZV:=ZV.mk a0.YG (qY a0) a0.Mark
def QZ(a0:ZF)(a1:Int)(a2:ZL)(a3 a4:Int):ZO×Bool:=letI b:=a0.Frame;letI c:=Zp b.Methods b.Now;letI d:=JE a0 a1;letI e:=([]:List ZZ);letI f:=nth a0.Zd d.toNat;letI g:=xB b.Zz (Zs.mk a1 f.Zk c (Ks c a2) 1 a3 0 0 0);bif c<0||d<0 then(ZO.mk 0 0 (ZL.mk 0 ([]:List ByteArray) ([]:List Int)) (Zs.mk 0 0 0 0 0 0 0 0 0) (ZU.mk ([]:List ZV) e),false)else(ZO.mk a0.Next a4 a2 g.1 (ZU.mk ([kq g.1,Su f]:List ZV) e),g.2)
def Ry(a0 a1:List Int):Nat->Nat->Sum Bool Unit
  |0,_=>.inr ()
  |n1+1,J=>bif(J:Int)<(a0.length:Int)then bif nth a0 J !=nth a1 J then .inl false else Ry a0 a1 n1 (J+1)else .inr ()
def Nq(a0 a1:List Int):Bool:=bif(a0.length:Int)!=(a1.length:Int)then false else(match Ry a0 a1 (a0.length+1) 0 with|.inl r1=>r1|.inr _=>true)
def V7(a0 a1:ZV):Bool:=a0.Key==a1.Key&&a0.Mark==a1.Mark&&Nq a0.YS a1.YS
def PG(a0:ZU)(a1:ZV):Nat->Nat->Sum Int Unit
  |0,_=>.inr ()
  |n1+1,J=>bif(J:Int)<(a0.ZM.length:Int)then bif V7 (nth a0.ZM J) a1 then .inl (J:Int)else PG a0 a1 n1 (J+1)else .inr ()
def Nr(a0:ZU)(a1:ZV):Int:=match PG a0 a1 (a0.ZM.length+1) 0 with|.inl r1=>r1|.inr _=>-1
def Wv(a0:ZU):Nat->Nat->Sum Bool Unit
  |0,_=>.inr ()
  |n2+1,ia=>letI b:=(nth a0.ZR ia).Count;bif(ia:Int)<(a0.ZR.length:Int)then bif !(Ye b 1 (a0.ZM.length:Int))||(ia:Int)>0&&(nth a0.ZR (ia-1)).Count>b then .inl false else Wv a0 n2 (ia+1)else .inr ()
def VD(a0:ZU):Nat->Nat->Sum Bool Unit
  |0,_=>.inr ()
  |n1+1,J=>bif(J:Int)<(a0.ZM.length:Int)then bif Nr a0 (nth a0.ZM J)<(J:Int)then .inl false else VD a0 n1 (J+1)else .inr ()
def kh(a0:ZU):Bool:=letI b:=a0.ZM.length;letI c:=a0.ZR.length;match VD a0 (b+1) 0 with|.inl r1=>r1|.inr _=>(match Wv a0 (c+1) 0 with|.inl r2=>r2|.inr _=>Ye (b:Int) 1 12&&(c:Int)<=8)
def Ir(a0:ZO):Bool:=Ye a0.Id 1 999&&SO a0.XL&&yr a0.Doc&&kh a0.ZN&&V7 (nth a0.ZN.ZM 0) (kq a0.Sig)
def R3(a0:ZD):Nat->Nat->Sum Bool Unit
  |0,_=>.inr ()
  |n1+1,J=>letI b:=nth a0.ZE J;bif(J:Int)<(a0.ZE.length:Int)then bif !(Ir b)||(J:Int)>0&&(nth a0.ZE (J-1)).Id>=b.Id then .inl false else R3 a0 n1 (J+1)else .inr ()
def JG(a0:ZD):Bool:=letI b:=a0.ZE.length;match R3 a0 (b+1) 0 with|.inl r1=>r1|.inr _=>Ye a0.Id 0 99&&decide ((b:Int)<=8)
def U8(a0:ZD)(a1:Int):Nat->Nat->Sum Int Unit
  |0,_=>.inr ()
  |n1+1,J=>bif(J:Int)<(a0.ZE.length:Int)then bif(nth a0.ZE J).Id==a1 then .inl (J:Int)else U8 a0 a1 n1 (J+1)else .inr ()
def Y1(a0:ZD)(a1:Int):Int:=match U8 a0 a1 (a0.ZE.length+1) 0 with|.inl r1=>r1|.inr _=>-1
def zh(a0:ZD)(a1:ZO):Nat->Bool->Nat->List ZO->Bool×List ZO
  |0,_,_,_=>(default,default)
  |n1+1,J,U,ib=>letI b:=nth a0.ZE U;letI c:=([b]:List ZO);bif(U:Int)<(a0.ZE.length:Int)then bif !J&&a1.Id<b.Id then zh a0 a1 n1 true (U+1) (ib++([a1]:List ZO)++c)else zh a0 a1 n1 J (U+1) (ib++c)else(J,ib)
def Qj(a0:ZD)(a1:ZO):ZD×Bool:=letI b:=(a0,false);bif !(JG a0)||Y1 a0 a1.Id>=0 then b else(match zh a0 a1 (a0.ZE.length+1) false 0 ([]:List ZO)with|(ic,z1_1)=>letI c:=ZD.mk a0.Id (z1_1++([a1]:List ZO));letI d:=ZD.mk a0.Id z1_1;bif !ic then bif !(JG c)then b else(c,true)else bif !(JG d)then b else(d,true))
def VW(a0:ZF)(a1 a2:Int)(a3:ZL)(a4 a5:Int):ZF×Bool:=letI b:=a0.Frame;letI c:=Yt b.Zz a2;letI d:=(a0,false);letI e:=QZ a0 a2 a3 a4 a5;letI f:=Qj (nth a0.ZA a1.toNat) e.1;bif !(Q7 a0 a1)||c<0||(nth b.Zz c.toNat).OT>b.Now then d else bif !e.2 then d else bif !f.2 then d else(ZF.mk b a0.Zd a0.YW (a0.ZA.set a1.toNat f.1) a0.XW a0.XA (W (a0.Next+1)) a0.Ym,true)
def SE(a0:ZF)(a1:Int):Nat->Nat->Sum (Int×Int) Unit
  |0,_=>.inr ()
  |n1+1,J=>letI b:=Y1 (nth a0.ZA J) a1;bif(J:Int)<(a0.ZA.length:Int)then bif b>=0 then .inl ((J:Int),b)else SE a0 a1 n1 (J+1)else .inr ()
def ZH(a0:ZF)(a1:Int):Int×Int:=match SE a0 a1 (a0.ZA.length+1) 0 with|.inl r1=>r1|.inr _=>(-1,-1)
def JJ(a0:ZV):Int:=letI b:=(a0.YS.length:Int);letI c:=nth a0.YS 0;bif b==0||!(Ye c 101 105)then 0 else bif b !=nth ([7,5,5,9,6]:List Int) (W (c-101)).toNat then 0 else c
def Zl(a0:ZV):YL×Bool:=letI b:=a0.YS;bif JJ a0 !=101||nth b 6 !=a0.Key then(YL.mk 0 0 0 0 0 0 0,false)else(YL.mk (nth b 1) (nth b 2) (nth b 3) (nth b 4) (nth b 5) (nth b 6) a0.Mark,true)
def U5(a0:List YL)(a1:Int):Nat->Nat->Sum Int Unit
  |0,_=>.inr ()
  |n1+1,J=>bif(J:Int)<(a0.length:Int)then bif(nth a0 J).Zk==a1 then .inl (J:Int)else U5 a0 a1 n1 (J+1)else .inr ()
def YI(a0:List YL)(a1:Int):Int:=match U5 a0 a1 (a0.length+1) 0 with|.inl r1=>r1|.inr _=>-1
def IH(a0:Zx):Bool:=Ye a0.Zk 1 999&&SO a0.Mz&&Ye a0.YW (-1) (W (a0.Mz+1))&&Ye a0.YG 1 99
def zj(a0:Zx):List Int:=([102,a0.Zk,a0.Mz,a0.YW,a0.YG]:List Int)
def Y3(a0:List Yg)(a1:Zx):Zx×Bool:=letI b:=Yt a0 a1.YG;bif !(IH a1)||b<0 then(Zx.mk 0 0 0 0 0,false)else(Zx.mk a1.Zk a1.Mz a1.YW a1.YG (VY (nth a0 b.toNat) (zj a1)),true)
def XF(a0:Zx):ZV:=ZV.mk a0.YG (zj a0) a0.Mark
def yy(a0:ZU)(a1:ZV):ZU×Bool:=letI b:=ZU.mk (a0.ZM++([a1]:List ZV)) a0.ZR;bif !(kh b)then(a0,false)else(b,true)
def Xr(a0:ZD)(a1:Int)(a2:ZV):ZD×Bool:=letI b:=Y1 a0 a1;letI c:=nth a0.ZE b.toNat;letI d:=yy c.ZN a2;bif b<0 then(a0,false)else(ZD.mk a0.Id (a0.ZE.set b.toNat (ZO.mk c.Id c.XL c.Doc c.Sig d.1)),d.2)
def jC(a0:ZF)(a1:Int):ZF×Bool:=letI b:=ZH a0 a1;letI c:=b.1.toNat;letI d:=nth a0.ZA c;letI e:=(nth d.ZE b.2.toNat).ZN.ZM;letI f:=(a0,false);letI g:=Zl (nth e 1);letI h:=a0.Zd;letI i:=YI h g.1.Zk;letI j:=a0.YW;letI k:=nth j i.toNat;letI l:=a0.Frame;letI m:=l.Now;letI n:=(nth h i.toNat).YG;letI o:=Y3 l.Zz (Zx.mk g.1.Zk m k n 0);letI p:=decide ((nth l.Zz (Yt l.Zz n).toNat).OT>m);letI q:=Xr d a1 (XF o.1);letI r:=Y3 l.Zz (Zx.mk g.1.Zk m (-1) n 0);letI s:=Xr d a1 (XF r.1);bif b.1<0||(e.length:Int)<2 then f else bif !g.2||i<0||i>=(j.length:Int)then f else bif k<=W (m+1)then bif !o.2||p then f else(ZF.mk l h j (a0.ZA.set c q.1) a0.XW a0.XA a0.Next a0.Ym,q.2)else bif !r.2||p then f else(ZF.mk l h j (a0.ZA.set c s.1) a0.XW a0.XA a0.Next a0.Ym,s.2)
def qw(a0:ZF)(a1:Int):ZF×Bool:=bif !(Ye a1 0 (W ((a0.YW.length:Int)-1)))||nth a0.YW a1.toNat !=-1 then(a0,false)else(ZF.mk a0.Frame a0.Zd (a0.YW.set a1.toNat (W (a0.Frame.Now+1))) a0.ZA a0.XW a0.XA a0.Next a0.Ym,true)
def xn(a0:List Za)(a1:Int):Nat->Nat->Sum Int Unit
  |0,_=>.inr ()
  |n1+1,J=>bif(J:Int)<(a0.length:Int)then bif(nth a0 J).Id==a1 then .inl (J:Int)else xn a0 a1 n1 (J+1)else .inr ()
def Zt(a0:List Za)(a1:Int):Int:=match xn a0 a1 (a0.length+1) 0 with|.inl r1=>r1|.inr _=>-1
def T2(a0:ZF)(a1:List Int):Nat->Nat->Sum Bool Unit
  |0,_=>.inr ()
  |n1+1,J=>letI b:=a0.Frame;letI c:=nth a1 J;letI d:=Zt b.ZC c;letI e:=Yt b.Zz (nth b.ZC d.toNat).Key;bif(J:Int)<(a1.length:Int)then bif d<0||d>=(a0.XW.length:Int)||(J:Int)>0&&nth a1 (J-1)>=c then .inl false else bif e<0||(nth b.Zz e.toNat).OT>b.Now then .inl false else T2 a0 a1 n1 (J+1)else .inr ()
def Nk(a0:ZF)(a1:List Int):Bool:=match T2 a0 a1 (a1.length+1) 0 with|.inl r1=>r1|.inr _=>decide ((a1.length:Int)>0)
def xy(a0:ZU)(a1:ZL):Nat->List Int->Nat->List Int
  |0,_,_=>default
  |n1+1,J,U=>bif(U:Int)<(a0.ZR.length:Int)then xy a0 a1 n1 (J++([Ks (nth a0.ZR U).Method a1]:List Int)) (U+1)else J
def jd(a0:ZU)(a1:ZL):List Int:=match xy a0 a1 (a0.ZR.length+1) ([]:List Int) 0 with|ic=>ic
def yj(a0:ZX):List Int:=([103,a0.Authority,a0.Seq,a0.Time,a0.Y6]:List Int)
def WY(a1:ZZ):Nat->List Int->Nat->List Int
  |0,_,_=>default
  |n2+1,ia,iZ=>letI b:=nth a1.YK iZ;bif(iZ:Int)<(a1.YK.length:Int)then WY a1 n2 (ia++yj b++([b.Mark]:List Int)) (iZ+1)else ia
def xu(a1:ZZ):Nat->List Int->Nat->List Int
  |0,_,_=>default
  |n1+1,J,U=>letI b:=nth a1.Path U;letI c:=J++([b.Y6]:List Int);bif(U:Int)<(a1.Path.length:Int)then bif b.Left then xu a1 n1 (c++([1]:List Int)) (U+1)else xu a1 n1 (c++([0]:List Int)) (U+1)else J
def xL(a0:Int)(a1:ZZ):Int:=letI b:=a1.YK.length;match xu a1 (a1.Path.length+1) ([4,a1.Count,a1.Method,a1.BE]:List Int) 0 with|ic=>(match WY a1 (b+1) (ic++([(b:Int)]:List Int)) 0 with|gX=>zq a0 gX)
def Vk(a0:Int)(a1:List ZV):Nat->List Int->Nat->List Int
  |0,_,_=>default
  |n1+1,J,U=>letI b:=nth a1 U;bif(U:Int)<(a1.length:Int)then Vk a0 a1 n1 (J++([zq a0 (([b.Key,b.Mark]:List Int)++b.YS)]:List Int)) (U+1)else J
def yH(a0:Int)(a1:List ZV):Int:=match Vk a0 a1 (a1.length+1) ([2]:List Int) 0 with|ic=>zq a0 ic
def Hl(a0 a1:Int)(a2:List ZV)(a3:Int):Int:=zq a0 ([3,a1,yH a0 a2,a3]:List Int)
def Ca(a0:ZU)(a1:List Int)(a2:Int):Int:=letI b:=(a0.ZR.length:Int);letI c:=nth a0.ZR a2.toNat;letI d:=c.Method;letI e:=nth a1 a2.toNat;letI f:=a0.ZM.take c.Count.toNat;bif !(Ye a2 0 (W (b-1)))||(a1.length:Int)!=b||!(Ye c.Count 0 (a0.ZM.length:Int))then-1 else bif a2>0 then Hl d e f (xL d (nth a0.ZR (W (a2-1)).toNat))else Hl d e f 0
def xe(a0:ZD)(a1:Int):Nat->List Int->Nat->List Int
  |0,_,_=>default
  |n1+1,J,U=>letI b:=nth a0.ZE U;letI c:=b.ZN.ZR++([ZZ.mk (b.ZN.ZM.length:Int) a1 0 ([]:List Xk) ([]:List ZX)]:List ZZ);letI d:=ZU.mk b.ZN.ZM c;bif(U:Int)<(a0.ZE.length:Int)then xe a0 a1 n1 (J++([Ca d (jd d b.Doc) (W ((c.length:Int)-1))]:List Int)) (U+1)else J
def Yp(a0:ZD)(a1:Int):List Int:=match xe a0 a1 (a0.ZE.length+1) ([]:List Int) 0 with|ic=>ic
def OV(a0 a1 a2:Int):Int:=zq a0 ([1,a1,a2]:List Int)
def Tg(a0:Int)(a1:List Int):Nat->List Int->Nat->List Int
  |0,_,_=>default
  |n1+1,J,U=>letI b:=(a1.length:Int);letI c:=W ((U:Int)+1);letI d:=nth a1 U;bif(U:Int)<b then bif c<b then Tg a0 a1 n1 (J++([OV a0 d (nth a1 c.toNat)]:List Int)) (U+2)else Tg a0 a1 n1 (J++([d]:List Int)) (U+2)else J
def Si(a0:Int)(a1:List Int):List Int:=match Tg a0 a1 (a1.length+1) ([]:List Int) 0 with|ic=>ic
def OY(a0:Int):Nat->List Int->List Int
  |0,_=>default
  |n1+1,J=>bif(J.length:Int)>1 then OY a0 n1 (Si a0 J)else J
def zz(a0:Int)(a1:List Int):Int:=bif !(Ye (a1.length:Int) 1 16)then-1 else(match OY a0 (a1.length+1) a1 with|ic=>nth ic 0)
def qt(a0:ZD)(a1:Int):Int:=zz a1 (Yp a0 a1)
def Gd(a0:List Int)(a1:Int):Nat->Nat->Sum Bool Unit
  |0,_=>.inr ()
  |n1+1,J=>bif(J:Int)<(a0.length:Int)then bif nth a0 J==a1 then .inl true else Gd a0 a1 n1 (J+1)else .inr ()
def Ic(a0:List Int)(a1:Int):Bool:=match Gd a0 a1 (a0.length+1) 0 with|.inl r1=>r1|.inr _=>false
def zd(a0:List Yg)(a1:List Za)(a2:ZX):ZX×Bool:=letI b:=a2.Authority;letI c:=(ZX.mk 0 0 0 0 0,false);letI d:=Yt a0 (nth a1 (Zt a1 b).toNat).Key;bif Zt a1 b<0||a2.Seq<0||!(SO a2.Time)then c else bif d<0 then c else(ZX.mk b a2.Seq a2.Time a2.Y6 (VY (nth a0 d.toNat) (yj a2)),true)
def yx(a0:Int):Nat->Int->List Xk->List Int->List Xk
  |0,_,_,_=>default
  |n1+1,J,U,ib=>letI b:=(ib.length:Int);letI c:=W (Int.tdiv J 2);letI d:=Si a0 ib;letI e:=W (J+1);bif b>1 then bif Int.tmod J 2==1 then yx a0 n1 c (U++([Xk.mk (nth ib (W (J-1)).toNat) true]:List Xk)) d else bif e<b then yx a0 n1 c (U++([Xk.mk (nth ib e.toNat) false]:List Xk)) d else yx a0 n1 c U d else U
def y6(a0:Int)(a1:List Int)(a2:Int):List Xk:=letI b:=(a1.length:Int);letI c:=([]:List Xk);bif b>16||!(Ye a2 0 (W (b-1)))then c else(match yx a0 (a1.length+1) a2 c a1 with|ic=>ic)
def QV(a0:ZU)(a1:ZZ):ZU×Bool:=letI b:=ZU.mk a0.ZM (a0.ZR++([a1]:List ZZ));bif !(kh b)then(a0,false)else(b,true)
def KV(a0:ZD)(a1:Int)(a2:List ZX):Nat->Bool->Nat->List ZO->Bool×List ZO
  |0,_,_,_=>(default,default)
  |n1+1,J,U,ib=>letI b:=(nth a0.ZE U).ZN;letI c:=Yp a0 a1;letI d:=QV b (ZZ.mk (b.ZM.length:Int) a1 (zz a1 c) (y6 a1 c (U:Int)) a2);letI e:=nth ib U;bif(U:Int)<(a0.ZE.length:Int)&&J then KV a0 a1 a2 n1 d.2 (U+1) (ib.set U (ZO.mk e.Id e.XL e.Doc e.Sig d.1))else(J,ib)
def QR(a0:ZD)(a1:Int)(a2:List ZX):ZD×Bool:=letI b:=a0.ZE.length;(match KV a0 a1 a2 (b+1) (JG a0&&(b:Int)>0) 0 a0.ZE with|(ic,z1_1)=>letI c:=ZD.mk a0.Id z1_1;bif !ic||!(JG c)then(a0,false)else(c,true))
def jn(a0:ZF)(a2:List Int):Nat->Nat->List Int->List Int
  |0,_,_=>default
  |n2+1,ia,iZ=>letI b:=(Zt a0.Frame.ZC (nth a2 ia)).toNat;bif(ia:Int)<(a2.length:Int)then jn a0 a2 n2 (ia+1) (iZ.set b (W (nth a0.XW b+1)))else iZ
def Jp(a0:ZF)(a1:Int)(a2:List Int)(a3:Int):Nat->List ZX->Nat->Sum (ZF×Bool) (List ZX)
  |0,_,_=>.inr default
  |n1+1,J,U=>letI b:=nth a2 U;letI c:=a0.Frame;letI d:=nth a0.XW (Zt c.ZC b).toNat;letI e:=qt (nth a0.ZA a1.toNat) (Zp c.Methods c.Now);letI f:=zd c.Zz c.ZC (ZX.mk b d (G3 10000 (O1 0 (W (c.Now+a3)))) e 0);letI g:=zd c.Zz c.ZC (ZX.mk b d c.Now e 0);bif(U:Int)<(a2.length:Int)then bif Ic a0.XA b then bif !f.2 then .inl (a0,false)else Jp a0 a1 a2 a3 n1 (J++([f.1]:List ZX)) (U+1)else bif !g.2 then .inl (a0,false)else Jp a0 a1 a2 a3 n1 (J++([g.1]:List ZX)) (U+1)else .inr J
def qI(a0:ZF)(a1:Int)(a2:List Int)(a3:Int):ZF×Bool:=letI b:=a0.Frame;letI c:=Zp b.Methods b.Now;letI d:=a2.length+1;bif !(Q7 a0 a1)||c<0||!(Nk a0 a2)||!(Ye a3 (-10000) 10000)then(a0,false)else(match Jp a0 a1 a2 a3 d ([]:List ZX) 0 with|.inl r1=>r1|.inr ic=>letI e:=QR (nth a0.ZA a1.toNat) c ic;bif !e.2 then(a0,false)else(match jn a0 a2 d 0 a0.XW with|gX=>(ZF.mk b a0.Zd a0.YW (a0.ZA.set a1.toNat e.1) gX a0.XA a0.Next a0.Ym,true)))
def Tk(a0:Int)(a1:ZO):Nat->List Int->Nat->List Int
  |0,_,_=>default
  |n1+1,J,U=>bif(U:Int)<(a1.ZN.ZR.length:Int)then Tk a0 a1 n1 (J++([xL a0 (nth a1.ZN.ZR U)]:List Int)) (U+1)else J
def Od(a0:Int)(a1:ZO):Int:=match Tk a0 a1 (a1.ZN.ZR.length+1) ([5,a1.Id,a1.XL,Ks a0 a1.Doc,yH a0 a1.ZN.ZM]:List Int) 0 with|ic=>zq a0 ic
def Na(a0:Int)(a1:List ZO):Nat->List Int->Nat->List Int
  |0,_,_=>default
  |n1+1,J,U=>bif(U:Int)<(a1.length:Int)then Na a0 a1 n1 (J++([Od a0 (nth a1 U)]:List Int)) (U+1)else J
def MY(a0:Int)(a1:List ZO):Int:=match Na a0 a1 (a1.length+1) ([]:List Int) 0 with|ic=>zz a0 ic
def K6(a0:ZD)(a2:List Int):Nat->Nat->List ZO->Sum (Yy×Bool) (List ZO)
  |0,_,_=>.inr default
  |n1+1,J,U=>letI b:=Y1 a0 (nth a2 J);bif(J:Int)<(a2.length:Int)then bif b<0 then .inl (Yy.mk 0 0 ([]:List ZO) 0,false)else K6 a0 a2 n1 (J+1) (U++([nth a0.ZE b.toNat]:List ZO))else .inr U
def XX(a0:ZD)(a1:Int)(a2:List Int)(a3:Int):Yy×Bool:=letI b:=([]:List ZO);match K6 a0 a2 (a2.length+1) 0 b with|.inl r1=>r1|.inr ic=>bif(a2.length:Int)==0 then(Yy.mk 0 0 b 0,false)else(Yy.mk a0.Id a1 ic (MY a3 ic),true)
def zN(a0:Yy):Nat->Nat->Sum Bool Unit
  |0,_=>.inr ()
  |n1+1,J=>bif(J:Int)<(a0.ZE.length:Int)then bif !(Ir (nth a0.ZE J))then .inl false else zN a0 n1 (J+1)else .inr ()
def z7(a0:Yy)(a1:Int):Bool:=letI b:=a0.ZE.length;match zN a0 (b+1) 0 with|.inl r1=>r1|.inr _=>Ye (b:Int) 1 8&&a0.Y6==MY a1 a0.ZE
def K1(a1:Yy):Nat->Bool->Nat->Int->List ZO->Bool×Int×List ZO
  |0,_,_,_,_=>(default,default,default)
  |n1+1,J,U,ib,iq=>letI b:=Qj (ZD.mk ib iq) (nth a1.ZE U);bif(U:Int)<(a1.ZE.length:Int)&&J then K1 a1 n1 b.2 (U+1) b.1.Id b.1.ZE else(J,ib,iq)
def Xw(a0:ZD)(a1:Yy)(a2:Int):ZD×Bool:=match K1 a1 (a1.ZE.length+1) (z7 a1 a2&&a1.To==a0.Id) 0 a0.Id a0.ZE with|(ic,z1_1,z1_2)=>bif !ic then(a0,false)else(ZD.mk z1_1 z1_2,true)
def y5(a0:ZD)(a1:Int):Nat->Nat->List ZO->List ZO
  |0,_,_=>default
  |n1+1,J,U=>bif(J:Int)<(a0.ZE.length:Int)then bif(J:Int)!=Y1 a0 a1 then y5 a0 a1 n1 (J+1) (U++([nth a0.ZE J]:List ZO))else y5 a0 a1 n1 (J+1) U else U
def ql(a0:ZD)(a1:Int):ZD×Bool:=bif Y1 a0 a1<0 then(a0,false)else(match y5 a0 a1 (a0.ZE.length+1) 0 ([]:List ZO)with|ic=>(ZD.mk a0.Id ic,true))
def xZ(a0 a1:ZD)(a2:List Int)(a3:Int):Nat->Bool->Nat->Int->List ZO->Bool×Int×List ZO
  |0,_,_,_,_=>(default,default,default)
  |n1+1,J,U,ib,iq=>letI b:=ql (ZD.mk ib iq) (nth a2 U);bif(U:Int)<(a2.length:Int)&&(XX a0 a1.Id a2 a3).2&&J then xZ a0 a1 a2 a3 n1 b.2 (U+1) b.1.Id b.1.ZE else(J,ib,iq)
def Q8(a0 a1:ZD)(a2:List Int)(a3:Int):ZD×ZD×Bool:=letI b:=XX a0 a1.Id a2 a3;letI c:=Xw a1 b.1 a3;match xZ a0 a1 a2 a3 (a2.length+1) c.2 0 a0.Id a0.ZE with|(ic,z1_1,z1_2)=>bif !b.2||!ic then(a0,a1,false)else(ZD.mk z1_1 z1_2,c.1,true)
def Vq(a0:ZF)(a1 a2 a3:Int):ZF×Bool:=letI b:=a0.Frame;letI c:=Zp b.Methods b.Now;letI d:=Q8 (nth a0.ZA a1.toNat) (nth a0.ZA a2.toNat) ([a3]:List Int) c;bif !(Q7 a0 a1)||!(Q7 a0 a2)||a1==a2||c<0 then(a0,false)else(ZF.mk b a0.Zd a0.YW ((a0.ZA.set a1.toNat d.1).set a2.toNat d.2.1) a0.XW a0.XA a0.Next a0.Ym,d.2.2)
def J8(a0:ZD)(a1:Int):Nat->Int->Nat->List ZO->Int×List ZO
  |0,_,_,_=>(default,default)
  |n1+1,J,U,ib=>letI b:=nth a0.ZE U;bif(U:Int)<(a0.ZE.length:Int)then bif b.XL<a1 then J8 a0 a1 n1 (W (J+1)) (U+1) ib else J8 a0 a1 n1 J (U+1) (ib++([b]:List ZO))else(J,ib)
def jG(a0:ZD)(a1:Int):ZD×Int:=match J8 a0 a1 (a0.ZE.length+1) 0 0 ([]:List ZO)with|(ic,z1_1)=>(ZD.mk a0.Id z1_1,ic)
def jb(a0:ZF)(a1:Int):ZF×Bool:=bif !(Q7 a0 a1)then(a0,false)else(ZF.mk a0.Frame a0.Zd a0.YW (a0.ZA.set a1.toNat (jG (nth a0.ZA a1.toNat) a0.Frame.Now).1) a0.XW a0.XA a0.Next a0.Ym,true)
def Wb(a0:List Z9)(a1:Int):Nat->Nat->Sum Int Unit
  |0,_=>.inr ()
  |n1+1,J=>bif(J:Int)<(a0.length:Int)then bif(nth a0 J).Id==a1 then .inl (J:Int)else Wb a0 a1 n1 (J+1)else .inr ()
def qz(a0:List Z9)(a1:Int):Int:=match Wb a0 a1 (a0.length+1) 0 with|.inl r1=>r1|.inr _=>-1
def Gj(a0:List Z9)(a1:Int):Int:=letI b:=qz a0 a1;bif b<0 then 0 else(nth a0 b.toNat).Uc
def SX(a0:ZT)(a1:Int):Bool:=letI b:=Yt a0.Zz a1;decide (b>=0)&&decide (a0.Now>=Gj a0.Methods (nth a0.Zz b.toNat).Method)
def WK(a0:ZF)(a1 a2:Int)(a3:ZL):ZF×Bool:=letI b:=(a0,false);letI c:=QZ a0 a2 a3 0 10000;letI d:=Qj (nth a0.ZA a1.toNat) c.1;bif !(Q7 a0 a1)||!(SX a0.Frame a2)then b else bif !c.2 then b else bif !d.2 then b else(ZF.mk a0.Frame a0.Zd a0.YW (a0.ZA.set a1.toNat d.1) a0.XW a0.XA (W (a0.Next+1)) (a0.Ym++([a0.Next]:List Int)),true)
def J7(a0:ZF):Nat->List Int->Nat->List Int
  |0,_,_=>default
  |n1+1,J,U=>letI b:=nth a0.Frame.ZC U;bif(U:Int)<(a0.Frame.ZC.length:Int)then bif Ic a0.XA b.Id||SX a0.Frame b.Key then J7 a0 n1 (J++([b.Id]:List Int)) (U+1)else J7 a0 n1 J (U+1)else J
def YX(a0:ZF):List Int:=match J7 a0 (a0.Frame.ZC.length+1) ([]:List Int) 0 with|ic=>ic
def JH(a0:ZF)(a1 a2:Int):Nat->Nat->List ZX->Sum (ZF×Bool) (List ZX)
  |0,_,_=>.inr default
  |n1+1,J,U=>letI b:=a0.Frame;letI c:=ZH a0 a1;letI d:=zd b.Zz b.ZC (ZX.mk (nth (YX a0) J) 0 a2 (nth (Yp (nth a0.ZA c.1.toNat) (Zp b.Methods b.Now)) c.2.toNat) 0);bif(J:Int)<((YX a0).length:Int)then bif !d.2 then .inl (a0,false)else JH a0 a1 a2 n1 (J+1) (U++([d.1]:List ZX))else .inr U
def zF(a0:ZF)(a1 a2:Int):ZF×Bool:=letI b:=ZH a0 a1;letI c:=a0.Frame;letI d:=Zp c.Methods c.Now;letI e:=(YX a0).length;letI f:=nth a0.ZA b.1.toNat;letI g:=b.2.toNat;letI h:=nth f.ZE g;bif b.1<0||d<0||!(Ic a0.Ym a1)||(e:Int)==0 then(a0,false)else(match JH a0 a1 a2 (e+1) 0 ([]:List ZX)with|.inl r1=>r1|.inr ic=>letI i:=QV h.ZN (ZZ.mk (h.ZN.ZM.length:Int) d (nth (Yp f d) g) ([]:List Xk) ic);(ZF.mk c a0.Zd a0.YW (a0.ZA.set b.1.toNat (ZD.mk f.Id (f.ZE.set g (ZO.mk h.Id h.XL h.Doc h.Sig i.1)))) a0.XW a0.XA a0.Next a0.Ym,i.2))
def VO(a0:ZF)(a1 a2:Int):ZF×Bool:=letI b:=ZH a0 a1;letI c:=nth a0.ZA b.1.toNat;letI d:=(nth c.ZE b.2.toNat).ZN.ZM;letI e:=(a0,false);letI f:=Zl (nth d 1);letI g:=YI a0.Zd f.1.Zk;letI h:=a0.Frame;letI i:=(nth a0.Zd g.toNat).YG;letI j:=Y3 h.Zz (Zx.mk f.1.Zk a2 (-1) i 0);letI k:=Xr c a1 (XF j.1);bif b.1<0||(d.length:Int)<2 then e else bif !f.2||g<0||!(SX h i)then e else bif !j.2 then e else(ZF.mk h a0.Zd a0.YW (a0.ZA.set b.1.toNat k.1) a0.XW a0.XA a0.Next a0.Ym,k.2)
def Xm(a0:ZF)(a1:Zo):ZF×Bool:=letI b:=a1.Kind;letI c:=a1.A;letI d:=a1.B;letI e:=VW a0 c d a1.Doc a1.C a1.D;letI f:=qI a0 c a1.Ids d;letI g:=Vq a0 c d a1.C;letI h:=WK a0 c d a1.Doc;letI i:=zF a0 c d;letI j:=VO a0 c d;bif b==1 then((VR a0 c).1,(VR a0 c).2)else bif b==2 then(e.1,e.2)else bif b==3 then((jC a0 c).1,(jC a0 c).2)else bif b==4 then((qw a0 c).1,(qw a0 c).2)else bif b==5 then(f.1,f.2)else bif b==6 then(g.1,g.2)else bif b==7 then((jb a0 c).1,(jb a0 c).2)else bif b==8 then(h.1,h.2)else bif b==9 then(i.1,i.2)else bif b==10 then(j.1,j.2)else(a0,false)
def jl(a1:List Zo):Nat->Nat->List Yg->List Za->List Z9->Int->Int->List YL->List Int->List ZD->List Int->List Int->Int->List Int->List Yg×List Za×List Z9×Int×Int×List YL×List Int×List ZD×List Int×List Int×Int×List Int
  |0,_,_,_,_,_,_,_,_,_,_,_,_,_=>(default,default,default,default,default,default,default,default,default,default,default,default)
  |n1+1,J,U,ib,iq,hE,gR,gS,gT,gU,gd,gC,gD,gE=>letI b:=(Xm (ZF.mk (ZT.mk U ib iq hE gR) gS gT gU gd gC gD gE) (nth a1 J)).1;letI c:=b.Frame;bif(J:Int)<(a1.length:Int)then jl a1 n1 (J+1) c.Zz c.ZC c.Methods c.Jb c.Now b.Zd b.YW b.ZA b.XW b.XA b.Next b.Ym else(U,ib,iq,hE,gR,gS,gT,gU,gd,gC,gD,gE)
def RW(a0:ZF)(a1:List Zo):ZF:=letI b:=a0.Frame;match jl a1 (a1.length+1) 0 b.Zz b.ZC b.Methods b.Jb b.Now a0.Zd a0.YW a0.ZA a0.XW a0.XA a0.Next a0.Ym with|(ic,z1_1,z1_2,z1_3,z1_4,z1_5,z1_6,z1_7,z1_8,z1_9,z1_10,z1_11)=>ZF.mk (ZT.mk ic z1_1 z1_2 z1_3 z1_4) z1_5 z1_6 z1_7 z1_8 z1_9 z1_10 z1_11
def qk(a0:Z3):Z3×ZF:=letI b:=zk (ZI a0 2).1 10;(b.1,RW (kV (ZI a0 2).2) b.2)
def KI(a0:Z3):Z3×ByteArray:=letI b:=U3 a0 ([(⟨#[116,105,99,107,32,53]⟩:ByteArray),(⟨#[116,105,99,107,32,50,48]⟩:ByteArray),(⟨#[116,105,99,107,32,49,48,49]⟩:ByteArray),(⟨#[115,105,103,110,32,48,32,49,49,32,57,48,48,48,32,49,32,97,32,98]⟩:ByteArray),(⟨#[115,105,103,110,32,49,32,49,50,32,51,48,32,50,32,121,101,115]⟩:ByteArray),(⟨#[115,105,103,110,32,48,32,49,51,32,57,48,48,48,32,51,32,120]⟩:ByteArray),(⟨#[115,105,103,110,32,48,32,49,49,32,57,48,48,48,32,49]⟩:ByteArray),(⟨#[102,111,114,103,101,32,48,32,49,49,32,52,32,122]⟩:ByteArray),(⟨#[102,111,114,103,101,32,49,32,49,50,32,53,32,113,32,114]⟩:ByteArray),(⟨#[97,110,115,119,101,114,32,49]⟩:ByteArray),(⟨#[97,110,115,119,101,114,32,50]⟩:ByteArray),(⟨#[114,101,118,111,107,101,32,48]⟩:ByteArray),(⟨#[114,101,118,111,107,101,32,50]⟩:ByteArray),(⟨#[102,111,114,103,101,116,32,49]⟩:ByteArray),(⟨#[109,111,118,101,32,48,32,49,32,49]⟩:ByteArray),(⟨#[98,97,99,107,100,97,116,101,32,50,32,53]⟩:ByteArray),(⟨#[102,97,107,101,32,49,32,52,48]⟩:ByteArray),(⟨#[114,101,110,101,119,32,48,32,48,32,49]⟩:ByteArray),(⟨#[114,101,110,101,119,32,48,32,45,53,32,49,32,50]⟩:ByteArray),(⟨#[114,101,110,101,119,32,48,32,51,48,32,49,32,50,32,51]⟩:ByteArray),(⟨#[114,101,110,101,119,32,49,32,48,32,50,32,51,32,52]⟩:ByteArray),(⟨#[106,117,100,103,101,32,49]⟩:ByteArray),(⟨#[106,117,100,103,101,32,50]⟩:ByteArray),(⟨#[106,117,100,103,101,32,57]⟩:ByteArray),(⟨#[115,104,111,119,32,48]⟩:ByteArray),(⟨#[115,104,111,119,32,50]⟩:ByteArray),(⟨#[104,105,100,101,32,49,32,48]⟩:ByteArray),(⟨#[104,105,100,101,32,57,32,48]⟩:ByteArray),(⟨#[100,117,101,32,48,32,49,48]⟩:ByteArray),(⟨#[112,108,97,110]⟩:ByteArray),(⟨#[108,105,97,114,115]⟩:ByteArray),(⟨#[115,105,122,101,32,48]⟩:ByteArray),(⟨#[119,111,114,108,100]⟩:ByteArray),(⟨#[97,117,100,105,116]⟩:ByteArray),(⟨#[]⟩:ByteArray),(⟨#[119,104,97,116]⟩:ByteArray),(⟨#[114,101,110,101,119,32,48,32,45,45,49,32,49]⟩:ByteArray),(⟨#[115,105,103,110,32,48,32,120,32,49,32,49,32,97]⟩:ByteArray),(⟨#[116,105,99,107]⟩:ByteArray),(⟨#[119,111,114,108,100,32,49]⟩:ByteArray)]:List ByteArray);(b.1,b.2)
def ZQ(a0:List UInt8):ZF×ByteArray:=letI b:=qk (WT a0);(b.2,(KI b.1).2)
def Qg(a0:ByteArray)(a1:Int):Nat->List ByteArray->Int->Nat->List ByteArray
  |0,_,_,_=>default
  |n1+1,J,U,ib=>letI b:=(ib:Int);letI c:=(a0.size:Int);bif b<=c then bif b==c||((bAt a0 ib):Int)==a1 then Qg a0 a1 n1 (J++([a0.extract U.toNat ib]:List ByteArray)) (W (b+1)) (ib+1)else Qg a0 a1 n1 J U (ib+1)else J
def Zb(a0:ByteArray)(a1:Int):List ByteArray:=match Qg a0 a1 (a0.size+2) ([]:List ByteArray) 0 0 with|ic=>ic
def zY(a0:ByteArray):Nat->List ByteArray->Nat->List ByteArray
  |0,_,_=>default
  |n1+1,J,U=>letI b:=Zb a0 32;bif(U:Int)<(b.length:Int)then bif !decide (nth b U=(⟨#[]⟩:ByteArray))then zY a0 n1 (J++([nth b U]:List ByteArray)) (U+1)else zY a0 n1 J (U+1)else J
def Zq(a0:ByteArray):List ByteArray:=match zY a0 ((Zb a0 32).length+1) ([]:List ByteArray) 0 with|ic=>ic
def QS:Nat->Int->List UInt8->List UInt8
  |0,_,_=>default
  |n1+1,J,U=>letI b:=Int.tmod J 10;letI c:=W (Int.tdiv J 10);letI d:=([UInt8.ofInt (W (48+W (-b)))]:List UInt8)++U;letI e:=([UInt8.ofInt (W (48+b))]:List UInt8)++U;bif b<0 then bif c==0 then d else QS n1 c d else bif c==0 then e else QS n1 c e
def Z8(a0:Int):ByteArray:=(match QS 21 a0 ([]:List UInt8)with|ic=>letI b:=(⟨ic.toArray⟩:ByteArray);bif a0<0 then(⟨#[45]⟩:ByteArray)++b else b)
def OK(a0:ByteArray):Nat->Int->Nat->Sum (Int×Bool) Int
  |0,_,_=>.inr default
  |n1+1,J,U=>letI b:=((bAt a0 U):Int);bif(U:Int)<(a0.size:Int)then bif b<48||b>57 then .inl (0,false)else OK a0 n1 (W (W (10*J)+W (IntKind.u8.wrap (b-48)))) (U+1)else .inr J
def Xo(a0:ByteArray):Int×Bool:=bif a0=(⟨#[]⟩:ByteArray)||(a0.size:Int)>13 then(0,false)else(match OK a0 (a0.size+1) 0 0 with|.inl r1=>r1|.inr ic=>bif ic>1000000000000||!decide (Z8 ic=a0)then(0,false)else(ic,true))
def J3(a0:List ByteArray):Nat->List Int->Nat->Sum (List Int×Bool) (List Int)
  |0,_,_=>.inr default
  |n1+1,J,U=>letI b:=Xo (nth a0 U);bif(U:Int)<(a0.length:Int)then bif !b.2 then .inl (([]:List Int),false)else J3 a0 n1 (J++([b.1]:List Int)) (U+1)else .inr J
def Ze(a0:List ByteArray):(List Int)×Bool:=match J3 a0 (a0.length+1) ([]:List Int) 0 with|.inl r1=>r1|.inr ic=>(ic,true)
def ZP(a0 a1 a2:Int):Bool:=decide (a1<=a0)&&decide (a0<=a2)
def TE(a0:Int):Bool:=ZP a0 1 2147483646
def pr(a0 a1:Int):Int:=bif !(ZP a1 1 1000000000000)then 0 else Int.tmod (W (Int.tmod a0 a1+a1)) a1
def Dq(a0:List Int):Nat->Int->Nat->Int
  |0,_,_=>default
  |n1+1,J,U=>bif(U:Int)<(a0.length:Int)then Dq a0 n1 (Int.tmod (W (W (W (J*1000003)+pr (nth a0 U) 2147483647)+13)) 2147483647) (U+1)else J
def wO(a0:List Int):Int:=match Dq a0 (a0.length+1) 11 0 with|ic=>ic
def ko(a0:Int)(a1:List Int):Int:=letI b:=([a0]:List Int);wO (b++a1++b)
def uM(a0 a1:Int):Int:=if a1>a0 then a1 else a0
def SB(a0:ZL):Nat->Nat->Sum Bool Unit
  |0,_=>.inr ()
  |n1+1,J=>bif(J:Int)<(a0.Yf.length:Int)then bif((nth a0.Yf J).size:Int)>40||!(ZP (nth a0.Xl J) 1 1000000000000)then .inl false else SB a0 n1 (J+1)else .inr ()
def JU(a0:ZL):Bool:=letI b:=a0.Yf.length;bif !(ZP a0.KK 0 999)||!(ZP (b:Int) 1 6)||(a0.Xl.length:Int)!=(b:Int)then false else(match SB a0 (b+1) 0 with|.inl r1=>r1|.inr _=>true)
def yK(a0:Int)(a1:List ByteArray)(a2:Int):Nat->Nat->List Int->List Int
  |0,_,_=>default
  |n1+1,J,U=>bif(J:Int)<(a1.length:Int)then yK a0 a1 a2 n1 (J+1) (U++([uM 1 (ko a2 ([a0,(J:Int)]:List Int))]:List Int))else U
def X5(a0:Int)(a1:List ByteArray)(a2:Int):ZL×Bool:=letI b:=([]:List Int);letI c:=(ZL.mk 0 ([]:List ByteArray) b,false);bif !(TE a2)||(a1.length:Int)>6 then c else(match yK a0 a1 a2 (a1.length+1) 0 b with|ic=>letI d:=ZL.mk a0 a1 ic;bif !(JU d)then c else(d,true))
def MD(a0:ZT):ZT:=a0
def IA(a0:List Int):List Int:=a0
def SZ(a0:ZL):ZL:=a0
def MQ(a0:ZV):ZV:=a0
def VA(a0:List ZV):Nat->List ZV->Nat->List ZV
  |0,_,_=>default
  |n1+1,J,U=>bif(U:Int)<(a0.length:Int)then VA a0 n1 (J++([nth a0 U]:List ZV)) (U+1)else J
def U7(a0:List ZV):List ZV:=match VA a0 (a0.length+1) ([]:List ZV) 0 with|ic=>ic
def Oi(a0:List ZX):List ZX:=a0
def Rr(a0:ZZ):ZZ:=a0
def WS(a0:ZU):Nat->Nat->List ZZ->List ZZ
  |0,_,_=>default
  |n1+1,J,U=>bif(J:Int)<(a0.ZR.length:Int)then WS a0 n1 (J+1) (U++([nth a0.ZR J]:List ZZ))else U
def TG(a0:ZU):ZU:=match WS a0 (a0.ZR.length+1) 0 ([]:List ZZ)with|ic=>ZU.mk a0.ZM ic
def Lq(a0:ZO):ZO:=a0
def kJ(a0:ZD):Nat->Nat->List ZO->List ZO
  |0,_,_=>default
  |n1+1,J,U=>bif(J:Int)<(a0.ZE.length:Int)then kJ a0 n1 (J+1) (U++([nth a0.ZE J]:List ZO))else U
def UB(a0:ZD):ZD:=match kJ a0 (a0.ZE.length+1) 0 ([]:List ZO)with|ic=>ZD.mk a0.Id ic
def V1(a0:ZF):Nat->Nat->List ZD->List ZD
  |0,_,_=>default
  |n1+1,J,U=>bif(J:Int)<(a0.ZA.length:Int)then V1 a0 n1 (J+1) (U++([nth a0.ZA J]:List ZD))else U
def Sp(a0:ZF):ZF:=match V1 a0 (a0.ZA.length+1) 0 ([]:List ZD)with|ic=>ZF.mk a0.Frame a0.Zd a0.YW ic a0.XW a0.XA a0.Next a0.Ym
def ka(a0:ZF)(a1:Int):ZF×Bool:=letI b:=a0.Frame;letI c:=W (b.Now+a1);bif !(ZP a1 0 100)||c>10000 then(a0,false)else(ZF.mk (ZT.mk b.Zz b.ZC b.Methods b.Jb c) a0.Zd a0.YW a0.ZA a0.XW a0.XA a0.Next a0.Ym,true)
def Sw(a0:List Yg)(a1:Int):Nat->Nat->Sum Int Unit
  |0,_=>.inr ()
  |n1+1,J=>bif(J:Int)<(a0.length:Int)then bif(nth a0 J).Number==a1 then .inl (J:Int)else Sw a0 a1 n1 (J+1)else .inr ()
def YU(a0:List Yg)(a1:Int):Int:=match Sw a0 a1 (a0.length+1) 0 with|.inl r1=>r1|.inr _=>-1
def Wj(a0:List Z9)(a1:Int):Nat->Int->Nat->Int
  |0,_,_=>default
  |n1+1,J,U=>letI b:=nth a0 U;bif(U:Int)<(a0.length:Int)then bif b.PR<=a1&&a1<b.Ends&&(J<0||b.Ends>(nth a0 J.toNat).Ends)then Wj a0 a1 n1 (U:Int) (U+1)else Wj a0 a1 n1 J (U+1)else J
def Zc(a0:List Z9)(a1:Int):Int:=match Wj a0 a1 (a0.length+1) (-1) 0 with|ic=>bif ic<0 then-1 else(nth a0 ic.toNat).Id
def YH(a0:ZF)(a1:Int):Bool:=ZP a1 0 (W ((a0.ZA.length:Int)-1))
def UN(a0:List UInt8):Nat->List Int->Nat->List Int
  |0,_,_=>default
  |n1+1,J,U=>bif(U:Int)<(a0.length:Int)then UN a0 n1 (J++([W ((nth a0 U).toNat:Int)]:List Int)) (U+1)else J
def TY(a0:List UInt8):List Int:=match UN a0 (a0.length+1) ([]:List Int) 0 with|ic=>ic
def Je(a0:Int)(a1:List Int):Int:=wO (([7,a0]:List Int)++a1)
def je(a0:Int)(a1:ByteArray)(a2:Int):Int:=Je a0 (([a2]:List Int)++TY a1.data.toList)
def PF(a0:Int)(a1:ZL):Nat->List Int->Nat->List Int
  |0,_,_=>default
  |n1+1,J,U=>bif(U:Int)<(a1.Yf.length:Int)then PF a0 a1 n1 (J++([je a0 (nth a1.Yf U) (nth a1.Xl U)]:List Int)) (U+1)else J
def Y5(a0:Int)(a1:ZL):Int:=bif !(JU a1)then-1 else(match PF a0 a1 (a1.Yf.length+1) ([a1.KK]:List Int) 0 with|ic=>Je a0 ic)
def X9(a0:Zs):List Int:=([104,a0.Key,a0.Zk,a0.Method,a0.Y6,a0.kl,a0.Org,a0.kj,a0.Wl]:List Int)
def L1(a0:Yg)(a1:List Int):Int:=ko a0.Um (([a0.Method]:List Int)++a1)
def yN(a0:List Yg)(a1:Int)(a2:List Int):Int×Bool:=letI b:=YU a0 a1;bif b<0 then(0,false)else(L1 (nth a0 b.toNat) a2,true)
def j6(a0:Zs):Bool:=ZP a0.Key 1 99&&ZP a0.Zk 1 999&&ZP a0.Method 0 99&&ZP a0.Org 0 99&&ZP a0.kl 1 3&&ZP a0.Y6 0 1000000000000&&ZP a0.kj 0 1000000000000&&ZP a0.Wl 0 1000000000000
def Xe(a0:List Yg)(a1:Zs):Zs×Bool:=letI b:=yN a0 a1.Key (X9 a1);bif !(j6 a1)||!b.2 then(Zs.mk 0 0 0 0 0 0 0 0 0,false)else(Zs.mk a1.Key a1.Zk a1.Method a1.Y6 a1.kl a1.Org a1.kj a1.Wl b.1,true)
def XE(a0:Zs):ZV:=ZV.mk a0.Key (X9 a0) a0.Mark
def zE(a0:YL):List Int:=([101,a0.Zk,a0.Key,a0.z9,a0.Xv,a0.To,a0.YG]:List Int)
def zl(a0:YL):ZV:=ZV.mk a0.YG (zE a0) a0.Mark
def TI(a0:ZD)(a1:Int):Nat->Nat->Sum Int Unit
  |0,_=>.inr ()
  |n1+1,J=>bif(J:Int)<(a0.ZE.length:Int)then bif(nth a0.ZE J).Id==a1 then .inl (J:Int)else TI a0 a1 n1 (J+1)else .inr ()
def Z1(a0:ZD)(a1:Int):Int:=match TI a0 a1 (a0.ZE.length+1) 0 with|.inl r1=>r1|.inr _=>-1
def qT(a0:Int):Bool:=ZP a0 0 10000
def V3(a0 a1:List Int):Nat->Nat->Sum Bool Unit
  |0,_=>.inr ()
  |n1+1,J=>bif(J:Int)<(a0.length:Int)then bif nth a0 J !=nth a1 J then .inl false else V3 a0 a1 n1 (J+1)else .inr ()
def zm(a0 a1:List Int):Bool:=bif(a0.length:Int)!=(a1.length:Int)then false else(match V3 a0 a1 (a0.length+1) 0 with|.inl r1=>r1|.inr _=>true)
def Jz(a0 a1:ZV):Bool:=a0.Key==a1.Key&&a0.Mark==a1.Mark&&zm a0.YS a1.YS
def OU(a0:List ZV)(a1:ZV):Nat->Nat->Sum Bool Unit
  |0,_=>.inr ()
  |n1+1,J=>bif(J:Int)<(a0.length:Int)then bif Jz (nth a0 J) a1 then .inl true else OU a0 a1 n1 (J+1)else .inr ()
def VU(a0:List ZV)(a1:ZV):Bool:=match OU a0 a1 (a0.length+1) 0 with|.inl r1=>r1|.inr _=>false
def U4(a0:ZU):Nat->Nat->Sum Bool Unit
  |0,_=>.inr ()
  |n2+1,ia=>letI b:=(nth a0.ZR ia).Count;bif(ia:Int)<(a0.ZR.length:Int)then bif !(ZP b 1 (a0.ZM.length:Int))||(ia:Int)>0&&b<(nth a0.ZR (ia-1)).Count then .inl false else U4 a0 n2 (ia+1)else .inr ()
def TL(a0:ZU):Nat->Nat->Sum Bool Unit
  |0,_=>.inr ()
  |n1+1,J=>bif(J:Int)<(a0.ZM.length:Int)then bif VU (a0.ZM.take J) (nth a0.ZM J)then .inl false else TL a0 n1 (J+1)else .inr ()
def kW(a0:ZU):Bool:=letI b:=a0.ZM.length;letI c:=a0.ZR.length;bif !(ZP (b:Int) 1 12)||(c:Int)>8 then false else(match TL a0 (b+1) 0 with|.inl r1=>r1|.inr _=>(match U4 a0 (c+1) 0 with|.inl r2=>r2|.inr _=>true))
def I8(a0:ZO):Bool:=ZP a0.Id 1 999&&qT a0.XL&&JU a0.Doc&&kW a0.ZN&&Jz (nth a0.ZN.ZM 0) (XE a0.Sig)
def R4(a0:ZD):Nat->Nat->Sum Bool Unit
  |0,_=>.inr ()
  |n1+1,J=>letI b:=nth a0.ZE J;bif(J:Int)<(a0.ZE.length:Int)then bif !(I8 b)||(J:Int)>0&&(nth a0.ZE (J-1)).Id>=b.Id then .inl false else R4 a0 n1 (J+1)else .inr ()
def zg(a0:ZD):Bool:=letI b:=a0.ZE.length;match R4 a0 (b+1) 0 with|.inl r1=>r1|.inr _=>ZP a0.Id 0 99&&decide ((b:Int)<=8)
def RA(a0:ZD)(a1:ZO):Nat->Nat->Nat
  |0,_=>default
  |n1+1,J=>bif(J:Int)<(a0.ZE.length:Int)&&(nth a0.ZE J).Id<a1.Id then RA a0 a1 n1 (J+1)else J
def K0(a0:ZD)(a1:ZO):ZD×Bool:=bif Z1 a0 a1.Id>=0||!(zg a0)then(a0,false)else(match RA a0 a1 (a0.ZE.length+1) 0 with|ic=>letI b:=ZD.mk a0.Id (a0.ZE.take ic++([a1]:List ZO)++a0.ZE.drop ic);bif !(zg b)then(a0,false)else(b,true))
def Jr(a0:ZF)(a1 a2:Int)(a3:ZL)(a4 a5:Int):Nat->Nat->Sum (ZF×Bool) Unit
  |0,_=>.inr ()
  |n1+1,J=>letI b:=nth a0.Zd J;letI c:=a0.Frame;letI d:=Zc c.Methods c.Now;letI e:=Xe c.Zz (Zs.mk a2 b.Zk d (Y5 d a3) 1 a4 0 0 0);letI f:=K0 (nth a0.ZA a1.toNat) (ZO.mk a0.Next a5 a3 e.1 (ZU.mk ([XE e.1,zl b]:List ZV) ([]:List ZZ)));bif(J:Int)<(a0.Zd.length:Int)then bif b.Key !=a2 then Jr a0 a1 a2 a3 a4 a5 n1 (J+1)else bif !e.2||!f.2 then .inl (a0,false)else .inl (ZF.mk c a0.Zd a0.YW (a0.ZA.set a1.toNat f.1) a0.XW a0.XA (W (a0.Next+1)) a0.Ym,true)else .inr ()
def XP(a0:ZF)(a1 a2:Int)(a3:ZL)(a4 a5:Int):ZF×Bool:=letI b:=a0.Frame;bif !(YH a0 a1)||YU b.Zz a2<0||Zc b.Methods b.Now<0 then(a0,false)else(match Jr a0 a1 a2 a3 a4 a5 (a0.Zd.length+1) 0 with|.inl r1=>r1|.inr _=>(a0,false))
def kU(a0:ZF)(a1 a2:Int)(a3:ZL)(a4 a5:Int):ZF×Bool:=letI b:=YU a0.Frame.Zz a2;letI c:=XP a0 a1 a2 a3 a4 a5;bif b<0||(nth a0.Frame.Zz b.toNat).OT>a0.Frame.Now then(a0,false)else(c.1,c.2)
def Sc(a0:ZF)(a1:Int):Nat->Nat->Sum (Int×Int) Unit
  |0,_=>.inr ()
  |n1+1,J=>letI b:=Z1 (nth a0.ZA J) a1;bif(J:Int)<(a0.ZA.length:Int)then bif b>=0 then .inl ((J:Int),b)else Sc a0 a1 n1 (J+1)else .inr ()
def ZW(a0:ZF)(a1:Int):Int×Int:=match Sc a0 a1 (a0.ZA.length+1) 0 with|.inl r1=>r1|.inr _=>(-1,-1)
def XN(a0:ZV):Int:=letI b:=(a0.YS.length:Int);letI c:=nth a0.YS 0;bif b==0||!(ZP c 101 105)||b !=nth ([7,5,5,9,6]:List Int) (W (c-101)).toNat then 0 else c
def Xg(a0:ZV):YL×Bool:=letI b:=a0.YS;bif XN a0 !=101||nth b 6 !=a0.Key then(YL.mk 0 0 0 0 0 0 0,false)else(YL.mk (nth b 1) (nth b 2) (nth b 3) (nth b 4) (nth b 5) (nth b 6) a0.Mark,true)
def TH(a0:List YL)(a1:Int):Nat->Nat->Sum Int Unit
  |0,_=>.inr ()
  |n1+1,J=>bif(J:Int)<(a0.length:Int)then bif(nth a0 J).Zk==a1 then .inl (J:Int)else TH a0 a1 n1 (J+1)else .inr ()
def VI(a0:List YL)(a1:Int):Int:=match TH a0 a1 (a0.length+1) 0 with|.inl r1=>r1|.inr _=>-1
def Yc(a0:ZF)(a1:Int):Int×Int×Bool:=letI b:=ZW a0 a1;letI c:=(nth (nth a0.ZA b.1.toNat).ZE b.2.toNat).ZN.ZM;letI d:=Xg (nth c 1);letI e:=VI a0.Zd d.1.Zk;bif b.1<0||(c.length:Int)<2 then(0,0,false)else(b.1,e,d.2&&e>=0)
def Kd(a0:Zx):List Int:=([102,a0.Zk,a0.Mz,a0.YW,a0.YG]:List Int)
def L5(a0:Zx):Bool:=ZP a0.Zk 1 999&&qT a0.Mz&&ZP a0.YW (-1) (W (a0.Mz+1))&&ZP a0.YG 1 99
def Kb(a0:List Yg)(a1:Zx):Zx×Bool:=letI b:=yN a0 a1.YG (Kd a1);bif !(L5 a1)||!b.2 then(Zx.mk 0 0 0 0 0,false)else(Zx.mk a1.Zk a1.Mz a1.YW a1.YG b.1,true)
def z5(a0:Zx):ZV:=ZV.mk a0.YG (Kd a0) a0.Mark
def qb(a0:ZU)(a1:ZV):ZU×Bool:=letI b:=ZU.mk (a0.ZM++([a1]:List ZV)) a0.ZR;bif !(kW b)then(a0,false)else(b,true)
def qN(a0:ZD)(a1:Int)(a2:ZV):ZD×Bool:=letI b:=Z1 a0 a1;letI c:=nth a0.ZE b.toNat;letI d:=qb c.ZN a2;bif b<0 then(a0,false)else(ZD.mk a0.Id (a0.ZE.set b.toNat (ZO.mk c.Id c.XL c.Doc c.Sig d.1)),d.2)
def KP(a0:ZF)(a1 a2:Int)(a3:Zx):ZF×Bool:=letI b:=Kb a0.Frame.Zz a3;letI c:=qN (nth a0.ZA a1.toNat) a2 (z5 b.1);bif !b.2||!c.2 then(a0,false)else(ZF.mk a0.Frame a0.Zd a0.YW (a0.ZA.set a1.toNat c.1) a0.XW a0.XA a0.Next a0.Ym,true)
def y9(a0:ZF)(a1:Int):ZF×Bool:=letI b:=Yc a0 a1;letI c:=nth a0.Zd b.2.1.toNat;letI d:=YU a0.Frame.Zz c.YG;letI e:=a0.Frame.Now;letI f:=nth a0.YW b.2.1.toNat;letI g:=KP a0 b.1 a1 (Zx.mk c.Zk e (-1) c.YG 0);letI h:=KP a0 b.1 a1 (Zx.mk c.Zk e f c.YG 0);bif !b.2.2||b.2.1>=(a0.YW.length:Int)then(a0,false)else bif d<0||(nth a0.Frame.Zz d.toNat).OT>e then(a0,false)else bif f>W (e+1)then(g.1,g.2)else(h.1,h.2)
def yq(a0:ZF)(a1:Int):ZF×Bool:=bif !(ZP a1 0 (W ((a0.YW.length:Int)-1)))||nth a0.YW a1.toNat !=-1 then(a0,false)else(ZF.mk a0.Frame a0.Zd (a0.YW.set a1.toNat (W (a0.Frame.Now+1))) a0.ZA a0.XW a0.XA a0.Next a0.Ym,true)
def PE(a0:List Int):Nat->Nat->Sum Bool Unit
  |0,_=>.inr ()
  |n1+1,J=>bif(J:Int)<(a0.length:Int)then bif nth a0 (J-1)>=nth a0 J then .inl false else PE a0 n1 (J+1)else .inr ()
def UK(a0:List Int):Bool:=match PE a0 (a0.length+1) 1 with|.inl r1=>r1|.inr _=>true
def Ku(a0:ZX):List Int:=([103,a0.Authority,a0.Seq,a0.Time,a0.Y6]:List Int)
def WQ(a1:ZZ):Nat->List Int->Nat->List Int
  |0,_,_=>default
  |n2+1,ia,iZ=>letI b:=nth a1.YK iZ;bif(iZ:Int)<(a1.YK.length:Int)then WQ a1 n2 (ia++Ku b++([b.Mark]:List Int)) (iZ+1)else ia
def xo(a1:ZZ):Nat->List Int->Nat->List Int
  |0,_,_=>default
  |n1+1,J,U=>letI b:=nth a1.Path U;bif(U:Int)<(a1.Path.length:Int)then bif b.Left then xo a1 n1 (J++([b.Y6,1]:List Int)) (U+1)else xo a1 n1 (J++([b.Y6,0]:List Int)) (U+1)else J
def KS(a0:Int)(a1:ZZ):Int:=letI b:=a1.YK.length;match xo a1 (a1.Path.length+1) ([4,a1.Count,a1.Method,a1.BE]:List Int) 0 with|ic=>(match WQ a1 (b+1) (ic++([(b:Int)]:List Int)) 0 with|gX=>Je a0 gX)
def Vv(a0:Int)(a1:List ZV):Nat->List Int->Nat->List Int
  |0,_,_=>default
  |n1+1,J,U=>letI b:=nth a1 U;bif(U:Int)<(a1.length:Int)then Vv a0 a1 n1 (J++([Je a0 (([b.Key,b.Mark]:List Int)++b.YS)]:List Int)) (U+1)else J
def yL(a0:Int)(a1:List ZV):Int:=match Vv a0 a1 (a1.length+1) ([2]:List Int) 0 with|ic=>Je a0 ic
def Pa(a0 a1:Int)(a2:List ZV)(a3:Int):Int:=Je a0 ([3,a1,yL a0 a2,a3]:List Int)
def Ky(a0:ZO)(a1:Int):Int:=letI b:=a0.ZN.ZR.length;letI c:=Y5 a1 a0.Doc;bif(b:Int)>0 then Pa a1 c a0.ZN.ZM (KS a1 (nth a0.ZN.ZR (b-1)))else Pa a1 c a0.ZN.ZM 0
def UA(a0:ZD)(a1:Int):Nat->List Int->Nat->List Int
  |0,_,_=>default
  |n1+1,J,U=>bif(U:Int)<(a0.ZE.length:Int)then UA a0 a1 n1 (J++([Ky (nth a0.ZE U) a1]:List Int)) (U+1)else J
def Q6(a0:ZD)(a1:Int):List Int:=match UA a0 a1 (a0.ZE.length+1) ([]:List Int) 0 with|ic=>ic
def Ww(a0 a1 a2:Int):Int:=Je a0 ([1,a1,a2]:List Int)
def yT(a0:Int)(a1:List Int):Nat->List Int->Nat->List Int
  |0,_,_=>default
  |n1+1,J,U=>letI b:=(a1.length:Int);letI c:=W ((U:Int)+1);letI d:=nth a1 U;bif(U:Int)<b then bif c<b then yT a0 a1 n1 (J++([Ww a0 d (nth a1 c.toNat)]:List Int)) (U+2)else yT a0 a1 n1 (J++([d]:List Int)) (U+2)else J
def zZ(a0:Int)(a1:List Int):List Int:=match yT a0 a1 (a1.length+1) ([]:List Int) 0 with|ic=>ic
def P4(a0:Int):Nat->List Int->List Int
  |0,_=>default
  |n1+1,J=>bif(J.length:Int)>1 then P4 a0 n1 (zZ a0 J)else J
def P0(a0:Int)(a1:List Int):Int:=bif !(ZP (a1.length:Int) 1 16)then-1 else(match P4 a0 (a1.length+1) a1 with|ic=>nth ic 0)
def KM(a0:ZD)(a1:Int):Int:=P0 a1 (Q6 a0 a1)
def xq(a0:List Za)(a1:Int):Nat->Nat->Sum Int Unit
  |0,_=>.inr ()
  |n1+1,J=>bif(J:Int)<(a0.length:Int)then bif(nth a0 J).Id==a1 then .inl (J:Int)else xq a0 a1 n1 (J+1)else .inr ()
def Zr(a0:List Za)(a1:Int):Int:=match xq a0 a1 (a0.length+1) 0 with|.inl r1=>r1|.inr _=>-1
def RR(a0:List Int)(a1:Int):Nat->Nat->Sum Int Unit
  |0,_=>.inr ()
  |n1+1,J=>bif(J:Int)<(a0.length:Int)then bif nth a0 J==a1 then .inl (J:Int)else RR a0 a1 n1 (J+1)else .inr ()
def yf(a0:List Int)(a1:Int):Int:=match RR a0 a1 (a0.length+1) 0 with|.inl r1=>r1|.inr _=>-1
def qc(a0:List Int)(a1:Int):Bool:=decide (yf a0 a1>=0)
def QC(a0:List Yg)(a1:List Za)(a2:ZX):ZX×Bool:=letI b:=a2.Authority;letI c:=(ZX.mk 0 0 0 0 0,false);letI d:=yN a0 (nth a1 (Zr a1 b).toNat).Key (Ku a2);bif Zr a1 b<0||a2.Seq<0||!(qT a2.Time)then c else bif !d.2 then c else(ZX.mk b a2.Seq a2.Time a2.Y6 d.1,true)
def xD(a0:Int):Nat->List Int->Int->List Xk->List Xk
  |0,_,_,_=>default
  |n1+1,J,U,ib=>letI b:=(J.length:Int);letI c:=zZ a0 J;letI d:=W (Int.tdiv U 2);letI e:=W (U+1);bif b>1 then bif Int.tmod U 2==1 then xD a0 n1 c d (ib++([Xk.mk (nth J (W (U-1)).toNat) true]:List Xk))else bif e<b then xD a0 n1 c d (ib++([Xk.mk (nth J e.toNat) false]:List Xk))else xD a0 n1 c d ib else ib
def y8(a0:Int)(a1:List Int)(a2:Int):List Xk:=letI b:=(a1.length:Int);letI c:=([]:List Xk);bif !(ZP a2 0 (W (b-1)))||b>16 then c else(match xD a0 (a1.length+1) a1 a2 c with|ic=>ic)
def Qr(a0:ZU)(a1:ZZ):ZU×Bool:=letI b:=ZU.mk a0.ZM (a0.ZR++([a1]:List ZZ));bif !(kW b)then(a0,false)else(b,true)
def KW(a0:ZD)(a1:Int)(a2:List ZX):Nat->Nat->List ZO->Sum (ZD×Bool) (List ZO)
  |0,_,_=>.inr default
  |n1+1,J,U=>letI b:=(nth a0.ZE J).ZN;letI c:=Qr b (ZZ.mk (b.ZM.length:Int) a1 (KM a0 a1) (y8 a1 (Q6 a0 a1) (J:Int)) a2);letI d:=nth U J;bif(J:Int)<(a0.ZE.length:Int)then bif !c.2 then .inl (a0,false)else KW a0 a1 a2 n1 (J+1) (U.set J (ZO.mk d.Id d.XL d.Doc d.Sig c.1))else .inr U
def Jy(a0:ZD)(a1:Int)(a2:List ZX):ZD×Bool:=letI b:=a0.ZE.length;bif(b:Int)==0||!(zg a0)then(a0,false)else(match KW a0 a1 a2 (b+1) 0 a0.ZE with|.inl r1=>r1|.inr ic=>letI c:=ZD.mk a0.Id ic;bif !(zg c)then(a0,false)else(c,true))
def Ju(a0:ZF)(a1:Int)(a2:List Int)(a3:Int):Nat->List ZX->Nat->List Int->Sum (ZF×Bool) (List ZX×List Int)
  |0,_,_,_=>.inr (default,default)
  |n1+1,J,U,ib=>letI b:=a0.Frame;letI c:=nth a2 U;letI d:=Zr b.ZC c;letI e:=d.toNat;letI f:=YU b.Zz (nth b.ZC e).Key;letI g:=b.Now;letI h:=nth a0.XW e;letI i:=W (g+a3);letI j:=if i<10000 then i else 10000;letI k:=KM (nth a0.ZA a1.toNat) (Zc b.Methods g);letI l:=QC b.Zz b.ZC (ZX.mk c h (if j>0 then j else 0) k 0);letI m:=ib.set e (W (nth ib e+1));letI n:=QC b.Zz b.ZC (ZX.mk c h g k 0);bif(U:Int)<(a2.length:Int)then bif d<0||d>=(a0.XW.length:Int)then .inl (a0,false)else bif f<0||(nth b.Zz f.toNat).OT>g then .inl (a0,false)else bif qc a0.XA c then bif !l.2 then .inl (a0,false)else Ju a0 a1 a2 a3 n1 (J++([l.1]:List ZX)) (U+1) m else bif !n.2 then .inl (a0,false)else Ju a0 a1 a2 a3 n1 (J++([n.1]:List ZX)) (U+1) m else .inr (J,ib)
def yi(a0:ZF)(a1:Int)(a2:List Int)(a3:Int):ZF×Bool:=letI b:=a0.Frame;letI c:=Zc b.Methods b.Now;bif !(YH a0 a1)||c<0||!(UK a2)||(a2.length:Int)==0||!(ZP a3 (-10000) 10000)then(a0,false)else(match Ju a0 a1 a2 a3 (a2.length+1) ([]:List ZX) 0 a0.XW with|.inl r1=>r1|.inr (ic,z1_1)=>letI d:=Jy (nth a0.ZA a1.toNat) c ic;bif !d.2 then(a0,false)else(ZF.mk b a0.Zd a0.YW (a0.ZA.set a1.toNat d.1) z1_1 a0.XA a0.Next a0.Ym,true))
def Tq(a0:Int)(a1:ZO):Nat->List Int->Nat->List Int
  |0,_,_=>default
  |n1+1,J,U=>bif(U:Int)<(a1.ZN.ZR.length:Int)then Tq a0 a1 n1 (J++([KS a0 (nth a1.ZN.ZR U)]:List Int)) (U+1)else J
def OQ(a0:Int)(a1:ZO):Int:=match Tq a0 a1 (a1.ZN.ZR.length+1) ([5,a1.Id,a1.XL,Y5 a0 a1.Doc,yL a0 a1.ZN.ZM]:List Int) 0 with|ic=>Je a0 ic
def Wo(a0:Int)(a1:List ZO):Nat->List Int->Nat->List Int
  |0,_,_=>default
  |n1+1,J,U=>bif(U:Int)<(a1.length:Int)then Wo a0 a1 n1 (J++([OQ a0 (nth a1 U)]:List Int)) (U+1)else J
def kN(a0:Int)(a1:List ZO):Int:=match Wo a0 a1 (a1.length+1) ([]:List Int) 0 with|ic=>P0 a0 ic
def K7(a0:ZD)(a2:List Int):Nat->Nat->List ZO->Sum (Yy×Bool) (List ZO)
  |0,_,_=>.inr default
  |n1+1,J,U=>letI b:=Z1 a0 (nth a2 J);bif(J:Int)<(a2.length:Int)then bif b<0 then .inl (Yy.mk 0 0 ([]:List ZO) 0,false)else K7 a0 a2 n1 (J+1) (U++([nth a0.ZE b.toNat]:List ZO))else .inr U
def X3(a0:ZD)(a1:Int)(a2:List Int)(a3:Int):Yy×Bool:=letI b:=([]:List ZO);match K7 a0 a2 (a2.length+1) 0 b with|.inl r1=>r1|.inr ic=>bif(a2.length:Int)==0 then(Yy.mk 0 0 b 0,false)else(Yy.mk a0.Id a1 ic (kN a3 ic),true)
def zP(a0:Yy):Nat->Nat->Sum Bool Unit
  |0,_=>.inr ()
  |n1+1,J=>bif(J:Int)<(a0.ZE.length:Int)then bif !(I8 (nth a0.ZE J))then .inl false else zP a0 n1 (J+1)else .inr ()
def j0(a0:Yy)(a1:Int):Bool:=letI b:=a0.ZE.length;match zP a0 (b+1) 0 with|.inl r1=>r1|.inr _=>ZP (b:Int) 1 8&&a0.Y6==kN a1 a0.ZE
def K2(a0:ZD)(a1:Yy):Nat->Nat->Int->List ZO->Sum (ZD×Bool) (Int×List ZO)
  |0,_,_,_=>.inr (default,default)
  |n1+1,J,U,ib=>letI b:=K0 (ZD.mk U ib) (nth a1.ZE J);bif(J:Int)<(a1.ZE.length:Int)then bif !b.2 then .inl (a0,false)else K2 a0 a1 n1 (J+1) b.1.Id b.1.ZE else .inr (U,ib)
def QQ(a0:ZD)(a1:Yy)(a2:Int):ZD×Bool:=bif !(j0 a1 a2)||a1.To !=a0.Id then(a0,false)else(match K2 a0 a1 (a1.ZE.length+1) 0 a0.Id a0.ZE with|.inl r1=>r1|.inr (ic,z1_1)=>(ZD.mk ic z1_1,true))
def qd(a0:ZD)(a1:Int):ZD×Bool:=letI b:=Z1 a0 a1;bif b<0 then(a0,false)else(ZD.mk a0.Id (a0.ZE.take b.toNat++a0.ZE.drop (W (b+1)).toNat),true)
def xY(a0 a1:ZD)(a2:List Int):Nat->Nat->Int->List ZO->Sum (ZD×ZD×Bool) (Int×List ZO)
  |0,_,_,_=>.inr (default,default)
  |n1+1,J,U,ib=>letI b:=qd (ZD.mk U ib) (nth a2 J);bif(J:Int)<(a2.length:Int)then bif !b.2 then .inl (a0,a1,false)else xY a0 a1 a2 n1 (J+1) b.1.Id b.1.ZE else .inr (U,ib)
def Xy(a0 a1:ZD)(a2:List Int)(a3:Int):ZD×ZD×Bool:=letI b:=X3 a0 a1.Id a2 a3;letI c:=QQ a1 b.1 a3;bif !b.2||!c.2 then(a0,a1,false)else(match xY a0 a1 a2 (a2.length+1) 0 a0.Id a0.ZE with|.inl r1=>r1|.inr (ic,z1_1)=>(ZD.mk ic z1_1,c.1,true))
def kn(a0:ZF)(a1 a2 a3:Int):ZF×Bool:=letI b:=a0.Frame;letI c:=Zc b.Methods b.Now;letI d:=Xy (nth a0.ZA a1.toNat) (nth a0.ZA a2.toNat) ([a3]:List Int) c;bif !(YH a0 a1)||!(YH a0 a2)||a1==a2||c<0 then(a0,false)else bif d.2.2 then(ZF.mk b a0.Zd a0.YW ((a0.ZA.set a1.toNat d.1).set a2.toNat d.2.1) a0.XW a0.XA a0.Next a0.Ym,d.2.2)else(a0,d.2.2)
def J6(a0:ZD)(a1:Int):Nat->Nat->List ZO->List ZO
  |0,_,_=>default
  |n1+1,J,U=>letI b:=nth a0.ZE J;bif(J:Int)<(a0.ZE.length:Int)then bif b.XL>=a1 then J6 a0 a1 n1 (J+1) (U++([b]:List ZO))else J6 a0 a1 n1 (J+1) U else U
def jQ(a0:ZD)(a1:Int):ZD×Int:=letI b:=a0.ZE.length;match J6 a0 a1 (b+1) 0 ([]:List ZO)with|ic=>(ZD.mk a0.Id ic,W ((b:Int)-(ic.length:Int)))
def yw(a0:ZF)(a1:Int):ZF×Bool:=bif !(YH a0 a1)then(a0,false)else(ZF.mk a0.Frame a0.Zd a0.YW (a0.ZA.set a1.toNat (jQ (nth a0.ZA a1.toNat) a0.Frame.Now).1) a0.XW a0.XA a0.Next a0.Ym,true)
def Wc(a0:List Z9)(a1:Int):Nat->Nat->Sum Int Unit
  |0,_=>.inr ()
  |n1+1,J=>bif(J:Int)<(a0.length:Int)then bif(nth a0 J).Id==a1 then .inl (J:Int)else Wc a0 a1 n1 (J+1)else .inr ()
def QF(a0:List Z9)(a1:Int):Int:=match Wc a0 a1 (a0.length+1) 0 with|.inl r1=>r1|.inr _=>-1
def kz(a0:List Z9)(a1:Int):Int:=letI b:=QF a0 a1;bif b>=0 then(nth a0 b.toNat).Uc else 0
def WV(a0:ZT)(a1:Int):Int:=letI b:=YU a0.Zz a1;bif b<0 then 0 else kz a0.Methods (nth a0.Zz b.toNat).Method
def Tr(a0:ZT)(a1:Int):Bool:=decide (YU a0.Zz a1>=0)&&decide (a0.Now>=WV a0 a1)
def ym(a0:ZF)(a1 a2:Int)(a3:ZL):ZF×Bool:=letI b:=XP a0 a1 a2 a3 0 10000;letI c:=b.1;bif !(Tr a0.Frame a2)then(a0,false)else bif b.2 then(ZF.mk c.Frame c.Zd c.YW c.ZA c.XW c.XA c.Next (c.Ym++([a0.Next]:List Int)),b.2)else(c,b.2)
def J9(a0:ZF):Nat->List Int->Nat->List Int
  |0,_,_=>default
  |n1+1,J,U=>letI b:=nth a0.Frame.ZC U;bif(U:Int)<(a0.Frame.ZC.length:Int)then bif qc a0.XA b.Id||Tr a0.Frame b.Key then J9 a0 n1 (J++([b.Id]:List Int)) (U+1)else J9 a0 n1 J (U+1)else J
def YP(a0:ZF):List Int:=match J9 a0 (a0.Frame.ZC.length+1) ([]:List Int) 0 with|ic=>ic
def Jj(a0:ZF)(a1 a2:Int):Nat->Nat->List ZX->Sum (ZF×Bool) (List ZX)
  |0,_,_=>.inr default
  |n1+1,J,U=>letI b:=a0.Frame;letI c:=ZW a0 a1;letI d:=QC b.Zz b.ZC (ZX.mk (nth (YP a0) J) 0 a2 (Ky (nth (nth a0.ZA c.1.toNat).ZE c.2.toNat) (Zc b.Methods b.Now)) 0);bif(J:Int)<((YP a0).length:Int)then bif !d.2 then .inl (a0,false)else Jj a0 a1 a2 n1 (J+1) (U++([d.1]:List ZX))else .inr U
def KB(a0:ZF)(a1 a2:Int):ZF×Bool:=letI b:=ZW a0 a1;letI c:=a0.Frame;letI d:=Zc c.Methods c.Now;letI e:=(YP a0).length;letI f:=nth a0.ZA b.1.toNat;letI g:=nth f.ZE b.2.toNat;bif !(qc a0.Ym a1)||b.1<0||d<0||(e:Int)==0 then(a0,false)else(match Jj a0 a1 a2 (e+1) 0 ([]:List ZX)with|.inl r1=>r1|.inr ic=>letI h:=Qr g.ZN (ZZ.mk (g.ZN.ZM.length:Int) d (Ky g d) ([]:List Xk) ic);(ZF.mk c a0.Zd a0.YW (a0.ZA.set b.1.toNat (ZD.mk f.Id (f.ZE.set b.2.toNat (ZO.mk g.Id g.XL g.Doc g.Sig h.1)))) a0.XW a0.XA a0.Next a0.Ym,h.2))
def kg(a0:ZF)(a1 a2:Int):ZF×Bool:=letI b:=Yc a0 a1;letI c:=nth a0.Zd b.2.1.toNat;letI d:=KP a0 b.1 a1 (Zx.mk c.Zk a2 (-1) c.YG 0);bif !b.2.2||!(Tr a0.Frame c.YG)then(a0,false)else(d.1,d.2)
def QG(a0:ZF)(a1:Zo):ZF×Bool:=letI b:=a1.Kind;letI c:=a1.A;letI d:=a1.B;letI e:=kU a0 c d a1.Doc a1.C a1.D;letI f:=yi a0 c a1.Ids d;letI g:=kn a0 c d a1.C;letI h:=ym a0 c d a1.Doc;letI i:=KB a0 c d;letI j:=kg a0 c d;bif b==1 then((ka a0 c).1,(ka a0 c).2)else bif b==2 then(e.1,e.2)else bif b==3 then((y9 a0 c).1,(y9 a0 c).2)else bif b==4 then((yq a0 c).1,(yq a0 c).2)else bif b==5 then(f.1,f.2)else bif b==6 then(g.1,g.2)else bif b==7 then((yw a0 c).1,(yw a0 c).2)else bif b==8 then(h.1,h.2)else bif b==9 then(i.1,i.2)else bif b==10 then(j.1,j.2)else(a0,false)
def KR(a0:ZF)(a1:List ByteArray)(a2:Int):ZF×ByteArray:=letI b:=W (a2+1);letI c:=(a0,(⟨#[119,104,97,116]⟩:ByteArray));letI d:=Ze (a1.tail.take (b.toNat-1));letI e:=nth d.1 0;letI f:=nth d.1 1;letI g:=(X5 (nth d.1 (d.1.length-1)) (a1.drop b.toNat) 11).1;letI h:=([]:List Int);letI i:=QG a0 (Zo.mk 2 e f 0 (nth d.1 2) g h);letI j:=(a0,(⟨#[110,111]⟩:ByteArray));letI k:=Z8 a0.Next;letI l:=QG a0 (Zo.mk 8 e f 0 0 g h);bif(a1.length:Int)<b then c else bif !d.2 then c else bif nth a1 0=(⟨#[115,105,103,110]⟩:ByteArray)then bif !i.2 then j else(i.1,k)else bif !l.2 then j else(l.1,k)
def Y7(a0:ZF)(a1:Zo):ZF×ByteArray:=letI b:=QG a0 a1;bif !b.2 then(a0,(⟨#[110,111]⟩:ByteArray))else(b.1,(⟨#[111,107]⟩:ByteArray))
def Ko(a0:ZF)(a1:List ByteArray):ZF×ByteArray:=letI b:=(a0,(⟨#[119,104,97,116]⟩:ByteArray));letI c:=nth a1 2;letI d:=Xo (c.extract 1 c.size);letI e:=Xo (nth a1 1);letI f:=Ze (a1.drop 3);letI g:=ZL.mk 0 ([]:List ByteArray) ([]:List Int);letI h:=Y7 a0 (Zo.mk 5 e.1 (W (-1*d.1)) 0 0 g f.1);letI i:=Y7 a0 (Zo.mk 5 e.1 (W (1*(Xo c).1)) 0 0 g f.1);bif(a1.length:Int)<4 then b else bif((bAt c 0):Int)==45 then bif !d.2||!e.2||!f.2 then b else(h.1,h.2)else bif !(Xo c).2||!e.2||!f.2 then b else(i.1,i.2)
def KH(a0:ZO):Zh:=Zh.mk ([a0.ZN]:List ZU) ([]:List (List ZX))
def qf(a0:ZU)(a1:ZL):Nat->List Int->Nat->List Int
  |0,_,_=>default
  |n1+1,J,U=>bif(U:Int)<(a0.ZR.length:Int)then qf a0 a1 n1 (J++([Y5 (nth a0.ZR U).Method a1]:List Int)) (U+1)else J
def jE(a0:ZU)(a1:ZL):List Int:=match qf a0 a1 (a0.ZR.length+1) ([]:List Int) 0 with|ic=>ic
def zf(a0:Zh)(a1:ZL):Nat->List (List Int)->Nat->List (List Int)
  |0,_,_=>default
  |n1+1,J,U=>bif(U:Int)<(a0.Zg.length:Int)then zf a0 a1 n1 (J++([jE (nth a0.Zg U) a1]:List (List Int))) (U+1)else J
def zQ(a0:Zh)(a1:ZL):List (List Int):=match zf a0 a1 (a0.Zg.length+1) ([]:List (List Int)) 0 with|ic=>ic
def wV(a0:Yg):Bool:=ZP a0.Number 1 99&&ZP a0.z9 0 99&&ZP a0.Method 0 99&&qT a0.OT&&TE a0.Um
def NG(a0:List Yg):Nat->Nat->Sum Bool Unit
  |0,_=>.inr ()
  |n1+1,J=>letI b:=nth a0 J;bif(J:Int)<(a0.length:Int)then bif !(wV b)||(J:Int)>0&&(nth a0 (J-1)).Number>=b.Number then .inl false else NG a0 n1 (J+1)else .inr ()
def GX(a0:List Yg):Bool:=match NG a0 (a0.length+1) 0 with|.inl r1=>r1|.inr _=>decide ((a0.length:Int)<=12)
def kX(a0:List Za):Nat->Nat->Sum Bool Unit
  |0,_=>.inr ()
  |n1+1,J=>letI b:=nth a0 J;bif(J:Int)<(a0.length:Int)then bif !(ZP b.Id 0 99)||!(ZP b.Key 1 99)||!(ZP b.Error 0 100)||(J:Int)>0&&(nth a0 (J-1)).Id>=b.Id then .inl false else kX a0 n1 (J+1)else .inr ()
def Vp(a0:List Za):Bool:=match kX a0 (a0.length+1) 0 with|.inl r1=>r1|.inr _=>decide ((a0.length:Int)<=6)
def Ll(a0:Z9):Bool:=ZP a0.Id 0 99&&qT a0.PR&&ZP a0.Ends 1 10001&&ZP a0.Uc 1 10001&&a0.PR<a0.Ends&&decide (a0.PR<a0.Uc)
def Tp(a0:List Z9):Nat->Nat->Sum Bool Unit
  |0,_=>.inr ()
  |n1+1,J=>letI b:=nth a0 J;bif(J:Int)<(a0.length:Int)then bif !(Ll b)||(J:Int)>0&&(nth a0 (J-1)).Id>=b.Id then .inl false else Tp a0 n1 (J+1)else .inr ()
def P5(a0:List Z9):Bool:=match Tp a0 (a0.length+1) 0 with|.inl r1=>r1|.inr _=>decide ((a0.length:Int)<=8)
def Mh(a0:ZT):Bool:=GX a0.Zz&&Vp a0.ZC&&P5 a0.Methods&&ZP a0.Jb 0 6&&qT a0.Now
def P7(a0:Int):Xi:=Xi.mk 3 a0 (Zn.mk 0 0)
def TZ(a0:Int):Xi:=Xi.mk 2 a0 (Zn.mk 0 0)
def KA(a0:List Yg)(a1:Int)(a2:List Int)(a3:Int):Bool:=letI b:=yN a0 a1 a2;b.2&&b.1==a3
def VZ(a0:List Yg)(a1:Zs):Bool:=j6 a1&&KA a0 a1.Key (X9 a1) a1.Mark
def PK(a0:ZU)(a1:ZV):Nat->Nat->Sum Int Unit
  |0,_=>.inr ()
  |n1+1,J=>bif(J:Int)<(a0.ZM.length:Int)then bif Jz (nth a0.ZM J) a1 then .inl (J:Int)else PK a0 a1 n1 (J+1)else .inr ()
def UE(a0:ZU)(a1:ZV):Int:=match PK a0 a1 (a0.ZM.length+1) 0 with|.inl r1=>r1|.inr _=>-1
def yZ(a0:Zn):Bool:=qT a0.Xv&&qT a0.To&&decide (a0.Xv<=a0.To)
def yv(a0 a1:Int):Zn×Bool:=letI b:=Zn.mk (if 0>a0 then 0 else a0) (if 10000<a1 then 10000 else a1);bif a0>a1||!(yZ b)then(Zn.mk 0 0,false)else(b,true)
def UI(a0:List Za)(a1:ZX):Zn×Bool:=letI b:=Zr a0 a1.Authority;letI c:=(nth a0 b.toNat).Error;letI d:=a1.Time;letI e:=yv (W (d-c)) (W (d+c));bif b<0||c<0||!(qT d)then(Zn.mk 0 0,false)else(e.1,e.2)
def RE(a0:List Zn)(a1:Int):Nat->Int->Nat->Int
  |0,_,_=>default
  |n1+1,J,U=>letI b:=nth a0 U;bif(U:Int)<(a0.length:Int)then bif yZ b&&ZP a1 b.Xv b.To then RE a0 a1 n1 (W (J+1)) (U+1)else RE a0 a1 n1 J (U+1)else J
def H2(a0:List Zn)(a1:Int):Int:=match RE a0 a1 (a0.length+1) 0 0 with|ic=>ic
def Ra(a0:List Zn)(a1 a2:Int):Bool:=letI b:=(a0.length:Int);ZP a2 0 (W (b-1))&&decide (H2 a0 a1>=W (b-a2))
def qM(a0:List Zn)(a1:Int):Nat->Bool->Nat->Int->Int->Bool×Int×Int
  |0,_,_,_,_=>(default,default,default)
  |n1+1,J,U,ib,iq=>letI b:=(U:Int);letI c:=U+1;bif b<=10000 then bif Ra a0 b a1 then bif !J then qM a0 a1 n1 true c b b else qM a0 a1 n1 true c ib b else qM a0 a1 n1 J c ib iq else(J,ib,iq)
def Wq(a0:List Zn)(a1:Int):Zn×Bool:=match qM a0 a1 10002 false 0 0 0 with|(ic,z1_1,z1_2)=>(Zn.mk z1_1 z1_2,ic)
def Og(a0:List Za)(a1:List ZX):Nat->List Zn->Nat->Sum (Zn×Bool) (List Zn)
  |0,_,_=>.inr default
  |n1+1,J,U=>letI b:=UI a0 (nth a1 U);bif(U:Int)<(a1.length:Int)then bif !b.2 then .inl (Zn.mk 0 0,false)else Og a0 a1 n1 (J++([b.1]:List Zn)) (U+1)else .inr J
def zA(a0:List Za)(a1:List ZX)(a2:Int):Zn×Bool:=(match Og a0 a1 (a1.length+1) ([]:List Zn) 0 with|.inl r1=>r1|.inr ic=>letI b:=Wq ic a2;(b.1,b.2))
def jv(a0:List Za)(a1:ZZ)(a2:Int):Zn×Bool:=letI b:=zA a0 a1.YK a2;(b.1,b.2)
def KG(a0:ZT)(a1:ZZ):Zn×Bool:=letI b:=jv a0.ZC a1 a0.Jb;(b.1,b.2)
def IK(a0:ZU)(a1:List Int)(a2:Int):Int:=letI b:=(a0.ZR.length:Int);letI c:=nth a0.ZR a2.toNat;letI d:=c.Method;letI e:=nth a1 a2.toNat;letI f:=a0.ZM.take c.Count.toNat;bif !(ZP a2 0 (W (b-1)))||(a1.length:Int)!=b||!(ZP c.Count 0 (a0.ZM.length:Int))then-1 else bif a2>0 then Pa d e f (KS d (nth a0.ZR (W (a2-1)).toNat))else Pa d e f 0
def W8(a0:Int)(a2:List Xk):Nat->Int->Nat->Int
  |0,_,_=>default
  |n1+1,J,U=>letI b:=nth a2 U;bif(U:Int)<(a2.length:Int)then bif b.Left then W8 a0 a2 n1 (Ww a0 b.Y6 J) (U+1)else W8 a0 a2 n1 (Ww a0 J b.Y6) (U+1)else J
def OA(a0 a1:Int)(a2:List Xk):Int:=match W8 a0 a2 (a2.length+1) a1 0 with|ic=>ic
def xk(a0:List ZX):Nat->Nat->Sum Bool Unit
  |0,_=>.inr ()
  |n1+1,J=>bif(J:Int)<(a0.length:Int)then bif(nth a0 (J-1)).Authority>=(nth a0 J).Authority then .inl false else xk a0 n1 (J+1)else .inr ()
def Ka(a0:List ZX):Bool:=match xk a0 (a0.length+1) 1 with|.inl r1=>r1|.inr _=>true
def W5(a0:List Yg)(a1:List Za)(a2:ZX):Bool:=letI b:=QC a0 a1 a2;b.2&&(b.1.Authority==a2.Authority&&(b.1.Seq==a2.Seq&&(b.1.Time==a2.Time&&(b.1.Y6==a2.Y6&&b.1.Mark==a2.Mark))))
def Vn(a0:List Yg)(a1:List Za)(a2:ZZ):Nat->Nat->Sum Bool Unit
  |0,_=>.inr ()
  |n1+1,J=>letI b:=nth a2.YK J;bif(J:Int)<(a2.YK.length:Int)then bif b.Y6 !=a2.BE||!(W5 a0 a1 b)then .inl false else Vn a0 a1 a2 n1 (J+1)else .inr ()
def T4(a0:List Yg)(a1:List Za)(a2:ZZ)(a3:Int):Bool:=letI b:=a2.YK.length;bif(a2.Path.length:Int)>4||OA a2.Method a3 a2.Path !=a2.BE||!(ZP (b:Int) 1 6)||!(Ka a2.YK)then false else(match Vn a0 a1 a2 (b+1) 0 with|.inl r1=>r1|.inr _=>true)
def Xj(a0:List Za)(a1:ZX):Int:=letI b:=Zr a0 a1.Authority;bif b>=0 then(nth a0 b.toNat).Key else 0
def VN(a0:List Yg)(a1:List Za)(a2:List Z9)(a3:ZZ):Nat->Int->Nat->Sum Int Int
  |0,_,_=>.inr default
  |n1+1,J,U=>letI b:=YU a0 (Xj a1 (nth a3.YK U));letI c:=kz a2 (nth a0 b.toNat).Method;bif(U:Int)<(a3.YK.length:Int)then bif b<0 then .inl 0 else VN a0 a1 a2 a3 n1 (if c<J then c else J) (U+1)else .inr J
def W4(a0:List Yg)(a1:List Za)(a2:List Z9)(a3:ZZ):Int:=match VN a0 a1 a2 a3 (a3.YK.length+1) (kz a2 a3.Method) 0 with|.inl r1=>r1|.inr ic=>ic
def MG(a0:ZT)(a1:ZU)(a2:Int):Bool:=letI b:=W ((a1.ZR.length:Int)-1);letI c:=W4 a0.Zz a0.ZC a0.Methods (nth a1.ZR a2.toNat);letI d:=KG a0 (nth a1.ZR (W (a2+1)).toNat);bif !(ZP a2 0 b)then false else bif a2==b then decide (a0.Now<c)else d.2&&decide (d.1.To<c)
def jw(a0:ZT)(a1:ZU)(a2:List Int):Nat->Nat->Nat
  |0,_=>default
  |n1+1,J=>letI b:=nth a1.ZR (J-1);letI c:=W ((J:Int)-1);bif(J:Int)>0 then bif !(KG a0 b).2||!(T4 a0.Zz a0.ZC b (IK a1 a2 c))||!(MG a0 a1 c)then J else jw a0 a1 a2 n1 (J-1)else J
def qR(a0:ZT)(a1:ZU)(a2:List Int):Int:=letI b:=a1.ZR.length;match jw a0 a1 a2 (b+1) b with|ic=>(ic:Int)
def Sl(a0:ZT)(a1:ZU)(a3:Int):Nat->Int->Int->Int
  |0,_,_=>default
  |n1+1,J,U=>letI b:=nth a1.ZR U.toNat;letI c:=(KG a0 b).1.To;letI d:=W (U+1);bif U<(a1.ZR.length:Int)then bif b.Count>a3 then Sl a0 a1 a3 n1 (if c<J then c else J) d else Sl a0 a1 a3 n1 J d else J
def G1(a0:ZT)(a1:ZU)(a2:List Int)(a3:Int):Int:=match Sl a0 a1 a3 (a1.ZR.length+2) a0.Now (qR a0 a1 a2)with|ic=>ic
def TB(a0:ZT)(a1:ZU)(a2:List Int)(a3:ZV):Int:=letI b:=UE a1 a3;bif b<0 then a0.Now else G1 a0 a1 a2 b
def xw(a0:ZT)(a1:Zh)(a2:List (List Int))(a3:ZV):Nat->Int->Nat->Int
  |0,_,_=>default
  |n1+1,J,U=>letI b:=TB a0 (nth a1.Zg U) (nth a2 U) a3;bif(U:Int)<(a1.Zg.length:Int)then bif(U:Int)<(a2.length:Int)then xw a0 a1 a2 a3 n1 (if b<J then b else J) (U+1)else xw a0 a1 a2 a3 n1 J (U+1)else J
def XM(a0:ZT)(a1:Zh)(a2:List (List Int))(a3:ZV):Int:=match xw a0 a1 a2 a3 (a1.Zg.length+1) a0.Now 0 with|ic=>ic
def Kq(a0:ZV):Zx×Bool:=letI b:=a0.YS;bif XN a0 !=102||nth b 4 !=a0.Key then(Zx.mk 0 0 0 0 0,false)else(Zx.mk (nth b 1) (nth b 2) (nth b 3) (nth b 4) a0.Mark,true)
def U9(a0:ZV):ZX×Bool:=letI b:=a0.YS;bif XN a0 !=103 then(ZX.mk 0 0 0 0 0,false)else(ZX.mk (nth b 1) (nth b 2) (nth b 3) (nth b 4) a0.Mark,true)
def Sn(a0:ZV):Zs×Bool:=letI b:=a0.YS;bif XN a0 !=104||nth b 1 !=a0.Key then(Zs.mk 0 0 0 0 0 0 0 0 0,false)else(Zs.mk (nth b 1) (nth b 2) (nth b 3) (nth b 4) (nth b 5) (nth b 6) (nth b 7) (nth b 8) a0.Mark,true)
def yV(a0:ZV):XQ×Bool:=letI b:=a0.YS;bif XN a0 !=105||nth b 5 !=a0.Key then(XQ.mk 0 0 0 0 0 0,false)else(XQ.mk (nth b 1) (nth b 2) (nth b 3) (nth b 4) (nth b 5) a0.Mark,true)
def OH(a0:List Yg)(a1:ZV):Bool:=letI b:=XN a1;letI c:=KA a0 a1.Key a1.YS a1.Mark;bif b==101 then(Xg a1).2&&c else bif b==102 then(Kq a1).2&&c else bif b==103 then(U9 a1).2&&c else bif b==104 then(Sn a1).2&&c else bif b==105 then(yV a1).2&&c else false&&c
def Uv(a0 a1:ZV):Nat->Nat->Sum Bool Unit
  |0,_=>.inr ()
  |n1+1,J=>letI b:=nth a0.YS J;letI c:=nth a1.YS J;bif(J:Int)<(a0.YS.length:Int)&&(J:Int)<(a1.YS.length:Int)then bif b !=c then .inl (decide (b<c))else Uv a0 a1 n1 (J+1)else .inr ()
def Rv(a0 a1:ZV):Bool:=letI b:=a0.YS.length;letI c:=(a1.YS.length:Int);match Uv a0 a1 (b+1) 0 with|.inl r1=>r1|.inr _=>bif(b:Int)!=c then decide ((b:Int)<c)else bif a0.Key !=a1.Key then decide (a0.Key<a1.Key)else decide (a0.Mark<a1.Mark)
def qp(a1:Zh)(U:Nat)(ia:List ZV)(iZ:Nat):Nat->Nat->Nat
  |0,_=>default
  |n3+1,hC=>bif(hC:Int)<(ia.length:Int)&&Rv (nth ia hC) (nth (nth a1.Zg U).ZM iZ)then qp a1 U ia iZ n3 (hC+1)else hC
def Jk(a0:ZT)(a1:Zh)(a2:List (List Int))(U:Nat):Nat->List ZV->Nat->List ZV
  |0,_,_=>default
  |n2+1,ia,iZ=>letI b:=(nth a1.Zg U).ZM;letI c:=nth b iZ;bif(iZ:Int)<(b.length:Int)then bif VU ia c||!(OH a0.Zz c)||XM a0 a1 a2 c>=WV a0 c.Key then Jk a0 a1 a2 U n2 ia (iZ+1)else(match qp a1 U ia iZ (ia.length+1) 0 with|z3_0=>Jk a0 a1 a2 U n2 (ia.take z3_0++([c]:List ZV)++(ia.drop z3_0).take (ia.length-z3_0)) (iZ+1))else ia
def yS(a0:ZT)(a1:Zh)(a2:List (List Int)):Nat->List ZV->Nat->List ZV
  |0,_,_=>default
  |n1+1,J,U=>bif(U:Int)<(a1.Zg.length:Int)then(match Jk a0 a1 a2 U ((nth a1.Zg U).ZM.length+1) J 0 with|gX=>yS a0 a1 a2 n1 gX (U+1))else J
def YB(a0:ZT)(a1:Zh)(a2:List (List Int)):List ZV:=match yS a0 a1 a2 (a1.Zg.length+1) ([]:List ZV) 0 with|ic=>ic
def VS(a0:YL):Zn:=Zn.mk a0.Xv a0.To
def Ia(a0:YL):Bool:=ZP a0.Zk 1 999&&ZP a0.Key 1 99&&ZP a0.YG 1 99&&a0.Key !=a0.YG&&ZP a0.z9 0 99&&yZ (VS a0)
def Mj(a0:List Yg)(a1:Int):Int:=letI b:=YU a0 a1;bif b>=0 then(nth a0 b.toNat).z9 else-1
def RN(a0:List Yg)(a1:YL):Bool:=Ia a1&&KA a0 a1.YG (zE a1) a1.Mark&&a1.z9==Mj a0 a1.Key
def S3(a0:ZT)(a1:List ZV)(a2:Zs):Nat->Int->Nat->Int->Int->Int->Int->Int->Int->Int->Int×Int×Int×Int×Int×Int×Int×Int
  |0,_,_,_,_,_,_,_,_,_=>(default,default,default,default,default,default,default,default)
  |n1+1,J,U,ib,iq,hE,gR,gS,gT,gU=>letI b:=Xg (nth a1 U);letI c:=b.1;bif(U:Int)<(a1.length:Int)then bif b.2&&RN a0.Zz c&&c.Zk==a2.Zk&&c.Key==a2.Key then S3 a0 a1 a2 n1 (W (J+1)) (U+1) c.Zk c.Key c.z9 c.Xv c.To c.YG c.Mark else S3 a0 a1 a2 n1 J (U+1) ib iq hE gR gS gT gU else(J,ib,iq,hE,gR,gS,gT,gU)
def Jl(a0:ZT)(a1:List ZV)(a2:Zs):YL×Bool:=match S3 a0 a1 a2 (a1.length+1) 0 0 0 0 0 0 0 0 0 with|(ic,z1_1,z1_2,z1_3,z1_4,z1_5,z1_6,z1_7)=>bif ic !=1 then(YL.mk 0 0 0 0 0 0 0,false)else(YL.mk z1_1 z1_2 z1_3 z1_4 z1_5 z1_6 z1_7,true)
def VM(a1:List ZX):Nat->List Int->Nat->List Int
  |0,_,_=>default
  |n1+1,J,U=>bif(U:Int)<(a1.length:Int)then VM a1 n1 (J++([(nth a1 U).Mark]:List Int)) (U+1)else J
def Wu(a0:Int)(a1:List ZX):Int:=bif(a1.length:Int)==0 then 0 else(match VM a1 (a1.length+1) ([]:List Int) 0 with|ic=>uM 1 (Je a0 ic))
def jU(a0:Int)(a1:ZX):ZV:=ZV.mk a0 (Ku a1) a1.Mark
def Ri(a0:ZT)(a1:Zh)(a2:List ZV)(U:Nat):Nat->Bool->Nat->Bool
  |0,_,_=>default
  |n2+1,ia,iZ=>letI b:=nth a1.Yl U;letI c:=nth b iZ;bif(iZ:Int)<(b.length:Int)then Ri a0 a1 a2 U n2 (ia&&VU a2 (jU (Xj a0.ZC c) c)) (iZ+1)else ia
def ju(a0:ZT)(a1:Zh)(a2:List ZV)(a3:Zs):Nat->Int->Nat->Int
  |0,_,_=>default
  |n1+1,J,U=>letI b:=nth a1.Yl U;letI c:=U+1;letI d:=zA a0.ZC b a0.Jb;bif(U:Int)<(a1.Yl.length:Int)then bif a3.Wl==0||!(Ka b)||Wu a3.Method b !=a3.Wl then ju a0 a1 a2 a3 n1 J c else(match Ri a0 a1 a2 U (b.length+1) true 0 with|gX=>bif gX&&d.2 then ju a0 a1 a2 a3 n1 (if d.1.Xv>J then d.1.Xv else J) c else ju a0 a1 a2 a3 n1 J c)else J
def Rh(a0:ZT)(a1:Zh)(a2:List ZV)(hQ:Nat):Nat->Bool->Nat->Bool
  |0,_,_=>default
  |n4+1,eE,eM=>letI b:=nth a1.Yl hQ;letI c:=nth b eM;bif(eM:Int)<(b.length:Int)then Rh a0 a1 a2 hQ n4 (eE&&VU a2 (jU (Xj a0.ZC c) c)) (eM+1)else eE
def jo(a0:ZT)(a1:Zh)(a2:List ZV)(a3:Zs):Nat->Int->Nat->Int
  |0,_,_=>default
  |n3+1,hC,hQ=>letI b:=nth a1.Yl hQ;letI c:=hQ+1;letI d:=zA a0.ZC b a0.Jb;bif(hQ:Int)<(a1.Yl.length:Int)then bif a3.Wl==0||!(Ka b)||Wu a3.Method b !=a3.Wl then jo a0 a1 a2 a3 n3 hC c else(match Rh a0 a1 a2 hQ (b.length+1) true 0 with|z4_0=>bif z4_0&&d.2 then jo a0 a1 a2 a3 n3 (if d.1.Xv>hC then d.1.Xv else hC) c else jo a0 a1 a2 a3 n3 hC c)else hC
def JB(a0:ZT)(a1:Zh)(a2:List ZV)(a3:Zs):Int:=letI b:=YU a0.Zz a3.Key;letI c:=a1.Yl.length+1;bif b>=0 then(match ju a0 a1 a2 a3 c (nth a0.Zz b.toNat).OT 0 with|ic=>ic)else(match jo a0 a1 a2 a3 c 0 0 with|z3_0=>z3_0)
def xO(a0:List ZV)(a1:YL):Nat->List Zx->Nat->List Zx
  |0,_,_=>default
  |n1+1,J,U=>letI b:=Kq (nth a0 U);bif(U:Int)<(a0.length:Int)then bif b.2&&b.1.Zk==a1.Zk&&b.1.YG==a1.YG then xO a0 a1 n1 (J++([b.1]:List Zx)) (U+1)else xO a0 a1 n1 J (U+1)else J
def zu(a0:List ZV)(a1:YL):List Zx:=match xO a0 a1 (a0.length+1) ([]:List Zx) 0 with|ic=>ic
def Zy(a0 a1:Int)(a2:List Zn):List Zn:=letI b:=yv a0 a1;bif b.2 then a2++([b.1]:List Zn)else a2
def PQ(a0:List Zx)(a1:Int):Nat->Int->Int->Int->Nat->Int×Int×Int
  |0,_,_,_,_=>(default,default,default)
  |n1+1,J,U,ib,iq=>letI b:=nth a0 iq;letI c:=iq+1;letI d:=b.YW;letI e:=if d>U then d else U;bif(iq:Int)<(a0.length:Int)then bif b.Zk !=a1 then PQ a0 a1 n1 J U ib c else bif d<0 then PQ a0 a1 n1 J U (if b.Mz>ib then b.Mz else ib) c else bif J<0||d<J then PQ a0 a1 n1 d e ib c else PQ a0 a1 n1 J e ib c else(J,U,ib)
def Up(a0:List Zx)(a1:Int):Int×Int×Int:=match PQ a0 a1 (a0.length+1) (-1) (-1) (-1) 0 with|(ic,z1_1,z1_2)=>(ic,z1_1,z1_2)
def Qi(a0:List Zx)(a1:Int):Int:=letI b:=(Up a0 a1).2;letI c:=W (b.2+1);bif b.1<0 then 10001 else if c>b.1 then c else b.1
def Nt(gX:List Zn)(dS:Int):Nat->Nat->Nat
  |0,_=>default
  |n3+1,hC=>bif(hC:Int)<(gX.length:Int)&&(nth gX hC).Xv<dS then Nt gX dS n3 (hC+1)else hC
def WG(J:List Zn):Nat->List Zn->Nat->Int->Int->List Zn×Int×Int
  |0,_,_,_,_=>(default,default,default)
  |n2+1,ia,iZ,gI,gJ=>letI b:=nth J iZ;bif(iZ:Int)<(J.length:Int)then bif W (b.To+1)<gI||W (gJ+1)<b.Xv then WG J n2 (ia++([b]:List Zn)) (iZ+1) gI gJ else WG J n2 ia (iZ+1) (if b.Xv<gI then b.Xv else gI) (if b.To>gJ then b.To else gJ)else(ia,gI,gJ)
def ks(a0:List Zn):Nat->List Zn->Nat->List Zn
  |0,_,_=>default
  |n1+1,J,U=>letI b:=nth a0 U;bif(U:Int)<(a0.length:Int)then bif !(yZ b)then ks a0 n1 J (U+1)else(match WG J (J.length+1) ([]:List Zn) 0 b.Xv b.To with|(gX,dS,z2_2)=>(match Nt gX dS (gX.length+1) 0 with|z3_0=>ks a0 n1 (gX.take z3_0++([Zn.mk dS z2_2]:List Zn)++(gX.drop z3_0).take (gX.length-z3_0)) (U+1)))else J
def QL(a0:List Zn):List Zn:=match ks a0 (a0.length+1) ([]:List Zn) 0 with|ic=>ic
def Vx(a0:YL)(a1:List Zx):List Zn:=letI b:=decide (a0.To<10000);letI c:=Qi a1 a0.Zk;letI d:=W (a0.To+1);letI e:=([]:List Zn);letI f:=Zy 0 (W (a0.Xv-1)) e;bif a0.Xv>0 then bif b then QL (Zy c 10000 (Zy d 10000 f))else QL (Zy c 10000 f)else bif b then QL (Zy c 10000 (Zy d 10000 e))else QL (Zy c 10000 e)
def L8(a0 a1:Zn):Bool:=yZ a0&&yZ a1&&a1.Xv<=a0.Xv&&decide (a0.To<=a1.To)
def Tm(a0:List Zn)(a1:Zn):Nat->Nat->Sum Bool Unit
  |0,_=>.inr ()
  |n1+1,J=>bif(J:Int)<((QL a0).length:Int)then bif L8 a1 (nth (QL a0) J)then .inl true else Tm a0 a1 n1 (J+1)else .inr ()
def Wn(a0:List Zn)(a1:Zn):Bool:=match Tm a0 a1 ((QL a0).length+1) 0 with|.inl r1=>r1|.inr _=>false
def Lk(a0:YL)(a1:List Zx)(a2:Zn):Bool:=Wn (Vx a0 a1) a2
def Sr(a0:List Zx)(a1:Int):Int:=letI b:=Up a0 a1;bif b.1>=0 then W (b.1-1)else b.2.2
def qe(a0 a1:Zn):Zn×Bool:=letI b:=Zn.mk (if a1.Xv>a0.Xv then a1.Xv else a0.Xv) (if a1.To<a0.To then a1.To else a0.To);bif !(yZ a0)||!(yZ a1)||!(yZ b)then(Zn.mk 0 0,false)else(b,true)
def Sq(a0 a1:List Zn)(U:Nat):Nat->List Zn->Nat->List Zn
  |0,_,_=>default
  |n2+1,ia,iZ=>letI b:=qe (nth a0 U) (nth a1 iZ);bif(iZ:Int)<(a1.length:Int)then bif b.2 then Sq a0 a1 U n2 (ia++([b.1]:List Zn)) (iZ+1)else Sq a0 a1 U n2 ia (iZ+1)else ia
def Nh(a0 a1:List Zn):Nat->List Zn->Nat->List Zn
  |0,_,_=>default
  |n1+1,J,U=>bif(U:Int)<(a0.length:Int)then(match Sq a0 a1 U (a1.length+1) J 0 with|gX=>Nh a0 a1 n1 gX (U+1))else J
def Md(a0 a1:List Zn):List Zn:=match Nh a0 a1 (a0.length+1) ([]:List Zn) 0 with|ic=>QL ic
def kr(a0:YL)(a1:List Zx):List Zn:=Md ([VS a0]:List Zn) ([Zn.mk 0 (Sr a1 a0.Zk)]:List Zn)
def P1(a0:YL)(a1:List Zx)(a2:Zn):Bool:=Wn (kr a0 a1) a2
def xz(a0:List ZV):Nat->List XQ->Nat->List XQ
  |0,_,_=>default
  |n1+1,J,U=>letI b:=yV (nth a0 U);bif(U:Int)<(a0.length:Int)then bif b.2 then xz a0 n1 (J++([b.1]:List XQ)) (U+1)else xz a0 n1 J (U+1)else J
def W3(a0:List ZV):List XQ:=match xz a0 (a0.length+1) ([]:List XQ) 0 with|ic=>ic
def Ni(a0:XQ):Bool:=ZP a0.Org 1 99&&ZP a0.GK 0 99&&ZP a0.Key 1 99&&yZ (Zn.mk a0.Xv a0.To)
def zx(a0:XQ):List Int:=([105,a0.Org,a0.GK,a0.Xv,a0.To,a0.Key]:List Int)
def SN(a0:List Yg)(a1:XQ):Bool:=Ni a1&&Mj a0 a1.Key==a1.Org&&KA a0 a1.Key (zx a1) a1.Mark
def yU(a0:List Yg)(a1:List XQ)(a2 a3:Int):Nat->List Zn->Nat->List Zn
  |0,_,_=>default
  |n1+1,J,U=>letI b:=nth a1 U;bif(U:Int)<(a1.length:Int)then bif b.Org==a2&&b.GK==a3&&SN a0 b then yU a0 a1 a2 a3 n1 (J++([Zn.mk b.Xv b.To]:List Zn)) (U+1)else yU a0 a1 a2 a3 n1 J (U+1)else J
def qB(a0:List Yg)(a1:List XQ)(a2 a3:Int):List Zn:=match yU a0 a1 a2 a3 (a1.length+1) ([]:List Zn) 0 with|ic=>QL ic
def Ok(a0:List Yg)(a1:List XQ)(a2 a3:Int)(a4:Zn):Bool:=a2==0&&yZ a4||Wn (qB a0 a1 a2 a3) a4
def qK(a0:ZT)(a1:Zh)(a2:List (List Int))(a3:Int)(a4:Zs):Xi:=letI b:=XM a0 a1 a2 (XE a4);letI c:=YB a0 a1 a2;letI d:=Jl a0 c a4;letI e:=JB a0 a1 c a4;letI f:=zu c d.1;letI g:=Zn.mk e b;bif !(Mh a0)then P7 1 else bif !(j6 a4)then TZ 1 else bif a3<0 then P7 2 else bif a3 !=a4.Y6 then TZ 2 else bif YU a0.Zz a4.Key<0 then P7 3 else bif !(VZ a0.Zz a4)then TZ 4 else bif b>=WV a0 a4.Key||b>=kz a0.Methods a4.Method then P7 5 else bif !d.2 then P7 6 else bif e>b then P7 7 else bif Lk d.1 f g then Xi.mk 2 8 g else bif !(P1 d.1 f g)then Xi.mk 3 7 g else bif !(Ok a0.Zz (W3 c) a4.Org d.1.z9 g)then Xi.mk 3 9 g else Xi.mk 1 0 g
def El(a0:ZT)(a1:Zh)(a2:ZL)(a3:Zs):Xi:=qK a0 a1 (zQ a1 a2) (Y5 a3.Method a2) a3
def JX(a0:ZT)(a1:ZO):Xi:=El a0 (KH a1) a1.Doc a1.Sig
def Qp(a0:ZF)(a1:Int):Xi:=letI b:=ZW a0 a1;bif b.1<0 then Xi.mk 0 0 (Zn.mk 0 0)else JX a0.Frame (nth (nth a0.ZA b.1.toNat).ZE b.2.toNat)
def Kj(a0:Int):ByteArray:=letI b:=(⟨#[]⟩:ByteArray);bif !(ZP a0 1 3)then b else nth ([b,(⟨#[118,97,108,105,100]⟩:ByteArray),(⟨#[105,110,118,97,108,105,100]⟩:ByteArray),(⟨#[111,112,101,110]⟩:ByteArray)]:List ByteArray) a0.toNat
def za(a0:Int):ByteArray:=bif !(ZP a0 0 9)then(⟨#[]⟩:ByteArray)else nth ([(⟨#[110,111,110,101]⟩:ByteArray),(⟨#[102,111,114,109]⟩:ByteArray),(⟨#[100,111,99,117,109,101,110,116]⟩:ByteArray),(⟨#[107,101,121]⟩:ByteArray),(⟨#[109,97,114,107]⟩:ByteArray),(⟨#[98,114,111,107,101,110]⟩:ByteArray),(⟨#[99,101,114,116,105,102,105,99,97,116,101]⟩:ByteArray),(⟨#[116,105,109,101]⟩:ByteArray),(⟨#[101,110,100,101,100]⟩:ByteArray),(⟨#[109,97,110,100,97,116,101]⟩:ByteArray)]:List ByteArray) a0.toNat
def X7(a0:Xi):ByteArray:=letI b:=Kj a0.Code;letI c:=(⟨#[]⟩:ByteArray);letI d:=za a0.Reason;letI e:=(⟨#[32]⟩:ByteArray);letI f:=b++e++d;bif b=c||d=c then c else bif a0.Span.Xv==0&&a0.Span.To==0 then f else f++e++Z8 a0.Span.Xv++(⟨#[45]⟩:ByteArray)++Z8 a0.Span.To
def jV(a0:ZT)(a1:ZO):ByteArray:=letI b:=(⟨#[32]⟩:ByteArray);(⟨#[35]⟩:ByteArray)++Z8 a1.Id++(⟨#[32,107]⟩:ByteArray)++Z8 a1.Sig.Key++b++Z8 (a1.ZN.ZM.length:Int)++(⟨#[47]⟩:ByteArray)++Z8 (a1.ZN.ZR.length:Int)++b++X7 (JX a0 a1)
def qP(a0:List ByteArray)(a1:ByteArray):Nat->ByteArray->Nat->ByteArray
  |0,_,_=>default
  |n1+1,J,U=>letI b:=nth a0 U;bif(U:Int)<(a0.length:Int)then bif(U:Int)>0 then qP a0 a1 n1 (J++a1++b) (U+1)else qP a0 a1 n1 (J++b) (U+1)else J
def T5(a0:List ByteArray)(a1:ByteArray):ByteArray:=match qP a0 a1 (a0.length+1) (⟨#[]⟩:ByteArray) 0 with|ic=>ic
def PV(a0:List ByteArray)(a1:ByteArray):ByteArray:=bif(a0.length:Int)==0 then(⟨#[45]⟩:ByteArray)else T5 a0 a1
def zi(a0:ZT)(a1:ZD):Nat->List ByteArray->Nat->List ByteArray
  |0,_,_=>default
  |n1+1,J,U=>bif(U:Int)<(a1.ZE.length:Int)then zi a0 a1 n1 (J++([jV a0 (nth a1.ZE U)]:List ByteArray)) (U+1)else J
def zR(a0:ZT)(a1:ZD):ByteArray:=match zi a0 a1 (a1.ZE.length+1) ([]:List ByteArray) 0 with|ic=>PV ic (⟨#[59,32]⟩:ByteArray)
def PI(a0:List Int)(a1:Int):Nat->Nat->Nat
  |0,_=>default
  |n1+1,J=>bif(J:Int)<(a0.length:Int)&&nth a0 J<a1 then PI a0 a1 n1 (J+1)else J
def WD(a0:List Int)(a1:Int):List Int:=match PI a0 a1 (a0.length+1) 0 with|ic=>bif(ic:Int)<(a0.length:Int)&&nth a0 ic==a1 then a0 else a0.take ic++([a1]:List Int)++a0.drop ic
def j7(a0:ZO):Nat->List Int->Nat->List Int
  |0,_,_=>default
  |n1+1,J,U=>bif(U:Int)<(a0.ZN.ZR.length:Int)then j7 a0 n1 (WD J (nth a0.ZN.ZR U).Method) (U+1)else J
def kv(a0:ZO):List Int:=match j7 a0 (a0.ZN.ZR.length+1) ([a0.Sig.Method]:List Int) 0 with|ic=>ic
def K5(a0:List Int)(a1:ZL)(J:Nat):Nat->List Int->Nat->List Int
  |0,_,_=>default
  |n2+1,ia,iZ=>bif(iZ:Int)<(a0.length:Int)then K5 a0 a1 J n2 (ia++([je (nth a0 iZ) (nth a1.Yf J) (nth a1.Xl J)]:List Int)) (iZ+1)else ia
def X4(a0:List Int)(a1:ZL)(a2:List Int):Nat->Nat->List Bool->List ByteArray->List Int->List (List Int)->List Bool×List ByteArray×List Int×List (List Int)
  |0,_,_,_,_,_=>(default,default,default,default)
  |n1+1,J,U,ib,iq,hE=>letI b:=qc a2 (J:Int);letI c:=([]:List Int);letI d:=U++([!b]:List Bool);letI e:=List Int;bif(J:Int)<(a1.Yf.length:Int)then bif b then(match K5 a0 a1 J (a0.length+1) c 0 with|gX=>X4 a0 a1 a2 n1 (J+1) d (ib++([(⟨#[]⟩:ByteArray)]:List ByteArray)) (iq++([0]:List Int)) (hE++([gX]:List e)))else X4 a0 a1 a2 n1 (J+1) d (ib++([nth a1.Yf J]:List ByteArray)) (iq++([nth a1.Xl J]:List Int)) (hE++([c]:List e))else(U,ib,iq,hE)
def Jh(a0:List Int)(a1:ZL)(a2:List Int):YO×Bool:=letI b:=([]:List Int);letI c:=([]:List Bool);letI d:=([]:List ByteArray);letI e:=([]:List (List Int));bif !(JU a1)then(YO.mk 0 b c d b e,false)else(match X4 a0 a1 a2 (a1.Yf.length+1) 0 c d b e with|(ic,z1_1,z1_2,z1_3)=>(YO.mk a1.KK a0 ic z1_1 z1_2 z1_3,true))
def JK(a0:ZO)(a1:List Int):YO×Bool:=letI b:=Jh (kv a0) a0.Doc a1;(b.1,b.2)
def QM(a0:YO):Nat->ByteArray->Nat->ByteArray
  |0,_,_=>default
  |n1+1,J,U=>letI b:=U+1;bif(U:Int)<(a0.Shown.length:Int)then bif !(nth a0.Shown U)then QM a0 n1 (J++(⟨#[32,42]⟩:ByteArray)) b else bif(U:Int)<(a0.Yf.length:Int)then QM a0 n1 (J++((⟨#[32,91]⟩:ByteArray)++nth a0.Yf U++(⟨#[93]⟩:ByteArray))) b else QM a0 n1 (J++(⟨#[32,91,93]⟩:ByteArray)) b else J
def jT(a0:YO):ByteArray:=match QM a0 (a0.Shown.length+1) (Z8 a0.KK) 0 with|ic=>ic
def JT(a0:YO):Nat->Nat->List ByteArray->List Int->Sum Bool (List ByteArray×List Int)
  |0,_,_,_=>.inr (default,default)
  |n1+1,J,U,ib=>letI b:=((nth a0.Ja J).length:Int);letI c:=nth a0.Yf J;letI d:=nth a0.Xl J;bif(J:Int)<(a0.Shown.length:Int)then bif nth a0.Shown J then bif b>0 then .inl false else JT a0 n1 (J+1) (U++([c]:List ByteArray)) (ib++([d]:List Int))else bif !decide (c=(⟨#[]⟩:ByteArray))||d !=0||b !=(a0.Methods.length:Int)then .inl false else JT a0 n1 (J+1) U ib else .inr (U,ib)
def jO(a0:YO):Bool:=letI b:=a0.Shown.length;letI c:=(b:Int);bif !(ZP c 1 6)||(a0.Yf.length:Int)!=c||(a0.Xl.length:Int)!=c||(a0.Ja.length:Int)!=c then false else(match JT a0 (b+1) 0 ([]:List ByteArray) ([]:List Int)with|.inl r1=>r1|.inr (ic,z1_1)=>JU (ZL.mk a0.KK ic z1_1)||(ic.length:Int)==0&&ZP a0.KK 0 999)
def JM(a0:YO):Nat->Int->Nat->Int
  |0,_,_=>default
  |n1+1,J,U=>bif(U:Int)<(a0.Shown.length:Int)then bif nth a0.Shown U then JM a0 n1 (W (J+1)) (U+1)else JM a0 n1 J (U+1)else J
def jH(a0:YO):Int:=match JM a0 (a0.Shown.length+1) 0 0 with|ic=>ic
def xE(a0:Int)(a1:YO):Nat->List Int->Nat->List Int
  |0,_,_=>default
  |n1+1,J,U=>bif(U:Int)<(a1.Shown.length:Int)then bif nth a1.Shown U then xE a0 a1 n1 (J++([je a0 (nth a1.Yf U) (nth a1.Xl U)]:List Int)) (U+1)else xE a0 a1 n1 (J++([nth (nth a1.Ja U) (yf a1.Methods a0).toNat]:List Int)) (U+1)else J
def yg(a0:Int)(a1:YO):Int:=letI b:=a1.Shown.length;bif !(jO a1)||yf a1.Methods a0<0&&jH a1<(b:Int)then-1 else(match xE a0 a1 (b+1) ([a1.KK]:List Int) 0 with|ic=>Je a0 ic)
def KZ(a0:ZU)(a1:YO):Nat->List Int->Nat->List Int
  |0,_,_=>default
  |n1+1,J,U=>bif(U:Int)<(a0.ZR.length:Int)then KZ a0 a1 n1 (J++([yg (nth a0.ZR U).Method a1]:List Int)) (U+1)else J
def KL(a0:ZU)(a1:YO):List Int:=match KZ a0 a1 (a0.ZR.length+1) ([]:List Int) 0 with|ic=>ic
def JQ(a0:Zh)(a1:YO):Nat->List (List Int)->Nat->List (List Int)
  |0,_,_=>default
  |n1+1,J,U=>bif(U:Int)<(a0.Zg.length:Int)then JQ a0 a1 n1 (J++([KL (nth a0.Zg U) a1]:List (List Int))) (U+1)else J
def J1(a0:Zh)(a1:YO):List (List Int):=match JQ a0 a1 (a0.Zg.length+1) ([]:List (List Int)) 0 with|ic=>ic
def Uw(a0:ZT)(a1:Zh)(a2:YO)(a3:Zs):Xi:=qK a0 a1 (J1 a1 a2) (yg a3.Method a2) a3
def jy(a0:ZT)(a1:ZO)(a2:YO):Xi:=Uw a0 (KH a1) a2 a1.Sig
def Vg(a0:ZF)(a1 a2:Int):ByteArray:=letI b:=ZW a0 a1;letI c:=(⟨#[110,111]⟩:ByteArray);letI d:=nth (nth a0.ZA b.1.toNat).ZE b.2.toNat;letI e:=JK d ([a2]:List Int);bif b.1<0 then c else bif !e.2 then c else jT e.1++(⟨#[32]⟩:ByteArray)++X7 (jy a0.Frame d e.1)
def xf(a0:ZO):ZZ×Bool:=letI b:=a0.ZN.ZR.length;bif(b:Int)==0 then(ZZ.mk 0 0 0 ([]:List Xk) ([]:List ZX),false)else(nth a0.ZN.ZR (b-1),true)
def OM(a0:ZT)(a1:Int):Int:=letI b:=QF a0.Methods a1;bif b>=0 then(nth a0.Methods b.toNat).Ends else 0
def Lm(a0:ZT)(a1:ZZ):Nat->Int->Nat->Sum Int Int
  |0,_,_=>.inr default
  |n1+1,J,U=>letI b:=YU a0.Zz (Xj a0.ZC (nth a1.YK U));letI c:=OM a0 (nth a0.Zz b.toNat).Method;bif(U:Int)<(a1.YK.length:Int)then bif b<0 then .inl 0 else Lm a0 a1 n1 (if c<J then c else J) (U+1)else .inr J
def DU(a0:ZT)(a1:ZZ):Int:=match Lm a0 a1 (a1.YK.length+1) (OM a0 a1.Method) 0 with|.inl r1=>r1|.inr ic=>ic
def SL(a0:ZT)(a1:ZO)(a2:Int):Bool:=!(xf a1).2||decide (W (DU a0 (xf a1).1-a0.Now)<=a2)
def jP(a0:ZT)(a1:ZD)(a2:Int):Nat->List Int->Nat->List Int
  |0,_,_=>default
  |n1+1,J,U=>letI b:=nth a1.ZE U;bif(U:Int)<(a1.ZE.length:Int)then bif SL a0 b a2 then jP a0 a1 a2 n1 (J++([b.Id]:List Int)) (U+1)else jP a0 a1 a2 n1 J (U+1)else J
def ke(a0:ZT)(a1:ZD)(a2:Int):List Int:=match jP a0 a1 a2 (a1.ZE.length+1) ([]:List Int) 0 with|ic=>ic
def VE(a0:List Int):Nat->List ByteArray->Nat->List ByteArray
  |0,_,_=>default
  |n1+1,J,U=>bif(U:Int)<(a0.length:Int)then VE a0 n1 (J++([Z8 (nth a0 U)]:List ByteArray)) (U+1)else J
def zt(a0:List Int):ByteArray:=match VE a0 (a0.length+1) ([]:List ByteArray) 0 with|ic=>PV ic (⟨#[32]⟩:ByteArray)
def GA(a0:List Z9)(a1 a2:Int):Bool:=letI b:=QF a0 a1;letI c:=nth a0 b.toNat;decide (b>=0)&&c.PR<=a2&&decide (a2<c.Uc)
def Qd(a0:ZT):Nat->List Int->Nat->List Int
  |0,_,_=>default
  |n1+1,J,U=>letI b:=nth a0.ZC U;letI c:=YU a0.Zz b.Key;letI d:=U+1;letI e:=nth a0.Zz c.toNat;bif(U:Int)<(a0.ZC.length:Int)then bif c<0 then Qd a0 n1 J d else bif e.OT<=a0.Now&&GA a0.Methods e.Method a0.Now&&OM a0 e.Method>a0.Now then Qd a0 n1 (J++([b.Id]:List Int)) d else Qd a0 n1 J d else J
def Qe(a0:ZT):List Int:=match Qd a0 (a0.ZC.length+1) ([]:List Int) 0 with|ic=>ic
def RU(a0:ZF):Nat->List ZO->Nat->List ZO
  |0,_,_=>default
  |n1+1,J,U=>bif(U:Int)<(a0.ZA.length:Int)then RU a0 n1 (J++(nth a0.ZA U).ZE) (U+1)else J
def Yn(a0:ZF):List ZO:=match RU a0 (a0.ZA.length+1) ([]:List ZO) 0 with|ic=>ic
def KQ(a0:List ZX)(J:Nat)(U:List ZX):Nat->Bool->Nat->Bool
  |0,_,_=>default
  |n2+1,ia,iZ=>letI b:=nth U iZ;letI c:=nth a0 J;bif(iZ:Int)<(U.length:Int)then KQ a0 J U n2 (ia||b.Authority==c.Authority&&(b.Seq==c.Seq&&(b.Time==c.Time&&(b.Y6==c.Y6&&b.Mark==c.Mark)))) (iZ+1)else ia
def X8(a0:List ZX):Nat->Nat->List ZX->List ZX
  |0,_,_=>default
  |n1+1,J,U=>bif(J:Int)<(a0.length:Int)then(match KQ a0 J U (U.length+1) false 0 with|gX=>bif !gX then X8 a0 n1 (J+1) (U++([nth a0 J]:List ZX))else X8 a0 n1 (J+1) U)else U
def Kn(a0 a1:List ZX):List ZX:=match X8 a0 (a0.length+1) 0 a1 with|ic=>ic
def qu(a0:Zh)(J:Nat):Nat->Nat->List ZX->List ZX
  |0,_,_=>default
  |n2+1,ia,iZ=>letI b:=(nth a0.Zg J).ZR;bif(ia:Int)<(b.length:Int)then qu a0 J n2 (ia+1) (Kn (nth b ia).YK iZ)else iZ
def WU(a0:Zh):Nat->Nat->List ZX->List ZX
  |0,_,_=>default
  |n3+1,hC,hQ=>bif(hC:Int)<(a0.Yl.length:Int)then WU a0 n3 (hC+1) (Kn (nth a0.Yl hC) hQ)else hQ
def jD(a0:Zh):Nat->Nat->List ZX->List ZX
  |0,_,_=>default
  |n1+1,J,U=>bif(J:Int)<(a0.Zg.length:Int)then(match qu a0 J ((nth a0.Zg J).ZR.length+1) 0 U with|gX=>jD a0 n1 (J+1) gX)else U
def SS(a0:Zh):List ZX:=match jD a0 (a0.Zg.length+1) 0 ([]:List ZX)with|ic=>(match WU a0 (a0.Yl.length+1) 0 ic with|z3_0=>z3_0)
def xh(a0:ZF):Nat->Nat->List ZU->List ZU
  |0,_,_=>default
  |n1+1,J,U=>bif(J:Int)<((Yn a0).length:Int)then xh a0 n1 (J+1) (U++([(nth (Yn a0) J).ZN]:List ZU))else U
def yo(a0:ZF):List ZX:=match xh a0 ((Yn a0).length+1) 0 ([]:List ZU)with|ic=>SS (Zh.mk ic ([]:List (List ZX)))
def Ru(a0:List Yg)(a1:List Za)(a2 a3:ZX):Bool:=letI b:=a2.Authority;letI c:=a3.Authority;letI d:=a2.Seq;letI e:=a3.Seq;letI f:=a3.Time;letI g:=a2.Time;bif b !=c||!(W5 a0 a1 a2)||!(W5 a0 a1 a3)then false else bif d>e then e==d&&!(c==b&&(e==d&&(f==g&&(a3.Y6==a2.Y6&&a3.Mark==a2.Mark))))||e<d&&decide (f>g)else d==e&&!(b==c&&(d==e&&(g==f&&(a2.Y6==a3.Y6&&a2.Mark==a3.Mark))))||d<e&&decide (g>f)
def S6(a0:List Yg)(a1:List Za)(a2:List ZX)(J:Nat):Nat->Nat->List Bool->List Bool
  |0,_,_=>default
  |n2+1,ia,iZ=>letI b:=a2.take J;letI c:=nth a2 J;bif(ia:Int)<(b.length:Int)then bif ZP c.Authority 0 99&&Ru a0 a1 c (nth b ia)then S6 a0 a1 a2 J n2 (ia+1) (iZ.set c.Authority.toNat true)else S6 a0 a1 a2 J n2 (ia+1) iZ else iZ
def WC(ic:List Bool):Nat->List Int->Nat->List Int
  |0,_,_=>default
  |n3+1,hC,hQ=>bif(hQ:Int)<100 then bif nth ic hQ then WC ic n3 (hC++([(hQ:Int)]:List Int)) (hQ+1)else WC ic n3 hC (hQ+1)else hC
def MR(a0:List Yg)(a1:List Za)(a2:List ZX):Nat->Nat->List Bool->List Bool
  |0,_,_=>default
  |n1+1,J,U=>bif(J:Int)<(a2.length:Int)then(match S6 a0 a1 a2 J ((a2.take J).length+1) 0 U with|gX=>MR a0 a1 a2 n1 (J+1) gX)else U
def Vt(a0:List Yg)(a1:List Za)(a2:List ZX):List Int:=match MR a0 a1 a2 (a2.length+1) 0 (zB 100)with|ic=>(match WC ic 101 ([]:List Int) 0 with|z3_0=>z3_0)
def Rm(a0:ZZ):Int:=W (W (3+W (2*(a0.Path.length:Int)))+W (6*(a0.YK.length:Int)))
def T6(a0:ZU):Nat->Int->Nat->Int
  |0,_,_=>default
  |n2+1,ia,iZ=>bif(iZ:Int)<(a0.ZM.length:Int)then T6 a0 n2 (W (ia+W (2+((nth a0.ZM iZ).YS.length:Int)))) (iZ+1)else ia
def T9(a0:ZU):Nat->Int->Nat->Int
  |0,_,_=>default
  |n1+1,J,U=>bif(U:Int)<(a0.ZR.length:Int)then T9 a0 n1 (W (J+Rm (nth a0.ZR U))) (U+1)else J
def Oj(a0:ZU):Int:=match T9 a0 (a0.ZR.length+1) 0 0 with|ic=>(match T6 a0 (a0.ZM.length+1) ic 0 with|gX=>gX)
def Ug(a0:ZD):Nat->Int->Nat->Int
  |0,_,_=>default
  |n1+1,J,U=>bif(U:Int)<(a0.ZE.length:Int)then Ug a0 n1 (W (J+Oj (nth a0.ZE U).ZN)) (U+1)else J
def xa(a0:ZD):Int:=match Ug a0 (a0.ZE.length+1) 0 0 with|ic=>ic
def xr(a0:ZF)(a1:Int):Nat->Int->Nat->Int
  |0,_,_=>default
  |n1+1,J,U=>bif(U:Int)<((Yn a0).length:Int)then bif(Qp a0 (nth (Yn a0) U).Id).Code==a1 then xr a0 a1 n1 (W (J+1)) (U+1)else xr a0 a1 n1 J (U+1)else J
def kK(a0:ZF)(a1:Int):Int:=match xr a0 a1 ((Yn a0).length+1) 0 0 with|ic=>ic
def Ub(a0:ZF):Nat->List ByteArray->Nat->List ByteArray
  |0,_,_=>default
  |n2+1,ia,iZ=>bif(iZ:Int)<=3 then Ub a0 n2 (ia++([Z8 (kK a0 (iZ:Int))]:List ByteArray)) (iZ+1)else ia
def Uh(a0:ZF):Nat->List ByteArray->Nat->List ByteArray
  |0,_,_=>default
  |n1+1,J,U=>bif(U:Int)<(a0.ZA.length:Int)then Uh a0 n1 (J++([Z8 ((nth a0.ZA U).ZE.length:Int)]:List ByteArray)) (U+1)else J
def xV(a0:ZF):ByteArray:=letI b:=([]:List ByteArray);letI c:=(⟨#[32]⟩:ByteArray);match Uh a0 (a0.ZA.length+1) b 0 with|ic=>(match Ub a0 5 b 1 with|gX=>Z8 a0.Frame.Now++c++T5 ic (⟨#[43]⟩:ByteArray)++c++T5 gX (⟨#[47]⟩:ByteArray)++c++Z8 (a0.Ym.length:Int))
def NV(a0:ZF)(iZ:Nat):Nat->List Int->Nat->Sum Bool (List Int)
  |0,_,_=>.inr default
  |n3+1,hC,hQ=>letI b:=(nth a0.ZA iZ).ZE;letI c:=(nth b hQ).Id;bif(hQ:Int)<(b.length:Int)then bif qc hC c||c>=a0.Next then .inl false else NV a0 iZ n3 (hC++([c]:List Int)) (hQ+1)else .inr hC
def Nj(a0:ZF):Nat->Nat->Sum Bool Unit
  |0,_=>.inr ()
  |n5+1,dJ=>bif(dJ:Int)<(a0.XA.length:Int)then bif Zr a0.Frame.ZC (nth a0.XA dJ)<0 then .inl false else Nj a0 n5 (dJ+1)else .inr ()
def N7(a0:ZF):Nat->Nat->Sum Bool Unit
  |0,_=>.inr ()
  |n4+1,eE=>bif(eE:Int)<(a0.XW.length:Int)then bif nth a0.XW eE<0 then .inl false else N7 a0 n4 (eE+1)else .inr ()
def NX(a0:ZF):Nat->List Int->Nat->Sum Bool Unit
  |0,_,_=>.inr ()
  |n2+1,ia,iZ=>letI b:=nth a0.ZA iZ;bif(iZ:Int)<(a0.ZA.length:Int)then bif !(zg b)||b.Id !=(iZ:Int)then .inl false else(match NV a0 iZ (b.ZE.length+1) ia 0 with|.inl r3=>.inl r3|.inr z3_0=>NX a0 n2 z3_0 (iZ+1))else .inr ()
def Ng(a0:ZF):Nat->Nat->Sum Bool Unit
  |0,_=>.inr ()
  |n1+1,J=>letI b:=nth a0.Zd J;bif(J:Int)<(a0.Zd.length:Int)then bif !(RN a0.Frame.Zz b)||VI a0.Zd b.Zk !=(J:Int)||!(ZP (nth a0.YW J) (-1) 10001)then .inl false else Ng a0 n1 (J+1)else .inr ()
def GL(a0:ZF):Bool:=letI b:=a0.Frame;letI c:=a0.Zd.length;letI d:=a0.ZA.length;letI e:=a0.XW.length;letI f:=a0.XA.length;bif !(Mh b)||(a0.YW.length:Int)!=(c:Int)||!(ZP (d:Int) 1 4)||(e:Int)!=(b.ZC.length:Int)||(f:Int)>b.Jb||a0.Next<1||!(UK a0.XA)||!(UK a0.Ym)then false else(match Ng a0 (c+1) 0 with|.inl r1=>r1|.inr _=>(match NX a0 (d+1) ([]:List Int) 0 with|.inl r2=>r2|.inr _=>(match N7 a0 (e+1) 0 with|.inl r4=>r4|.inr _=>(match Nj a0 (f+1) 0 with|.inl r5=>r5|.inr _=>true))))
def qX(a0:ZF):Nat->List Int->Nat->List Int
  |0,_,_=>default
  |n1+1,J,U=>letI b:=(nth (Yn a0) U).Id;bif(U:Int)<((Yn a0).length:Int)then bif(Qp a0 b).Code==1 then qX a0 n1 (J++([b]:List Int)) (U+1)else qX a0 n1 J (U+1)else J
def Xt(a0:ZF):List Int:=match qX a0 ((Yn a0).length+1) ([]:List Int) 0 with|ic=>ic
def kL(a0:ZF):Nat->List Int->Nat->List Int
  |0,_,_=>default
  |n1+1,J,U=>letI b:=nth (Xt a0) U;bif(U:Int)<((Xt a0).length:Int)then bif qc a0.Ym b then kL a0 n1 (J++([b]:List Int)) (U+1)else kL a0 n1 J (U+1)else J
def PD(a0:ZF):List Int:=match kL a0 ((Xt a0).length+1) ([]:List Int) 0 with|ic=>ic
def kx(a0:ZF):ByteArray:=bif !(GL a0)then(⟨#[119,111,114,108,100]⟩:ByteArray)else bif((PD a0).length:Int)>0 then(⟨#[102,111,114,103,101,100]⟩:ByteArray)else(⟨#[]⟩:ByteArray)
def Pb(a0:ZF)(a1:ByteArray)(a2:List Int):ByteArray:=letI b:=a1++(⟨#[32]⟩:ByteArray)++Z8 (a2.length:Int);letI c:=nth a2 0;letI d:=!(YH a0 c);letI e:=(⟨#[110,111]⟩:ByteArray);letI f:=a0.Frame;letI g:=nth a0.ZA c.toNat;letI h:=nth a2 1;bif b=(⟨#[115,104,111,119,32,49]⟩:ByteArray)then bif d then e else zR f g else bif b=(⟨#[100,117,101,32,50]⟩:ByteArray)then bif d then e else zt (ke f g h)else bif b=(⟨#[115,105,122,101,32,49]⟩:ByteArray)then bif d then e else Z8 (xa g)else bif b=(⟨#[106,117,100,103,101,32,49]⟩:ByteArray)then bif(ZW a0 c).1<0 then e else X7 (Qp a0 c)else bif b=(⟨#[104,105,100,101,32,50]⟩:ByteArray)then Vg a0 c h else bif b=(⟨#[112,108,97,110,32,48]⟩:ByteArray)then zt (Qe f)else bif b=(⟨#[108,105,97,114,115,32,48]⟩:ByteArray)then zt (Vt f.Zz f.ZC (yo a0))else bif b=(⟨#[119,111,114,108,100,32,48]⟩:ByteArray)then xV a0 else bif b=(⟨#[97,117,100,105,116,32,48]⟩:ByteArray)then bif !decide (kx a0=(⟨#[]⟩:ByteArray))then kx a0 else(⟨#[111,107]⟩:ByteArray)else(⟨#[119,104,97,116]⟩:ByteArray)
def QU(a0:ZF)(a1:ByteArray):ZF×ByteArray:=letI b:=Zq a1;letI c:=(a0,(⟨#[119,104,97,116]⟩:ByteArray));letI d:=nth b 0;letI e:=KR a0 b 4;letI f:=KR a0 b 3;letI g:=Ze (b.tail);letI h:=d++(⟨#[32]⟩:ByteArray)++Z8 (g.1.length:Int);letI i:=nth g.1 0;letI j:=([]:List Int);letI k:=ZL.mk 0 ([]:List ByteArray) j;letI l:=Y7 a0 (Zo.mk 1 i 0 0 0 k j);letI m:=Y7 a0 (Zo.mk 3 i 0 0 0 k j);letI n:=Y7 a0 (Zo.mk 4 i 0 0 0 k j);letI o:=Y7 a0 (Zo.mk 7 i 0 0 0 k j);letI p:=nth g.1 1;letI q:=Y7 a0 (Zo.mk 6 i p (nth g.1 2) 0 k j);letI r:=Y7 a0 (Zo.mk 9 i p 0 0 k j);letI s:=Y7 a0 (Zo.mk 10 i p 0 0 k j);bif(a1.size:Int)>200||(b.length:Int)==0 then c else bif d=(⟨#[115,105,103,110]⟩:ByteArray)then(e.1,e.2)else bif d=(⟨#[102,111,114,103,101]⟩:ByteArray)then(f.1,f.2)else bif d=(⟨#[114,101,110,101,119]⟩:ByteArray)then((Ko a0 b).1,(Ko a0 b).2)else bif !g.2 then c else bif h=(⟨#[116,105,99,107,32,49]⟩:ByteArray)then(l.1,l.2)else bif h=(⟨#[97,110,115,119,101,114,32,49]⟩:ByteArray)then(m.1,m.2)else bif h=(⟨#[114,101,118,111,107,101,32,49]⟩:ByteArray)then(n.1,n.2)else bif h=(⟨#[102,111,114,103,101,116,32,49]⟩:ByteArray)then(o.1,o.2)else bif h=(⟨#[109,111,118,101,32,51]⟩:ByteArray)then(q.1,q.2)else bif h=(⟨#[98,97,99,107,100,97,116,101,32,50]⟩:ByteArray)then(r.1,r.2)else bif h=(⟨#[102,97,107,101,32,50]⟩:ByteArray)then(s.1,s.2)else(a0,Pb a0 d g.1)
def Zm(a0:ZF)(a1:ByteArray):ZF×ByteArray:=letI b:=QU a0 a1;(b.1,b.2)
def kR(a0 a1:ZT):Nat->Nat->Sum Bool Unit
  |0,_=>.inr ()
  |n3+1,hC=>letI b:=nth a0.Methods hC;letI c:=nth a1.Methods hC;bif(hC:Int)<(a0.Methods.length:Int)then bif !(b.Id==c.Id&&(b.PR==c.PR&&(b.Ends==c.Ends&&b.Uc==c.Uc)))then .inl false else kR a0 a1 n3 (hC+1)else .inr ()
def kB(a0 a1:ZT):Nat->Nat->Sum Bool Unit
  |0,_=>.inr ()
  |n2+1,ia=>letI b:=nth a0.ZC ia;letI c:=nth a1.ZC ia;bif(ia:Int)<(a0.ZC.length:Int)then bif !(b.Id==c.Id&&(b.Key==c.Key&&b.Error==c.Error))then .inl false else kB a0 a1 n2 (ia+1)else .inr ()
def kO(a0 a1:ZT):Nat->Nat->Sum Bool Unit
  |0,_=>.inr ()
  |n1+1,J=>letI b:=nth a0.Zz J;letI c:=nth a1.Zz J;bif(J:Int)<(a0.Zz.length:Int)then bif !(b.Number==c.Number&&(b.z9==c.z9&&(b.Method==c.Method&&(b.OT==c.OT&&b.Um==c.Um))))then .inl false else kO a0 a1 n1 (J+1)else .inr ()
def jq(a0 a1:ZT):Bool:=letI b:=a0.Zz.length;letI c:=a0.ZC.length;letI d:=a0.Methods.length;bif(b:Int)!=(a1.Zz.length:Int)||(c:Int)!=(a1.ZC.length:Int)||(d:Int)!=(a1.Methods.length:Int)||a0.Jb !=a1.Jb||a0.Now !=a1.Now then false else(match kO a0 a1 (b+1) 0 with|.inl r1=>r1|.inr _=>(match kB a0 a1 (c+1) 0 with|.inl r2=>r2|.inr _=>(match kR a0 a1 (d+1) 0 with|.inl r3=>r3|.inr _=>true)))
def jR(a0 a1:List ByteArray):Nat->Nat->Sum Bool Unit
  |0,_=>.inr ()
  |n1+1,J=>bif(J:Int)<(a0.length:Int)then bif !decide (nth a0 J=nth a1 J)then .inl false else jR a0 a1 n1 (J+1)else .inr ()
def VC(a0 a1:List ByteArray):Bool:=bif(a0.length:Int)!=(a1.length:Int)then false else(match jR a0 a1 (a0.length+1) 0 with|.inl r1=>r1|.inr _=>true)
def yM(a0 a1:ZL):Bool:=a0.KK==a1.KK&&VC a0.Yf a1.Yf&&zm a0.Xl a1.Xl
def yE(a0 a1:List ZV):Nat->Nat->Sum Bool Unit
  |0,_=>.inr ()
  |n1+1,J=>bif(J:Int)<(a0.length:Int)then bif !(Jz (nth a0 J) (nth a1 J))then .inl false else yE a0 a1 n1 (J+1)else .inr ()
def xv(a0 a1:List ZV):Bool:=bif(a0.length:Int)!=(a1.length:Int)then false else(match yE a0 a1 (a0.length+1) 0 with|.inl r1=>r1|.inr _=>true)
def kG(a0 a1:List ZX):Nat->Nat->Sum Bool Unit
  |0,_=>.inr ()
  |n1+1,J=>letI b:=nth a0 J;letI c:=nth a1 J;bif(J:Int)<(a0.length:Int)then bif !(b.Authority==c.Authority&&(b.Seq==c.Seq&&(b.Time==c.Time&&(b.Y6==c.Y6&&b.Mark==c.Mark))))then .inl false else kG a0 a1 n1 (J+1)else .inr ()
def V9(a0 a1:List ZX):Bool:=bif(a0.length:Int)!=(a1.length:Int)then false else(match kG a0 a1 (a0.length+1) 0 with|.inl r1=>r1|.inr _=>true)
def xp(a0 a1:ZZ):Nat->Nat->Sum Bool Unit
  |0,_=>.inr ()
  |n1+1,J=>letI b:=nth a0.Path J;letI c:=nth a1.Path J;bif(J:Int)<(a0.Path.length:Int)then bif !(b.Y6==c.Y6&&b.Left==c.Left)then .inl false else xp a0 a1 n1 (J+1)else .inr ()
def zV(a0 a1:ZZ):Bool:=letI b:=a0.Path.length;bif a0.Count !=a1.Count||a0.Method !=a1.Method||a0.BE !=a1.BE||(b:Int)!=(a1.Path.length:Int)then false else(match xp a0 a1 (b+1) 0 with|.inl r1=>r1|.inr _=>V9 a0.YK a1.YK)
def jJ(a0 a1:ZU):Nat->Nat->Sum Bool Unit
  |0,_=>.inr ()
  |n1+1,J=>bif(J:Int)<(a0.ZR.length:Int)then bif !(zV (nth a0.ZR J) (nth a1.ZR J))then .inl false else jJ a0 a1 n1 (J+1)else .inr ()
def qL(a0 a1:ZU):Bool:=letI b:=a0.ZR.length;bif !(xv a0.ZM a1.ZM)||(b:Int)!=(a1.ZR.length:Int)then false else(match jJ a0 a1 (b+1) 0 with|.inl r1=>r1|.inr _=>true)
def qx(a0 a1:ZO):Bool:=letI b:=a0.Sig;letI c:=a1.Sig;a0.Id==a1.Id&&a0.XL==a1.XL&&yM a0.Doc a1.Doc&&(b.Key==c.Key&&(b.Zk==c.Zk&&(b.Method==c.Method&&(b.Y6==c.Y6&&(b.kl==c.kl&&(b.Org==c.Org&&(b.kj==c.kj&&(b.Wl==c.Wl&&b.Mark==c.Mark))))))))&&qL a0.ZN a1.ZN
def xx(a0 a1:ZD):Nat->Nat->Sum Bool Unit
  |0,_=>.inr ()
  |n1+1,J=>bif(J:Int)<(a0.ZE.length:Int)then bif !(qx (nth a0.ZE J) (nth a1.ZE J))then .inl false else xx a0 a1 n1 (J+1)else .inr ()
def zT(a0 a1:ZD):Bool:=letI b:=a0.ZE.length;bif a0.Id !=a1.Id||(b:Int)!=(a1.ZE.length:Int)then false else(match xx a0 a1 (b+1) 0 with|.inl r1=>r1|.inr _=>true)
def kA(a0 a1:ZF):Nat->Nat->Sum Bool Unit
  |0,_=>.inr ()
  |n2+1,ia=>bif(ia:Int)<(a0.ZA.length:Int)then bif !(zT (nth a0.ZA ia) (nth a1.ZA ia))then .inl false else kA a0 a1 n2 (ia+1)else .inr ()
def kH(a0 a1:ZF):Nat->Nat->Sum Bool Unit
  |0,_=>.inr ()
  |n1+1,J=>letI b:=nth a0.Zd J;letI c:=nth a1.Zd J;bif(J:Int)<(a0.Zd.length:Int)then bif !(b.Zk==c.Zk&&(b.Key==c.Key&&(b.z9==c.z9&&(b.Xv==c.Xv&&(b.To==c.To&&(b.YG==c.YG&&b.Mark==c.Mark))))))then .inl false else kH a0 a1 n1 (J+1)else .inr ()
def z6(a0 a1:ZF):Bool:=letI b:=a0.Zd.length;letI c:=a0.ZA.length;bif !(jq a0.Frame a1.Frame)||(b:Int)!=(a1.Zd.length:Int)||(c:Int)!=(a1.ZA.length:Int)||!(zm a0.YW a1.YW)||!(zm a0.XW a1.XW)||!(zm a0.XA a1.XA)||a0.Next !=a1.Next||!(zm a0.Ym a1.Ym)then false else(match kH a0 a1 (b+1) 0 with|.inl r1=>r1|.inr _=>(match kA a0 a1 (c+1) 0 with|.inl r2=>r2|.inr _=>true))
def qC:Nat->ByteArray->Int->List UInt8->Nat->Int->ByteArray×List UInt8×Nat×Int
  |0,_,_,_,_,_=>(default,default,default,default)
  |n1+1,J,U,ib,iq,hE=>letI c:=KI (Z3.mk ib iq hE);bif U>0 then qC n1 (J++c.2++(⟨#[10]⟩:ByteArray)) (W (U-1)) c.1.b c.1.i c.1.h else(J,ib,iq,hE)
def qm:Nat->ByteArray->Int->List UInt8->Nat->Int->ByteArray×List UInt8×Nat×Int
  |0,_,_,_,_,_=>(default,default,default,default)
  |n2+1,ia,iZ,gI,gJ,gZ=>letI c:=KI (Z3.mk gI gJ gZ);bif iZ>0 then qm n2 (ia++c.2++(⟨#[10]⟩:ByteArray)) (W (iZ-1)) c.1.b c.1.i c.1.h else(ia,gI,gJ,gZ)
def Vh(a0:Z3)(a1:Int):Z3×ByteArray:=letI c:=ZI (Zv a0 2).1 a1;letI d:=c.2.toNat+2;bif(Zv a0 2).2 then(match qC d (⟨#[116,105,99,107,32,50,50,10,115,105,103,110,32,48,32,49,50,32,57,48,48,48,32,49,32,97,32,98,10,116,105,99,107,32,51,10,97,110,115,119,101,114,32,49,10,114,101,110,101,119,32,48,32,48,32,49,32,50,10,116,105,99,107,32,49,56,10,114,101,110,101,119,32,48,32,48,32,49,32,50,32,51,10]⟩:ByteArray) c.2 c.1.b c.1.i c.1.h with|(ic,z1_1,z1_2,z1_3)=>(Z3.mk z1_1 z1_2 z1_3,ic))else(match qm d (⟨#[]⟩:ByteArray) c.2 c.1.b c.1.i c.1.h with|(gX,dS,z2_2,z2_3)=>(Z3.mk dS z2_2 z2_3,gX))
def Qx:Nat->ByteArray->Nat->ByteArray
  |0,_,_=>default
  |n1+1,J,U=>bif(U:Int)<61 then Qx n1 (J++(⟨#[119,111,114,108,100,10]⟩:ByteArray)) (U+1)else J
def Zw(a0:List UInt8):ByteArray:=letI b:=Zv (WT a0) 20;bif b.2 then(match Qx 62 (⟨#[]⟩:ByteArray) 0 with|ic=>ic)else(Vh b.1 10).2
def JD:List Yg:=([Yg.mk 1 90 1 0 501,Yg.mk 2 90 3 40 502,Yg.mk 11 1 1 0 511,Yg.mk 12 1 2 20 512,Yg.mk 13 2 3 40 513,Yg.mk 21 50 1 0 521,Yg.mk 31 81 1 0 531,Yg.mk 32 82 2 20 532,Yg.mk 33 83 3 40 533,Yg.mk 34 84 4 60 534]:List Yg)
def Qq:List Z9:=([Z9.mk 1 0 40 50,Z9.mk 2 20 80 70,Z9.mk 3 40 120 200,Z9.mk 4 60 10001 10001]:List Z9)
def RG(a0:List Yg)(a1:YL):YL×Bool:=letI b:=yN a0 a1.YG (zE a1);bif !(Ia a1)||!b.2||YU a0 a1.Key<0 then(YL.mk 0 0 0 0 0 0 0,false)else(YL.mk a1.Zk a1.Key a1.z9 a1.Xv a1.To a1.YG b.1,true)
def WN:Nat->Nat->List YL->List YL
  |0,_,_=>default
  |n2+1,ia,iZ=>bif(ia:Int)<3 then WN n2 (ia+1) (iZ++([(RG JD (nth ([YL.mk 1 11 1 0 60 1 0,YL.mk 2 12 1 20 100 1 0,YL.mk 3 13 2 40 150 2 0]:List YL) ia)).1]:List YL))else iZ
def Wt:Nat->Nat->List Za->List Za
  |0,_,_=>default
  |n1+1,J,U=>letI b:=(J:Int);bif b<4 then Wt n1 (J+1) (U++([Za.mk (W (b+1)) (W (31+b)) (nth ([1,2,1,0]:List Int) J)]:List Za))else U
def YC(a0:Int):ZF:=letI b:=if a0<1 then a0 else 1;letI c:=if b>0 then b else 0;letI e:=([-1,-1,-1]:List Int);letI f:=([]:List ZO);letI g:=([ZD.mk 0 f,ZD.mk 1 f]:List ZD);letI h:=List.replicate 4 0;letI i:=([]:List Int);(match Wt 5 0 ([]:List Za)with|ic=>letI d:=ZT.mk JD ic Qq c 0;(match WN 4 0 ([]:List YL)with|gX=>bif c>0 then ZF.mk d gX e g h ([1]:List Int) 1 i else ZF.mk d gX e g h i 1 i))
def yd(a0:ByteArray):Nat->List ByteArray->Nat->List Yg->List Za->List Z9->Int->Int->List YL->List Int->List ZD->List Int->List Int->Int->List Int->List ByteArray×List Yg×List Za×List Z9×Int×Int×List YL×List Int×List ZD×List Int×List Int×Int×List Int
  |0,_,_,_,_,_,_,_,_,_,_,_,_,_,_=>(default,default,default,default,default,default,default,default,default,default,default,default,default)
  |n1+1,J,U,ib,iq,hE,gR,gS,gT,gU,gd,gC,gD,gE,gq=>letI b:=Zb a0 10;letI c:=b.take (b.length-1);letI d:=Zm (ZF.mk (ZT.mk ib iq hE gR gS) gT gU gd gC gD gE gq) (nth c U);letI e:=d.1;letI f:=e.Frame;bif(U:Int)<(c.length:Int)then yd a0 n1 (J++([d.2]:List ByteArray)) (U+1) f.Zz f.ZC f.Methods f.Jb f.Now e.Zd e.YW e.ZA e.XW e.XA e.Next e.Ym else(J,ib,iq,hE,gR,gS,gT,gU,gd,gC,gD,gE,gq)
def Sb(a0:ByteArray):Nat->List ByteArray->Nat->List Yg->List Za->List Z9->Int->Int->List YL->List Int->List ZD->List Int->List Int->Int->List Int->List ByteArray×List Yg×List Za×List Z9×Int×Int×List YL×List Int×List ZD×List Int×List Int×Int×List Int
  |0,_,_,_,_,_,_,_,_,_,_,_,_,_,_=>(default,default,default,default,default,default,default,default,default,default,default,default,default)
  |n2+1,ia,iZ,gI,gJ,gZ,fW,fX,fY,fZ,fQ,gr,gu,gv,gw=>letI b:=Zb a0 10;letI c:=Zm (ZF.mk (ZT.mk gI gJ gZ fW fX) fY fZ fQ gr gu gv gw) (nth b iZ);letI d:=c.1;letI e:=d.Frame;bif(iZ:Int)<(b.length:Int)then Sb a0 n2 (ia++([c.2]:List ByteArray)) (iZ+1) e.Zz e.ZC e.Methods e.Jb e.Now d.Zd d.YW d.ZA d.XW d.XA d.Next d.Ym else(ia,gI,gJ,gZ,fW,fX,fY,fZ,fQ,gr,gu,gv,gw)
def Xf(a0:ByteArray):(List ByteArray)×Bool:=letI b:=Zb a0 10;letI c:=b.length;letI d:=(b.take (c-1)).length;letI e:=([]:List ByteArray);letI f:=YC 1;letI g:=f.Frame;bif nth b (c-1)=(⟨#[]⟩:ByteArray)then bif(d:Int)>60 then(e,false)else(match yd a0 (d+1) e 0 g.Zz g.ZC g.Methods g.Jb g.Now f.Zd f.YW f.ZA f.XW f.XA f.Next f.Ym with|(ic,z1_1,z1_2,z1_3,z1_4,z1_5,z1_6,z1_7,z1_8,z1_9,z1_10,z1_11,z1_12)=>(ic,true))else bif(c:Int)>60 then(e,false)else(match Sb a0 (c+1) e 0 g.Zz g.ZC g.Methods g.Jb g.Now f.Zd f.YW f.ZA f.XW f.XA f.Next f.Ym with|(gX,dS,z2_2,z2_3,z2_4,z2_5,z2_6,z2_7,z2_8,z2_9,z2_10,z2_11,z2_12)=>(gX,true))
def Jo(a0:List UInt8):Nat->Int->Nat->Int
  |0,_,_=>default
  |n2+1,ia,iZ=>bif(iZ:Int)<((Zw a0).size:Int)then bif((bAt (Zw a0) iZ):Int)==10 then Jo a0 n2 (W (ia+1)) (iZ+1)else Jo a0 n2 ia (iZ+1)else ia
def js(a0:List UInt8):Nat->Nat->Sum Bool Unit
  |0,_=>.inr ()
  |n1+1,J=>letI b:=(Zm (ZQ a0).1 (ZQ a0).2).1;bif(J:Int)<10 then bif !(z6 b (Zm b (nth ([(⟨#[119,111,114,108,100]⟩:ByteArray),(⟨#[97,117,100,105,116]⟩:ByteArray),(⟨#[112,108,97,110]⟩:ByteArray),(⟨#[108,105,97,114,115]⟩:ByteArray),(⟨#[115,104,111,119,32,48]⟩:ByteArray),(⟨#[106,117,100,103,101,32,49]⟩:ByteArray),(⟨#[104,105,100,101,32,49,32,48]⟩:ByteArray),(⟨#[100,117,101,32,48,32,53]⟩:ByteArray),(⟨#[115,105,122,101,32,49]⟩:ByteArray),(⟨#[]⟩:ByteArray)]:List ByteArray) J)).1)then .inl false else js a0 n1 (J+1)else .inr ()
def US(a0:List UInt8):Bool:=letI b:=Zm (ZQ a0).1 (ZQ a0).2;letI c:=Xf (Zw a0);letI d:=(c.1.length:Int);bif tk a0 then true else bif(b.2=(⟨#[110,111]⟩:ByteArray)||b.2=(⟨#[119,104,97,116]⟩:ByteArray))&&!(z6 b.1 (ZQ a0).1)||b.2=(⟨#[]⟩:ByteArray)then false else(match js a0 11 0 with|.inl r1=>r1|.inr _=>(match Jo a0 ((Zw a0).size+1) 0 0 with|gX=>c.2&&d==gX||!c.2&&d==0&&gX>60))
end Go.Mo
