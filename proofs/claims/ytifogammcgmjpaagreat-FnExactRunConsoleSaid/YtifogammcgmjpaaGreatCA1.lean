/- Contracts of the functions C7 the abstract machine, part A1. No condition. -/
import Derived.Test.YtifogammcgmjpaaGreatL
import Derived.Test.YtifogammcgmjpaaGreatTy
namespace Go.Proofs.YtifogammcgmjpaaGreat
open Tryz
open Go.Vm Go.Mo
set_option maxHeartbeats 1000000
set_option maxRecDepth 100000
set_option linter.unusedSimpArgs false
set_option linter.unusedVariables false
theorem EA(A C:List ByteArray):c 6 [rL 1 N A,rL 1 N C] [rB (Sn A C)]:=by
 have f:=me (Sn.eq_1 A C);refine so func6 ntmps6 ?_;refine cF f ?_ ?_<;>intro k1 M f
 ·exact rt _ f
 refine aI (Pr.eq_2 A C) (fun J=>Z6 26 [eL 0 1 A N,eL 1 1 C N,eI 5 (J:Int)]) (fun K J=>A.length<K+J/\J<=A.length) (A.length+1) 0 (fun p1 J H j1=>?_);refine cF H ?_ ?_<;>intro k3 Z H
 ·have w:=ix Z;have m2:=ml A (k3 0 _ rfl);have D:=wr J;refine ae ac ?_;have V:=ik J C;refine xp (an w V) ?_;refine cF H ?_ ?_<;>intro k5 h3 H
  ·exact rt _ (ms f H)
  exact aH D H
 exact rt _ (ms f H)
theorem Dc(A:Int):c 14 [rI A] [rS (T4 A)]:=by
 have f:=me (T4.eq_1 A);refine so func14 ntmps14 ?_;refine cF f ?_ ?_<;>intro k1 M f
 ·exact rt _ f
 refine aq (Hw.eq_2) (fun J U=>Z6 20 [eI 0 J,(3,.one (.d (.str U)),[])]) (fun K J U=>(K=22\/J.natAbs<10^(K-1))/\U.size+K=22) 22 A (⟨#[]⟩:ByteArray) (fun p1 J U H j1=>?_) (v:=by exact⟨Y,.inl rfl,rfl⟩);refine cF H ?_ ?_<;>intro k3 Z H
 ·refine cB (l:=([UInt8.ofInt (W (48+Int.tmod J 10))]:List UInt8)) rfl rfl rfl ab ab ab (by simp[y9]) ?_;refine aU ?_;exact aB H (v:=by(try dsimp only);obtain⟨a,d⟩:=fX j1.2.1 (show(J !=0)=true by simp at Z⊢;omega);refine⟨a,d,?_⟩;have:=j1.2.2;simp;omega)
 exact rt _ (ms f H)
theorem Zw(A:List ByteArray)(C:Int):Aj prog 7 (rL 1 N A) [rI C] (rL 1 N (Xc A C).1) (.int .i64 (Xc A C).2):=by
 refine mI func7 rfl d (fun v=>?_);simp[ntmps7];refine bX fun k1=>?_;refine fx (ι:={s:Nat×Int×Nat×_//zZ s.1 s.2.1 s.2.2.1 s.2.2.2=zZ (A.length+1) C 0 A/\(1<=s.1/\s.2.2.2.length<s.1+s.2.2.1)}) (fun s=>Z6 20 [(0,.fix v (.one (.E 0 0 0 s.1.2.2.2.length)),[.arr true 1 (s.1.2.2.2.map N)]),eI 1 s.1.2.1,eI 5 (s.1.2.2.1:Int)]) (fun s=>s.1.1) ⟨(_,C,0,A),rfl,by first|omega|(dsimp only;omega)|simp⟩ (Q6 ab) ?_;rintro⟨⟨K,J,U,y⟩,H,j1⟩;try dsimp only at H j1
 obtain⟨p1,rfl⟩:∃p,K=p+1:=⟨K-1,Y⟩;simp;refine cC (decide ((U:Int)<(y.length:Int))) (fun k2 M=>?_) (fun k2 M=>?_)
 ·have q1:=M;try simp at q1
  have w:U<y.length:=cw;have m2:y.length<=9223372036854775807:=by simpa using k2 0 _ rfl
  have D:IntKind.i64.wrap ((U:Int)+1)=(U:Int)+1:=YB Y Y;simp;refine cR (Dc J) ?_;refine xp w ?_;refine fo ⟨(p1,W (J+1),U+1,y.set U (T4 J)),?_,?_⟩ ab (Q6 ad)
  · rw[<-H];simp only[zZ,M,XN]
  · (simp;omega)
 ·have q1:=M;try simp at q1
  have a:zZ (A.length+1) C 0 A=(J,y):=by rw[<-H];simp only[zZ,M,XA]
  simp;refine mR (rv:=[.tmp 4]) rfl ?_;have f1:=Xc.eq_1 A C;simp only[a]at f1;simp[f1]
theorem He(A:List ByteArray)(C:Int):c 8 [rL 1 N A,rI C] [rI (xb A C)]:=by
 have f:=me (xb.eq_1 A C);refine so func8 ntmps8 ?_;refine aq (Ty.eq_2 A) (fun J U=>Z6 22 [eL 0 1 A N,eI 1 J,eI 5 (U:Int)]) (fun K J U=>A.length<K+U/\U<=A.length) (A.length+1) C 0 (fun p1 J U H j1=>?_);refine cF H ?_ ?_<;>intro k2 M H
 ·have w:=ix M;have m2:=ml A (k2 0 _ rfl);have D:=wr U;refine ae ac ?_;refine xp w ?_;refine aa (Dc J) ?_;refine cF H ?_ ?_<;>intro k4 Z H
  ·exact rt _ (ms f H)
  exact ay D H
 exact rt _ (ms f H)
end Go.Proofs.YtifogammcgmjpaaGreat
