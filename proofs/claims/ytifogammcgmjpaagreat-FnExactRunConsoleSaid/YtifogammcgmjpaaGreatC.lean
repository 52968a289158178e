/- Contracts of the functions C7 the abstract machine, part 1. No condition. -/
import Derived.Test.YtifogammcgmjpaaGreatCA1
import Derived.Test.YtifogammcgmjpaaGreatCI2
import Derived.Test.YtifogammcgmjpaaGreatCS3
import Derived.Test.YtifogammcgmjpaaGreatE
namespace Go.Proofs.YtifogammcgmjpaaGreat
open Tryz
open Go.Vm Go.Mo
set_option maxHeartbeats 1000000
set_option maxRecDepth 100000
set_option linter.unusedSimpArgs false
set_option linter.unusedVariables false
variable{a b:Prop}
theorem Tr(h:b)(k:a:=by(intros;first|omega|with_unfolding_all (first|first|omega|(simp only[Bool.or_eq_true,beq_iff_eq]at*;omega)|(simp at*;omega))|exact wt)):a/\b:=⟨k,h⟩
theorem qe(h:b)(k:a:=by(intros;first|omega|with_unfolding_all (first|first|omega|(simp only[Bool.or_eq_true,beq_iff_eq]at*;omega)|(simp at*;omega))|(simp_all;done)|(simp_all;omega)|grind|exact wt)):a/\b:=⟨k,h⟩
theorem tS(A:ByteArray)(g:R 1048576 A):Sd 4 [rS A] [rL 1 N (zF A).1,rB (zF A).2]:=by
 have f:=me (zF.eq_1 A);refine ar func4 ntmps4 ?_;refine bu (zI.eq_2 A) (fun J U y=>Z6 75 [(0,.one (.d (.str A)),[]),(4,.one (.E 4 0 0 J.length),[.arr false 1 (J.map N)]),eI 5 U,eI 6 (y:Int)]) (fun K J U y=>A.size+1<K+y/\J.length<=y/\0<=U/\U<=y/\y<=A.size+1/\(∀x∈J,x.size<=1048576)) (A.size+2) ([]:List ByteArray) 0 0 (fun p1 J U y H j1=>?_) (v:=by exact⟨Y,Y,Nat.le_refl _,Y,Y,Y,fun x h=>by cases h⟩) (h0:=az [((4,0),some (12,0))] []);try dsimp only at j1
 refine cF H ?_ ?_<;>intro k2 M H
 ·have c1:A.size<=1048576:=XR (xs g);have D:=wr y;refine cF H ?_ ?_<;>intro k3 Z H
  ·have f:=ms f H;refine cF f ?_ ?_<;>intro k4 h3 f
   ·exact ah [.tmp 2,.tmp 3] f
   refine aa (Z7.rd (DN 1)) ?_;refine dQ (kT.eq_2 J) (fun T q p t S al ak ad ag E ao am Q ai=>Z6 75 [(4,.one (.E 4 0 0 J.length),[.arr false 1 (J.map N)]),(7,.one (.O 7 0),[.box [.d (.sl 5 (p.map YF.row)),.d (.sl 3 (t.map ZS.row)),.d (.sl 4 (S.map Zy.row)),.d (.int .i64 al),.d (.int .i64 ak),.d (.sl 7 (ad.map YE.row)),.d (.sl 1 (ag.map r)),.d (.sl 2 (E.map ZD.row)),.d (.sl 1 (ao.map r)),.d (.sl 1 (am.map r)),.d (.int .i64 Q),.d (.sl 1 (ai.map r))]]),(8,.one (.E 8 0 0 T.length),[.arr false 1 (T.map N)]),eI 9 (q:Int)]) (fun n2 T q p t S al ak ad ag E ao am Q ai=>J.length<n2+q/\q<=J.length/\T.length<=q/\J.length<=60/\R (210+q) (P.mk (ZI.mk p t S al ak) ad ag E ao am Q ai)/\E.length=2/\(∀x∈J,x.size<=1048576)) (J.length+1) ([]:List ByteArray) 0 (Yj 1).b.a (Yj 1).b.b (Yj 1).b.c (Yj 1).b.e (Yj 1).b.d (Yj 1).c (Yj 1).d (Yj 1).a (Yj 1).e (Yj 1).f (Yj 1).h (Yj 1).g (fun p2 T q p t S al ak ad ag E ao am Q ai e2 j2=>?_) (v:=by exact⟨Y,Y,Nat.zero_le _,Nat.zero_le _,by first|(have hh:=of_decide_eq_false h3;omega)|(have hh:=of_decide_eq_false h7;omega),DW au,Ii 1,j1.2.2.2.2.2.2⟩) (h0:=az [((8,0),some (53,0))] []);try dsimp only at j2
   refine cF e2 ?_ ?_<;>intro b h4 e2
   ·have V:=ix h4;have m3:=ml J (b 4 _ rfl);have w2:=wr q;refine ae ac ?_;simp[V,ZH];repeat with_reducible refine Tr ?_
    refine cR (Hn (P.mk (ZI.mk p t S al ak) ad ag E ao am Q ai) (I J q) cq cq cq cq) ?_;simp;repeat with_reducible refine Tr ?_
    exact ee e2 (v:=by((try dsimp only);refine⟨Y,Y,Y,by simp;omega,Y,?_,?_,j2.2.2.2.2.2.2.2⟩;exact HO (n:=210+q) j2.2.2.2.2.2.1 Y;exact(NH (n:=210+q) j2.2.2.2.2.2.1 Y (Nat.le_trans (Km j2.2.2.2.2.2.2.2 _) au)).trans j2.2.2.2.2.2.2.1)) (hw:=YR [((8,0),some (73,0))] [] rfl bC)
   exact ah [.tmp 2,.tmp 3] (ms f e2)
  refine bp ?_ ?_<;>intro G
  ·have o:=G;have g1:=G;try simp at g1
   simp[G];repeat with_reducible refine qe ?_
   refine aE H ?_ ?_<;>intro k8 h5 H
   ·try(simp[G]at h5;done)
    all_goals
     simp[G];repeat with_reducible refine qe ?_
     exact be H (v:=by(have hh:=of_decide_eq_true M;have hz:=XR g;(try dsimp only);refine⟨Y,Y,by first|omega|(rw[List.length_append];show _+1<=_;omega),by first|omega|(rw[Xf];omega),by first|omega|(rw[Xf];omega),Y,?_⟩;first|exact j1.2.2.2.2.2.2|(intro x O;rcases List.mem_append.1 O with O|O;exact j1.2.2.2.2.2.2 x O;simp at O;rw[O];simp;omega))) (hw:=YR [((4,0),some (45,0))] [] rfl bv)
   ·try(simp[G]at h5;done)
    all_goals
     simp[G];repeat with_reducible refine qe ?_
     exact a3 (an D G) H (v:=by(have hh:=of_decide_eq_true M;have hz:=XR g;(try dsimp only);refine⟨Y,Y,by first|omega|(rw[List.length_append];show _+1<=_;omega),by first|omega|(rw[Xf];omega),by first|omega|(rw[Xf];omega),Y,?_⟩;first|exact j1.2.2.2.2.2.2|(intro x O;rcases List.mem_append.1 O with O|O;exact j1.2.2.2.2.2.2 x O;simp at O;rw[O];simp;omega)))
  ·have o:=G;simp[G];repeat with_reducible refine qe ?_
   refine aE H ?_ ?_<;>intro L h6 H
   ·try(simp[G]at h6;done)
    all_goals
     simp[G];repeat with_reducible refine qe ?_
     exact be H (v:=by(have hh:=of_decide_eq_true M;have hz:=XR g;(try dsimp only);refine⟨Y,Y,by first|omega|(rw[List.length_append];show _+1<=_;omega),by first|omega|(rw[Xf];omega),by first|omega|(rw[Xf];omega),Y,?_⟩;first|exact j1.2.2.2.2.2.2|(intro x O;rcases List.mem_append.1 O with O|O;exact j1.2.2.2.2.2.2 x O;simp at O;rw[O];simp;omega))) (hw:=YR [((4,0),some (45,0))] [] rfl bv)
   ·try(simp[G]at h6;done)
    all_goals
     simp[G];repeat with_reducible refine qe ?_
     exact a3 (an D G) H (v:=by(have hh:=of_decide_eq_true M;have hz:=XR g;(try dsimp only);refine⟨Y,Y,by first|omega|(rw[List.length_append];show _+1<=_;omega),by first|omega|(rw[Xf];omega),by first|omega|(rw[Xf];omega),Y,?_⟩;first|exact j1.2.2.2.2.2.2|(intro x O;rcases List.mem_append.1 O with O|O;exact j1.2.2.2.2.2.2 x O;simp at O;rw[O];simp;omega)))
 have c2:A.size<=1048576:=XR (xs g);have f:=ms f H;refine cF f ?_ ?_<;>intro af h7 f
 ·exact ah [.tmp 2,.tmp 3] f
 refine aa (Z7.rd (DN 1)) ?_;refine dQ (kT.eq_2 J) (fun j s w C c i l aq ap a aj B aw av=>Z6 75 [(4,.one (.E 4 0 0 J.length),[.arr false 1 (J.map N)]),(7,.one (.O 7 0),[.box [.d (.sl 5 (w.map YF.row)),.d (.sl 3 (C.map ZS.row)),.d (.sl 4 (c.map Zy.row)),.d (.int .i64 i),.d (.int .i64 l),.d (.sl 7 (aq.map YE.row)),.d (.sl 1 (ap.map r)),.d (.sl 2 (a.map ZD.row)),.d (.sl 1 (aj.map r)),.d (.sl 1 (B.map r)),.d (.int .i64 aw),.d (.sl 1 (av.map r))]]),(8,.one (.E 8 0 0 j.length),[.arr false 1 (j.map N)]),eI 9 (s:Int)]) (fun X j s w C c i l aq ap a aj B aw av=>J.length<X+s/\s<=J.length/\j.length<=s/\J.length<=60/\R (210+s) (P.mk (ZI.mk w C c i l) aq ap a aj B aw av)/\a.length=2/\(∀x∈J,x.size<=1048576)) (J.length+1) ([]:List ByteArray) 0 (Yj 1).b.a (Yj 1).b.b (Yj 1).b.c (Yj 1).b.e (Yj 1).b.d (Yj 1).c (Yj 1).d (Yj 1).a (Yj 1).e (Yj 1).f (Yj 1).h (Yj 1).g (fun p3 j s w C c i l aq ap a aj B aw av e3 j3=>?_) (v:=by exact⟨Y,Y,Nat.zero_le _,Nat.zero_le _,by first|(have hh:=of_decide_eq_false h3;omega)|(have hh:=of_decide_eq_false h7;omega),DW au,Ii 1,j1.2.2.2.2.2.2⟩) (h0:=az [((8,0),some (53,0))] []);try dsimp only at j3
 refine cF e3 ?_ ?_<;>intro d h8 e3
 ·have i3:=ix h8;have m5:=ml J (d 4 _ rfl);have w3:=wr s;refine ae ac ?_;simp[i3,ZH];repeat with_reducible refine Tr ?_
  refine cR (Hn (P.mk (ZI.mk w C c i l) aq ap a aj B aw av) (I J s) cq cq cq cq) ?_;simp;repeat with_reducible refine Tr ?_
  exact ee e3 (v:=by((try dsimp only);refine⟨Y,Y,Y,by simp;omega,Y,?_,?_,j3.2.2.2.2.2.2.2⟩;exact HO (n:=210+s) j3.2.2.2.2.2.1 Y;exact(NH (n:=210+s) j3.2.2.2.2.2.1 Y (Nat.le_trans (Km j3.2.2.2.2.2.2.2 _) au)).trans j3.2.2.2.2.2.2.1)) (hw:=YR [((8,0),some (73,0))] [] rfl (by simp[w3]))
 exact ah [.tmp 2,.tmp 3] (ms f e3)
theorem Ht(A:ByteArray)(t0:R maxLen A):c 3 [rS A] [rB (jq A)]:=by
 have f:=me (jq.eq_1 A);refine so func3 ntmps3 ?_;refine aF f ?_ ?_<;>intro k1 M f
 ·have q1:=M;try simp at q1
  simp;exact rt [.tmp 2] f
 have q1:=M;try simp at q1
 simp;refine aa (Z7.rd (tS A fF)) ?_;refine ai [] (Ge A fF) ?_;refine aa (EA (Y9 A).1 (zF A).1) ?_;refine aF f ?_ ?_<;>intro k2 Z f
 ·have q2:=Z;try simp at q2
  simp;exact rt [.tmp 2] f
 have q2:=Z;try simp at q2
 simp;refine oP (aC:=[.E 21 0 0 (Y9 A).1.length]) rfl rfl rfl rfl rfl rfl rfl (Zw (Y9 A).1 1) ab ab ab ab ab ab ab ab ab ?_;simp;refine aa (He (Xc (Y9 A).1 1).1 1) ?_;refine aF f ?_ ?_<;>intro k3 h3 f
 ·have q3:=h3;try simp at q3
  simp;exact rt [.tmp 2] f
 have q3:=h3;try simp at q3
 simp;refine aF f ?_ ?_<;>intro k4 h4 f
 ·have q4:=h4;try simp at q4
  simp;exact rt [.tmp 2] f
 have q4:=h4;try simp at q4
 simp;refine aa (Z7.rd (Ge A fF)) ?_;refine aa (EA (Y9 A).1 (zF A).1) ?_;refine aF f ?_ ?_<;>intro k5 h5 f
 ·have q5:=h5;try simp at q5
  exact absurd (Z.symm.trans h5) au
 have q5:=h5;try simp at q5
 simp;refine aa (He (Xc (Y9 A).1 1).1 1) ?_;refine aF f ?_ ?_<;>intro b h6 f
 ·have q:=h6;try simp at q
  exact absurd (h3.symm.trans h6) au
 have q:=h6;try simp at q
 simp;refine aF f ?_ ?_<;>intro l h7 f
 ·have d:=h7;try simp at d
  exact absurd (h4.symm.trans h7) au
 have d:=h7;try simp at d
 simp;exact rt [.tmp 2] f
end Go.Proofs.YtifogammcgmjpaaGreat
