/- The given statement Rows.FnExactRunConsoleSaid: the law answers true for every input. No condition. -/
import Derived.Test.YtifogammcgmjpaaGreatRows
import Derived.Test.YtifogammcgmjpaaGreatDd
import Derived.Test.YtifogammcgmjpaaGreatE
import Derived.Test.YtifogammcgmjpaaGreatC
import Derived.Test.YtifogammcgmjpaaGreatFx
import Derived.WalkKit
import Derived.Below
import Derived.ProofKit
import Derived.OpenShut
namespace Go.Proofs.YtifogammcgmjpaaGreat.fnExactRunConsole
open Go.ChangeShapes Go.WideShapes Go.ChangeAt Go.RowKit Go.Vm Go.Mo
set_option linter.unusedVariables false
set_option linter.unusedSimpArgs false
set_option maxRecDepth 100000
theorem own:ownKnob Tryz.prog.godebug=none:=by kernel_rfl
theorem plain:MD Tryz.prog 12 Tryz.f3.params.toList=true:=by kernel_rfl
theorem x3:Tryz.f3.params.all (Tryz.prog.readableRec ·)=true:=by kernel_rfl
theorem x4:(Rows.fnExactRunConsoleRow.inPlace==Tryz.prog.inPlace 3)=true:=by kernel_rfl
theorem x5:(Rows.fnExactRunConsoleRow.unfollowed==Tryz.prog.unfollowed 3)=true:=by kernel_rfl
theorem x6:(Rows.fnExactRunConsoleRow.recurses==Tryz.prog.recurses 3)=true:=by kernel_rfl
theorem x7:(Rows.fnExactRunConsoleRow.named==Tryz.prog.varsNamed 3)=true:=by kernel_rfl
theorem x8:(Rows.fnExactRunConsoleRow.loops==(Tryz.f3.params.toList++Rows.fnExactRunConsoleSpec.plain.varTypes Tryz.prog).any (Tryz.prog.loopsFrom ·))=true:=by kernel_rfl
theorem Ba:(Rows.fnExactRunConsoleRow.wideKeys==(Tryz.f3.params.toList++Rows.fnExactRunConsoleSpec.plain.varTypes Tryz.prog++Tryz.f3.resultTypes.toList).any (Tryz.prog.wideKeysFrom ·))=true:=by kernel_rfl
theorem op:(Rows.fnExactRunConsoleRow.veiled==(Tryz.f3.params.toList++Rows.fnExactRunConsoleSpec.plain.varTypes Tryz.prog++Tryz.f3.resultTypes.toList).any (Tryz.prog.veiledRec ·))=true:=by kernel_rfl
theorem nZ:(Rows.fnExactRunConsoleRow.maps==(Tryz.f3.params.toList++Rows.fnExactRunConsoleSpec.plain.varTypes Tryz.prog).any (Tryz.prog.mapsRec ·))=true:=by kernel_rfl
theorem oJ:(Rows.fnExactRunConsoleRow.ifaces==(Tryz.f3.params.toList++Rows.fnExactRunConsoleSpec.plain.varTypes Tryz.prog).any (Tryz.prog.ifacesRec ·))=true:=by kernel_rfl
theorem named:Tryz.prog.funcNamed Rows.fnExactRunConsoleRow.func=some 3:=by kernel_rfl
theorem nX:joinedFacts Tryz.prog 3 Tryz.f3 Rows.fnExactRunConsoleSpec Rows.fnExactRunConsoleRow=true:=by unfold joinedFacts;rw[iJ,o1,x3,x4,x5,x6,x7,x8,Ba,op,nZ,oJ];kernel_rfl
theorem Yb{w:World}{ar:List Value}{Q:List (List Vm.D)}(hv:Yd (et w) ar Q)(ht:la Tryz.prog 12 [9] Q):
    Calls Tryz.prog 3 ar.toArray w fun e w'=>e= .returned (.bool true)/\Below w.heap.size w w':=by
  obtain⟨r0,c,rfl,h0,a⟩:=tg ht;obtain rfl:=l1 a;obtain⟨A,rfl,t0⟩:=md (n:=11) h0;have G:jq A=true:=by
    unfold jq;by_cases d:(A.size:Int)>1048576
    · simp[d]
    have b:=ug A (by omega);obtain⟨q,K,M⟩:=wi (Y9 A).1 1 (by omega) (by omega);have o1:¬(Xc (Y9 A).1 1).2<0:=by omega
    have p1:0<=(Xc (Y9 A).1 1).2:=by omega
    simp(maxDischargeDepth:=12) [tX A (by omega),d,Ey,t0,M,o1,p1]
  have U:=Ht A t0;rw[G]at U;exact tm U hv
theorem ni(aa:Os)(c:aa.Started)(H:Type)(enc:TypeId×Value->H):
    ReturnsInHanded {} Tryz.checked aa 3 .any (Rows.fnExactRunConsoleSpec.pre6 enc Tryz.prog Tryz.f3 Rows.fnExactRunConsoleRow.domain false) (Rows.fnExactRunConsoleSpec.post enc Tryz.prog Tryz.f3 false true false false):=by
  refine returnsInHanded_of_change (C:=Tryz.checked) own c (by kernel_rfl) Tryz.func3
    (ChangeSpec.witness6 (enc:=enc) (C:=Tryz.checked) false ⟨#[],#[.string ⟨#[]⟩],[]⟩ 8 (by kernel_rfl) (by kernel_rfl) (by kernel_rfl) (by kernel_rfl)) ?_
  intro W ay aA ds a w m i y _;have d:∀(j:Nat) t v,Tryz.f3.params[j]?=some t->aA[j]?=some v->Value.okWide Tryz.prog W .any ay t v:=m
  have k:=i;obtain⟨p,q,r,o,rfl,s,aw⟩:=i;have b:DataW.TrodAll enc Tryz.prog W 0 (fun _=>true) true Tryz.f3.params.toList aA.toList ds p:=r;obtain⟨Q,hr,af⟩:=mZ (n:=12) plain (fun j t v M Z=>d j t v (by simpa using M) (by simpa using Z)) b;have g:=b;rw[Tryz.params3]at g af;obtain⟨z,u,d0,x,l,q0,am,rfl,rfl,h0,r0⟩:=trodAll_cons g;obtain⟨rfl,rfl,rfl⟩:=trodAll_nil r0;obtain rfl:aA=#[z]:=by cases aA;simp_all
  obtain⟨rfl,rfl⟩:=trodVars_none o;simp only[List.append_nil]at k;refine(Yb hr af).mono fun e f ⟨he,hg⟩=>?_;subst he;exact⟨_,rfl,_,_,_,[],_,[],k,trodAll_mk1 (shut_bool Tryz.underlying4 _),Df iJ hg plain b,rfl,hg.frame _,fun h=>by cases h⟩
theorem YI:Rows.fnExactRunConsoleRow.holds Tryz.pinned (OpenSpec.ofChange Rows.fnExactRunConsoleSpec):=
  OpenClaim.holds_of_wide 3 Tryz.f3 rfl rfl rfl rfl rfl rfl rfl ⟨rfl,rfl,rfl,rfl,rfl⟩ rfl rfl rfl rfl rfl named Tryz.func3 nX
    (of_decide_eq_true (by kernel_rfl)) (by unfold Func.isWrapper;first|(rw[if_pos (by decide+kernel)];kernel_rfl)|(rw[if_neg (by decide+kernel)];exact⟨rfl,rfl⟩))
    (fun aa c H enc _=>ni aa c H enc)
theorem proved:Rows.FnExactRunConsoleSaid:=YI
end Go.Proofs.YtifogammcgmjpaaGreat.fnExactRunConsole
