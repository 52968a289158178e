/- The given statement Rows.FnExactConsoleLineSaid: the law answers true for every input. No condition. -/
import Derived.Test.YtipadonicggnbaaGreatRows
import Derived.Test.YtipadonicggnbaaGreatDd
import Derived.Test.YtipadonicggnbaaGreatE
import Derived.Test.YtipadonicggnbaaGreatC
import Derived.Test.YtipadonicggnbaaGreatFx
import Derived.WalkKit
import Derived.Below
import Derived.ProofKit
import Derived.OpenShut
namespace Go.Proofs.YtipadonicggnbaaGreat.fnExactConsoleLine
open Go.ChangeShapes Go.WideShapes Go.ChangeAt Go.RowKit Go.Vm Go.Mo
set_option linter.unusedVariables false
set_option linter.unusedSimpArgs false
set_option maxRecDepth 100000
theorem own:ownKnob Tryz.prog.godebug=none:=by kernel_rfl
theorem plain:PH Tryz.prog 12 Tryz.f3.params.toList=true:=by kernel_rfl
theorem x3:Tryz.f3.params.all (Tryz.prog.readableRec ·)=true:=by kernel_rfl
theorem x4:(Rows.fnExactConsoleLineRow.inPlace==Tryz.prog.inPlace 3)=true:=by kernel_rfl
theorem x5:(Rows.fnExactConsoleLineRow.unfollowed==Tryz.prog.unfollowed 3)=true:=by kernel_rfl
theorem x6:(Rows.fnExactConsoleLineRow.recurses==Tryz.prog.recurses 3)=true:=by kernel_rfl
theorem x7:(Rows.fnExactConsoleLineRow.named==Tryz.prog.varsNamed 3)=true:=by kernel_rfl
theorem x8:(Rows.fnExactConsoleLineRow.loops==(Tryz.f3.params.toList++Rows.fnExactConsoleLineSpec.plain.varTypes Tryz.prog).any (Tryz.prog.loopsFrom ·))=true:=by kernel_rfl
theorem x9:(Rows.fnExactConsoleLineRow.wideKeys==(Tryz.f3.params.toList++Rows.fnExactConsoleLineSpec.plain.varTypes Tryz.prog++Tryz.f3.resultTypes.toList).any (Tryz.prog.wideKeysFrom ·))=true:=by kernel_rfl
theorem zX:(Rows.fnExactConsoleLineRow.veiled==(Tryz.f3.params.toList++Rows.fnExactConsoleLineSpec.plain.varTypes Tryz.prog++Tryz.f3.resultTypes.toList).any (Tryz.prog.veiledRec ·))=true:=by kernel_rfl
theorem n3:(Rows.fnExactConsoleLineRow.maps==(Tryz.f3.params.toList++Rows.fnExactConsoleLineSpec.plain.varTypes Tryz.prog).any (Tryz.prog.mapsRec ·))=true:=by kernel_rfl
theorem ki:(Rows.fnExactConsoleLineRow.ifaces==(Tryz.f3.params.toList++Rows.fnExactConsoleLineSpec.plain.varTypes Tryz.prog).any (Tryz.prog.ifacesRec ·))=true:=by kernel_rfl
theorem named:Tryz.prog.funcNamed Rows.fnExactConsoleLineRow.func=some 3:=by kernel_rfl
theorem m8:joinedFacts Tryz.prog 3 Tryz.f3 Rows.fnExactConsoleLineSpec Rows.fnExactConsoleLineRow=true:=by unfold joinedFacts;rw[g7,lv,x3,x4,x5,x6,x7,x8,x9,zX,n3,ki];kernel_rfl
theorem nX{w:World}{au:List Value}{M:List (List Vm.D)}(hv:Yn (e2 w) au M)(ht:pP Tryz.prog 12 [31,9] M):
    Calls Tryz.prog 3 au.toArray w fun e w'=>e= .returned (.bool true)/\Below w.heap.size w w':=by
  obtain⟨r0,c,rfl,h0,a⟩:=vZ ht;obtain⟨r1,d,rfl,I,b⟩:=vZ a;obtain rfl:=rV b;obtain⟨A,rfl,t0⟩:=tf (n:=1) h0;obtain⟨E,rfl,t1⟩:=hK (n:=11) I;have hs:=NT A E t0 t1
  exact vY hs hv
theorem lh(aa:Os)(c:aa.Started)(A:Type)(enc:TypeId×Value->A):
    ReturnsInHanded {} Tryz.checked aa 3 .any (Rows.fnExactConsoleLineSpec.pre6 enc Tryz.prog Tryz.f3 Rows.fnExactConsoleLineRow.domain false) (Rows.fnExactConsoleLineSpec.post enc Tryz.prog Tryz.f3 false true false false):=by
  refine returnsInHanded_of_change (C:=Tryz.checked) own c (by kernel_rfl) Tryz.func3
    (ChangeSpec.witness6 (enc:=enc) (C:=Tryz.checked) false ⟨#[],#[.agg #[.slice none 0 0,.slice none 0 0,.slice none 0 0,.int .i64 0,.int .i64 0,.slice none 0 0,.slice none 0 0,.slice none 0 0,.slice none 0 0,.slice none 0 0,.int .i64 0,.slice none 0 0],.string ⟨#[]⟩],[]⟩ 8 (by kernel_rfl) (by kernel_rfl) (by kernel_rfl) (by kernel_rfl)) ?_
  intro W aA ax ds b z r k u _;have d:∀(j:Nat) t v,Tryz.f3.params[j]?=some t->ax[j]?=some v->Value.okWide Tryz.prog W .any aA t v:=r
  have i:=k;obtain⟨p,q,o,s,rfl,D,aE⟩:=k;have f:DataW.TrodAll enc Tryz.prog W 0 (fun _=>true) true Tryz.f3.params.toList ax.toList ds p:=o;obtain⟨M,hr,aj⟩:=pQ (n:=12) plain (fun j t v I X=>d j t v (by simpa using I) (by simpa using X)) f;have l:=f;rw[Tryz.params3]at l aj;obtain⟨v0,B,d0,x,m,q0,al,rfl,rfl,h0,r0⟩:=trodAll_cons l;obtain⟨a,w,d1,y,p1,q1,rfl,rfl,rfl,I,r1⟩:=trodAll_cons r0;obtain⟨rfl,rfl,rfl⟩:=trodAll_nil r1;obtain rfl:ax=#[v0,a]:=by cases ax;simp_all
  obtain⟨rfl,rfl⟩:=trodVars_none s;simp only[List.append_nil]at i;refine(nX hr aj).mono fun e g ⟨he,hg⟩=>?_;subst he;exact⟨_,rfl,_,_,_,[],_,[],i,trodAll_mk1 (shut_bool Tryz.underlying4 _),GI g7 hg plain f,rfl,hg.frame _,fun h=>by cases h⟩
theorem Hb:Rows.fnExactConsoleLineRow.holds Tryz.pinned (OpenSpec.ofChange Rows.fnExactConsoleLineSpec):=
  OpenClaim.holds_of_wide 3 Tryz.f3 rfl rfl rfl rfl rfl rfl rfl ⟨rfl,rfl,rfl,rfl,rfl⟩ rfl rfl rfl rfl rfl named Tryz.func3 m8
    (of_decide_eq_true (by kernel_rfl)) (by unfold Func.isWrapper;first|(rw[if_pos (by decide+kernel)];kernel_rfl)|(rw[if_neg (by decide+kernel)];exact⟨rfl,rfl⟩))
    (fun aa c A enc _=>lh aa c A enc)
theorem proved:Rows.FnExactConsoleLineSaid:=Hb
end Go.Proofs.YtipadonicggnbaaGreat.fnExactConsoleLine
