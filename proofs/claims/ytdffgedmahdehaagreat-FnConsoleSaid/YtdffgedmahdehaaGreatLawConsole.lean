/- The given statement Rows.FnConsoleSaid: the law answers true for every input. No condition. -/
import Derived.Test.YtdffgedmahdehaaGreatRows
import Derived.Test.YtdffgedmahdehaaGreatDd
import Derived.Test.YtdffgedmahdehaaGreatPFnConsole
import Derived.Test.YtdffgedmahdehaaGreatC
import Derived.Test.YtdffgedmahdehaaGreatFx
import Derived.WalkKit
import Derived.Below
import Derived.ProofKit
import Derived.OpenShut
namespace Go.Proofs.YtdffgedmahdehaaGreat.fnConsole
open Go.ChangeShapes Go.WideShapes Go.ChangeAt Go.RowKit Go.Vm Go.Mo
set_option linter.unusedVariables false
set_option linter.unusedSimpArgs false
set_option maxRecDepth 100000
theorem own:ownKnob Tryz.prog.godebug=none:=by kernel_rfl
theorem plain:SH Tryz.prog 12 Tryz.f3.params.toList=true:=by kernel_rfl
theorem x3:Tryz.f3.params.all (Tryz.prog.readableRec ·)=true:=by kernel_rfl
theorem x4:(Rows.fnConsoleRow.inPlace==Tryz.prog.inPlace 3)=true:=by kernel_rfl
theorem x5:(Rows.fnConsoleRow.unfollowed==Tryz.prog.unfollowed 3)=true:=by kernel_rfl
theorem x6:(Rows.fnConsoleRow.recurses==Tryz.prog.recurses 3)=true:=by kernel_rfl
theorem x7:(Rows.fnConsoleRow.named==Tryz.prog.varsNamed 3)=true:=by kernel_rfl
theorem x8:(Rows.fnConsoleRow.loops==(Tryz.f3.params.toList++Rows.fnConsoleSpec.plain.varTypes Tryz.prog).any (Tryz.prog.loopsFrom ·))=true:=by kernel_rfl
theorem x9:(Rows.fnConsoleRow.wideKeys==(Tryz.f3.params.toList++Rows.fnConsoleSpec.plain.varTypes Tryz.prog++Tryz.f3.resultTypes.toList).any (Tryz.prog.wideKeysFrom ·))=true:=by kernel_rfl
theorem x10:(Rows.fnConsoleRow.veiled==(Tryz.f3.params.toList++Rows.fnConsoleSpec.plain.varTypes Tryz.prog++Tryz.f3.resultTypes.toList).any (Tryz.prog.veiledRec ·))=true:=by kernel_rfl
theorem x11:(Rows.fnConsoleRow.maps==(Tryz.f3.params.toList++Rows.fnConsoleSpec.plain.varTypes Tryz.prog).any (Tryz.prog.mapsRec ·))=true:=by kernel_rfl
theorem x12:(Rows.fnConsoleRow.ifaces==(Tryz.f3.params.toList++Rows.fnConsoleSpec.plain.varTypes Tryz.prog).any (Tryz.prog.ifacesRec ·))=true:=by kernel_rfl
theorem named:Tryz.prog.funcNamed Rows.fnConsoleRow.func=some 3:=by kernel_rfl
theorem closed:joinedFacts Tryz.prog 3 Tryz.f3 Rows.fnConsoleSpec Rows.fnConsoleRow=true:=by unfold joinedFacts;rw[nL,nX,x3,x4,x5,x6,x7,x8,x9,x10,x11,x12];kernel_rfl
theorem walk{w:World}{gb:List Value}{rows:List (List Vm.D)}(hv:YJ (Reads w) gb rows)(ht:Bz Tryz.prog 12 [22] rows):
    Calls Tryz.prog 3 gb.toArray w fun e w'=>e= .returned (.bool true)/\Below w.heap.size w w':=by
  obtain⟨r0,rs0,rfl,h0,ht0⟩:=tZ ht;obtain rfl:=sb ht0;obtain⟨a0,rfl,t0⟩:=mQ (n:=10) h0;have hb:US a0=true:=Hy a0
  have hs:=DS a0 t0;rw[hb]at hs;exact BB hs hv
theorem lifted(os:Os)(started:os.Started)(H:Type)(enc:TypeId×Value->H):
    ReturnsInHanded {} Tryz.checked os 3 .any (Rows.fnConsoleSpec.pre6 enc Tryz.prog Tryz.f3 Rows.fnConsoleRow.domain false) (Rows.fnConsoleSpec.post enc Tryz.prog Tryz.f3 false true false false):=by
  refine returnsInHanded_of_change (C:=Tryz.checked) own started (by kernel_rfl) Tryz.func3
    (ChangeSpec.witness6 (enc:=enc) (C:=Tryz.checked) false ⟨#[],#[.slice none 0 0],[]⟩ 8 (by kernel_rfl) (by kernel_rfl) (by kernel_rfl) (by kernel_rfl)) ?_
  intro W base args ds gs before hval0 hW hcnd _;have dM:∀(j:Nat) t v,Tryz.f3.params[j]?=some t->args[j]?=some v->Value.okWide Tryz.prog W .any base t v:=hval0
  have hW':=hW;obtain⟨p,q,hA0,hV,rfl,hfz,gm⟩:=hW;have hA:DataW.TrodAll enc Tryz.prog W 0 (fun _=>true) true Tryz.f3.params.toList args.toList ds p:=hA0;obtain⟨rows,hr,ej⟩:=AL (n:=12) plain (fun j t v h1 h2=>dM j t v (by simpa using h1) (by simpa using h2)) hA;have hA2:=hA;rw[Tryz.params3]at hA2 ej;obtain⟨v0,vs0,d0,ds0,p0,q0,iw,rfl,rfl,h0,r0⟩:=trodAll_cons hA2;obtain⟨rfl,rfl,rfl⟩:=trodAll_nil r0;obtain rfl:args=#[v0]:=by cases args;simp_all
  obtain⟨rfl,rfl⟩:=trodVars_none hV;simp only[List.append_nil]at hW';refine(walk hr ej).mono fun e W' ⟨he,hg⟩=>?_;subst he;exact⟨_,rfl,_,_,_,[],_,[],hW',trodAll_mk1 (shut_bool Tryz.underlying4 _),LF nL hg plain hA,rfl,hg.frame _,fun h=>by cases h⟩
theorem Gi:Rows.fnConsoleRow.holds Tryz.pinned (OpenSpec.ofChange Rows.fnConsoleSpec):=
  OpenClaim.holds_of_wide 3 Tryz.f3 rfl rfl rfl rfl rfl rfl rfl ⟨rfl,rfl,rfl,rfl,rfl⟩ rfl rfl rfl rfl rfl named Tryz.func3 closed
    (of_decide_eq_true (by kernel_rfl)) (by unfold Func.isWrapper;first|(rw[if_pos (by decide+kernel)];kernel_rfl)|(rw[if_neg (by decide+kernel)];exact⟨rfl,rfl⟩))
    (fun os started H enc _=>lifted os started H enc)
theorem proved:Rows.FnConsoleSaid:=Gi
end Go.Proofs.YtdffgedmahdehaaGreat.fnConsole
