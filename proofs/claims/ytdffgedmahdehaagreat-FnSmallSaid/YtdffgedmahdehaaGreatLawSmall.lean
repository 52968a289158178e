/- The given statement Rows.FnSmallSaid: the law answers true for every input. No condition. -/
import Derived.Test.YtdffgedmahdehaaGreatRows
import Derived.Test.YtdffgedmahdehaaGreatDd
import Derived.Test.YtdffgedmahdehaaGreatPFnSmall
import Derived.Test.YtdffgedmahdehaaGreatC
import Derived.Test.YtdffgedmahdehaaGreatFx
import Derived.WalkKit
import Derived.Below
import Derived.ProofKit
import Derived.OpenShut
namespace Go.Proofs.YtdffgedmahdehaaGreat.fnSmall
open Go.ChangeShapes Go.WideShapes Go.ChangeAt Go.RowKit Go.Vm Go.Mo
set_option linter.unusedVariables false
set_option linter.unusedSimpArgs false
set_option maxRecDepth 100000
theorem own:ownKnob Tryz.prog.godebug=none:=by kernel_rfl
theorem plain:yn Tryz.prog 12 Tryz.f4.params.toList=true:=by kernel_rfl
theorem x3:Tryz.f4.params.all (Tryz.prog.readableRec ·)=true:=by kernel_rfl
theorem x4:(Rows.fnSmallRow.inPlace==Tryz.prog.inPlace 4)=true:=by kernel_rfl
theorem x5:(Rows.fnSmallRow.unfollowed==Tryz.prog.unfollowed 4)=true:=by kernel_rfl
theorem x6:(Rows.fnSmallRow.recurses==Tryz.prog.recurses 4)=true:=by kernel_rfl
theorem x7:(Rows.fnSmallRow.named==Tryz.prog.varsNamed 4)=true:=by kernel_rfl
theorem x8:(Rows.fnSmallRow.loops==(Tryz.f4.params.toList++Rows.fnSmallSpec.plain.varTypes Tryz.prog).any (Tryz.prog.loopsFrom ·))=true:=by kernel_rfl
theorem x9:(Rows.fnSmallRow.wideKeys==(Tryz.f4.params.toList++Rows.fnSmallSpec.plain.varTypes Tryz.prog++Tryz.f4.resultTypes.toList).any (Tryz.prog.wideKeysFrom ·))=true:=by kernel_rfl
theorem x10:(Rows.fnSmallRow.veiled==(Tryz.f4.params.toList++Rows.fnSmallSpec.plain.varTypes Tryz.prog++Tryz.f4.resultTypes.toList).any (Tryz.prog.veiledRec ·))=true:=by kernel_rfl
theorem x11:(Rows.fnSmallRow.maps==(Tryz.f4.params.toList++Rows.fnSmallSpec.plain.varTypes Tryz.prog).any (Tryz.prog.mapsRec ·))=true:=by kernel_rfl
theorem x12:(Rows.fnSmallRow.ifaces==(Tryz.f4.params.toList++Rows.fnSmallSpec.plain.varTypes Tryz.prog).any (Tryz.prog.ifacesRec ·))=true:=by kernel_rfl
theorem named:Tryz.prog.funcNamed Rows.fnSmallRow.func=some 4:=by kernel_rfl
theorem closed:joinedFacts Tryz.prog 4 Tryz.f4 Rows.fnSmallSpec Rows.fnSmallRow=true:=by unfold joinedFacts;rw[HB,Hf,x3,x4,x5,x6,x7,x8,x9,x10,x11,x12];kernel_rfl
theorem walk{w:World}{wm:List Value}{rows:List (List Vm.D)}(hv:ZU (Reads w) wm rows)(ht:Sc Tryz.prog 12 [22] rows):
    Calls Tryz.prog 4 wm.toArray w fun e w'=>e= .returned (.bool true)/\Below w.heap.size w w':=by
  obtain⟨r0,fE,rfl,h0,gX⟩:=O3 ht;obtain rfl:=Mv gX;obtain⟨a0,rfl,t0⟩:=GH (n:=10) h0;have hb:xn a0=true:=TI a0
  have hs:=PH a0 t0;rw[hb]at hs;exact SM hs hv
theorem lifted(os:Os)(started:os.Started)(H:Type)(enc:TypeId×Value->H):
    ReturnsInHanded {} Tryz.checked os 4 .any (Rows.fnSmallSpec.pre6 enc Tryz.prog Tryz.f4 Rows.fnSmallRow.domain false) (Rows.fnSmallSpec.post enc Tryz.prog Tryz.f4 false true false false):=by
  refine returnsInHanded_of_change (C:=Tryz.checked) own started (by kernel_rfl) Tryz.func4
    (ChangeSpec.witness6 (enc:=enc) (C:=Tryz.checked) false ⟨#[],#[.slice none 0 0],[]⟩ 8 (by kernel_rfl) (by kernel_rfl) (by kernel_rfl) (by kernel_rfl)) ?_
  intro W base args ds gs before nb hW gW _;have uV:∀(j:Nat) t v,Tryz.f4.params[j]?=some t->args[j]?=some v->Value.okWide Tryz.prog W .any base t v:=nb
  have l5:=hW;obtain⟨p,q,gY,hV,rfl,fF,vA⟩:=hW;have hA:DataW.TrodAll enc Tryz.prog W 0 (fun _=>true) true Tryz.f4.params.toList args.toList ds p:=gY;obtain⟨rows,hr,uA⟩:=Sl (n:=12) plain (fun j t v h1 h2=>uV j t v (by simpa using h1) (by simpa using h2)) hA;have l6:=hA;rw[Tryz.params4]at l6 uA;obtain⟨v0,fG,d0,fH,p0,q0,wH,rfl,rfl,h0,r0⟩:=trodAll_cons l6;obtain⟨rfl,rfl,rfl⟩:=trodAll_nil r0;obtain rfl:args=#[v0]:=by cases args;simp_all
  obtain⟨rfl,rfl⟩:=trodVars_none hV;simp only[List.append_nil]at l5;refine(walk hr uA).mono fun e W' ⟨he,hg⟩=>?_;subst he;exact⟨_,rfl,_,_,_,[],_,[],l5,trodAll_mk1 (shut_bool Tryz.underlying4 _),kM HB hg plain hA,rfl,hg.frame _,fun h=>by cases h⟩
theorem Uw:Rows.fnSmallRow.holds Tryz.pinned (OpenSpec.ofChange Rows.fnSmallSpec):=
  OpenClaim.holds_of_wide 4 Tryz.f4 rfl rfl rfl rfl rfl rfl rfl ⟨rfl,rfl,rfl,rfl,rfl⟩ rfl rfl rfl rfl rfl named Tryz.func4 closed
    (of_decide_eq_true (by kernel_rfl)) (by unfold Func.isWrapper;first|(rw[if_pos (by decide+kernel)];kernel_rfl)|(rw[if_neg (by decide+kernel)];exact⟨rfl,rfl⟩))
    (fun os started H enc _=>lifted os started H enc)
theorem proved:Rows.FnSmallSaid:=Uw
end Go.Proofs.YtdffgedmahdehaaGreat.fnSmall
