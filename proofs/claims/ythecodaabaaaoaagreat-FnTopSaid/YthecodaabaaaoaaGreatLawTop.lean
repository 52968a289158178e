/- The given statement Rows.FnTopSaid: the law answers true for every input. No condition. -/
import Derived.Test.YthecodaabaaaoaaGreatRows
import Derived.Test.YthecodaabaaaoaaGreatDd
import Derived.Test.YthecodaabaaaoaaGreatPFnTop
import Derived.Test.YthecodaabaaaoaaGreatC
import Derived.Test.YthecodaabaaaoaaGreatFx
import Derived.WalkKit
import Derived.Below
import Derived.ProofKit
import Derived.OpenShut
namespace Go.Proofs.YthecodaabaaaoaaGreat.fnTop
open Go.ChangeShapes Go.WideShapes Go.ChangeAt Go.RowKit Go.Vm Go.Mo
set_option linter.unusedVariables false
set_option linter.unusedSimpArgs false
set_option maxRecDepth 100000
theorem own:ownKnob Tryz.prog.godebug=none:=by kernel_rfl
theorem plain:UI Tryz.prog 12 Tryz.f4.params.toList=true:=by kernel_rfl
theorem x3:Tryz.f4.params.all (Tryz.prog.readableRec ·)=true:=by kernel_rfl
theorem x4:(Rows.fnTopRow.inPlace==Tryz.prog.inPlace 4)=true:=by kernel_rfl
theorem x5:(Rows.fnTopRow.unfollowed==Tryz.prog.unfollowed 4)=true:=by kernel_rfl
theorem x6:(Rows.fnTopRow.recurses==Tryz.prog.recurses 4)=true:=by kernel_rfl
theorem x7:(Rows.fnTopRow.named==Tryz.prog.varsNamed 4)=true:=by kernel_rfl
theorem x8:(Rows.fnTopRow.loops==(Tryz.f4.params.toList++Rows.fnTopSpec.plain.varTypes Tryz.prog).any (Tryz.prog.loopsFrom ·))=true:=by kernel_rfl
theorem x9:(Rows.fnTopRow.wideKeys==(Tryz.f4.params.toList++Rows.fnTopSpec.plain.varTypes Tryz.prog++Tryz.f4.resultTypes.toList).any (Tryz.prog.wideKeysFrom ·))=true:=by kernel_rfl
theorem x10:(Rows.fnTopRow.veiled==(Tryz.f4.params.toList++Rows.fnTopSpec.plain.varTypes Tryz.prog++Tryz.f4.resultTypes.toList).any (Tryz.prog.veiledRec ·))=true:=by kernel_rfl
theorem x11:(Rows.fnTopRow.maps==(Tryz.f4.params.toList++Rows.fnTopSpec.plain.varTypes Tryz.prog).any (Tryz.prog.mapsRec ·))=true:=by kernel_rfl
theorem x12:(Rows.fnTopRow.ifaces==(Tryz.f4.params.toList++Rows.fnTopSpec.plain.varTypes Tryz.prog).any (Tryz.prog.ifacesRec ·))=true:=by kernel_rfl
theorem named:Tryz.prog.funcNamed Rows.fnTopRow.func=some 4:=by kernel_rfl
theorem closed:joinedFacts Tryz.prog 4 Tryz.f4 Rows.fnTopSpec Rows.fnTopRow=true:=by
  unfold joinedFacts;rw[oT,ow,x3,x4,x5,x6,x7,x8,x9,x10,x11,x12];kernel_rfl
theorem walk{w:World}{gC:List Value}{rows:List (List Vm.D)}(hv:YC (Reads w) gC rows)(ht:E0 Tryz.prog 12 [22] rows):
    Calls Tryz.prog 4 gC.toArray w fun e w'=>e= .returned (.bool true)/\Below w.heap.size w w':=by
  obtain⟨r0,rs0,rfl,h0,ht0⟩:=As ht
  obtain rfl:=uI ht0
  obtain⟨a0,rfl,t0⟩:=mJ (n:=10) h0
  have hb:Ni a0=true:=Du a0
  have hs:=wU a0 t0
  rw[hb]at hs
  exact F1 hs hv
theorem lifted(os:Os)(started:os.Started)(H:Type)(enc:TypeId×Value->H):
    ReturnsInHanded {} Tryz.checked os 4 .any (Rows.fnTopSpec.pre6 enc Tryz.prog Tryz.f4 Rows.fnTopRow.domain false) (Rows.fnTopSpec.post enc Tryz.prog Tryz.f4 false true false false):=by
  refine returnsInHanded_of_change (C:=Tryz.checked) own started (by kernel_rfl) Tryz.func4
    (ChangeSpec.witness6 (enc:=enc) (C:=Tryz.checked) false ⟨#[],#[.slice none 0 0],[]⟩ 8 (by kernel_rfl) (by kernel_rfl) (by kernel_rfl) (by kernel_rfl)) ?_
  intro W base args ds gs before hval0 hW hcnd _
  have eV:∀(j:Nat) t v,Tryz.f4.params[j]?=some t->args[j]?=some v->Value.okWide Tryz.prog W .any base t v:=hval0
  have hW':=hW
  obtain⟨p,q,hA0,hV,rfl,hfz,gP⟩:=hW
  have hA:DataW.TrodAll enc Tryz.prog W 0 (fun _=>true) true Tryz.f4.params.toList args.toList ds p:=hA0
  obtain⟨rows,hr,fu⟩:=DS (n:=12) plain (fun j t v h1 h2=>eV j t v (by simpa using h1) (by simpa using h2)) hA
  have hA2:=hA
  rw[Tryz.params4]at hA2 fu
  obtain⟨v0,vs0,d0,ds0,p0,q0,iT,rfl,rfl,h0,r0⟩:=trodAll_cons hA2
  obtain⟨rfl,rfl,rfl⟩:=trodAll_nil r0
  obtain rfl:args=#[v0]:=by cases args;simp_all
  obtain⟨rfl,rfl⟩:=trodVars_none hV
  simp only[List.append_nil]at hW'
  refine(walk hr fu).mono fun e W' ⟨he,hg⟩=>?_
  subst he
  exact⟨_,rfl,_,_,_,[],_,[],hW',trodAll_mk1 (shut_bool Tryz.underlying4 _),OG oT hg plain hA,rfl,hg.frame _,fun h=>by cases h⟩
theorem La:Rows.fnTopRow.holds Tryz.pinned (OpenSpec.ofChange Rows.fnTopSpec):=
  OpenClaim.holds_of_wide 4 Tryz.f4 rfl rfl rfl rfl rfl rfl rfl ⟨rfl,rfl,rfl,rfl,rfl⟩ rfl rfl rfl rfl rfl named Tryz.func4 closed
    (of_decide_eq_true (by kernel_rfl)) (by unfold Func.isWrapper;first|(rw[if_pos (by decide+kernel)];kernel_rfl)|(rw[if_neg (by decide+kernel)];exact⟨rfl,rfl⟩))
    (fun os started H enc _=>lifted os started H enc)
theorem proved:Rows.FnTopSaid:=La
end Go.Proofs.YthecodaabaaaoaaGreat.fnTop
