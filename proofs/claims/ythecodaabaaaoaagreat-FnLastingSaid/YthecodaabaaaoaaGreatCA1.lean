/- Contracts of the functions M1 the abstract machine, part A1. No condition. -/
import Derived.Test.YthecodaabaaaoaaGreatL
import Derived.Test.YthecodaabaaaoaaGreatTy
namespace Go.Proofs.YthecodaabaaaoaaGreat
open Tryz
open Go.Vm Go.Mo
set_option maxHeartbeats 1000000
set_option maxRecDepth 100000
set_option linter.unusedSimpArgs false
set_option linter.unusedVariables false
theorem uy(a0:List UInt8):Sa 5 [rL 1 bR a0] [rB (wO a0)]:=by have f:=me (wO.eq_1 a0);refine so func5 ntmps5 ?_;exact rt [.tmp 2] f
theorem sv{a b:Prop}(h:b)(k:a:=by(intros;first|omega|with_unfolding_all (first|omega)|((try simp only[Yw,show ∀x,IntKind.i64.wrap x=W x from fun _=>rfl]at*);omega))):a/\b:=⟨k,h⟩
theorem sn(a0:List UInt8)(a1:Int)(u0:0<=a1):Sa 7 [rL 1 bR a0,rI a1] [rI (XO a0 a1)]:=by
 have f:=me (XO.eq_1 a0 a1);refine so func7 ntmps7 ?_;refine cFf f ?_ ?_<;>intro k1 h1 f
 ·have i1:a1.toNat<a0.length:=by(have z:=h1;simp at z;omega)
  simp[i1,ZF];repeat with_reducible refine sv ?_
  exact rt _ f
 exact rt _ f
end Go.Proofs.YthecodaabaaaoaaGreat
