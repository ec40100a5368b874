/- PathsSmall: the closed law of all states of the chapter plant, of its transfers in several orders, and of 16 transfers and 17, returns true (no conditions). -/
import Derived.Test.YtklofnlffikpgaaGreatRows
import Derived.ProofKit
import Derived.Test.YtklofnlffikpgaaGreatSlLc
import Derived.Test.YtklofnlffikpgaaGreatSlLi
import Derived.Test.YtklofnlffikpgaaGreatSlW4
set_option linter.all false
namespace Sg
open Go Go.Proofs Go.Proofs.YtklofnlffikpgaaGreat Go.ChangeShapes Go.WideShapes Go.RowKit
set_option maxRecDepth 20000
end Sg
namespace Go.Proofs.YtklofnlffikpgaaGreat
open Sg Go.ChangeShapes Go.WideShapes Go.ChangeAt Go.RowKit
theorem Tryz.own:ownKnob Tryz.prog.godebug=none:=by kernel_rfl
theorem Tryz.laidOut:laidOutB Tryz.prog=true:=by kernel_rfl
set_option maxRecDepth 100000 in
theorem BX (H:Type) (enc:TypeId × Value->H) (W:World) (base:Nat) (args:Array Value) (ds gs:List (DataW H)) (before:List MemPlace)
  (hval: ∀(j:Nat) t v,Tryz.f9.params[j]? =some t->args[j]? =some v->Value.okWide Tryz.prog W .any base t v)
  (hW:DataW.Whole enc Tryz.prog Tryz.f9.params.toList Rows.pathsSmallSpec.vars false W args.toList ds gs before):
  Calls Tryz.prog 9 args W fun e W'=> ∃v,e= .returned v/\Rows.pathsSmallSpec.post enc Tryz.prog Tryz.f9 false true false false W args v W':=by
 have hW':=hW
 obtain⟨p,q,hA0,hV,rfl,hfz,hnd⟩:=hW
 have hA:DataW.TrodAll enc Tryz.prog W 0 (fun _=>true) true Tryz.f9.params.toList args.toList ds p:=hA0
 rw [Tryz.params9]at hA hval
 obtain⟨hvz,hdz,hpz⟩:=trodAll_nil hA
 have hgs:=(trodVars_none hV).1
 have hargs:args= #[]:=by
  have:args.toList=[]:=hvz
  cases args;simp at this;rw [this]
 have hds:ds=[]:=hdz
 subst hargs
 have hm:lT  =some true:=GN
 refine(TK (vs:=[]) (zV  hm) trivial (fun _ h=>by cases h)).mono fun e W' ⟨he,hb⟩=> ⟨_,he, ?_⟩
 refine Xq (t4:=4) rfl hW' ?_ ?_ ?_ rfl Tryz.underlying4 Tryz.laidOut ?_ hb
 ·rw [hds,hgs];rfl
 ·rw [hds,hgs];rfl
 ·rw [hds,hgs];rfl
 ·intro t ht
  rw [Tryz.params9]at ht
  simp at ht
set_option maxRecDepth 100000 in
theorem ED (os:Os) (started:os.Started) (H:Type) (enc:TypeId × Value->H):
  ReturnsInHanded {} Tryz.checked os 9 .any (Rows.pathsSmallSpec.pre6 enc Tryz.prog Tryz.f9 Rows.pathsSmallRow.domain false) (Rows.pathsSmallSpec.post enc Tryz.prog Tryz.f9 false true false false):=by
 refine returnsInHanded_of_change (C:=Tryz.checked) Tryz.own started (by kernel_rfl) Tryz.func9
  (ChangeSpec.witness6 (enc:=enc) (C:=Tryz.checked) false ⟨#[], #[],[]⟩ 16 (by kernel_rfl) (by kernel_rfl) (by kernel_rfl) (by kernel_rfl)) ?_
 intro W base args ds gs before hval hW _ _
 exact BX H enc W base args ds gs before hval hW
theorem pathsSmall_holds:Rows.PathsSmallSaid:=
 OpenClaim.holds_of_wide 9 Tryz.f9 rfl rfl rfl rfl rfl rfl rfl ⟨rfl,rfl,rfl,rfl,rfl⟩ rfl rfl rfl rfl rfl (by kernel_rfl) Tryz.func9 (by kernel_rfl)
  (of_decide_eq_true (by kernel_rfl)) (by unfold Func.isWrapper;first|(rw [ci (by decide+kernel)];kernel_rfl)|(rw [ce (by decide+kernel)];exact⟨rfl,rfl⟩))
  (fun os started H enc _=>ED os started H enc)
end Go.Proofs.YtklofnlffikpgaaGreat
