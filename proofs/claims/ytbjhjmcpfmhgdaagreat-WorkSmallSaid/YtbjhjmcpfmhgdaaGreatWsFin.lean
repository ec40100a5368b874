/- WorkSmall: the closed law of numbers of jobs at their limits, sets of five jobs and chains of jobs returns true (no conditions). -/
import Derived.Test.YtbjhjmcpfmhgdaaGreatRows
import Derived.ProofKit
import Derived.Test.YtbjhjmcpfmhgdaaGreatWsLc
import Derived.Test.YtbjhjmcpfmhgdaaGreatWsWw1
import Derived.Test.YtbjhjmcpfmhgdaaGreatWsW4
set_option linter.all false
namespace Sg
open Go Go.Proofs Go.Proofs.YtbjhjmcpfmhgdaaGreat Go.ChangeShapes Go.WideShapes Go.RowKit
set_option maxRecDepth 20000
end Sg
namespace Go.Proofs.YtbjhjmcpfmhgdaaGreat
open Sg Go.ChangeShapes Go.WideShapes Go.ChangeAt Go.RowKit
theorem Tryz.own:ownKnob Tryz.prog.godebug=none:=by kernel_rfl
theorem Tryz.laidOut:laidOutB Tryz.prog=true:=by kernel_rfl
set_option maxRecDepth 100000 in
theorem yR (H:Type) (enc:TypeId × Value→H) (W:World) (base:Nat) (args:Array Value) (ds gs:List (DataW H)) (before:List MemPlace)
  (hval: ∀(j:Nat) t v,Tryz.f4.params[j]? =some t→args[j]? =some v→Value.okWide Tryz.prog W .any base t v)
  (hW:DataW.Whole enc Tryz.prog Tryz.f4.params.toList Rows.workSmallSpec.vars false W args.toList ds gs before):
  Calls Tryz.prog 4 args W fun e W'=> ∃v,e= .returned v∧Rows.workSmallSpec.post enc Tryz.prog Tryz.f4 false true false false W args v W':=by
 have hW':=hW
 obtain⟨p,q,hA0,hV,rfl,hfz,hnd⟩:=hW
 have hA:DataW.TrodAll enc Tryz.prog W 0 (fun _=>true) true Tryz.f4.params.toList args.toList ds p:=hA0
 rw [Tryz.params4]at hA hval
 obtain⟨hvz,hdz,hpz⟩:=trodAll_nil hA
 have hgs:=(trodVars_none hV).1
 have hargs:args= #[]:=by
  have:args.toList=[]:=hvz
  cases args;simp at this;rw [this]
 have hds:ds=[]:=hdz
 subst hargs
 have hm:gX  =some true:=FO
 refine(NS (vs:=[]) (vS  hm) trivial (fun _ h=>by cases h)).mono fun e W' ⟨he,hb⟩=> ⟨_,he, ?_⟩
 refine Qa (t4:=4) rfl hW' ?_ ?_ ?_ rfl Tryz.underlying4 Tryz.laidOut ?_ hb
 ·rw [hds,hgs];rfl
 ·rw [hds,hgs];rfl
 ·rw [hds,hgs];rfl
 ·intro t ht
  rw [Tryz.params4]at ht
  simp at ht
set_option maxRecDepth 100000 in
theorem BG (os:Os) (started:os.Started) (H:Type) (enc:TypeId × Value→H):
  ReturnsInHanded {} Tryz.checked os 4 .any (Rows.workSmallSpec.pre6 enc Tryz.prog Tryz.f4 Rows.workSmallRow.domain false) (Rows.workSmallSpec.post enc Tryz.prog Tryz.f4 false true false false):=by
 refine returnsInHanded_of_change (C:=Tryz.checked) Tryz.own started (by kernel_rfl) Tryz.func4
  (ChangeSpec.witness6 (enc:=enc) (C:=Tryz.checked) false ⟨#[], #[],[]⟩ 16 (by kernel_rfl) (by kernel_rfl) (by kernel_rfl) (by kernel_rfl)) ?_
 intro W base args ds gs before hval hW _ _
 exact yR H enc W base args ds gs before hval hW
set_option maxRecDepth 100000
theorem Jk:(Rows.workSmallRow.inPlace==Tryz.prog.inPlace 4)=true:=by kernel_rfl
theorem Jo:(Rows.workSmallRow.unfollowed==Tryz.prog.unfollowed 4)=true:=by kernel_rfl
theorem Jr:(Rows.workSmallRow.recurses==Tryz.prog.recurses 4)=true:=by kernel_rfl
theorem Jq:(Rows.workSmallRow.named==Tryz.prog.varsNamed 4)=true:=by kernel_rfl
theorem Dx:joinedFacts Tryz.prog 4 Tryz.f4 Rows.workSmallSpec Rows.workSmallRow=true:=by
 unfold joinedFacts
 rw [Jk,Jo,Jr,Jq]
 kernel_rfl
theorem workSmall_holds:Rows.WorkSmallSaid:=
 OpenClaim.holds_of_wide 4 Tryz.f4 rfl rfl rfl rfl rfl rfl rfl ⟨rfl,rfl,rfl,rfl,rfl⟩ rfl rfl rfl rfl rfl (by kernel_rfl) Tryz.func4 Dx
  (of_decide_eq_true (by kernel_rfl)) (by unfold Func.isWrapper;first|(rw [if_pos (by decide+kernel)];kernel_rfl)|(rw [if_neg (by decide+kernel)];exact⟨rfl,rfl⟩))
  (fun os started H enc _=>BG os started H enc)
end Go.Proofs.YtbjhjmcpfmhgdaaGreat
