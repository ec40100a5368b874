/- The small plants of flow: all states of a plant of three buses, and plants of 24 buses. -/
import Derived.Test.YtpndenfhglaikaaGreatRows
import Derived.ProofKit
import Derived.Test.YtpndenfhglaikaaGreatLc
import Derived.Test.YtpndenfhglaikaaGreatLf
import Derived.Test.YtpndenfhglaikaaGreatW5
set_option linter.all false
namespace Sg
open Go Go.Proofs Go.Proofs.YtpndenfhglaikaaGreat Go.ChangeShapes Go.WideShapes Go.RowKit
set_option maxRecDepth 20000
end Sg
namespace Go.Proofs.YtpndenfhglaikaaGreat
open Sg Go.ChangeShapes Go.WideShapes Go.ChangeAt Go.RowKit
theorem Tryz.own:ownKnob Tryz.prog.godebug=none:=by kernel_rfl
theorem Tryz.laidOut:laidOutB Tryz.prog=true:=by kernel_rfl
set_option maxRecDepth 100000 in
theorem Dc (H:Type) (enc:TypeId × Value→H) (W:World) (base:Nat) (args:Array Value) (ds gs:List (DataW H)) (before:List MemPlace)
  (hval: ∀(j:Nat) t v,Tryz.f5.params[j]? =some t→args[j]? =some v→Value.okWide Tryz.prog W .any base t v)
  (hW:DataW.Whole enc Tryz.prog Tryz.f5.params.toList Rows.flowSmallSpec.vars false W args.toList ds gs before):
  Calls Tryz.prog 5 args W fun e W'=> ∃v,e= .returned v∧Rows.flowSmallSpec.post enc Tryz.prog Tryz.f5 false true false false W args v W':=by
 have hW':=hW
 obtain⟨p,q,hA0,hV,rfl,hfz,hnd⟩:=hW
 have hA:DataW.TrodAll enc Tryz.prog W 0 (fun _=>true) true Tryz.f5.params.toList args.toList ds p:=hA0
 rw [Tryz.params5]at hA hval
 obtain⟨hvz,hdz,hpz⟩:=trodAll_nil hA
 have hgs:=(trodVars_none hV).1
 have hargs:args= #[]:=by
  have:args.toList=[]:=hvz
  cases args;simp at this;rw [this]
 have hds:ds=[]:=hdz
 subst hargs
 have hm:mO  =some true:=JQ
 refine(Uh (vs:=[]) (Bc  hm) trivial).mono fun e W' ⟨he,hb⟩=> ⟨_,he, ?_⟩
 refine Xb (t4:=4) rfl hW' ?_ ?_ ?_ rfl Tryz.underlying4 Tryz.laidOut ?_ hb
 ·rw [hds,hgs];rfl
 ·rw [hds,hgs];rfl
 ·rw [hds,hgs];rfl
 ·intro t ht
  rw [Tryz.params5]at ht
  simp at ht
set_option maxRecDepth 100000 in
theorem FT (os:Os) (started:os.Started) (H:Type) (enc:TypeId × Value→H):
  ReturnsInHanded {} Tryz.checked os 5 .any (Rows.flowSmallSpec.pre6 enc Tryz.prog Tryz.f5 Rows.flowSmallRow.domain false) (Rows.flowSmallSpec.post enc Tryz.prog Tryz.f5 false true false false):=by
 refine returnsInHanded_of_change (C:=Tryz.checked) Tryz.own started (by kernel_rfl) Tryz.func5
  (ChangeSpec.witness6 (enc:=enc) (C:=Tryz.checked) false ⟨#[], #[],[]⟩ 16 (by kernel_rfl) (by kernel_rfl) (by kernel_rfl) (by kernel_rfl)) ?_
 intro W base args ds gs before hval hW _ _
 exact Dc H enc W base args ds gs before hval hW
theorem flowSmall_holds:Rows.FlowSmallSaid:=
 OpenClaim.holds_of_wide 5 Tryz.f5 rfl rfl rfl rfl rfl rfl rfl ⟨rfl,rfl,rfl,rfl,rfl⟩ rfl rfl rfl rfl rfl (by kernel_rfl) Tryz.func5 (by kernel_rfl)
  (of_decide_eq_true (by kernel_rfl)) (by unfold Func.isWrapper;first|(rw [if_pos (by decide+kernel)];kernel_rfl)|(rw [if_neg (by decide+kernel)];exact⟨rfl,rfl⟩))
  (fun os started H enc _=>FT os started H enc)
end Go.Proofs.YtpndenfhglaikaaGreat
