/- ActsSmall: the closed law of procedures of 64 items, logs of 1000 events and of runs that are none, returns true (no conditions). -/
import Derived.Test.YtbjhjmcpfmhgdaaGreatRows
import Derived.ProofKit
import Derived.Test.YtbjhjmcpfmhgdaaGreatAsLc
import Derived.Test.YtbjhjmcpfmhgdaaGreatAsLg
import Derived.Test.YtbjhjmcpfmhgdaaGreatAsW3
set_option linter.all false
namespace Sg
open Go Go.Proofs Go.Proofs.YtbjhjmcpfmhgdaaGreat Go.ChangeShapes Go.WideShapes Go.RowKit
set_option maxRecDepth 20000
end Sg
namespace Go.Proofs.YtbjhjmcpfmhgdaaGreat
open Sg Go.ChangeShapes Go.WideShapes Go.ChangeAt Go.RowKit
theorem Tryz.own:ownKnob Tryz.prog.godebug=none:=by kernel_rfl
theorem Tryz.laidOut:laidOutB Tryz.prog=true:=by kernel_rfl
set_option maxRecDepth 100000 in
theorem A9 (H:Type) (enc:TypeId × Value→H) (W:World) (base:Nat) (args:Array Value) (ds gs:List (DataW H)) (before:List MemPlace)
  (hval: ∀(j:Nat) t v,Tryz.f9.params[j]? =some t→args[j]? =some v→Value.okWide Tryz.prog W .any base t v)
  (hW:DataW.Whole enc Tryz.prog Tryz.f9.params.toList Rows.actsSmallSpec.vars false W args.toList ds gs before):
  Calls Tryz.prog 9 args W fun e W'=> ∃v,e= .returned v∧Rows.actsSmallSpec.post enc Tryz.prog Tryz.f9 false true false false W args v W':=by
 have hW':=hW
 obtain⟨p,q,hA0,hV,rfl,hfz,hnd⟩:=hW
 have hA:DataW.TrodAll enc Tryz.prog W 0 (fun _=>true) true Tryz.f9.params.toList args.toList ds p:=hA0
 rw [Tryz.params9]at hA hval
 obtain⟨hvz,hdz,hpz⟩:=trodAll_nil hA
 have hgs:=(trodVars_none hV).1
 have hargs:args= #[]:=by
  have:args.toList=[]:=hvz
  cases args;simp at this;rw [this]
 have hds:ds=[]:=hdz
 subst hargs
 have hm:kL  =some true:=F5
 refine(Pf (vs:=[]) (yP  hm) trivial (fun _ h=>by cases h)).mono fun e W' ⟨he,hb⟩=> ⟨_,he, ?_⟩
 refine Qi (t4:=4) rfl hW' ?_ ?_ ?_ rfl Tryz.underlying4 Tryz.laidOut ?_ hb
 ·rw [hds,hgs];rfl
 ·rw [hds,hgs];rfl
 ·rw [hds,hgs];rfl
 ·intro t ht
  rw [Tryz.params9]at ht
  simp at ht
set_option maxRecDepth 100000 in
theorem CW (os:Os) (started:os.Started) (H:Type) (enc:TypeId × Value→H):
  ReturnsInHanded {} Tryz.checked os 9 .any (Rows.actsSmallSpec.pre6 enc Tryz.prog Tryz.f9 Rows.actsSmallRow.domain false) (Rows.actsSmallSpec.post enc Tryz.prog Tryz.f9 false true false false):=by
 refine returnsInHanded_of_change (C:=Tryz.checked) Tryz.own started (by kernel_rfl) Tryz.func9
  (ChangeSpec.witness6 (enc:=enc) (C:=Tryz.checked) false ⟨#[], #[],[]⟩ 16 (by kernel_rfl) (by kernel_rfl) (by kernel_rfl) (by kernel_rfl)) ?_
 intro W base args ds gs before hval hW _ _
 exact A9 H enc W base args ds gs before hval hW
set_option maxRecDepth 100000
theorem Jo:(Rows.actsSmallRow.inPlace==Tryz.prog.inPlace 9)=true:=by kernel_rfl
theorem Jh:(Rows.actsSmallRow.unfollowed==Tryz.prog.unfollowed 9)=true:=by kernel_rfl
theorem Jp:(Rows.actsSmallRow.recurses==Tryz.prog.recurses 9)=true:=by kernel_rfl
theorem IC:(Rows.actsSmallRow.named==Tryz.prog.varsNamed 9)=true:=by kernel_rfl
theorem Ef:joinedFacts Tryz.prog 9 Tryz.f9 Rows.actsSmallSpec Rows.actsSmallRow=true:=by
 unfold joinedFacts
 rw [Jo,Jh,Jp,IC]
 kernel_rfl
theorem actsSmall_holds:Rows.ActsSmallSaid:=
 OpenClaim.holds_of_wide 9 Tryz.f9 rfl rfl rfl rfl rfl rfl rfl ⟨rfl,rfl,rfl,rfl,rfl⟩ rfl rfl rfl rfl rfl (by kernel_rfl) Tryz.func9 Ef
  (of_decide_eq_true (by kernel_rfl)) (by unfold Func.isWrapper;first|(rw [if_pos (by decide+kernel)];kernel_rfl)|(rw [if_neg (by decide+kernel)];exact⟨rfl,rfl⟩))
  (fun os started H enc _=>CW os started H enc)
end Go.Proofs.YtbjhjmcpfmhgdaaGreat
