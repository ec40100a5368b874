/- The numbers at their limits, all states of a small plant, texts that are nearly right: all as the reference has it. -/
import Derived.Test.YtcafpngcflplgaaGreatDoorCards
import Derived.Test.YtcafpngcflplgaaGreatDoorTie
import Derived.ProofKit
import Derived.Lay
import Derived.Stop.LaidErr
import Derived.Lib.LaidTab
import Derived.Lib.ItoaNum
import Derived.Test.YtcafpngcflplgaaGreatDoorSmLg
import Derived.Test.YtcafpngcflplgaaGreatDoorSmLh
import Derived.Test.YtcafpngcflplgaaGreatDoorSmW4
set_option linter.all false
namespace Sg
open Go Go.Proofs Go.Proofs.YtcafpngcflplgaaGreatDoor Go.ChangeShapes Go.WideShapes Go.RowKit
set_option maxRecDepth 20000
end Sg
namespace Go.Proofs.YtcafpngcflplgaaGreatDoor
open Sg Go.ChangeShapes Go.WideShapes Go.ChangeAt Go.RowKit
theorem Tryz.own:ownKnob Tryz.prog.godebug=none:=by kernel_rfl
theorem Tryz.laidOut:laidOutB Tryz.prog=true:=by kernel_rfl
theorem Tryz.star: "*" ++ "errors.errorString" = "*errors.errorString" :=by decide
theorem Tryz.Qp (u:TypeId) (h:Tryz.prog.typeName? 3 u=some "*errors.errorString"):u=261:=
 typeName_ptr_named (nm:= "errors.errorString") (by rw [Tryz.star];kernel_rfl) (by kernel_rfl) (by decide) u (by rw [Tryz.star];exact h)
theorem Tryz.gl {W:World} (hL:laidMet Tryz.prog Rows.plantSmallRow.laid W) (hsh:W.ShapedOpen Tryz.prog):GL (C9 W) W:=by
 have h1:Lib.TabIs Tryz.prog W "internal/strconv.uint64pow10" .u64 Lib.pow10Tab:=Lib.tabIs_of_head (name:= "internal/strconv.uint64pow10") (k:= .u64) (zs:=Lib.pow10Tab) (g:=1) (t:=236) (e:=198) (n:=20) (by kernel_rfl) (by kernel_rfl) Tryz.underlying236 Tryz.underlying198 (by kernel_rfl) (by kernel_rfl) (laidMet.tail (laidMet.tail hL));obtain⟨a5,_,h5,_⟩:=laid_sentinel (n:= "strconv.ErrRange") (g:=5) (laidMet.tail (laidMet.tail (laidMet.tail (laidMet.tail hL)))) (by kernel_rfl) (by kernel_rfl) Tryz.underlying122 Tryz.Qp Tryz.underlying261 Tryz.underlying263 rfl rfl Tryz.underlying9 (by kernel_rfl) (by kernel_rfl);obtain⟨a4,_,h4,_⟩:=laid_sentinel (n:= "strconv.ErrSyntax") (g:=4) (laidMet.tail (laidMet.tail (laidMet.tail (laidMet.tail (laidMet.tail hL))))) (by kernel_rfl) (by kernel_rfl) Tryz.underlying122 Tryz.Qp Tryz.underlying261 Tryz.underlying263 rfl rfl Tryz.underlying9 (by kernel_rfl) (by kernel_rfl);obtain⟨m,h0⟩:=PD (g:=0) (t:=3) (zero:= #[.int .i64 0]) hsh (of_decide_eq_true (by kernel_rfl)) (by kernel_rfl) rfl (by kernel_rfl) (by kernel_rfl) Tryz.underlying3;obtain⟨l1,E1,z1,k1⟩:=Fz (g:=1) (by kernel_rfl) h1;obtain⟨l4,E4,z4,k4⟩:=Fz (g:=4) (by kernel_rfl) h4;obtain⟨l5,E5,z5,k5⟩:=Fz (g:=5) (by kernel_rfl) h5;intro x hx;unfold Pm at hx;simp only [eh,List.not_mem_nil,or_false]at hx;rcases hx with rfl|rfl|rfl|rfl;·exact⟨l1,_,E1,z1,k1,by rw [Lib.pow10Tab,List.map_map];rfl⟩
 ·exact⟨(Array.getElem?_eq_some_iff.1 h0).1,_,_,_,h0,m,rfl⟩
 ·exact⟨l4,_,E4,z4,k4,_,_,rfl⟩
 ·exact⟨l5,_,E5,z5,k5,_,_,rfl⟩
set_option maxRecDepth 100000 in
theorem xq (H:Type) (enc:TypeId × Value->H) (W:World) (base:Nat) (args:Array Value) (ds gs:List (DataW H)) (before:List MemPlace)
  (hval: ∀(j:Nat) t v,Tryz.f3.params[j]? =some t->args[j]? =some v->Value.okWide Tryz.prog W .any base t v)
  (hW:DataW.Whole enc Tryz.prog Tryz.f3.params.toList Rows.plantSmallSpec.vars false W args.toList ds gs before)
  (hL:laidMet Tryz.prog Rows.plantSmallRow.laid W) (hsh:W.ShapedOpen Tryz.prog):
  Calls Tryz.prog 3 args W fun e W'=> ∃v,e= .returned v/\Rows.plantSmallSpec.post enc Tryz.prog Tryz.f3 false true false false W args v W':=by
 have hW':=hW;obtain⟨p,q,hA0,hV,rfl,hfz,hnd⟩:=hW;have hA:DataW.TrodAll enc Tryz.prog W 0 (fun _=>true) true Tryz.f3.params.toList args.toList ds p:=hA0;rw [Tryz.params3]at hA hval;obtain⟨hvz,hdz,hpz⟩:=trodAll_nil hA;have hgs:=(trodVars_none hV).1;have hargs:args= #[]:=by
  have:args.toList=[]:=hvz;cases args;simp at this;rw [this]
 have hds:ds=[]:=hdz;subst hargs;have hm:gI  =some true:=Da;refine(OW (vs:=[]) (uI  hm) trivial (Tryz.gl hL hsh)).mono fun e W' ⟨he,hb⟩=> ⟨_,he, ?_⟩;refine SH (t4:=4) rfl hW' ?_ ?_ ?_ rfl Tryz.underlying4 Tryz.laidOut ?_ hb;·rw [hds,hgs];rfl
 ·rw [hds,hgs];rfl
 ·rw [hds,hgs];rfl
 ·intro t ht;rw [Tryz.params3]at ht;simp at ht
set_option maxRecDepth 100000 in
theorem zX (os:Os) (started:os.Started) (H:Type) (enc:TypeId × Value->H):
  ReturnsInHanded {} Tryz.checked os 3 .any (fun w args=>(Rows.plantSmallSpec.pre enc Tryz.prog Tryz.f3 [] false w args/\laidMetH Tryz.prog Rows.plantSmallRow.laid w)/\sizedMet enc Tryz.prog Tryz.f3 (OpenSpec.ofChange Rows.plantSmallSpec) false w args)
   (Rows.plantSmallSpec.post enc Tryz.prog Tryz.f3 false true false false):=by
 refine I6 (C:=Tryz.checked) (X:=fun w _=>laidMetH Tryz.prog Rows.plantSmallRow.laid w) (fun _ _ _ hh h=>h.of_heap hh) Tryz.own started (by kernel_rfl) Tryz.func3
  (ChangeSpec.witness_shaped (enc:=enc) (C:=Tryz.checked) (os:=os) (X:=fun w _=>laidMetH Tryz.prog Rows.plantSmallRow.laid w) false (World.laidAll Tryz.prog os Rows.plantSmallRow.laid) #[] 16 (World.laidAll_os _ _ _)
   (World.shaped_of_ZipB (by kernel_rfl) (by kernel_rfl)) (by kernel_rfl) (by kernel_rfl) (by kernel_rfl)
   (by rw [MakeChecks.laidMetH_plain _ _ _ (by kernel_rfl)];exact laidMet_laidAll _ (by kernel_rfl) (by kernel_rfl))) ?_
 intro W base args ds gs before hval hW hL hsh;rw [MakeChecks.laidMetH_plain _ _ _ (by kernel_rfl)]at hL;exact xq H enc W base args ds gs before hval hW hL hsh
theorem Eh:Rows.plantSmallRow.holds Tryz.pinned (OpenSpec.ofChange Rows.plantSmallSpec):=
 OpenClaim.holds_of_wide 3 Tryz.f3 rfl rfl rfl rfl rfl rfl rfl ⟨rfl,rfl,rfl,rfl,rfl⟩ rfl rfl rfl rfl rfl (by kernel_rfl) Tryz.func3 (by kernel_rfl)
  (of_decide_eq_true (by kernel_rfl)) (by unfold Func.isWrapper;first|(rw [ci (by decide+kernel)];kernel_rfl)|(rw [ce (by decide+kernel)];exact⟨rfl,rfl⟩))
  (fun os started H enc _=>zX os started H enc)
theorem plantSmall_holds:Rows.PlantSmallCardSaid:=
 Claim7.holds_tied_plain_at .later [] [.data, .data, .data, .data, .sentinel, .sentinel, .pinned] true (true, "766c1364a324b3f61fdddb2a91585e8857cd94d8ae0f256a1f87ed0f9e9f8423") true Eh (fun _ h=>by cases h) (by kernel_rfl) (fun _ h=>by cases h) plantSmall_row_tie rfl ⟨rfl,rfl⟩ (by kernel_rfl) rfl
  (fun f fn hf hfn=>by
   obtain rfl:f=3:=Option.some.inj ((show Tryz.prog.funcNamed Rows.plantSmallRow.func=some 3 by kernel_rfl).symm.trans hf)|>.symm
   obtain rfl:fn=Tryz.f3:=(Option.some.inj (Tryz.func3.symm.trans hfn)).symm;exact⟨by kernel_rfl,fun j t ht=>by
    rw [Tryz.params3]at ht;have hm:t∈[]:=by simpa using Array.mem_of_getElem? ht
    have hall:([].all fun u=> !Tryz.prog.wantsStandIn u)=true:=by kernel_rfl
    exact(show Tryz.prog.wantsStandIn t=false by simpa using List.all_eq_true.1 hall t hm)⟩)
  (by kernel_rfl)
end Go.Proofs.YtcafpngcflplgaaGreatDoor
