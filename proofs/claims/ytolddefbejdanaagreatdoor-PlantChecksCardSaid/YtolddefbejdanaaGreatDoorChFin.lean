/- PlantChecks: for every plant and state, the law that compares the checks, the islands, the live buses, the feeds and the clashes with the reference returns true (no conditions). -/
import Derived.Test.YtolddefbejdanaaGreatDoorCards
import Derived.Test.YtolddefbejdanaaGreatDoorTie
import Derived.ProofKit
import Derived.Lay
import Derived.Stop.LaidErr
import Derived.Lib.LaidTab
import Derived.Lib.ItoaNum
import Derived.Test.YtolddefbejdanaaGreatDoorChLe
import Derived.Test.YtolddefbejdanaaGreatDoorChW1
set_option linter.all false
namespace Sg
open Go Go.Proofs Go.Proofs.YtolddefbejdanaaGreatDoor Go.ChangeShapes Go.WideShapes Go.RowKit
set_option maxRecDepth 20000
theorem GZ:Rz Tryz.prog 3 1 (aH .i64) (fun n:Int=> -9223372036854775808≤n∧n≤9223372036854775807):=(Rd.int Tryz.underlying3 (by kernel_rfl)).z
theorem Tt:Rz Tryz.prog 88 1 (aH .i64) (fun n:Int=> -9223372036854775808≤n∧n≤9223372036854775807):=(Rd.int Tryz.underlying88 (by kernel_rfl)).z
def Q6 (x:Source):Prop:=(fun n:Int=> -9223372036854775808≤n∧n≤9223372036854775807) x.bus∧(fun n:Int=> -9223372036854775808≤n∧n≤9223372036854775807) x.kind∧(fun n:Int=> -9223372036854775808≤n∧n≤9223372036854775807) x.power∧(fun n:Int=> -9223372036854775808≤n∧n≤9223372036854775807) x.sync∧(fun n:Int=> -9223372036854775808≤n∧n≤9223372036854775807) x.ohm
theorem Tk:Rz Tryz.prog 90 5 Source.cell Q6:=by
 refine⟨by kernel_rfl,fun h hz=> ?_⟩
 obtain⟨hl,hf⟩:=Rz.fields Tryz.underlying90 (n:=5) (by kernel_rfl) h hz
 obtain⟨a0,s0,c0⟩:=Rz.field (off:=0) GZ (hf 0 _ rfl)
 obtain⟨a1,s1,c1⟩:=Rz.field (off:=1) Tt (hf 1 _ rfl)
 obtain⟨a2,s2,c2⟩:=Rz.field (off:=2) GZ (hf 2 _ rfl)
 obtain⟨a3,s3,c3⟩:=Rz.field (off:=3) GZ (hf 3 _ rfl)
 obtain⟨a4,s4,c4⟩:=Rz.field (off:=4) GZ (hf 4 _ rfl)
 exact⟨⟨a0,a1,a2,a3,a4⟩,⟨s0,s1,s2,s3,s4⟩,hl,fun j hj=>match j,hj with|0,_=>c0 0 (by decide)|1,_=>c1 0 (by decide)|2,_=>c2 0 (by decide)|3,_=>c3 0 (by decide)|4,_=>c4 0 (by decide)⟩
def QV (l:List Source):Prop:=l.length≤9223372036854775807∧(∀x∈l,Q6 x)∧l.length*40≤140737488351232
theorem Tn:Rz Tryz.prog 22 1 (OP 5 Source.cell) QV:=Rz.slice Tryz.underlying22 (by kernel_rfl) (by decide) (b:=40) (by kernel_rfl) Tk
theorem Ta:Rz Tryz.prog 70 1 (aH .i64) (fun n:Int=> -9223372036854775808≤n∧n≤9223372036854775807):=(Rd.int Tryz.underlying70 (by kernel_rfl)).z
def Ot (x:bX):Prop:=(fun n:Int=> -9223372036854775808≤n∧n≤9223372036854775807) x.amps∧(fun n:Int=> -9223372036854775808≤n∧n≤9223372036854775807) x.millis
theorem Qt:Rz Tryz.prog 119 2 bX.cell Ot:=by
 refine⟨by kernel_rfl,fun h hz=> ?_⟩
 obtain⟨hl,hf⟩:=Rz.fields Tryz.underlying119 (n:=2) (by kernel_rfl) h hz
 obtain⟨a0,s0,c0⟩:=Rz.field (off:=0) GZ (hf 0 _ rfl)
 obtain⟨a1,s1,c1⟩:=Rz.field (off:=1) GZ (hf 1 _ rfl)
 exact⟨⟨a0,a1⟩,⟨s0,s1⟩,hl,fun j hj=>match j,hj with|0,_=>c0 0 (by decide)|1,_=>c1 0 (by decide)⟩
def RH (l:List bX):Prop:=l.length≤9223372036854775807∧(∀x∈l,Ot x)∧l.length*16≤140737488351232
theorem SK:Rz Tryz.prog 71 1 (OP 2 bX.cell) RH:=Rz.slice Tryz.underlying71 (by kernel_rfl) (by decide) (b:=16) (by kernel_rfl) Qt
def Qh (x:Link):Prop:=(fun n:Int=> -9223372036854775808≤n∧n≤9223372036854775807) x.a∧(fun n:Int=> -9223372036854775808≤n∧n≤9223372036854775807) x.b∧(fun n:Int=> -9223372036854775808≤n∧n≤9223372036854775807) x.kind∧(fun n:Int=> -9223372036854775808≤n∧n≤9223372036854775807) x.most∧(fun n:Int=> -9223372036854775808≤n∧n≤9223372036854775807) x.ohm∧RH x.trip
theorem TA:Rz Tryz.prog 73 6 Link.cell Qh:=by
 refine⟨by kernel_rfl,fun h hz=> ?_⟩
 obtain⟨hl,hf⟩:=Rz.fields Tryz.underlying73 (n:=6) (by kernel_rfl) h hz
 obtain⟨a0,s0,c0⟩:=Rz.field (off:=0) GZ (hf 0 _ rfl)
 obtain⟨a1,s1,c1⟩:=Rz.field (off:=1) GZ (hf 1 _ rfl)
 obtain⟨a2,s2,c2⟩:=Rz.field (off:=2) Ta (hf 2 _ rfl)
 obtain⟨a3,s3,c3⟩:=Rz.field (off:=3) GZ (hf 3 _ rfl)
 obtain⟨a4,s4,c4⟩:=Rz.field (off:=4) GZ (hf 4 _ rfl)
 obtain⟨a5,s5,c5⟩:=Rz.field (off:=5) SK (hf 5 _ rfl)
 exact⟨⟨a0,a1,a2,a3,a4,a5⟩,⟨s0,s1,s2,s3,s4,s5⟩,hl,fun j hj=>match j,hj with|0,_=>c0 0 (by decide)|1,_=>c1 0 (by decide)|2,_=>c2 0 (by decide)|3,_=>c3 0 (by decide)|4,_=>c4 0 (by decide)|5,_=>c5 0 (by decide)⟩
def RB (l:List Link):Prop:=l.length≤9223372036854775807∧(∀x∈l,Qh x)∧l.length*64≤140737488351232
theorem Tz:Rz Tryz.prog 23 1 (OP 6 Link.cell) RB:=Rz.slice Tryz.underlying23 (by kernel_rfl) (by decide) (b:=64) (by kernel_rfl) TA
def QW (x:ah):Prop:=(fun n:Int=> -9223372036854775808≤n∧n≤9223372036854775807) x.e0∧(fun n:Int=> -9223372036854775808≤n∧n≤9223372036854775807) x.e1
theorem SY:Rz Tryz.prog 79 2 ah.cell QW:=by
 refine⟨by kernel_rfl,fun h hz=> ?_⟩
 obtain⟨hl,hf⟩:=Rz.elems Tryz.underlying79 (n:=2) (by kernel_rfl) h hz
 obtain⟨a0,s0,c0⟩:=Rz.field (off:=0) GZ (hf 0 (by decide))
 obtain⟨a1,s1,c1⟩:=Rz.field (off:=1) GZ (hf 1 (by decide))
 exact⟨⟨a0,a1⟩,⟨s0,s1⟩,hl,fun j hj=>match j,hj with|0,_=>c0 0 (by decide)|1,_=>c1 0 (by decide)⟩
def Rh (x:aN):Prop:=QW x.feeds∧(fun n:Int=> -9223372036854775808≤n∧n≤9223372036854775807) x.power∧(fun n:Int=> -9223372036854775808≤n∧n≤9223372036854775807) x.paths
theorem Tx:Rz Tryz.prog 98 4 aN.cell Rh:=by
 refine⟨by kernel_rfl,fun h hz=> ?_⟩
 obtain⟨hl,hf⟩:=Rz.fields Tryz.underlying98 (n:=4) (by kernel_rfl) h hz
 obtain⟨a0,s0,c0⟩:=Rz.field (off:=0) SY (hf 0 _ rfl)
 obtain⟨a1,s1,c1⟩:=Rz.field (off:=2) GZ (hf 1 _ rfl)
 obtain⟨a2,s2,c2⟩:=Rz.field (off:=3) GZ (hf 2 _ rfl)
 exact⟨⟨a0,a1,a2⟩,⟨s0,s1,s2⟩,hl,fun j hj=>match j,hj with|0,_=>c0 0 (by decide)|1,_=>c0 1 (by decide)|2,_=>c1 0 (by decide)|3,_=>c2 0 (by decide)⟩
def QU (l:List aN):Prop:=l.length≤9223372036854775807∧(∀x∈l,Rh x)∧l.length*32≤140737488351232
theorem SI:Rz Tryz.prog 24 1 (OP 4 aN.cell) QU:=Rz.slice Tryz.underlying24 (by kernel_rfl) (by decide) (b:=32) (by kernel_rfl) Tx
def Tf (x:ai):Prop:=(fun n:Int=> -9223372036854775808≤n∧n≤9223372036854775807) x.buses∧QV x.sources∧RB x.links∧QU x.racks
theorem Tc:Rz Tryz.prog 26 4 ai.cell Tf:=by
 refine⟨by kernel_rfl,fun h hz=> ?_⟩
 obtain⟨hl,hf⟩:=Rz.fields Tryz.underlying26 (n:=4) (by kernel_rfl) h hz
 obtain⟨a0,s0,c0⟩:=Rz.field (off:=0) GZ (hf 0 _ rfl)
 obtain⟨a1,s1,c1⟩:=Rz.field (off:=1) Tn (hf 1 _ rfl)
 obtain⟨a2,s2,c2⟩:=Rz.field (off:=2) Tz (hf 2 _ rfl)
 obtain⟨a3,s3,c3⟩:=Rz.field (off:=3) SI (hf 3 _ rfl)
 exact⟨⟨a0,a1,a2,a3⟩,⟨s0,s1,s2,s3⟩,hl,fun j hj=>match j,hj with|0,_=>c0 0 (by decide)|1,_=>c1 0 (by decide)|2,_=>c2 0 (by decide)|3,_=>c3 0 (by decide)⟩
theorem Ue:Rz Tryz.prog 4 1 aj (fun _:Bool=>True):=(Rd.bool Tryz.underlying4 (by kernel_rfl)).z
def Fv (l:List Bool):Prop:=l.length≤9223372036854775807∧(∀x∈l,(fun _:Bool=>True) x)∧l.length*1≤140737488351232
theorem Hz:Rz Tryz.prog 27 1 (OP 1 aj) Fv:=Rz.slice Tryz.underlying27 (by kernel_rfl) (by decide) (b:=1) (by kernel_rfl) Ue
def Tw (x:State):Prop:=Fv x.closed∧Fv x.locked∧Fv x.badLink∧Fv x.on_∧Fv x.badSource∧Fv x.earthed∧Fv x.badBus
theorem Td:Rz Tryz.prog 29 7 State.cell Tw:=by
 refine⟨by kernel_rfl,fun h hz=> ?_⟩
 obtain⟨hl,hf⟩:=Rz.fields Tryz.underlying29 (n:=7) (by kernel_rfl) h hz
 obtain⟨a0,s0,c0⟩:=Rz.field (off:=0) Hz (hf 0 _ rfl)
 obtain⟨a1,s1,c1⟩:=Rz.field (off:=1) Hz (hf 1 _ rfl)
 obtain⟨a2,s2,c2⟩:=Rz.field (off:=2) Hz (hf 2 _ rfl)
 obtain⟨a3,s3,c3⟩:=Rz.field (off:=3) Hz (hf 3 _ rfl)
 obtain⟨a4,s4,c4⟩:=Rz.field (off:=4) Hz (hf 4 _ rfl)
 obtain⟨a5,s5,c5⟩:=Rz.field (off:=5) Hz (hf 5 _ rfl)
 obtain⟨a6,s6,c6⟩:=Rz.field (off:=6) Hz (hf 6 _ rfl)
 exact⟨⟨a0,a1,a2,a3,a4,a5,a6⟩,⟨s0,s1,s2,s3,s4,s5,s6⟩,hl,fun j hj=>match j,hj with|0,_=>c0 0 (by decide)|1,_=>c1 0 (by decide)|2,_=>c2 0 (by decide)|3,_=>c3 0 (by decide)|4,_=>c4 0 (by decide)|5,_=>c5 0 (by decide)|6,_=>c6 0 (by decide)⟩
end Sg
namespace Go.Proofs.YtolddefbejdanaaGreatDoor
open Sg Go.ChangeShapes Go.WideShapes Go.ChangeAt Go.RowKit
theorem Tryz.own:ownKnob Tryz.prog.godebug=none:=by kernel_rfl
theorem Tryz.laidOut:laidOutB Tryz.prog=true:=by kernel_rfl
theorem Tryz.gl {W:World} (hL:laidMet Tryz.prog Rows.plantChecksRow.laid W):GL (rG W) W:=by
 have h:=Lib.tabIs_of_head (name:= "internal/strconv.uint64pow10") (k:= .u64) (zs:=Lib.pow10Tab) (g:=0) (t:=196) (e:=174) (n:=20) (rest:=[]) (by kernel_rfl) (by kernel_rfl) Tryz.underlying196 Tryz.underlying174 (by kernel_rfl) (by kernel_rfl) (laidMet.tail (laidMet.tail hL))
 unfold Lib.TabIs World.var? at h
 rw [show Tryz.prog.globalNamed "internal/strconv.uint64pow10" =some 0 by kernel_rfl]at h
 intro x hx
 obtain rfl:x=(0,(List.range 20).map fun i=>Value.int .u64 ((10 ^ i:Nat):Int)):=by simpa [Ph]using hx
 simp only [Option.bind_some]at h
 cases e:W.heap[0]? with
 |none=>rw [e]at h;cases h
 |some o=>
  rw [e]at h
  refine⟨(Array.getElem?_eq_some_iff.1 e).1, ?_⟩
  cases o with
  |cells cs E fz=>
   simp only [Option.some.injEq]at h
   exact⟨E,fz,by rw [h,Lib.pow10Tab,List.map_map];rfl⟩
  |_=>cases h
set_option maxRecDepth 100000 in
theorem tu (H:Type) (enc:TypeId × Value→H) (W:World) (base:Nat) (args:Array Value) (ds gs:List (DataW H)) (before:List MemPlace)
  (hval: ∀(j:Nat) t v,Tryz.f3.params[j]? =some t→args[j]? =some v→Value.okWide Tryz.prog W .any base t v)
  (hW:DataW.Whole enc Tryz.prog Tryz.f3.params.toList Rows.plantChecksSpec.vars false W args.toList ds gs before)
  (hsz:(DataW.weightsEach Tryz.prog (Tryz.f3.params.toList++Rows.plantChecksSpec.plain.varTypes Tryz.prog) (ds++gs)).all (· ≤reachBytes)=true)
  (hL:laidMet Tryz.prog Rows.plantChecksRow.laid W):
  Calls Tryz.prog 3 args W fun e W'=> ∃v,e= .returned v∧Rows.plantChecksSpec.post enc Tryz.prog Tryz.f3 false true false false W args v W':=by
 have hW':=hW
 obtain⟨p,q,hA0,hV,rfl,hfz,hnd⟩:=hW
 have hA:DataW.TrodAll enc Tryz.prog W 0 (fun _=>true) true Tryz.f3.params.toList args.toList ds p:=hA0
 rw [Tryz.params3]at hA hval
 obtain⟨v0,l0,d0,e0,p0,q0,hv0,hd0,hp0,h0,r0⟩:=trodAll_cons hA
 obtain⟨v1,l1,d1,e1,p1,q1,hv1,hd1,hp1,h1,r1⟩:=trodAll_cons r0
 obtain⟨hvz,hdz,hpz⟩:=trodAll_nil r1
 have hgs:=(trodVars_none hV).1
 have hargs:args= #[v0,v1]:=by
  have:args.toList=[v0,v1]:=by rw [hv0,hv1,hvz]
  cases args;simp at this;rw [this]
 have hds:ds=[d0,d1]:=by rw [hd0,hd1,hdz]
 subst hargs
 have hsz1:(DataW.weightsEach Tryz.prog [26,29] [d0,d1]).all (fun x=>decide (x≤reachBytes))=true:=by rw [hds,hgs,Tryz.params3]at hsz;exact hsz
 obtain⟨a0,s0,c0⟩:=Rz.agg Tc Tryz.underlying26 (hval 0 26 v0 rfl rfl) h0 (fun q hq=>of_decide_eq_true (List.all_eq_true.1 hsz1 q (DataW.weights_mem_each (j:=0) rfl rfl q hq)))
 obtain⟨a1,s1,c1⟩:=Rz.agg Td Tryz.underlying29 (hval 1 29 v1 rfl rfl) h1 (fun q hq=>of_decide_eq_true (List.all_eq_true.1 hsz1 q (DataW.weights_mem_each (j:=1) rfl rfl q hq)))
 have hm:gX a0 a1=some true:=yg a0 a1 ⟨by have:=s1.1.2.2;omega,by have:=s1.2.1.2.2;omega,by have:=s1.2.2.1.2.2;omega,by have:=s1.2.2.2.1.2.2;omega,by have:=s1.2.2.2.2.1.2.2;omega,by have:=s1.2.2.2.2.2.1.2.2;omega,by have:=s1.2.2.2.2.2.2.2.2;omega⟩
 refine(Jr (vs:=[v0,v1]) (qL a0 a1 hm) ⟨c0,c1,trivial⟩ (Tryz.gl hL)).mono fun e W' ⟨he,hb⟩=> ⟨_,he, ?_⟩
 refine KS (t4:=4) rfl hW' ?_ ?_ ?_ rfl Tryz.underlying4 Tryz.laidOut ?_ hb
 ·rw [hds,hgs];rfl
 ·rw [hds,hgs];rfl
 ·rw [hds,hgs];rfl
 ·intro t ht
  rw [Tryz.params3]at ht
  simp at ht
  rcases ht with rfl|rfl<;>exact⟨by kernel_rfl,of_decide_eq_true (by kernel_rfl)⟩
set_option maxRecDepth 100000 in
theorem ve (os:Os) (started:os.Started) (H:Type) (enc:TypeId × Value→H):
  ReturnsInHanded {} Tryz.checked os 3 .any (fun w args=>(Rows.plantChecksSpec.pre enc Tryz.prog Tryz.f3 [] false w args∧laidMetH Tryz.prog Rows.plantChecksRow.laid w)∧sizedMet enc Tryz.prog Tryz.f3 (OpenSpec.ofChange Rows.plantChecksSpec) false w args)
   (Rows.plantChecksSpec.post enc Tryz.prog Tryz.f3 false true false false):=by
 refine returnsInHanded_of_change_and (C:=Tryz.checked) (X:=fun w _=>laidMetH Tryz.prog Rows.plantChecksRow.laid w) (fun _ _ _ hh h=>h.of_heap hh) Tryz.own started (by kernel_rfl) Tryz.func3
  (ChangeSpec.witness_shaped (enc:=enc) (C:=Tryz.checked) (os:=os) (X:=fun w _=>laidMetH Tryz.prog Rows.plantChecksRow.laid w) false (World.laidAll Tryz.prog os Rows.plantChecksRow.laid) #[.agg #[.int .i64 0, .slice none 0 0, .slice none 0 0, .slice none 0 0], .agg #[.slice none 0 0, .slice none 0 0, .slice none 0 0, .slice none 0 0, .slice none 0 0, .slice none 0 0, .slice none 0 0]] 16 (World.laidAll_os _ _ _)
   (World.shaped_of_ZipB (by kernel_rfl) (by kernel_rfl)) (by kernel_rfl) (by kernel_rfl) (by kernel_rfl)
   (by rw [MakeChecks.laidMetH_plain _ _ _ (by kernel_rfl)];exact laidMet_laidAll _ (by kernel_rfl) (by kernel_rfl))) ?_
 intro W base args ds gs before hval hW _ hsz hL _
 rw [MakeChecks.laidMetH_plain _ _ _ (by kernel_rfl)]at hL
 exact tu H enc W base args ds gs before hval hW hsz hL
theorem zo:Rows.plantChecksRow.holds Tryz.pinned (OpenSpec.ofChange Rows.plantChecksSpec):=
 OpenClaim.holds_of_wide 3 Tryz.f3 rfl rfl rfl rfl rfl rfl rfl ⟨rfl,rfl,rfl,rfl,rfl⟩ rfl rfl rfl rfl rfl (by kernel_rfl) Tryz.func3 (by kernel_rfl)
  (of_decide_eq_true (by kernel_rfl)) (by unfold Func.isWrapper;first|(rw [if_pos (by decide+kernel)];kernel_rfl)|(rw [if_neg (by decide+kernel)];exact⟨rfl,rfl⟩))
  (fun os started H enc _=>ve os started H enc)
theorem plantChecks_holds:Rows.PlantChecksCardSaid:=
 Claim7.holds_tied_plain_at .later [] [.data, .data, .data] true (true, "05afc33f0494dd8b782058d4ca8879c850791e9beb4581b62f228b43c26b5b7c") true zo (fun _ h=>by cases h) (by kernel_rfl) (fun _ h=>by cases h) plantChecks_row_tie rfl ⟨rfl,rfl⟩ (by kernel_rfl) rfl
  (fun f fn hf hfn=>by
   obtain rfl:f=3:=Option.some.inj ((show Tryz.prog.funcNamed Rows.plantChecksRow.func=some 3 by kernel_rfl).symm.trans hf)|>.symm
   obtain rfl:fn=Tryz.f3:=(Option.some.inj (Tryz.func3.symm.trans hfn)).symm
   exact⟨by kernel_rfl,fun j t ht=>by
    rw [Tryz.params3]at ht
    have hm:t∈[26,29]:=by simpa using Array.mem_of_getElem? ht
    have hall:([26,29].all fun u=> !Tryz.prog.wantsStandIn u)=true:=by kernel_rfl
    exact(show Tryz.prog.wantsStandIn t=false by simpa using List.all_eq_true.1 hall t hm)⟩)
  (by kernel_rfl)
end Go.Proofs.YtolddefbejdanaaGreatDoor
