/- PlantFails: for every plant, state and part, the law that compares the initial state, the parts and the states behind a failure with the reference returns true (no conditions). -/
import Derived.Test.YtolddefbejdanaaGreatDoorCards
import Derived.Test.YtolddefbejdanaaGreatDoorTie
import Derived.ProofKit
import Derived.Lay
import Derived.Stop.LaidErr
import Derived.Lib.LaidTab
import Derived.Lib.ItoaNum
import Derived.Test.YtolddefbejdanaaGreatDoorFaLe
import Derived.Test.YtolddefbejdanaaGreatDoorFaW1
set_option linter.all false
namespace Sg
open Go Go.Proofs Go.Proofs.YtolddefbejdanaaGreatDoor Go.ChangeShapes Go.WideShapes Go.RowKit
set_option maxRecDepth 20000
theorem DU:Rz Tryz.prog 3 1 (aG .i64) (fun n:Int=> -9223372036854775808≤n∧n≤9223372036854775807):=(Rd.int Tryz.underlying3 (by kernel_rfl)).z
theorem O4:Rz Tryz.prog 88 1 (aG .i64) (fun n:Int=> -9223372036854775808≤n∧n≤9223372036854775807):=(Rd.int Tryz.underlying88 (by kernel_rfl)).z
def Nj (x:Source):Prop:=(fun n:Int=> -9223372036854775808≤n∧n≤9223372036854775807) x.bus∧(fun n:Int=> -9223372036854775808≤n∧n≤9223372036854775807) x.kind∧(fun n:Int=> -9223372036854775808≤n∧n≤9223372036854775807) x.power∧(fun n:Int=> -9223372036854775808≤n∧n≤9223372036854775807) x.sync∧(fun n:Int=> -9223372036854775808≤n∧n≤9223372036854775807) x.ohm
theorem Pn:Rz Tryz.prog 90 5 Source.cell Nj:=by
 refine⟨by kernel_rfl,fun h hz=> ?_⟩
 obtain⟨hl,hf⟩:=Rz.fields Tryz.underlying90 (n:=5) (by kernel_rfl) h hz
 obtain⟨a0,s0,c0⟩:=Rz.field (off:=0) DU (hf 0 _ rfl)
 obtain⟨a1,s1,c1⟩:=Rz.field (off:=1) O4 (hf 1 _ rfl)
 obtain⟨a2,s2,c2⟩:=Rz.field (off:=2) DU (hf 2 _ rfl)
 obtain⟨a3,s3,c3⟩:=Rz.field (off:=3) DU (hf 3 _ rfl)
 obtain⟨a4,s4,c4⟩:=Rz.field (off:=4) DU (hf 4 _ rfl)
 exact⟨⟨a0,a1,a2,a3,a4⟩,⟨s0,s1,s2,s3,s4⟩,hl,fun j hj=>match j,hj with|0,_=>c0 0 (by decide)|1,_=>c1 0 (by decide)|2,_=>c2 0 (by decide)|3,_=>c3 0 (by decide)|4,_=>c4 0 (by decide)⟩
def Mv (l:List Source):Prop:=l.length≤9223372036854775807∧(∀x∈l,Nj x)∧l.length*40≤140737488351232
theorem O3:Rz Tryz.prog 22 1 (Lf 5 Source.cell) Mv:=Rz.slice Tryz.underlying22 (by kernel_rfl) (by decide) (b:=40) (by kernel_rfl) Pn
theorem Pj:Rz Tryz.prog 70 1 (aG .i64) (fun n:Int=> -9223372036854775808≤n∧n≤9223372036854775807):=(Rd.int Tryz.underlying70 (by kernel_rfl)).z
def KP (x:dG):Prop:=(fun n:Int=> -9223372036854775808≤n∧n≤9223372036854775807) x.amps∧(fun n:Int=> -9223372036854775808≤n∧n≤9223372036854775807) x.millis
theorem M8:Rz Tryz.prog 119 2 dG.cell KP:=by
 refine⟨by kernel_rfl,fun h hz=> ?_⟩
 obtain⟨hl,hf⟩:=Rz.fields Tryz.underlying119 (n:=2) (by kernel_rfl) h hz
 obtain⟨a0,s0,c0⟩:=Rz.field (off:=0) DU (hf 0 _ rfl)
 obtain⟨a1,s1,c1⟩:=Rz.field (off:=1) DU (hf 1 _ rfl)
 exact⟨⟨a0,a1⟩,⟨s0,s1⟩,hl,fun j hj=>match j,hj with|0,_=>c0 0 (by decide)|1,_=>c1 0 (by decide)⟩
def Mt (l:List dG):Prop:=l.length≤9223372036854775807∧(∀x∈l,KP x)∧l.length*16≤140737488351232
theorem Ph:Rz Tryz.prog 71 1 (Lf 2 dG.cell) Mt:=Rz.slice Tryz.underlying71 (by kernel_rfl) (by decide) (b:=16) (by kernel_rfl) M8
def Nu (x:Link):Prop:=(fun n:Int=> -9223372036854775808≤n∧n≤9223372036854775807) x.a∧(fun n:Int=> -9223372036854775808≤n∧n≤9223372036854775807) x.b∧(fun n:Int=> -9223372036854775808≤n∧n≤9223372036854775807) x.kind∧(fun n:Int=> -9223372036854775808≤n∧n≤9223372036854775807) x.most∧(fun n:Int=> -9223372036854775808≤n∧n≤9223372036854775807) x.ohm∧Mt x.trip
theorem Pm:Rz Tryz.prog 73 6 Link.cell Nu:=by
 refine⟨by kernel_rfl,fun h hz=> ?_⟩
 obtain⟨hl,hf⟩:=Rz.fields Tryz.underlying73 (n:=6) (by kernel_rfl) h hz
 obtain⟨a0,s0,c0⟩:=Rz.field (off:=0) DU (hf 0 _ rfl)
 obtain⟨a1,s1,c1⟩:=Rz.field (off:=1) DU (hf 1 _ rfl)
 obtain⟨a2,s2,c2⟩:=Rz.field (off:=2) Pj (hf 2 _ rfl)
 obtain⟨a3,s3,c3⟩:=Rz.field (off:=3) DU (hf 3 _ rfl)
 obtain⟨a4,s4,c4⟩:=Rz.field (off:=4) DU (hf 4 _ rfl)
 obtain⟨a5,s5,c5⟩:=Rz.field (off:=5) Ph (hf 5 _ rfl)
 exact⟨⟨a0,a1,a2,a3,a4,a5⟩,⟨s0,s1,s2,s3,s4,s5⟩,hl,fun j hj=>match j,hj with|0,_=>c0 0 (by decide)|1,_=>c1 0 (by decide)|2,_=>c2 0 (by decide)|3,_=>c3 0 (by decide)|4,_=>c4 0 (by decide)|5,_=>c5 0 (by decide)⟩
def Oa (l:List Link):Prop:=l.length≤9223372036854775807∧(∀x∈l,Nu x)∧l.length*64≤140737488351232
theorem O0:Rz Tryz.prog 23 1 (Lf 6 Link.cell) Oa:=Rz.slice Tryz.underlying23 (by kernel_rfl) (by decide) (b:=64) (by kernel_rfl) Pm
def MO (x:aj):Prop:=(fun n:Int=> -9223372036854775808≤n∧n≤9223372036854775807) x.e0∧(fun n:Int=> -9223372036854775808≤n∧n≤9223372036854775807) x.e1
theorem PE:Rz Tryz.prog 79 2 aj.cell MO:=by
 refine⟨by kernel_rfl,fun h hz=> ?_⟩
 obtain⟨hl,hf⟩:=Rz.elems Tryz.underlying79 (n:=2) (by kernel_rfl) h hz
 obtain⟨a0,s0,c0⟩:=Rz.field (off:=0) DU (hf 0 (by decide))
 obtain⟨a1,s1,c1⟩:=Rz.field (off:=1) DU (hf 1 (by decide))
 exact⟨⟨a0,a1⟩,⟨s0,s1⟩,hl,fun j hj=>match j,hj with|0,_=>c0 0 (by decide)|1,_=>c1 0 (by decide)⟩
def NA (x:aL):Prop:=MO x.feeds∧(fun n:Int=> -9223372036854775808≤n∧n≤9223372036854775807) x.power∧(fun n:Int=> -9223372036854775808≤n∧n≤9223372036854775807) x.paths
theorem OZ:Rz Tryz.prog 98 4 aL.cell NA:=by
 refine⟨by kernel_rfl,fun h hz=> ?_⟩
 obtain⟨hl,hf⟩:=Rz.fields Tryz.underlying98 (n:=4) (by kernel_rfl) h hz
 obtain⟨a0,s0,c0⟩:=Rz.field (off:=0) PE (hf 0 _ rfl)
 obtain⟨a1,s1,c1⟩:=Rz.field (off:=2) DU (hf 1 _ rfl)
 obtain⟨a2,s2,c2⟩:=Rz.field (off:=3) DU (hf 2 _ rfl)
 exact⟨⟨a0,a1,a2⟩,⟨s0,s1,s2⟩,hl,fun j hj=>match j,hj with|0,_=>c0 0 (by decide)|1,_=>c0 1 (by decide)|2,_=>c1 0 (by decide)|3,_=>c2 0 (by decide)⟩
def Ni (l:List aL):Prop:=l.length≤9223372036854775807∧(∀x∈l,NA x)∧l.length*32≤140737488351232
theorem Pz:Rz Tryz.prog 24 1 (Lf 4 aL.cell) Ni:=Rz.slice Tryz.underlying24 (by kernel_rfl) (by decide) (b:=32) (by kernel_rfl) OZ
def Pb (x:au):Prop:=(fun n:Int=> -9223372036854775808≤n∧n≤9223372036854775807) x.buses∧Mv x.sources∧Oa x.links∧Ni x.racks
theorem Py:Rz Tryz.prog 26 4 au.cell Pb:=by
 refine⟨by kernel_rfl,fun h hz=> ?_⟩
 obtain⟨hl,hf⟩:=Rz.fields Tryz.underlying26 (n:=4) (by kernel_rfl) h hz
 obtain⟨a0,s0,c0⟩:=Rz.field (off:=0) DU (hf 0 _ rfl)
 obtain⟨a1,s1,c1⟩:=Rz.field (off:=1) O3 (hf 1 _ rfl)
 obtain⟨a2,s2,c2⟩:=Rz.field (off:=2) O0 (hf 2 _ rfl)
 obtain⟨a3,s3,c3⟩:=Rz.field (off:=3) Pz (hf 3 _ rfl)
 exact⟨⟨a0,a1,a2,a3⟩,⟨s0,s1,s2,s3⟩,hl,fun j hj=>match j,hj with|0,_=>c0 0 (by decide)|1,_=>c1 0 (by decide)|2,_=>c2 0 (by decide)|3,_=>c3 0 (by decide)⟩
theorem Qf:Rz Tryz.prog 4 1 af (fun _:Bool=>True):=(Rd.bool Tryz.underlying4 (by kernel_rfl)).z
def CJ (l:List Bool):Prop:=l.length≤9223372036854775807∧(∀x∈l,(fun _:Bool=>True) x)∧l.length*1≤140737488351232
theorem D5:Rz Tryz.prog 27 1 (Lf 1 af) CJ:=Rz.slice Tryz.underlying27 (by kernel_rfl) (by decide) (b:=1) (by kernel_rfl) Qf
def O5 (x:State):Prop:=CJ x.closed∧CJ x.locked∧CJ x.badLink∧CJ x.on_∧CJ x.badSource∧CJ x.earthed∧CJ x.badBus
theorem Pf:Rz Tryz.prog 29 7 State.cell O5:=by
 refine⟨by kernel_rfl,fun h hz=> ?_⟩
 obtain⟨hl,hf⟩:=Rz.fields Tryz.underlying29 (n:=7) (by kernel_rfl) h hz
 obtain⟨a0,s0,c0⟩:=Rz.field (off:=0) D5 (hf 0 _ rfl)
 obtain⟨a1,s1,c1⟩:=Rz.field (off:=1) D5 (hf 1 _ rfl)
 obtain⟨a2,s2,c2⟩:=Rz.field (off:=2) D5 (hf 2 _ rfl)
 obtain⟨a3,s3,c3⟩:=Rz.field (off:=3) D5 (hf 3 _ rfl)
 obtain⟨a4,s4,c4⟩:=Rz.field (off:=4) D5 (hf 4 _ rfl)
 obtain⟨a5,s5,c5⟩:=Rz.field (off:=5) D5 (hf 5 _ rfl)
 obtain⟨a6,s6,c6⟩:=Rz.field (off:=6) D5 (hf 6 _ rfl)
 exact⟨⟨a0,a1,a2,a3,a4,a5,a6⟩,⟨s0,s1,s2,s3,s4,s5,s6⟩,hl,fun j hj=>match j,hj with|0,_=>c0 0 (by decide)|1,_=>c1 0 (by decide)|2,_=>c2 0 (by decide)|3,_=>c3 0 (by decide)|4,_=>c4 0 (by decide)|5,_=>c5 0 (by decide)|6,_=>c6 0 (by decide)⟩
theorem Px:Rz Tryz.prog 58 1 (aG .i64) (fun n:Int=> -9223372036854775808≤n∧n≤9223372036854775807):=(Rd.int Tryz.underlying58 (by kernel_rfl)).z
def Pd (x:Part):Prop:=(fun n:Int=> -9223372036854775808≤n∧n≤9223372036854775807) x.kind∧(fun n:Int=> -9223372036854775808≤n∧n≤9223372036854775807) x.index
theorem Pq:Rz Tryz.prog 60 2 Part.cell Pd:=by
 refine⟨by kernel_rfl,fun h hz=> ?_⟩
 obtain⟨hl,hf⟩:=Rz.fields Tryz.underlying60 (n:=2) (by kernel_rfl) h hz
 obtain⟨a0,s0,c0⟩:=Rz.field (off:=0) Px (hf 0 _ rfl)
 obtain⟨a1,s1,c1⟩:=Rz.field (off:=1) DU (hf 1 _ rfl)
 exact⟨⟨a0,a1⟩,⟨s0,s1⟩,hl,fun j hj=>match j,hj with|0,_=>c0 0 (by decide)|1,_=>c1 0 (by decide)⟩
end Sg
namespace Go.Proofs.YtolddefbejdanaaGreatDoor
open Sg Go.ChangeShapes Go.WideShapes Go.ChangeAt Go.RowKit
theorem Tryz.own:ownKnob Tryz.prog.godebug=none:=by kernel_rfl
theorem Tryz.laidOut:laidOutB Tryz.prog=true:=by kernel_rfl
theorem Tryz.gl {W:World} (hL:laidMet Tryz.prog Rows.plantFailsRow.laid W):GL (pG W) W:=by
 have h:=Lib.tabIs_of_head (name:= "internal/strconv.uint64pow10") (k:= .u64) (zs:=Lib.pow10Tab) (g:=0) (t:=196) (e:=174) (n:=20) (rest:=[]) (by kernel_rfl) (by kernel_rfl) Tryz.underlying196 Tryz.underlying174 (by kernel_rfl) (by kernel_rfl) (laidMet.tail (laidMet.tail hL))
 unfold Lib.TabIs World.var? at h
 rw [show Tryz.prog.globalNamed "internal/strconv.uint64pow10" =some 0 by kernel_rfl]at h
 intro x hx
 obtain rfl:x=(0,(List.range 20).map fun i=>Value.int .u64 ((10 ^ i:Nat):Int)):=by simpa [LY]using hx
 simp only [Option.bind_some]at h
 cases e:W.heap[0]? with
 |none=>rw [e]at h;cases h
 |some o=>
  rw [e]at h
  refine⟨(Array.getElem?_eq_some_iff.1 e).1, ?_⟩
  cases o with
  |cells cs E fz=>
   simp only [Option.some.injEq]at h
   exact⟨E,fz,by rw [h,Lib.pow10Tab,List.map_map];rfl⟩
  |_=>cases h
set_option maxRecDepth 100000 in
theorem qL (H:Type) (enc:TypeId × Value→H) (W:World) (base:Nat) (args:Array Value) (ds gs:List (DataW H)) (before:List MemPlace)
  (hval: ∀(j:Nat) t v,Tryz.f4.params[j]? =some t→args[j]? =some v→Value.okWide Tryz.prog W .any base t v)
  (hW:DataW.Whole enc Tryz.prog Tryz.f4.params.toList Rows.plantFailsSpec.vars false W args.toList ds gs before)
  (hsz:(DataW.weightsEach Tryz.prog (Tryz.f4.params.toList++Rows.plantFailsSpec.plain.varTypes Tryz.prog) (ds++gs)).all (· ≤reachBytes)=true)
  (hL:laidMet Tryz.prog Rows.plantFailsRow.laid W):
  Calls Tryz.prog 4 args W fun e W'=> ∃v,e= .returned v∧Rows.plantFailsSpec.post enc Tryz.prog Tryz.f4 false true false false W args v W':=by
 have hW':=hW
 obtain⟨p,q,hA0,hV,rfl,hfz,hnd⟩:=hW
 have hA:DataW.TrodAll enc Tryz.prog W 0 (fun _=>true) true Tryz.f4.params.toList args.toList ds p:=hA0
 rw [Tryz.params4]at hA hval
 obtain⟨v0,l0,d0,e0,p0,q0,hv0,hd0,hp0,h0,r0⟩:=trodAll_cons hA
 obtain⟨v1,l1,d1,e1,p1,q1,hv1,hd1,hp1,h1,r1⟩:=trodAll_cons r0
 obtain⟨v2,l2,d2,e2,p2,q2,hv2,hd2,hp2,h2,r2⟩:=trodAll_cons r1
 obtain⟨hvz,hdz,hpz⟩:=trodAll_nil r2
 have hgs:=(trodVars_none hV).1
 have hargs:args= #[v0,v1,v2]:=by
  have:args.toList=[v0,v1,v2]:=by rw [hv0,hv1,hv2,hvz]
  cases args;simp at this;rw [this]
 have hds:ds=[d0,d1,d2]:=by rw [hd0,hd1,hd2,hdz]
 subst hargs
 have hsz1:(DataW.weightsEach Tryz.prog [26,29,60] [d0,d1,d2]).all (fun x=>decide (x≤reachBytes))=true:=by rw [hds,hgs,Tryz.params4]at hsz;exact hsz
 obtain⟨a0,s0,c0⟩:=Rz.agg Py Tryz.underlying26 (hval 0 26 v0 rfl rfl) h0 (fun q hq=>of_decide_eq_true (List.all_eq_true.1 hsz1 q (DataW.weights_mem_each (j:=0) rfl rfl q hq)))
 obtain⟨a1,s1,c1⟩:=Rz.agg Pf Tryz.underlying29 (hval 1 29 v1 rfl rfl) h1 (fun q hq=>of_decide_eq_true (List.all_eq_true.1 hsz1 q (DataW.weights_mem_each (j:=1) rfl rfl q hq)))
 obtain⟨a2,s2,c2⟩:=Rz.agg Pq Tryz.underlying60 (hval 2 60 v2 rfl rfl) h2 (fun q hq=>of_decide_eq_true (List.all_eq_true.1 hsz1 q (DataW.weights_mem_each (j:=2) rfl rfl q hq)))
 have hm:gm a0 a1 a2=some true:=xu a0 a1 a2 ⟨by have:=s1.1.2.2;omega,by have:=s1.2.1.2.2;omega,by have:=s1.2.2.1.2.2;omega,by have:=s1.2.2.2.1.2.2;omega,by have:=s1.2.2.2.2.1.2.2;omega,by have:=s1.2.2.2.2.2.1.2.2;omega,by have:=s1.2.2.2.2.2.2.2.2;omega⟩
 refine(Gn (vs:=[v0,v1,v2]) (pE a0 a1 a2 hm) ⟨c0,c1,c2,trivial⟩ (Tryz.gl hL)).mono fun e W' ⟨he,hb⟩=> ⟨_,he, ?_⟩
 refine Ij (t4:=4) rfl hW' ?_ ?_ ?_ rfl Tryz.underlying4 Tryz.laidOut ?_ hb
 ·rw [hds,hgs];rfl
 ·rw [hds,hgs];rfl
 ·rw [hds,hgs];rfl
 ·intro t ht
  rw [Tryz.params4]at ht
  simp at ht
  rcases ht with rfl|rfl|rfl<;>exact⟨by kernel_rfl,of_decide_eq_true (by kernel_rfl)⟩
set_option maxRecDepth 100000 in
theorem uT (os:Os) (started:os.Started) (H:Type) (enc:TypeId × Value→H):
  ReturnsInHanded {} Tryz.checked os 4 .any (fun w args=>(Rows.plantFailsSpec.pre enc Tryz.prog Tryz.f4 [] false w args∧laidMetH Tryz.prog Rows.plantFailsRow.laid w)∧sizedMet enc Tryz.prog Tryz.f4 (OpenSpec.ofChange Rows.plantFailsSpec) false w args)
   (Rows.plantFailsSpec.post enc Tryz.prog Tryz.f4 false true false false):=by
 refine returnsInHanded_of_change_and (C:=Tryz.checked) (X:=fun w _=>laidMetH Tryz.prog Rows.plantFailsRow.laid w) (fun _ _ _ hh h=>h.of_heap hh) Tryz.own started (by kernel_rfl) Tryz.func4
  (ChangeSpec.witness_shaped (enc:=enc) (C:=Tryz.checked) (os:=os) (X:=fun w _=>laidMetH Tryz.prog Rows.plantFailsRow.laid w) false (World.laidAll Tryz.prog os Rows.plantFailsRow.laid) #[.agg #[.int .i64 0, .slice none 0 0, .slice none 0 0, .slice none 0 0], .agg #[.slice none 0 0, .slice none 0 0, .slice none 0 0, .slice none 0 0, .slice none 0 0, .slice none 0 0, .slice none 0 0], .agg #[.int .i64 0, .int .i64 0]] 16 (World.laidAll_os _ _ _)
   (World.shaped_of_ZipB (by kernel_rfl) (by kernel_rfl)) (by kernel_rfl) (by kernel_rfl) (by kernel_rfl)
   (by rw [MakeChecks.laidMetH_plain _ _ _ (by kernel_rfl)];exact laidMet_laidAll _ (by kernel_rfl) (by kernel_rfl))) ?_
 intro W base args ds gs before hval hW _ hsz hL _
 rw [MakeChecks.laidMetH_plain _ _ _ (by kernel_rfl)]at hL
 exact qL H enc W base args ds gs before hval hW hsz hL
theorem yY:Rows.plantFailsRow.holds Tryz.pinned (OpenSpec.ofChange Rows.plantFailsSpec):=
 OpenClaim.holds_of_wide 4 Tryz.f4 rfl rfl rfl rfl rfl rfl rfl ⟨rfl,rfl,rfl,rfl,rfl⟩ rfl rfl rfl rfl rfl (by kernel_rfl) Tryz.func4 (by kernel_rfl)
  (of_decide_eq_true (by kernel_rfl)) (by unfold Func.isWrapper;first|(rw [if_pos (by decide+kernel)];kernel_rfl)|(rw [if_neg (by decide+kernel)];exact⟨rfl,rfl⟩))
  (fun os started H enc _=>uT os started H enc)
theorem plantFails_holds:Rows.PlantFailsCardSaid:=
 Claim7.holds_tied_plain_at .later [] [.data, .data, .data] true (true, "05afc33f0494dd8b782058d4ca8879c850791e9beb4581b62f228b43c26b5b7c") true yY (fun _ h=>by cases h) (by kernel_rfl) (fun _ h=>by cases h) plantFails_row_tie rfl ⟨rfl,rfl⟩ (by kernel_rfl) rfl
  (fun f fn hf hfn=>by
   obtain rfl:f=4:=Option.some.inj ((show Tryz.prog.funcNamed Rows.plantFailsRow.func=some 4 by kernel_rfl).symm.trans hf)|>.symm
   obtain rfl:fn=Tryz.f4:=(Option.some.inj (Tryz.func4.symm.trans hfn)).symm
   exact⟨by kernel_rfl,fun j t ht=>by
    rw [Tryz.params4]at ht
    have hm:t∈[26,29,60]:=by simpa using Array.mem_of_getElem? ht
    have hall:([26,29,60].all fun u=> !Tryz.prog.wantsStandIn u)=true:=by kernel_rfl
    exact(show Tryz.prog.wantsStandIn t=false by simpa using List.all_eq_true.1 hall t hm)⟩)
  (by kernel_rfl)
end Go.Proofs.YtolddefbejdanaaGreatDoor
