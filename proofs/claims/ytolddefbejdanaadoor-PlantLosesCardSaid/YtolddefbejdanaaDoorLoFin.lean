/- PlantLoses: for every plant, state and two numbers, the law that compares the live buses, the parts and the clashes behind a failure with those before returns true (no conditions). -/
import Derived.Test.YtolddefbejdanaaDoorCards
import Derived.Test.YtolddefbejdanaaDoorTie
import Derived.ProofKit
import Derived.Lay
import Derived.Stop.LaidErr
import Derived.Lib.LaidTab
import Derived.Lib.ItoaNum
import Derived.Test.YtolddefbejdanaaDoorLoLc
import Derived.Test.YtolddefbejdanaaDoorLoLe
import Derived.Test.YtolddefbejdanaaDoorLoW2
set_option linter.all false
namespace Sg
open Go Go.Proofs Go.Proofs.YtolddefbejdanaaDoor Go.ChangeShapes Go.WideShapes Go.RowKit
set_option maxRecDepth 20000
theorem DT:Rd Tryd.prog 3 1 (aH .i64) (fun n:Int=> -9223372036854775808≤n∧n≤9223372036854775807):=Rd.int Tryd.underlying3 (by kernel_rfl)
theorem Qb:Rd Tryd.prog 39 1 (aH .i64) (fun n:Int=> -9223372036854775808≤n∧n≤9223372036854775807):=Rd.int Tryd.underlying39 (by kernel_rfl)
def Nh (x:Source):Prop:=(fun n:Int=> -9223372036854775808≤n∧n≤9223372036854775807) x.bus∧(fun n:Int=> -9223372036854775808≤n∧n≤9223372036854775807) x.kind∧(fun n:Int=> -9223372036854775808≤n∧n≤9223372036854775807) x.power∧(fun n:Int=> -9223372036854775808≤n∧n≤9223372036854775807) x.sync∧(fun n:Int=> -9223372036854775808≤n∧n≤9223372036854775807) x.ohm
theorem Qd:Rd Tryd.prog 41 5 Source.cell Nh:=by
 refine⟨by kernel_rfl,fun h=> ?_⟩
 obtain⟨hl,hf⟩:=Rd.fields Tryd.underlying41 (n:=5) (by kernel_rfl) h
 obtain⟨a0,s0,c0⟩:=Rd.field (off:=0) DT (hf 0 _ rfl)
 obtain⟨a1,s1,c1⟩:=Rd.field (off:=1) Qb (hf 1 _ rfl)
 obtain⟨a2,s2,c2⟩:=Rd.field (off:=2) DT (hf 2 _ rfl)
 obtain⟨a3,s3,c3⟩:=Rd.field (off:=3) DT (hf 3 _ rfl)
 obtain⟨a4,s4,c4⟩:=Rd.field (off:=4) DT (hf 4 _ rfl)
 exact⟨⟨a0,a1,a2,a3,a4⟩,⟨s0,s1,s2,s3,s4⟩,hl,fun j hj=>match j,hj with|0,_=>c0 0 (by decide)|1,_=>c1 0 (by decide)|2,_=>c2 0 (by decide)|3,_=>c3 0 (by decide)|4,_=>c4 0 (by decide)⟩
def Nf (l:List Source):Prop:=l.length≤9223372036854775807∧ ∀x∈l,Nh x
theorem Qc:Rd Tryd.prog 22 1 (MN 5 Source.cell) Nf:=Rd.slice Tryd.underlying22 (by kernel_rfl) (by decide) Qd
theorem PL:Rd Tryd.prog 42 1 (aH .i64) (fun n:Int=> -9223372036854775808≤n∧n≤9223372036854775807):=Rd.int Tryd.underlying42 (by kernel_rfl)
def Ll (x:dR):Prop:=(fun n:Int=> -9223372036854775808≤n∧n≤9223372036854775807) x.amps∧(fun n:Int=> -9223372036854775808≤n∧n≤9223372036854775807) x.millis
theorem M0:Rd Tryd.prog 103 2 dR.cell Ll:=by
 refine⟨by kernel_rfl,fun h=> ?_⟩
 obtain⟨hl,hf⟩:=Rd.fields Tryd.underlying103 (n:=2) (by kernel_rfl) h
 obtain⟨a0,s0,c0⟩:=Rd.field (off:=0) DT (hf 0 _ rfl)
 obtain⟨a1,s1,c1⟩:=Rd.field (off:=1) DT (hf 1 _ rfl)
 exact⟨⟨a0,a1⟩,⟨s0,s1⟩,hl,fun j hj=>match j,hj with|0,_=>c0 0 (by decide)|1,_=>c1 0 (by decide)⟩
def Oo (l:List dR):Prop:=l.length≤9223372036854775807∧ ∀x∈l,Ll x
theorem PW:Rd Tryd.prog 43 1 (MN 2 dR.cell) Oo:=Rd.slice Tryd.underlying43 (by kernel_rfl) (by decide) M0
def ND (x:Link):Prop:=(fun n:Int=> -9223372036854775808≤n∧n≤9223372036854775807) x.a∧(fun n:Int=> -9223372036854775808≤n∧n≤9223372036854775807) x.b∧(fun n:Int=> -9223372036854775808≤n∧n≤9223372036854775807) x.kind∧(fun n:Int=> -9223372036854775808≤n∧n≤9223372036854775807) x.most∧(fun n:Int=> -9223372036854775808≤n∧n≤9223372036854775807) x.ohm∧Oo x.trip
theorem PY:Rd Tryd.prog 45 6 Link.cell ND:=by
 refine⟨by kernel_rfl,fun h=> ?_⟩
 obtain⟨hl,hf⟩:=Rd.fields Tryd.underlying45 (n:=6) (by kernel_rfl) h
 obtain⟨a0,s0,c0⟩:=Rd.field (off:=0) DT (hf 0 _ rfl)
 obtain⟨a1,s1,c1⟩:=Rd.field (off:=1) DT (hf 1 _ rfl)
 obtain⟨a2,s2,c2⟩:=Rd.field (off:=2) PL (hf 2 _ rfl)
 obtain⟨a3,s3,c3⟩:=Rd.field (off:=3) DT (hf 3 _ rfl)
 obtain⟨a4,s4,c4⟩:=Rd.field (off:=4) DT (hf 4 _ rfl)
 obtain⟨a5,s5,c5⟩:=Rd.field (off:=5) PW (hf 5 _ rfl)
 exact⟨⟨a0,a1,a2,a3,a4,a5⟩,⟨s0,s1,s2,s3,s4,s5⟩,hl,fun j hj=>match j,hj with|0,_=>c0 0 (by decide)|1,_=>c1 0 (by decide)|2,_=>c2 0 (by decide)|3,_=>c3 0 (by decide)|4,_=>c4 0 (by decide)|5,_=>c5 0 (by decide)⟩
def Na (l:List Link):Prop:=l.length≤9223372036854775807∧ ∀x∈l,ND x
theorem Qj:Rd Tryd.prog 23 1 (MN 6 Link.cell) Na:=Rd.slice Tryd.underlying23 (by kernel_rfl) (by decide) PY
def MZ (x:ai):Prop:=(fun n:Int=> -9223372036854775808≤n∧n≤9223372036854775807) x.e0∧(fun n:Int=> -9223372036854775808≤n∧n≤9223372036854775807) x.e1
theorem Qe:Rd Tryd.prog 64 2 ai.cell MZ:=by
 refine⟨by kernel_rfl,fun h=> ?_⟩
 obtain⟨hl,hf⟩:=Rd.elems Tryd.underlying64 (n:=2) (by kernel_rfl) h
 obtain⟨a0,s0,c0⟩:=Rd.field (off:=0) DT (hf 0 (by decide))
 obtain⟨a1,s1,c1⟩:=Rd.field (off:=1) DT (hf 1 (by decide))
 exact⟨⟨a0,a1⟩,⟨s0,s1⟩,hl,fun j hj=>match j,hj with|0,_=>c0 0 (by decide)|1,_=>c1 0 (by decide)⟩
def NV (x:aO):Prop:=MZ x.feeds∧(fun n:Int=> -9223372036854775808≤n∧n≤9223372036854775807) x.power∧(fun n:Int=> -9223372036854775808≤n∧n≤9223372036854775807) x.paths
theorem Qh:Rd Tryd.prog 99 4 aO.cell NV:=by
 refine⟨by kernel_rfl,fun h=> ?_⟩
 obtain⟨hl,hf⟩:=Rd.fields Tryd.underlying99 (n:=4) (by kernel_rfl) h
 obtain⟨a0,s0,c0⟩:=Rd.field (off:=0) Qe (hf 0 _ rfl)
 obtain⟨a1,s1,c1⟩:=Rd.field (off:=2) DT (hf 1 _ rfl)
 obtain⟨a2,s2,c2⟩:=Rd.field (off:=3) DT (hf 2 _ rfl)
 exact⟨⟨a0,a1,a2⟩,⟨s0,s1,s2⟩,hl,fun j hj=>match j,hj with|0,_=>c0 0 (by decide)|1,_=>c0 1 (by decide)|2,_=>c1 0 (by decide)|3,_=>c2 0 (by decide)⟩
def OG (l:List aO):Prop:=l.length≤9223372036854775807∧ ∀x∈l,NV x
theorem Qa:Rd Tryd.prog 24 1 (MN 4 aO.cell) OG:=Rd.slice Tryd.underlying24 (by kernel_rfl) (by decide) Qh
def PU (x:au):Prop:=(fun n:Int=> -9223372036854775808≤n∧n≤9223372036854775807) x.buses∧Nf x.sources∧Na x.links∧OG x.racks
theorem P6:Rd Tryd.prog 26 4 au.cell PU:=by
 refine⟨by kernel_rfl,fun h=> ?_⟩
 obtain⟨hl,hf⟩:=Rd.fields Tryd.underlying26 (n:=4) (by kernel_rfl) h
 obtain⟨a0,s0,c0⟩:=Rd.field (off:=0) DT (hf 0 _ rfl)
 obtain⟨a1,s1,c1⟩:=Rd.field (off:=1) Qc (hf 1 _ rfl)
 obtain⟨a2,s2,c2⟩:=Rd.field (off:=2) Qj (hf 2 _ rfl)
 obtain⟨a3,s3,c3⟩:=Rd.field (off:=3) Qa (hf 3 _ rfl)
 exact⟨⟨a0,a1,a2,a3⟩,⟨s0,s1,s2,s3⟩,hl,fun j hj=>match j,hj with|0,_=>c0 0 (by decide)|1,_=>c1 0 (by decide)|2,_=>c2 0 (by decide)|3,_=>c3 0 (by decide)⟩
theorem QK:Rd Tryd.prog 4 1 ah (fun _:Bool=>True):=Rd.bool Tryd.underlying4 (by kernel_rfl)
def DY (l:List Bool):Prop:=l.length≤9223372036854775807∧ ∀x∈l,(fun _:Bool=>True) x
theorem Et:Rd Tryd.prog 27 1 (MN 1 ah) DY:=Rd.slice Tryd.underlying27 (by kernel_rfl) (by decide) QK
def P8 (x:State):Prop:=DY x.closed∧DY x.locked∧DY x.badLink∧DY x.on_∧DY x.badSource∧DY x.earthed∧DY x.badBus
theorem PN:Rd Tryd.prog 29 7 State.cell P8:=by
 refine⟨by kernel_rfl,fun h=> ?_⟩
 obtain⟨hl,hf⟩:=Rd.fields Tryd.underlying29 (n:=7) (by kernel_rfl) h
 obtain⟨a0,s0,c0⟩:=Rd.field (off:=0) Et (hf 0 _ rfl)
 obtain⟨a1,s1,c1⟩:=Rd.field (off:=1) Et (hf 1 _ rfl)
 obtain⟨a2,s2,c2⟩:=Rd.field (off:=2) Et (hf 2 _ rfl)
 obtain⟨a3,s3,c3⟩:=Rd.field (off:=3) Et (hf 3 _ rfl)
 obtain⟨a4,s4,c4⟩:=Rd.field (off:=4) Et (hf 4 _ rfl)
 obtain⟨a5,s5,c5⟩:=Rd.field (off:=5) Et (hf 5 _ rfl)
 obtain⟨a6,s6,c6⟩:=Rd.field (off:=6) Et (hf 6 _ rfl)
 exact⟨⟨a0,a1,a2,a3,a4,a5,a6⟩,⟨s0,s1,s2,s3,s4,s5,s6⟩,hl,fun j hj=>match j,hj with|0,_=>c0 0 (by decide)|1,_=>c1 0 (by decide)|2,_=>c2 0 (by decide)|3,_=>c3 0 (by decide)|4,_=>c4 0 (by decide)|5,_=>c5 0 (by decide)|6,_=>c6 0 (by decide)⟩
end Sg
namespace Go.Proofs.YtolddefbejdanaaDoor
open Sg Go.ChangeShapes Go.WideShapes Go.ChangeAt Go.RowKit
theorem Tryd.own:ownKnob Tryd.prog.godebug=none:=by kernel_rfl
theorem Tryd.laidOut:laidOutB Tryd.prog=true:=by kernel_rfl
theorem Tryd.gl {W:World} (hL:laidMet Tryd.prog Rows.plantLosesRow.laid W):GL (wN W) W:=by
 have h:=Lib.tabIs_of_head (name:= "internal/strconv.uint64pow10") (k:= .u64) (zs:=Lib.pow10Tab) (g:=0) (t:=177) (e:=155) (n:=20) (rest:=[]) (by kernel_rfl) (by kernel_rfl) Tryd.underlying177 Tryd.underlying155 (by kernel_rfl) (by kernel_rfl) (laidMet.tail (laidMet.tail hL))
 unfold Lib.TabIs World.var? at h
 rw [show Tryd.prog.globalNamed "internal/strconv.uint64pow10" =some 0 by kernel_rfl]at h
 intro x hx
 obtain rfl:x=(0,(List.range 20).map fun i=>Value.int .u64 ((10 ^ i:Nat):Int)):=by simpa [MI]using hx
 simp only [Option.bind_some]at h
 cases e:W.heap[0]? with
 |none=>rw [e]at h;cases h
 |some o=>
  rw [e]at h
  refine⟨(Array.getElem?_eq_some_iff.1 e).1, ?_⟩
  cases o with
  |cells cs E fz=>
   simp only [Option.some.injEq]at h
   exact⟨E,fz,by rw [h,Lib.pow10Tab,List.map_map];rfl⟩
  |_=>cases h
set_option maxRecDepth 100000 in
theorem qK (H:Type) (enc:TypeId × Value→H) (W:World) (base:Nat) (args:Array Value) (ds gs:List (DataW H)) (before:List MemPlace)
  (hval: ∀(j:Nat) t v,Tryd.f4.params[j]? =some t→args[j]? =some v→Value.okWide Tryd.prog W .any base t v)
  (hW:DataW.Whole enc Tryd.prog Tryd.f4.params.toList Rows.plantLosesSpec.vars false W args.toList ds gs before)
  (hL:laidMet Tryd.prog Rows.plantLosesRow.laid W):
  Calls Tryd.prog 4 args W fun e W'=> ∃v,e= .returned v∧Rows.plantLosesSpec.post enc Tryd.prog Tryd.f4 false true false false W args v W':=by
 have hW':=hW
 obtain⟨p,q,hA0,hV,rfl,hfz,hnd⟩:=hW
 have hA:DataW.TrodAll enc Tryd.prog W 0 (fun _=>true) true Tryd.f4.params.toList args.toList ds p:=hA0
 rw [Tryd.params4]at hA hval
 obtain⟨v0,l0,d0,e0,p0,q0,hv0,hd0,hp0,h0,r0⟩:=trodAll_cons hA
 obtain⟨v1,l1,d1,e1,p1,q1,hv1,hd1,hp1,h1,r1⟩:=trodAll_cons r0
 obtain⟨v2,l2,d2,e2,p2,q2,hv2,hd2,hp2,h2,r2⟩:=trodAll_cons r1
 obtain⟨v3,l3,d3,e3,p3,q3,hv3,hd3,hp3,h3,r3⟩:=trodAll_cons r2
 obtain⟨hvz,hdz,hpz⟩:=trodAll_nil r3
 have hgs:=(trodVars_none hV).1
 have hargs:args= #[v0,v1,v2,v3]:=by
  have:args.toList=[v0,v1,v2,v3]:=by rw [hv0,hv1,hv2,hv3,hvz]
  cases args;simp at this;rw [this]
 have hds:ds=[d0,d1,d2,d3]:=by rw [hd0,hd1,hd2,hd3,hdz]
 subst hargs
 obtain⟨a0,s0,c0⟩:=Rd.agg P6 Tryd.underlying26 (hval 0 26 v0 rfl rfl) h0
 obtain⟨a1,s1,c1⟩:=Rd.agg PN Tryd.underlying29 (hval 1 29 v1 rfl rfl) h1
 obtain⟨a2,s2,c2⟩:=Rd.one DT (Fh Tryd.underlying3 (hval 2 3 v2 rfl rfl)) h2
 obtain⟨a3,s3,c3⟩:=Rd.one DT (Fh Tryd.underlying3 (hval 3 3 v3 rfl rfl)) h3
 have hm:gH a0 a1 a2 a3=some true:=wO a0 a1 a2 a3 ⟨s0.2.1.1,s0.2.2.1.1,s0.2.2.2.1,fun x hx=>(s0.2.2.1.2 x hx).2.2.2.2.2.1⟩
 refine(F5 (vs:=[v0,v1,v2,v3]) (pz a0 a1 a2 a3 hm) ⟨c0,c1,c2,c3,trivial⟩ (Tryd.gl hL)).mono fun e W' ⟨he,hb⟩=> ⟨_,he, ?_⟩
 refine Jb (t4:=4) rfl hW' ?_ ?_ ?_ rfl Tryd.underlying4 Tryd.laidOut ?_ hb
 ·rw [hds,hgs];rfl
 ·rw [hds,hgs];rfl
 ·rw [hds,hgs];rfl
 ·intro t ht
  rw [Tryd.params4]at ht
  simp at ht
  rcases ht with rfl|rfl|rfl|rfl<;>exact⟨by kernel_rfl,of_decide_eq_true (by kernel_rfl)⟩
set_option maxRecDepth 100000 in
theorem uW (os:Os) (started:os.Started) (H:Type) (enc:TypeId × Value→H):
  ReturnsInHanded {} Tryd.checked os 4 .any (fun w args=>(Rows.plantLosesSpec.pre enc Tryd.prog Tryd.f4 [] false w args∧laidMetH Tryd.prog Rows.plantLosesRow.laid w)∧sizedMet enc Tryd.prog Tryd.f4 (OpenSpec.ofChange Rows.plantLosesSpec) false w args)
   (Rows.plantLosesSpec.post enc Tryd.prog Tryd.f4 false true false false):=by
 refine returnsInHanded_of_change_and (C:=Tryd.checked) (X:=fun w _=>laidMetH Tryd.prog Rows.plantLosesRow.laid w) (fun _ _ _ hh h=>h.of_heap hh) Tryd.own started (by kernel_rfl) Tryd.func4
  (ChangeSpec.witness_shaped (enc:=enc) (C:=Tryd.checked) (os:=os) (X:=fun w _=>laidMetH Tryd.prog Rows.plantLosesRow.laid w) false (World.laidAll Tryd.prog os Rows.plantLosesRow.laid) #[.agg #[.int .i64 0, .slice none 0 0, .slice none 0 0, .slice none 0 0], .agg #[.slice none 0 0, .slice none 0 0, .slice none 0 0, .slice none 0 0, .slice none 0 0, .slice none 0 0, .slice none 0 0], .int .i64 0, .int .i64 0] 16 (World.laidAll_os _ _ _)
   (World.shaped_of_ZipB (by kernel_rfl) (by kernel_rfl)) (by kernel_rfl) (by kernel_rfl) (by kernel_rfl)
   (by rw [MakeChecks.laidMetH_plain _ _ _ (by kernel_rfl)];exact laidMet_laidAll _ (by kernel_rfl) (by kernel_rfl))) ?_
 intro W base args ds gs before hval hW _ _ hL _
 rw [MakeChecks.laidMetH_plain _ _ _ (by kernel_rfl)]at hL
 exact qK H enc W base args ds gs before hval hW hL
theorem xV:Rows.plantLosesRow.holds Tryd.pinned (OpenSpec.ofChange Rows.plantLosesSpec):=
 OpenClaim.holds_of_wide 4 Tryd.f4 rfl rfl rfl rfl rfl rfl rfl ⟨rfl,rfl,rfl,rfl,rfl⟩ rfl rfl rfl rfl rfl (by kernel_rfl) Tryd.func4 (by kernel_rfl)
  (of_decide_eq_true (by kernel_rfl)) (by unfold Func.isWrapper;first|(rw [if_pos (by decide+kernel)];kernel_rfl)|(rw [if_neg (by decide+kernel)];exact⟨rfl,rfl⟩))
  (fun os started H enc _=>uW os started H enc)
theorem plantLoses_holds:Rows.PlantLosesCardSaid:=
 Claim7.holds_tied_plain_at .later [] [.data, .data, .data] true (true, "2f482b6335b7a1f8d6c615d49a74f58b0e36b14fb091c8c0715e4e7f9e312f7e") true xV (fun _ h=>by cases h) (by kernel_rfl) (fun _ h=>by cases h) plantLoses_row_tie rfl ⟨rfl,rfl⟩ (by kernel_rfl) rfl
  (fun f fn hf hfn=>by
   obtain rfl:f=4:=Option.some.inj ((show Tryd.prog.funcNamed Rows.plantLosesRow.func=some 4 by kernel_rfl).symm.trans hf)|>.symm
   obtain rfl:fn=Tryd.f4:=(Option.some.inj (Tryd.func4.symm.trans hfn)).symm
   exact⟨by kernel_rfl,fun j t ht=>by
    rw [Tryd.params4]at ht
    have hm:t∈[26,29,3,3]:=by simpa using Array.mem_of_getElem? ht
    have hall:([26,29,3,3].all fun u=> !Tryd.prog.wantsStandIn u)=true:=by kernel_rfl
    exact(show Tryd.prog.wantsStandIn t=false by simpa using List.all_eq_true.1 hall t hm)⟩)
  (by kernel_rfl)
end Go.Proofs.YtolddefbejdanaaDoor
