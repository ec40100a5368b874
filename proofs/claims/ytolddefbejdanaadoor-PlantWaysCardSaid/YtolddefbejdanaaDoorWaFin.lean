/- PlantWays: for every plant and state, the law that compares the live buses and the islands with the ways over conducting links returns true (no conditions). -/
import Derived.Test.YtolddefbejdanaaDoorCards
import Derived.Test.YtolddefbejdanaaDoorTie
import Derived.ProofKit
import Derived.Lay
import Derived.Stop.LaidErr
import Derived.Lib.LaidTab
import Derived.Lib.ItoaNum
import Derived.Test.YtolddefbejdanaaDoorWaLc
import Derived.Test.YtolddefbejdanaaDoorWaLe
import Derived.Test.YtolddefbejdanaaDoorWaW1
set_option linter.all false
namespace Sg
open Go Go.Proofs Go.Proofs.YtolddefbejdanaaDoor Go.ChangeShapes Go.WideShapes Go.RowKit
set_option maxRecDepth 20000
theorem D9:Rd Tryd.prog 3 1 (aD .i64) (fun n:Int=> -9223372036854775808≤n∧n≤9223372036854775807):=Rd.int Tryd.underlying3 (by kernel_rfl)
theorem QD:Rd Tryd.prog 39 1 (aD .i64) (fun n:Int=> -9223372036854775808≤n∧n≤9223372036854775807):=Rd.int Tryd.underlying39 (by kernel_rfl)
def NG (x:Source):Prop:=(fun n:Int=> -9223372036854775808≤n∧n≤9223372036854775807) x.bus∧(fun n:Int=> -9223372036854775808≤n∧n≤9223372036854775807) x.kind∧(fun n:Int=> -9223372036854775808≤n∧n≤9223372036854775807) x.power∧(fun n:Int=> -9223372036854775808≤n∧n≤9223372036854775807) x.sync∧(fun n:Int=> -9223372036854775808≤n∧n≤9223372036854775807) x.ohm
theorem Qu:Rd Tryd.prog 41 5 Source.cell NG:=by
 refine⟨by kernel_rfl,fun h=> ?_⟩
 obtain⟨hl,hf⟩:=Rd.fields Tryd.underlying41 (n:=5) (by kernel_rfl) h
 obtain⟨a0,s0,c0⟩:=Rd.field (off:=0) D9 (hf 0 _ rfl)
 obtain⟨a1,s1,c1⟩:=Rd.field (off:=1) QD (hf 1 _ rfl)
 obtain⟨a2,s2,c2⟩:=Rd.field (off:=2) D9 (hf 2 _ rfl)
 obtain⟨a3,s3,c3⟩:=Rd.field (off:=3) D9 (hf 3 _ rfl)
 obtain⟨a4,s4,c4⟩:=Rd.field (off:=4) D9 (hf 4 _ rfl)
 exact⟨⟨a0,a1,a2,a3,a4⟩,⟨s0,s1,s2,s3,s4⟩,hl,fun j hj=>match j,hj with|0,_=>c0 0 (by decide)|1,_=>c1 0 (by decide)|2,_=>c2 0 (by decide)|3,_=>c3 0 (by decide)|4,_=>c4 0 (by decide)⟩
def OO (l:List Source):Prop:=l.length≤9223372036854775807∧ ∀x∈l,NG x
theorem QN:Rd Tryd.prog 22 1 (Ng 5 Source.cell) OO:=Rd.slice Tryd.underlying22 (by kernel_rfl) (by decide) Qu
theorem QH:Rd Tryd.prog 42 1 (aD .i64) (fun n:Int=> -9223372036854775808≤n∧n≤9223372036854775807):=Rd.int Tryd.underlying42 (by kernel_rfl)
def LA (x:dR):Prop:=(fun n:Int=> -9223372036854775808≤n∧n≤9223372036854775807) x.amps∧(fun n:Int=> -9223372036854775808≤n∧n≤9223372036854775807) x.millis
theorem OU:Rd Tryd.prog 103 2 dR.cell LA:=by
 refine⟨by kernel_rfl,fun h=> ?_⟩
 obtain⟨hl,hf⟩:=Rd.fields Tryd.underlying103 (n:=2) (by kernel_rfl) h
 obtain⟨a0,s0,c0⟩:=Rd.field (off:=0) D9 (hf 0 _ rfl)
 obtain⟨a1,s1,c1⟩:=Rd.field (off:=1) D9 (hf 1 _ rfl)
 exact⟨⟨a0,a1⟩,⟨s0,s1⟩,hl,fun j hj=>match j,hj with|0,_=>c0 0 (by decide)|1,_=>c1 0 (by decide)⟩
def NZ (l:List dR):Prop:=l.length≤9223372036854775807∧ ∀x∈l,LA x
theorem QU:Rd Tryd.prog 43 1 (Ng 2 dR.cell) NZ:=Rd.slice Tryd.underlying43 (by kernel_rfl) (by decide) OU
def NR (x:Link):Prop:=(fun n:Int=> -9223372036854775808≤n∧n≤9223372036854775807) x.a∧(fun n:Int=> -9223372036854775808≤n∧n≤9223372036854775807) x.b∧(fun n:Int=> -9223372036854775808≤n∧n≤9223372036854775807) x.kind∧(fun n:Int=> -9223372036854775808≤n∧n≤9223372036854775807) x.most∧(fun n:Int=> -9223372036854775808≤n∧n≤9223372036854775807) x.ohm∧NZ x.trip
theorem QO:Rd Tryd.prog 45 6 Link.cell NR:=by
 refine⟨by kernel_rfl,fun h=> ?_⟩
 obtain⟨hl,hf⟩:=Rd.fields Tryd.underlying45 (n:=6) (by kernel_rfl) h
 obtain⟨a0,s0,c0⟩:=Rd.field (off:=0) D9 (hf 0 _ rfl)
 obtain⟨a1,s1,c1⟩:=Rd.field (off:=1) D9 (hf 1 _ rfl)
 obtain⟨a2,s2,c2⟩:=Rd.field (off:=2) QH (hf 2 _ rfl)
 obtain⟨a3,s3,c3⟩:=Rd.field (off:=3) D9 (hf 3 _ rfl)
 obtain⟨a4,s4,c4⟩:=Rd.field (off:=4) D9 (hf 4 _ rfl)
 obtain⟨a5,s5,c5⟩:=Rd.field (off:=5) QU (hf 5 _ rfl)
 exact⟨⟨a0,a1,a2,a3,a4,a5⟩,⟨s0,s1,s2,s3,s4,s5⟩,hl,fun j hj=>match j,hj with|0,_=>c0 0 (by decide)|1,_=>c1 0 (by decide)|2,_=>c2 0 (by decide)|3,_=>c3 0 (by decide)|4,_=>c4 0 (by decide)|5,_=>c5 0 (by decide)⟩
def Pd (l:List Link):Prop:=l.length≤9223372036854775807∧ ∀x∈l,NR x
theorem Qv:Rd Tryd.prog 23 1 (Ng 6 Link.cell) Pd:=Rd.slice Tryd.underlying23 (by kernel_rfl) (by decide) QO
def OP (x:au):Prop:=(fun n:Int=> -9223372036854775808≤n∧n≤9223372036854775807) x.e0∧(fun n:Int=> -9223372036854775808≤n∧n≤9223372036854775807) x.e1
theorem QE:Rd Tryd.prog 64 2 au.cell OP:=by
 refine⟨by kernel_rfl,fun h=> ?_⟩
 obtain⟨hl,hf⟩:=Rd.elems Tryd.underlying64 (n:=2) (by kernel_rfl) h
 obtain⟨a0,s0,c0⟩:=Rd.field (off:=0) D9 (hf 0 (by decide))
 obtain⟨a1,s1,c1⟩:=Rd.field (off:=1) D9 (hf 1 (by decide))
 exact⟨⟨a0,a1⟩,⟨s0,s1⟩,hl,fun j hj=>match j,hj with|0,_=>c0 0 (by decide)|1,_=>c1 0 (by decide)⟩
def Oj (x:aO):Prop:=OP x.feeds∧(fun n:Int=> -9223372036854775808≤n∧n≤9223372036854775807) x.power∧(fun n:Int=> -9223372036854775808≤n∧n≤9223372036854775807) x.paths
theorem QJ:Rd Tryd.prog 99 4 aO.cell Oj:=by
 refine⟨by kernel_rfl,fun h=> ?_⟩
 obtain⟨hl,hf⟩:=Rd.fields Tryd.underlying99 (n:=4) (by kernel_rfl) h
 obtain⟨a0,s0,c0⟩:=Rd.field (off:=0) QE (hf 0 _ rfl)
 obtain⟨a1,s1,c1⟩:=Rd.field (off:=2) D9 (hf 1 _ rfl)
 obtain⟨a2,s2,c2⟩:=Rd.field (off:=3) D9 (hf 2 _ rfl)
 exact⟨⟨a0,a1,a2⟩,⟨s0,s1,s2⟩,hl,fun j hj=>match j,hj with|0,_=>c0 0 (by decide)|1,_=>c0 1 (by decide)|2,_=>c1 0 (by decide)|3,_=>c2 0 (by decide)⟩
def Ou (l:List aO):Prop:=l.length≤9223372036854775807∧ ∀x∈l,Oj x
theorem QA:Rd Tryd.prog 24 1 (Ng 4 aO.cell) Ou:=Rd.slice Tryd.underlying24 (by kernel_rfl) (by decide) QJ
def Qx (x:aj):Prop:=(fun n:Int=> -9223372036854775808≤n∧n≤9223372036854775807) x.buses∧OO x.sources∧Pd x.links∧Ou x.racks
theorem QR:Rd Tryd.prog 26 4 aj.cell Qx:=by
 refine⟨by kernel_rfl,fun h=> ?_⟩
 obtain⟨hl,hf⟩:=Rd.fields Tryd.underlying26 (n:=4) (by kernel_rfl) h
 obtain⟨a0,s0,c0⟩:=Rd.field (off:=0) D9 (hf 0 _ rfl)
 obtain⟨a1,s1,c1⟩:=Rd.field (off:=1) QN (hf 1 _ rfl)
 obtain⟨a2,s2,c2⟩:=Rd.field (off:=2) Qv (hf 2 _ rfl)
 obtain⟨a3,s3,c3⟩:=Rd.field (off:=3) QA (hf 3 _ rfl)
 exact⟨⟨a0,a1,a2,a3⟩,⟨s0,s1,s2,s3⟩,hl,fun j hj=>match j,hj with|0,_=>c0 0 (by decide)|1,_=>c1 0 (by decide)|2,_=>c2 0 (by decide)|3,_=>c3 0 (by decide)⟩
theorem Rj:Rd Tryd.prog 4 1 ah (fun _:Bool=>True):=Rd.bool Tryd.underlying4 (by kernel_rfl)
def BV (l:List Bool):Prop:=l.length≤9223372036854775807∧ ∀x∈l,(fun _:Bool=>True) x
theorem Ec:Rd Tryd.prog 27 1 (Ng 1 ah) BV:=Rd.slice Tryd.underlying27 (by kernel_rfl) (by decide) Rj
def Qn (x:State):Prop:=BV x.closed∧BV x.locked∧BV x.badLink∧BV x.on_∧BV x.badSource∧BV x.earthed∧BV x.badBus
theorem QC:Rd Tryd.prog 29 7 State.cell Qn:=by
 refine⟨by kernel_rfl,fun h=> ?_⟩
 obtain⟨hl,hf⟩:=Rd.fields Tryd.underlying29 (n:=7) (by kernel_rfl) h
 obtain⟨a0,s0,c0⟩:=Rd.field (off:=0) Ec (hf 0 _ rfl)
 obtain⟨a1,s1,c1⟩:=Rd.field (off:=1) Ec (hf 1 _ rfl)
 obtain⟨a2,s2,c2⟩:=Rd.field (off:=2) Ec (hf 2 _ rfl)
 obtain⟨a3,s3,c3⟩:=Rd.field (off:=3) Ec (hf 3 _ rfl)
 obtain⟨a4,s4,c4⟩:=Rd.field (off:=4) Ec (hf 4 _ rfl)
 obtain⟨a5,s5,c5⟩:=Rd.field (off:=5) Ec (hf 5 _ rfl)
 obtain⟨a6,s6,c6⟩:=Rd.field (off:=6) Ec (hf 6 _ rfl)
 exact⟨⟨a0,a1,a2,a3,a4,a5,a6⟩,⟨s0,s1,s2,s3,s4,s5,s6⟩,hl,fun j hj=>match j,hj with|0,_=>c0 0 (by decide)|1,_=>c1 0 (by decide)|2,_=>c2 0 (by decide)|3,_=>c3 0 (by decide)|4,_=>c4 0 (by decide)|5,_=>c5 0 (by decide)|6,_=>c6 0 (by decide)⟩
end Sg
namespace Go.Proofs.YtolddefbejdanaaDoor
open Sg Go.ChangeShapes Go.WideShapes Go.ChangeAt Go.RowKit
theorem Tryd.own:ownKnob Tryd.prog.godebug=none:=by kernel_rfl
theorem Tryd.laidOut:laidOutB Tryd.prog=true:=by kernel_rfl
theorem Tryd.gl {W:World} (hL:laidMet Tryd.prog Rows.plantWaysRow.laid W):GL (wS W) W:=by
 have h:=Lib.tabIs_of_head (name:= "internal/strconv.uint64pow10") (k:= .u64) (zs:=Lib.pow10Tab) (g:=0) (t:=177) (e:=155) (n:=20) (rest:=[]) (by kernel_rfl) (by kernel_rfl) Tryd.underlying177 Tryd.underlying155 (by kernel_rfl) (by kernel_rfl) (laidMet.tail (laidMet.tail hL))
 unfold Lib.TabIs World.var? at h
 rw [show Tryd.prog.globalNamed "internal/strconv.uint64pow10" =some 0 by kernel_rfl]at h
 intro x hx
 obtain rfl:x=(0,(List.range 20).map fun i=>Value.int .u64 ((10 ^ i:Nat):Int)):=by simpa [L9]using hx
 simp only [Option.bind_some]at h
 cases e:W.heap[0]? with
 |none=>rw [e]at h;cases h
 |some o=>
  rw [e]at h
  refine⟨(Array.getElem?_eq_some_iff.1 e).1, ?_⟩
  cases o with
  |cells cs E fz=>
   simp only [Option.some.injEq]at h
   exact⟨E,fz,by rw [h,Lib.pow10Tab,List.map_map];rfl⟩
  |_=>cases h
set_option maxRecDepth 100000 in
theorem sF (H:Type) (enc:TypeId × Value→H) (W:World) (base:Nat) (args:Array Value) (ds gs:List (DataW H)) (before:List MemPlace)
  (hval: ∀(j:Nat) t v,Tryd.f3.params[j]? =some t→args[j]? =some v→Value.okWide Tryd.prog W .any base t v)
  (hW:DataW.Whole enc Tryd.prog Tryd.f3.params.toList Rows.plantWaysSpec.vars false W args.toList ds gs before)
  (hL:laidMet Tryd.prog Rows.plantWaysRow.laid W):
  Calls Tryd.prog 3 args W fun e W'=> ∃v,e= .returned v∧Rows.plantWaysSpec.post enc Tryd.prog Tryd.f3 false true false false W args v W':=by
 have hW':=hW
 obtain⟨p,q,hA0,hV,rfl,hfz,hnd⟩:=hW
 have hA:DataW.TrodAll enc Tryd.prog W 0 (fun _=>true) true Tryd.f3.params.toList args.toList ds p:=hA0
 rw [Tryd.params3]at hA hval
 obtain⟨v0,l0,d0,e0,p0,q0,hv0,hd0,hp0,h0,r0⟩:=trodAll_cons hA
 obtain⟨v1,l1,d1,e1,p1,q1,hv1,hd1,hp1,h1,r1⟩:=trodAll_cons r0
 obtain⟨hvz,hdz,hpz⟩:=trodAll_nil r1
 have hgs:=(trodVars_none hV).1
 have hargs:args= #[v0,v1]:=by
  have:args.toList=[v0,v1]:=by rw [hv0,hv1,hvz]
  cases args;simp at this;rw [this]
 have hds:ds=[d0,d1]:=by rw [hd0,hd1,hdz]
 subst hargs
 obtain⟨a0,s0,c0⟩:=Rd.agg QR Tryd.underlying26 (hval 0 26 v0 rfl rfl) h0
 obtain⟨a1,s1,c1⟩:=Rd.agg QC Tryd.underlying29 (hval 1 29 v1 rfl rfl) h1
 have hm:gU a0 a1=some true:=zu a0 a1 ⟨s0.2.1.1,s0.2.2.1.1,s0.2.2.2.1,fun x hx=>(s0.2.2.1.2 x hx).2.2.2.2.2.1⟩
 refine(GX (vs:=[v0,v1]) (pG a0 a1 hm) ⟨c0,c1,trivial⟩ (Tryd.gl hL)).mono fun e W' ⟨he,hb⟩=> ⟨_,he, ?_⟩
 refine Ju (t4:=4) rfl hW' ?_ ?_ ?_ rfl Tryd.underlying4 Tryd.laidOut ?_ hb
 ·rw [hds,hgs];rfl
 ·rw [hds,hgs];rfl
 ·rw [hds,hgs];rfl
 ·intro t ht
  rw [Tryd.params3]at ht
  simp at ht
  rcases ht with rfl|rfl<;>exact⟨by kernel_rfl,of_decide_eq_true (by kernel_rfl)⟩
set_option maxRecDepth 100000 in
theorem vE (os:Os) (started:os.Started) (H:Type) (enc:TypeId × Value→H):
  ReturnsInHanded {} Tryd.checked os 3 .any (fun w args=>(Rows.plantWaysSpec.pre enc Tryd.prog Tryd.f3 [] false w args∧laidMetH Tryd.prog Rows.plantWaysRow.laid w)∧sizedMet enc Tryd.prog Tryd.f3 (OpenSpec.ofChange Rows.plantWaysSpec) false w args)
   (Rows.plantWaysSpec.post enc Tryd.prog Tryd.f3 false true false false):=by
 refine returnsInHanded_of_change_and (C:=Tryd.checked) (X:=fun w _=>laidMetH Tryd.prog Rows.plantWaysRow.laid w) (fun _ _ _ hh h=>h.of_heap hh) Tryd.own started (by kernel_rfl) Tryd.func3
  (ChangeSpec.witness_shaped (enc:=enc) (C:=Tryd.checked) (os:=os) (X:=fun w _=>laidMetH Tryd.prog Rows.plantWaysRow.laid w) false (World.laidAll Tryd.prog os Rows.plantWaysRow.laid) #[.agg #[.int .i64 0, .slice none 0 0, .slice none 0 0, .slice none 0 0], .agg #[.slice none 0 0, .slice none 0 0, .slice none 0 0, .slice none 0 0, .slice none 0 0, .slice none 0 0, .slice none 0 0]] 16 (World.laidAll_os _ _ _)
   (World.shaped_of_ZipB (by kernel_rfl) (by kernel_rfl)) (by kernel_rfl) (by kernel_rfl) (by kernel_rfl)
   (by rw [MakeChecks.laidMetH_plain _ _ _ (by kernel_rfl)];exact laidMet_laidAll _ (by kernel_rfl) (by kernel_rfl))) ?_
 intro W base args ds gs before hval hW _ _ hL _
 rw [MakeChecks.laidMetH_plain _ _ _ (by kernel_rfl)]at hL
 exact sF H enc W base args ds gs before hval hW hL
theorem zG:Rows.plantWaysRow.holds Tryd.pinned (OpenSpec.ofChange Rows.plantWaysSpec):=
 OpenClaim.holds_of_wide 3 Tryd.f3 rfl rfl rfl rfl rfl rfl rfl ⟨rfl,rfl,rfl,rfl,rfl⟩ rfl rfl rfl rfl rfl (by kernel_rfl) Tryd.func3 (by kernel_rfl)
  (of_decide_eq_true (by kernel_rfl)) (by unfold Func.isWrapper;first|(rw [if_pos (by decide+kernel)];kernel_rfl)|(rw [if_neg (by decide+kernel)];exact⟨rfl,rfl⟩))
  (fun os started H enc _=>vE os started H enc)
theorem plantWays_holds:Rows.PlantWaysCardSaid:=
 Claim7.holds_tied_plain_at .later [] [.data, .data, .data] true (true, "2f482b6335b7a1f8d6c615d49a74f58b0e36b14fb091c8c0715e4e7f9e312f7e") true zG (fun _ h=>by cases h) (by kernel_rfl) (fun _ h=>by cases h) plantWays_row_tie rfl ⟨rfl,rfl⟩ (by kernel_rfl) rfl
  (fun f fn hf hfn=>by
   obtain rfl:f=3:=Option.some.inj ((show Tryd.prog.funcNamed Rows.plantWaysRow.func=some 3 by kernel_rfl).symm.trans hf)|>.symm
   obtain rfl:fn=Tryd.f3:=(Option.some.inj (Tryd.func3.symm.trans hfn)).symm
   exact⟨by kernel_rfl,fun j t ht=>by
    rw [Tryd.params3]at ht
    have hm:t∈[26,29]:=by simpa using Array.mem_of_getElem? ht
    have hall:([26,29].all fun u=> !Tryd.prog.wantsStandIn u)=true:=by kernel_rfl
    exact(show Tryd.prog.wantsStandIn t=false by simpa using List.all_eq_true.1 hall t hm)⟩)
  (by kernel_rfl)
end Go.Proofs.YtolddefbejdanaaDoor
