/- PathsSettles: for every plant, state, list of transfers and list of parts, the law that compares the settling, the state behind it and the dark racks with the reference returns true (no conditions). -/
import Derived.Test.YtklofnlffikpgaaGreatRows
import Derived.ProofKit
import Derived.Test.YtklofnlffikpgaaGreatSeLg
import Derived.Test.YtklofnlffikpgaaGreatSeW3
set_option linter.all false
namespace Sg
open Go Go.Proofs Go.Proofs.YtklofnlffikpgaaGreat Go.ChangeShapes Go.WideShapes Go.RowKit
set_option maxRecDepth 20000
theorem Ig:Rz Tryz.prog 3 1 (aF .i64) (fun n:Int=> -9223372036854775808≤n∧n≤9223372036854775807):=(Rd.int Tryz.underlying3 (by kernel_rfl)).z
theorem Xw:Rz Tryz.prog 123 1 (aF .i64) (fun n:Int=> -9223372036854775808≤n∧n≤9223372036854775807):=(Rd.int Tryz.underlying123 (by kernel_rfl)).z
def Ux (x:Source):Prop:=(fun n:Int=> -9223372036854775808≤n∧n≤9223372036854775807) x.bus∧(fun n:Int=> -9223372036854775808≤n∧n≤9223372036854775807) x.kind∧(fun n:Int=> -9223372036854775808≤n∧n≤9223372036854775807) x.power∧(fun n:Int=> -9223372036854775808≤n∧n≤9223372036854775807) x.sync∧(fun n:Int=> -9223372036854775808≤n∧n≤9223372036854775807) x.ohm
theorem Xy:Rz Tryz.prog 125 5 Source.cell Ux:=by
 refine⟨by kernel_rfl,fun h hz=> ?_⟩
 obtain⟨hl,hf⟩:=Rz.fields Tryz.underlying125 (n:=5) (by kernel_rfl) h hz
 obtain⟨a0,s0,c0⟩:=Rz.field (off:=0) Ig (hf 0 _ rfl)
 obtain⟨a1,s1,c1⟩:=Rz.field (off:=1) Xw (hf 1 _ rfl)
 obtain⟨a2,s2,c2⟩:=Rz.field (off:=2) Ig (hf 2 _ rfl)
 obtain⟨a3,s3,c3⟩:=Rz.field (off:=3) Ig (hf 3 _ rfl)
 obtain⟨a4,s4,c4⟩:=Rz.field (off:=4) Ig (hf 4 _ rfl)
 exact⟨⟨a0,a1,a2,a3,a4⟩,⟨s0,s1,s2,s3,s4⟩,hl,fun j hj=>match j,hj with|0,_=>c0 0 (by decide)|1,_=>c1 0 (by decide)|2,_=>c2 0 (by decide)|3,_=>c3 0 (by decide)|4,_=>c4 0 (by decide)⟩
def WA (l:List Source):Prop:=l.length≤9223372036854775807∧(∀x∈l,Ux x)∧l.length*40≤140737488351232
theorem ZL:Rz Tryz.prog 22 1 (BS 5 Source.cell) WA:=Rz.slice Tryz.underlying22 (by kernel_rfl) (by decide) (b:=40) (by kernel_rfl) Xy
theorem X3:Rz Tryz.prog 110 1 (aF .i64) (fun n:Int=> -9223372036854775808≤n∧n≤9223372036854775807):=(Rd.int Tryz.underlying110 (by kernel_rfl)).z
def Uv (x:tY):Prop:=(fun n:Int=> -9223372036854775808≤n∧n≤9223372036854775807) x.amps∧(fun n:Int=> -9223372036854775808≤n∧n≤9223372036854775807) x.millis
theorem Wm:Rz Tryz.prog 211 2 tY.cell Uv:=by
 refine⟨by kernel_rfl,fun h hz=> ?_⟩
 obtain⟨hl,hf⟩:=Rz.fields Tryz.underlying211 (n:=2) (by kernel_rfl) h hz
 obtain⟨a0,s0,c0⟩:=Rz.field (off:=0) Ig (hf 0 _ rfl)
 obtain⟨a1,s1,c1⟩:=Rz.field (off:=1) Ig (hf 1 _ rfl)
 exact⟨⟨a0,a1⟩,⟨s0,s1⟩,hl,fun j hj=>match j,hj with|0,_=>c0 0 (by decide)|1,_=>c1 0 (by decide)⟩
def Us (l:List tY):Prop:=l.length≤9223372036854775807∧(∀x∈l,Uv x)∧l.length*16≤140737488351232
theorem Wp:Rz Tryz.prog 111 1 (BS 2 tY.cell) Us:=Rz.slice Tryz.underlying111 (by kernel_rfl) (by decide) (b:=16) (by kernel_rfl) Wm
def Un (x:Link):Prop:=(fun n:Int=> -9223372036854775808≤n∧n≤9223372036854775807) x.a∧(fun n:Int=> -9223372036854775808≤n∧n≤9223372036854775807) x.b∧(fun n:Int=> -9223372036854775808≤n∧n≤9223372036854775807) x.kind∧(fun n:Int=> -9223372036854775808≤n∧n≤9223372036854775807) x.most∧(fun n:Int=> -9223372036854775808≤n∧n≤9223372036854775807) x.ohm∧Us x.trip
theorem Xf:Rz Tryz.prog 113 6 Link.cell Un:=by
 refine⟨by kernel_rfl,fun h hz=> ?_⟩
 obtain⟨hl,hf⟩:=Rz.fields Tryz.underlying113 (n:=6) (by kernel_rfl) h hz
 obtain⟨a0,s0,c0⟩:=Rz.field (off:=0) Ig (hf 0 _ rfl)
 obtain⟨a1,s1,c1⟩:=Rz.field (off:=1) Ig (hf 1 _ rfl)
 obtain⟨a2,s2,c2⟩:=Rz.field (off:=2) X3 (hf 2 _ rfl)
 obtain⟨a3,s3,c3⟩:=Rz.field (off:=3) Ig (hf 3 _ rfl)
 obtain⟨a4,s4,c4⟩:=Rz.field (off:=4) Ig (hf 4 _ rfl)
 obtain⟨a5,s5,c5⟩:=Rz.field (off:=5) Wp (hf 5 _ rfl)
 exact⟨⟨a0,a1,a2,a3,a4,a5⟩,⟨s0,s1,s2,s3,s4,s5⟩,hl,fun j hj=>match j,hj with|0,_=>c0 0 (by decide)|1,_=>c1 0 (by decide)|2,_=>c2 0 (by decide)|3,_=>c3 0 (by decide)|4,_=>c4 0 (by decide)|5,_=>c5 0 (by decide)⟩
def WG (l:List Link):Prop:=l.length≤9223372036854775807∧(∀x∈l,Un x)∧l.length*64≤140737488351232
theorem Y0:Rz Tryz.prog 23 1 (BS 6 Link.cell) WG:=Rz.slice Tryz.underlying23 (by kernel_rfl) (by decide) (b:=64) (by kernel_rfl) Xf
def Xe (x:ah):Prop:=(fun n:Int=> -9223372036854775808≤n∧n≤9223372036854775807) x.e0∧(fun n:Int=> -9223372036854775808≤n∧n≤9223372036854775807) x.e1
theorem Zt:Rz Tryz.prog 44 2 ah.cell Xe:=by
 refine⟨by kernel_rfl,fun h hz=> ?_⟩
 obtain⟨hl,hf⟩:=Rz.elems Tryz.underlying44 (n:=2) (by kernel_rfl) h hz
 obtain⟨a0,s0,c0⟩:=Rz.field (off:=0) Ig (hf 0 (by decide))
 obtain⟨a1,s1,c1⟩:=Rz.field (off:=1) Ig (hf 1 (by decide))
 exact⟨⟨a0,a1⟩,⟨s0,s1⟩,hl,fun j hj=>match j,hj with|0,_=>c0 0 (by decide)|1,_=>c1 0 (by decide)⟩
def Uu (x:aP):Prop:=Xe x.feeds∧(fun n:Int=> -9223372036854775808≤n∧n≤9223372036854775807) x.power∧(fun n:Int=> -9223372036854775808≤n∧n≤9223372036854775807) x.paths
theorem X4:Rz Tryz.prog 100 4 aP.cell Uu:=by
 refine⟨by kernel_rfl,fun h hz=> ?_⟩
 obtain⟨hl,hf⟩:=Rz.fields Tryz.underlying100 (n:=4) (by kernel_rfl) h hz
 obtain⟨a0,s0,c0⟩:=Rz.field (off:=0) Zt (hf 0 _ rfl)
 obtain⟨a1,s1,c1⟩:=Rz.field (off:=2) Ig (hf 1 _ rfl)
 obtain⟨a2,s2,c2⟩:=Rz.field (off:=3) Ig (hf 2 _ rfl)
 exact⟨⟨a0,a1,a2⟩,⟨s0,s1,s2⟩,hl,fun j hj=>match j,hj with|0,_=>c0 0 (by decide)|1,_=>c0 1 (by decide)|2,_=>c1 0 (by decide)|3,_=>c2 0 (by decide)⟩
def Yu (l:List aP):Prop:=l.length≤9223372036854775807∧(∀x∈l,Uu x)∧l.length*32≤140737488351232
theorem ZC:Rz Tryz.prog 24 1 (BS 4 aP.cell) Yu:=Rz.slice Tryz.underlying24 (by kernel_rfl) (by decide) (b:=32) (by kernel_rfl) X4
def Zk (x:ai):Prop:=(fun n:Int=> -9223372036854775808≤n∧n≤9223372036854775807) x.buses∧WA x.sources∧WG x.links∧Yu x.racks
theorem ZE:Rz Tryz.prog 26 4 ai.cell Zk:=by
 refine⟨by kernel_rfl,fun h hz=> ?_⟩
 obtain⟨hl,hf⟩:=Rz.fields Tryz.underlying26 (n:=4) (by kernel_rfl) h hz
 obtain⟨a0,s0,c0⟩:=Rz.field (off:=0) Ig (hf 0 _ rfl)
 obtain⟨a1,s1,c1⟩:=Rz.field (off:=1) ZL (hf 1 _ rfl)
 obtain⟨a2,s2,c2⟩:=Rz.field (off:=2) Y0 (hf 2 _ rfl)
 obtain⟨a3,s3,c3⟩:=Rz.field (off:=3) ZC (hf 3 _ rfl)
 exact⟨⟨a0,a1,a2,a3⟩,⟨s0,s1,s2,s3⟩,hl,fun j hj=>match j,hj with|0,_=>c0 0 (by decide)|1,_=>c1 0 (by decide)|2,_=>c2 0 (by decide)|3,_=>c3 0 (by decide)⟩
theorem rd4:Rz Tryz.prog 4 1 af (fun _:Bool=>True):=(Rd.bool Tryz.underlying4 (by kernel_rfl)).z
def IL (l:List Bool):Prop:=l.length≤9223372036854775807∧(∀x∈l,(fun _:Bool=>True) x)∧l.length*1≤140737488351232
theorem Lp:Rz Tryz.prog 27 1 (BS 1 af) IL:=Rz.slice Tryz.underlying27 (by kernel_rfl) (by decide) (b:=1) (by kernel_rfl) rd4
def Y5 (x:State):Prop:=IL x.closed∧IL x.locked∧IL x.badLink∧IL x.on_∧IL x.badSource∧IL x.earthed∧IL x.badBus
theorem ZJ:Rz Tryz.prog 29 7 State.cell Y5:=by
 refine⟨by kernel_rfl,fun h hz=> ?_⟩
 obtain⟨hl,hf⟩:=Rz.fields Tryz.underlying29 (n:=7) (by kernel_rfl) h hz
 obtain⟨a0,s0,c0⟩:=Rz.field (off:=0) Lp (hf 0 _ rfl)
 obtain⟨a1,s1,c1⟩:=Rz.field (off:=1) Lp (hf 1 _ rfl)
 obtain⟨a2,s2,c2⟩:=Rz.field (off:=2) Lp (hf 2 _ rfl)
 obtain⟨a3,s3,c3⟩:=Rz.field (off:=3) Lp (hf 3 _ rfl)
 obtain⟨a4,s4,c4⟩:=Rz.field (off:=4) Lp (hf 4 _ rfl)
 obtain⟨a5,s5,c5⟩:=Rz.field (off:=5) Lp (hf 5 _ rfl)
 obtain⟨a6,s6,c6⟩:=Rz.field (off:=6) Lp (hf 6 _ rfl)
 exact⟨⟨a0,a1,a2,a3,a4,a5,a6⟩,⟨s0,s1,s2,s3,s4,s5,s6⟩,hl,fun j hj=>match j,hj with|0,_=>c0 0 (by decide)|1,_=>c1 0 (by decide)|2,_=>c2 0 (by decide)|3,_=>c3 0 (by decide)|4,_=>c4 0 (by decide)|5,_=>c5 0 (by decide)|6,_=>c6 0 (by decide)⟩
def Uk (x:Transfer):Prop:=(fun n:Int=> -9223372036854775808≤n∧n≤9223372036854775807) x.watch∧(fun n:Int=> -9223372036854775808≤n∧n≤9223372036854775807) x.open_∧(fun n:Int=> -9223372036854775808≤n∧n≤9223372036854775807) x.close
theorem Xr:Rz Tryz.prog 101 3 Transfer.cell Uk:=by
 refine⟨by kernel_rfl,fun h hz=> ?_⟩
 obtain⟨hl,hf⟩:=Rz.fields Tryz.underlying101 (n:=3) (by kernel_rfl) h hz
 obtain⟨a0,s0,c0⟩:=Rz.field (off:=0) Ig (hf 0 _ rfl)
 obtain⟨a1,s1,c1⟩:=Rz.field (off:=1) Ig (hf 1 _ rfl)
 obtain⟨a2,s2,c2⟩:=Rz.field (off:=2) Ig (hf 2 _ rfl)
 exact⟨⟨a0,a1,a2⟩,⟨s0,s1,s2⟩,hl,fun j hj=>match j,hj with|0,_=>c0 0 (by decide)|1,_=>c1 0 (by decide)|2,_=>c2 0 (by decide)⟩
def Zr (l:List Transfer):Prop:=l.length≤9223372036854775807∧(∀x∈l,Uk x)∧l.length*24≤140737488351232
theorem ZA:Rz Tryz.prog 30 1 (BS 3 Transfer.cell) Zr:=Rz.slice Tryz.underlying30 (by kernel_rfl) (by decide) (b:=24) (by kernel_rfl) Xr
theorem Zc:Rz Tryz.prog 82 1 (aF .i64) (fun n:Int=> -9223372036854775808≤n∧n≤9223372036854775807):=(Rd.int Tryz.underlying82 (by kernel_rfl)).z
def Yr (x:Part):Prop:=(fun n:Int=> -9223372036854775808≤n∧n≤9223372036854775807) x.kind∧(fun n:Int=> -9223372036854775808≤n∧n≤9223372036854775807) x.index
theorem Zh:Rz Tryz.prog 84 2 Part.cell Yr:=by
 refine⟨by kernel_rfl,fun h hz=> ?_⟩
 obtain⟨hl,hf⟩:=Rz.fields Tryz.underlying84 (n:=2) (by kernel_rfl) h hz
 obtain⟨a0,s0,c0⟩:=Rz.field (off:=0) Zc (hf 0 _ rfl)
 obtain⟨a1,s1,c1⟩:=Rz.field (off:=1) Ig (hf 1 _ rfl)
 exact⟨⟨a0,a1⟩,⟨s0,s1⟩,hl,fun j hj=>match j,hj with|0,_=>c0 0 (by decide)|1,_=>c1 0 (by decide)⟩
def Zx (l:List Part):Prop:=l.length≤9223372036854775807∧(∀x∈l,Yr x)∧l.length*16≤140737488351232
theorem Zj:Rz Tryz.prog 48 1 (BS 2 Part.cell) Zx:=Rz.slice Tryz.underlying48 (by kernel_rfl) (by decide) (b:=16) (by kernel_rfl) Zh
end Sg
namespace Go.Proofs.YtklofnlffikpgaaGreat
open Sg Go.ChangeShapes Go.WideShapes Go.ChangeAt Go.RowKit
theorem Tryz.own:ownKnob Tryz.prog.godebug=none:=by kernel_rfl
theorem Tryz.laidOut:laidOutB Tryz.prog=true:=by kernel_rfl
set_option maxRecDepth 100000 in
theorem wI (H:Type) (enc:TypeId × Value→H) (W:World) (base:Nat) (args:Array Value) (ds gs:List (DataW H)) (before:List MemPlace)
  (hval: ∀(j:Nat) t v,Tryz.f4.params[j]? =some t→args[j]? =some v→Value.okWide Tryz.prog W .any base t v)
  (hW:DataW.Whole enc Tryz.prog Tryz.f4.params.toList Rows.pathsSettlesSpec.vars false W args.toList ds gs before)
  (hsz:(DataW.weightsEach Tryz.prog (Tryz.f4.params.toList++Rows.pathsSettlesSpec.plain.varTypes Tryz.prog) (ds++gs)).all (· ≤reachBytes)=true):
  Calls Tryz.prog 4 args W fun e W'=> ∃v,e= .returned v∧Rows.pathsSettlesSpec.post enc Tryz.prog Tryz.f4 false true false false W args v W':=by
 have hW':=hW
 obtain⟨p,q,hA0,hV,rfl,hfz,hnd⟩:=hW
 have hA:DataW.TrodAll enc Tryz.prog W 0 (fun _=>true) true Tryz.f4.params.toList args.toList ds p:=hA0
 rw [Tryz.params4]at hA hval
 obtain⟨v0,l0,d0,e0,p0,q0,hv0,hd0,hp0,h0,r0⟩:=trodAll_cons hA
 obtain⟨v1,l1,d1,e1,p1,q1,hv1,hd1,hp1,h1,r1⟩:=trodAll_cons r0
 obtain⟨v2,l2,d2,e2,p2,q2,hv2,hd2,hp2,h2,r2⟩:=trodAll_cons r1
 obtain⟨v3,l3,d3,e3,p3,q3,hv3,hd3,hp3,h3,r3⟩:=trodAll_cons r2
 obtain⟨hvz,hdz,hpz⟩:=trodAll_nil r3
 have hgs:=(trodVars_none hV).1
 have hargs:args= #[v0,v1,v2,v3]:=by
  have:args.toList=[v0,v1,v2,v3]:=by rw [hv0,hv1,hv2,hv3,hvz]
  cases args;simp at this;rw [this]
 have hds:ds=[d0,d1,d2,d3]:=by rw [hd0,hd1,hd2,hd3,hdz]
 subst hargs
 have hsz1:(DataW.weightsEach Tryz.prog [26,29,30,48] [d0,d1,d2,d3]).all (fun x=>decide (x≤reachBytes))=true:=by rw [hds,hgs,Tryz.params4]at hsz;exact hsz
 obtain⟨a0,s0,c0⟩:=Rz.agg ZE Tryz.underlying26 (hval 0 26 v0 rfl rfl) h0 (fun q hq=>of_decide_eq_true (List.all_eq_true.1 hsz1 q (DataW.weights_mem_each (j:=0) rfl rfl q hq)))
 obtain⟨a1,s1,c1⟩:=Rz.agg ZJ Tryz.underlying29 (hval 1 29 v1 rfl rfl) h1 (fun q hq=>of_decide_eq_true (List.all_eq_true.1 hsz1 q (DataW.weights_mem_each (j:=1) rfl rfl q hq)))
 obtain⟨a2,s2,c2⟩:=Rz.one ZA (GA Tryz.underlying30 (hval 2 30 v2 rfl rfl)) h2 (fun q hq=>of_decide_eq_true (List.all_eq_true.1 hsz1 q (DataW.weights_mem_each (j:=2) rfl rfl q hq)))
 obtain⟨a3,s3,c3⟩:=Rz.one Zj (GA Tryz.underlying48 (hval 3 48 v3 rfl rfl)) h3 (fun q hq=>of_decide_eq_true (List.all_eq_true.1 hsz1 q (DataW.weights_mem_each (j:=3) rfl rfl q hq)))
 have hm:iL a0 a1 a2 a3=some true:=AQ a0 a1 a2 a3 ⟨s0.2.1.1,s0.2.2.1.1,s0.2.2.2.1,fun x hx=>(s0.2.2.1.2.1 x hx).2.2.2.2.2.1⟩ ⟨by have:=s1.1.2.2;omega,by have:=s1.2.1.2.2;omega,by have:=s1.2.2.1.2.2;omega,by have:=s1.2.2.2.1.2.2;omega,by have:=s1.2.2.2.2.1.2.2;omega,by have:=s1.2.2.2.2.2.1.2.2;omega,by have:=s1.2.2.2.2.2.2.2.2;omega⟩
 refine(Ns (vs:=[v0,v1,v2,v3]) (uy a0 a1 a2 a3 hm) ⟨c0,c1,c2,c3,trivial⟩ (fun _ h=>by cases h)).mono fun e W' ⟨he,hb⟩=> ⟨_,he, ?_⟩
 refine P9 (t4:=4) rfl hW' ?_ ?_ ?_ rfl Tryz.underlying4 Tryz.laidOut ?_ hb
 ·rw [hds,hgs];rfl
 ·rw [hds,hgs];rfl
 ·rw [hds,hgs];rfl
 ·intro t ht
  rw [Tryz.params4]at ht
  simp at ht
  rcases ht with rfl|rfl|rfl|rfl<;>exact⟨by kernel_rfl,of_decide_eq_true (by kernel_rfl)⟩
set_option maxRecDepth 100000 in
theorem yP (os:Os) (started:os.Started) (H:Type) (enc:TypeId × Value→H):
  ReturnsInHanded {} Tryz.checked os 4 .any (Rows.pathsSettlesSpec.pre6 enc Tryz.prog Tryz.f4 Rows.pathsSettlesRow.domain false) (Rows.pathsSettlesSpec.post enc Tryz.prog Tryz.f4 false true false false):=by
 refine returnsInHanded_of_change_sized (C:=Tryz.checked) Tryz.own started (by kernel_rfl) Tryz.func4
  (ChangeSpec.witness6 (enc:=enc) (C:=Tryz.checked) false ⟨#[], #[.agg #[.int .i64 0, .slice none 0 0, .slice none 0 0, .slice none 0 0], .agg #[.slice none 0 0, .slice none 0 0, .slice none 0 0, .slice none 0 0, .slice none 0 0, .slice none 0 0, .slice none 0 0], .slice none 0 0, .slice none 0 0],[]⟩ 16 (by kernel_rfl) (by kernel_rfl) (by kernel_rfl) (by kernel_rfl)) ?_
 intro W base args ds gs before hval hW _ hsz _
 exact wI H enc W base args ds gs before hval hW hsz
theorem pathsSettles_holds:Rows.PathsSettlesSaid:=
 OpenClaim.holds_of_wide 4 Tryz.f4 rfl rfl rfl rfl rfl rfl rfl ⟨rfl,rfl,rfl,rfl,rfl⟩ rfl rfl rfl rfl rfl (by kernel_rfl) Tryz.func4 (by kernel_rfl)
  (of_decide_eq_true (by kernel_rfl)) (by unfold Func.isWrapper;first|(rw [if_pos (by decide+kernel)];kernel_rfl)|(rw [if_neg (by decide+kernel)];exact⟨rfl,rfl⟩))
  (fun os started H enc _=>yP os started H enc)
end Go.Proofs.YtklofnlffikpgaaGreat
