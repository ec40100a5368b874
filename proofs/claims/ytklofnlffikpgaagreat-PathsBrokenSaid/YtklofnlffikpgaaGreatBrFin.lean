/- PathsBroken: for every plant, state and list of transfers, the law that tells each breach of the promise by the strength of the feeding and the critical parts returns true (no conditions). -/
import Derived.Test.YtklofnlffikpgaaGreatRows
import Derived.ProofKit
import Derived.Test.YtklofnlffikpgaaGreatBrLc
import Derived.Test.YtklofnlffikpgaaGreatBrLh
import Derived.Test.YtklofnlffikpgaaGreatBrW3
set_option linter.all false
namespace Sg
open Go Go.Proofs Go.Proofs.YtklofnlffikpgaaGreat Go.ChangeShapes Go.WideShapes Go.RowKit
set_option maxRecDepth 20000
theorem JY:Rd Tryz.prog 3 1 (aH .i64) (fun n:Int=> -9223372036854775808≤n∧n≤9223372036854775807):=Rd.int Tryz.underlying3 (by kernel_rfl)
theorem Zk:Rd Tryz.prog 123 1 (aH .i64) (fun n:Int=> -9223372036854775808≤n∧n≤9223372036854775807):=Rd.int Tryz.underlying123 (by kernel_rfl)
def WZ (x:Source):Prop:=(fun n:Int=> -9223372036854775808≤n∧n≤9223372036854775807) x.bus∧(fun n:Int=> -9223372036854775808≤n∧n≤9223372036854775807) x.kind∧(fun n:Int=> -9223372036854775808≤n∧n≤9223372036854775807) x.power∧(fun n:Int=> -9223372036854775808≤n∧n≤9223372036854775807) x.sync∧(fun n:Int=> -9223372036854775808≤n∧n≤9223372036854775807) x.ohm
theorem YP:Rd Tryz.prog 125 5 Source.cell WZ:=by
 refine⟨by kernel_rfl,fun h=> ?_⟩
 obtain⟨hl,hf⟩:=Rd.fields Tryz.underlying125 (n:=5) (by kernel_rfl) h
 obtain⟨a0,s0,c0⟩:=Rd.field (off:=0) JY (hf 0 _ rfl)
 obtain⟨a1,s1,c1⟩:=Rd.field (off:=1) Zk (hf 1 _ rfl)
 obtain⟨a2,s2,c2⟩:=Rd.field (off:=2) JY (hf 2 _ rfl)
 obtain⟨a3,s3,c3⟩:=Rd.field (off:=3) JY (hf 3 _ rfl)
 obtain⟨a4,s4,c4⟩:=Rd.field (off:=4) JY (hf 4 _ rfl)
 exact⟨⟨a0,a1,a2,a3,a4⟩,⟨s0,s1,s2,s3,s4⟩,hl,fun j hj=>match j,hj with|0,_=>c0 0 (by decide)|1,_=>c1 0 (by decide)|2,_=>c2 0 (by decide)|3,_=>c3 0 (by decide)|4,_=>c4 0 (by decide)⟩
def ZU (l:List Source):Prop:=l.length≤9223372036854775807∧ ∀x∈l,WZ x
theorem abo:Rd Tryz.prog 22 1 (uM 5 Source.cell) ZU:=Rd.slice Tryz.underlying22 (by kernel_rfl) (by decide) YP
theorem Zw:Rd Tryz.prog 110 1 (aH .i64) (fun n:Int=> -9223372036854775808≤n∧n≤9223372036854775807):=Rd.int Tryz.underlying110 (by kernel_rfl)
def WX (x:vN):Prop:=(fun n:Int=> -9223372036854775808≤n∧n≤9223372036854775807) x.amps∧(fun n:Int=> -9223372036854775808≤n∧n≤9223372036854775807) x.millis
theorem aaq:Rd Tryz.prog 211 2 vN.cell WX:=by
 refine⟨by kernel_rfl,fun h=> ?_⟩
 obtain⟨hl,hf⟩:=Rd.fields Tryz.underlying211 (n:=2) (by kernel_rfl) h
 obtain⟨a0,s0,c0⟩:=Rd.field (off:=0) JY (hf 0 _ rfl)
 obtain⟨a1,s1,c1⟩:=Rd.field (off:=1) JY (hf 1 _ rfl)
 exact⟨⟨a0,a1⟩,⟨s0,s1⟩,hl,fun j hj=>match j,hj with|0,_=>c0 0 (by decide)|1,_=>c1 0 (by decide)⟩
def WQ (l:List vN):Prop:=l.length≤9223372036854775807∧ ∀x∈l,WX x
theorem YW:Rd Tryz.prog 111 1 (uM 2 vN.cell) WQ:=Rd.slice Tryz.underlying111 (by kernel_rfl) (by decide) aaq
def WJ (x:Link):Prop:=(fun n:Int=> -9223372036854775808≤n∧n≤9223372036854775807) x.a∧(fun n:Int=> -9223372036854775808≤n∧n≤9223372036854775807) x.b∧(fun n:Int=> -9223372036854775808≤n∧n≤9223372036854775807) x.kind∧(fun n:Int=> -9223372036854775808≤n∧n≤9223372036854775807) x.most∧(fun n:Int=> -9223372036854775808≤n∧n≤9223372036854775807) x.ohm∧WQ x.trip
theorem ZC:Rd Tryz.prog 113 6 Link.cell WJ:=by
 refine⟨by kernel_rfl,fun h=> ?_⟩
 obtain⟨hl,hf⟩:=Rd.fields Tryz.underlying113 (n:=6) (by kernel_rfl) h
 obtain⟨a0,s0,c0⟩:=Rd.field (off:=0) JY (hf 0 _ rfl)
 obtain⟨a1,s1,c1⟩:=Rd.field (off:=1) JY (hf 1 _ rfl)
 obtain⟨a2,s2,c2⟩:=Rd.field (off:=2) Zw (hf 2 _ rfl)
 obtain⟨a3,s3,c3⟩:=Rd.field (off:=3) JY (hf 3 _ rfl)
 obtain⟨a4,s4,c4⟩:=Rd.field (off:=4) JY (hf 4 _ rfl)
 obtain⟨a5,s5,c5⟩:=Rd.field (off:=5) YW (hf 5 _ rfl)
 exact⟨⟨a0,a1,a2,a3,a4,a5⟩,⟨s0,s1,s2,s3,s4,s5⟩,hl,fun j hj=>match j,hj with|0,_=>c0 0 (by decide)|1,_=>c1 0 (by decide)|2,_=>c2 0 (by decide)|3,_=>c3 0 (by decide)|4,_=>c4 0 (by decide)|5,_=>c5 0 (by decide)⟩
def YU (l:List Link):Prop:=l.length≤9223372036854775807∧ ∀x∈l,WJ x
theorem abJ:Rd Tryz.prog 23 1 (uM 6 Link.cell) YU:=Rd.slice Tryz.underlying23 (by kernel_rfl) (by decide) ZC
def aan (x:aj):Prop:=(fun n:Int=> -9223372036854775808≤n∧n≤9223372036854775807) x.e0∧(fun n:Int=> -9223372036854775808≤n∧n≤9223372036854775807) x.e1
theorem aa3:Rd Tryz.prog 44 2 aj.cell aan:=by
 refine⟨by kernel_rfl,fun h=> ?_⟩
 obtain⟨hl,hf⟩:=Rd.elems Tryz.underlying44 (n:=2) (by kernel_rfl) h
 obtain⟨a0,s0,c0⟩:=Rd.field (off:=0) JY (hf 0 (by decide))
 obtain⟨a1,s1,c1⟩:=Rd.field (off:=1) JY (hf 1 (by decide))
 exact⟨⟨a0,a1⟩,⟨s0,s1⟩,hl,fun j hj=>match j,hj with|0,_=>c0 0 (by decide)|1,_=>c1 0 (by decide)⟩
def WK (x:aS):Prop:=aan x.feeds∧(fun n:Int=> -9223372036854775808≤n∧n≤9223372036854775807) x.power∧(fun n:Int=> -9223372036854775808≤n∧n≤9223372036854775807) x.paths
theorem YJ:Rd Tryz.prog 100 4 aS.cell WK:=by
 refine⟨by kernel_rfl,fun h=> ?_⟩
 obtain⟨hl,hf⟩:=Rd.fields Tryz.underlying100 (n:=4) (by kernel_rfl) h
 obtain⟨a0,s0,c0⟩:=Rd.field (off:=0) aa3 (hf 0 _ rfl)
 obtain⟨a1,s1,c1⟩:=Rd.field (off:=2) JY (hf 1 _ rfl)
 obtain⟨a2,s2,c2⟩:=Rd.field (off:=3) JY (hf 2 _ rfl)
 exact⟨⟨a0,a1,a2⟩,⟨s0,s1,s2⟩,hl,fun j hj=>match j,hj with|0,_=>c0 0 (by decide)|1,_=>c0 1 (by decide)|2,_=>c1 0 (by decide)|3,_=>c2 0 (by decide)⟩
def aat (l:List aS):Prop:=l.length≤9223372036854775807∧ ∀x∈l,WK x
theorem abx:Rd Tryz.prog 24 1 (uM 4 aS.cell) aat:=Rd.slice Tryz.underlying24 (by kernel_rfl) (by decide) YJ
def abm (x:ah):Prop:=(fun n:Int=> -9223372036854775808≤n∧n≤9223372036854775807) x.buses∧ZU x.sources∧YU x.links∧aat x.racks
theorem abz:Rd Tryz.prog 26 4 ah.cell abm:=by
 refine⟨by kernel_rfl,fun h=> ?_⟩
 obtain⟨hl,hf⟩:=Rd.fields Tryz.underlying26 (n:=4) (by kernel_rfl) h
 obtain⟨a0,s0,c0⟩:=Rd.field (off:=0) JY (hf 0 _ rfl)
 obtain⟨a1,s1,c1⟩:=Rd.field (off:=1) abo (hf 1 _ rfl)
 obtain⟨a2,s2,c2⟩:=Rd.field (off:=2) abJ (hf 2 _ rfl)
 obtain⟨a3,s3,c3⟩:=Rd.field (off:=3) abx (hf 3 _ rfl)
 exact⟨⟨a0,a1,a2,a3⟩,⟨s0,s1,s2,s3⟩,hl,fun j hj=>match j,hj with|0,_=>c0 0 (by decide)|1,_=>c1 0 (by decide)|2,_=>c2 0 (by decide)|3,_=>c3 0 (by decide)⟩
theorem rd4:Rd Tryz.prog 4 1 af (fun _:Bool=>True):=Rd.bool Tryz.underlying4 (by kernel_rfl)
def KQ (l:List Bool):Prop:=l.length≤9223372036854775807∧ ∀x∈l,(fun _:Bool=>True) x
theorem Ni:Rd Tryz.prog 27 1 (uM 1 af) KQ:=Rd.slice Tryz.underlying27 (by kernel_rfl) (by decide) rd4
def abd (x:State):Prop:=KQ x.closed∧KQ x.locked∧KQ x.badLink∧KQ x.on_∧KQ x.badSource∧KQ x.earthed∧KQ x.badBus
theorem abI:Rd Tryz.prog 29 7 State.cell abd:=by
 refine⟨by kernel_rfl,fun h=> ?_⟩
 obtain⟨hl,hf⟩:=Rd.fields Tryz.underlying29 (n:=7) (by kernel_rfl) h
 obtain⟨a0,s0,c0⟩:=Rd.field (off:=0) Ni (hf 0 _ rfl)
 obtain⟨a1,s1,c1⟩:=Rd.field (off:=1) Ni (hf 1 _ rfl)
 obtain⟨a2,s2,c2⟩:=Rd.field (off:=2) Ni (hf 2 _ rfl)
 obtain⟨a3,s3,c3⟩:=Rd.field (off:=3) Ni (hf 3 _ rfl)
 obtain⟨a4,s4,c4⟩:=Rd.field (off:=4) Ni (hf 4 _ rfl)
 obtain⟨a5,s5,c5⟩:=Rd.field (off:=5) Ni (hf 5 _ rfl)
 obtain⟨a6,s6,c6⟩:=Rd.field (off:=6) Ni (hf 6 _ rfl)
 exact⟨⟨a0,a1,a2,a3,a4,a5,a6⟩,⟨s0,s1,s2,s3,s4,s5,s6⟩,hl,fun j hj=>match j,hj with|0,_=>c0 0 (by decide)|1,_=>c1 0 (by decide)|2,_=>c2 0 (by decide)|3,_=>c3 0 (by decide)|4,_=>c4 0 (by decide)|5,_=>c5 0 (by decide)|6,_=>c6 0 (by decide)⟩
def WR (x:Transfer):Prop:=(fun n:Int=> -9223372036854775808≤n∧n≤9223372036854775807) x.watch∧(fun n:Int=> -9223372036854775808≤n∧n≤9223372036854775807) x.open_∧(fun n:Int=> -9223372036854775808≤n∧n≤9223372036854775807) x.close
theorem ZP:Rd Tryz.prog 101 3 Transfer.cell WR:=by
 refine⟨by kernel_rfl,fun h=> ?_⟩
 obtain⟨hl,hf⟩:=Rd.fields Tryz.underlying101 (n:=3) (by kernel_rfl) h
 obtain⟨a0,s0,c0⟩:=Rd.field (off:=0) JY (hf 0 _ rfl)
 obtain⟨a1,s1,c1⟩:=Rd.field (off:=1) JY (hf 1 _ rfl)
 obtain⟨a2,s2,c2⟩:=Rd.field (off:=2) JY (hf 2 _ rfl)
 exact⟨⟨a0,a1,a2⟩,⟨s0,s1,s2⟩,hl,fun j hj=>match j,hj with|0,_=>c0 0 (by decide)|1,_=>c1 0 (by decide)|2,_=>c2 0 (by decide)⟩
def abj (l:List Transfer):Prop:=l.length≤9223372036854775807∧ ∀x∈l,WR x
theorem aa8:Rd Tryz.prog 30 1 (uM 3 Transfer.cell) abj:=Rd.slice Tryz.underlying30 (by kernel_rfl) (by decide) ZP
end Sg
namespace Go.Proofs.YtklofnlffikpgaaGreat
open Sg Go.ChangeShapes Go.WideShapes Go.ChangeAt Go.RowKit
theorem Tryz.own:ownKnob Tryz.prog.godebug=none:=by kernel_rfl
theorem Tryz.laidOut:laidOutB Tryz.prog=true:=by kernel_rfl
set_option maxRecDepth 100000 in
theorem zh (H:Type) (enc:TypeId × Value→H) (W:World) (base:Nat) (args:Array Value) (ds gs:List (DataW H)) (before:List MemPlace)
  (hval: ∀(j:Nat) t v,Tryz.f8.params[j]? =some t→args[j]? =some v→Value.okWide Tryz.prog W .any base t v)
  (hW:DataW.Whole enc Tryz.prog Tryz.f8.params.toList Rows.pathsBrokenSpec.vars false W args.toList ds gs before):
  Calls Tryz.prog 8 args W fun e W'=> ∃v,e= .returned v∧Rows.pathsBrokenSpec.post enc Tryz.prog Tryz.f8 false true false false W args v W':=by
 have hW':=hW
 obtain⟨p,q,hA0,hV,rfl,hfz,hnd⟩:=hW
 have hA:DataW.TrodAll enc Tryz.prog W 0 (fun _=>true) true Tryz.f8.params.toList args.toList ds p:=hA0
 rw [Tryz.params8]at hA hval
 obtain⟨v0,l0,d0,e0,p0,q0,hv0,hd0,hp0,h0,r0⟩:=trodAll_cons hA
 obtain⟨v1,l1,d1,e1,p1,q1,hv1,hd1,hp1,h1,r1⟩:=trodAll_cons r0
 obtain⟨v2,l2,d2,e2,p2,q2,hv2,hd2,hp2,h2,r2⟩:=trodAll_cons r1
 obtain⟨hvz,hdz,hpz⟩:=trodAll_nil r2
 have hgs:=(trodVars_none hV).1
 have hargs:args= #[v0,v1,v2]:=by
  have:args.toList=[v0,v1,v2]:=by rw [hv0,hv1,hv2,hvz]
  cases args;simp at this;rw [this]
 have hds:ds=[d0,d1,d2]:=by rw [hd0,hd1,hd2,hdz]
 subst hargs
 obtain⟨a0,s0,c0⟩:=Rd.agg abz Tryz.underlying26 (hval 0 26 v0 rfl rfl) h0
 obtain⟨a1,s1,c1⟩:=Rd.agg abI Tryz.underlying29 (hval 1 29 v1 rfl rfl) h1
 obtain⟨a2,s2,c2⟩:=Rd.one aa8 (Qx Tryz.underlying30 (hval 2 30 v2 rfl rfl)) h2
 have hm:jY a0 a1 a2=some true:=Cw a0 a1 a2 ⟨s0.2.1.1,s0.2.2.1.1,s0.2.2.2.1,fun x hx=>(s0.2.2.1.2 x hx).2.2.2.2.2.1⟩
 refine(Qu (vs:=[v0,v1,v2]) (xC a0 a1 a2 hm) ⟨c0,c1,c2,trivial⟩ (fun _ h=>by cases h)).mono fun e W' ⟨he,hb⟩=> ⟨_,he, ?_⟩
 refine S9 (t4:=4) rfl hW' ?_ ?_ ?_ rfl Tryz.underlying4 Tryz.laidOut ?_ hb
 ·rw [hds,hgs];rfl
 ·rw [hds,hgs];rfl
 ·rw [hds,hgs];rfl
 ·intro t ht
  rw [Tryz.params8]at ht
  simp at ht
  rcases ht with rfl|rfl|rfl<;>exact⟨by kernel_rfl,of_decide_eq_true (by kernel_rfl)⟩
set_option maxRecDepth 100000 in
theorem Ac (os:Os) (started:os.Started) (H:Type) (enc:TypeId × Value→H):
  ReturnsInHanded {} Tryz.checked os 8 .any (Rows.pathsBrokenSpec.pre6 enc Tryz.prog Tryz.f8 Rows.pathsBrokenRow.domain false) (Rows.pathsBrokenSpec.post enc Tryz.prog Tryz.f8 false true false false):=by
 refine returnsInHanded_of_change (C:=Tryz.checked) Tryz.own started (by kernel_rfl) Tryz.func8
  (ChangeSpec.witness6 (enc:=enc) (C:=Tryz.checked) false ⟨#[], #[.agg #[.int .i64 0, .slice none 0 0, .slice none 0 0, .slice none 0 0], .agg #[.slice none 0 0, .slice none 0 0, .slice none 0 0, .slice none 0 0, .slice none 0 0, .slice none 0 0, .slice none 0 0], .slice none 0 0],[]⟩ 16 (by kernel_rfl) (by kernel_rfl) (by kernel_rfl) (by kernel_rfl)) ?_
 intro W base args ds gs before hval hW _ _
 exact zh H enc W base args ds gs before hval hW
theorem pathsBroken_holds:Rows.PathsBrokenSaid:=
 OpenClaim.holds_of_wide 8 Tryz.f8 rfl rfl rfl rfl rfl rfl rfl ⟨rfl,rfl,rfl,rfl,rfl⟩ rfl rfl rfl rfl rfl (by kernel_rfl) Tryz.func8 (by kernel_rfl)
  (of_decide_eq_true (by kernel_rfl)) (by unfold Func.isWrapper;first|(rw [if_pos (by decide+kernel)];kernel_rfl)|(rw [if_neg (by decide+kernel)];exact⟨rfl,rfl⟩))
  (fun os started H enc _=>Ac os started H enc)
end Go.Proofs.YtklofnlffikpgaaGreat
