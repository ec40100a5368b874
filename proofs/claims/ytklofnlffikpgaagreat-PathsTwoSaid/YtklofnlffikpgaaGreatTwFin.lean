/- PathsTwo: for every plant, state, rack and list of transfers, the law of two disjoint ways, critical parts and single failures returns true (no conditions). -/
import Derived.Test.YtklofnlffikpgaaGreatRows
import Derived.ProofKit
import Derived.Test.YtklofnlffikpgaaGreatTwLc
import Derived.Test.YtklofnlffikpgaaGreatTwLh
import Derived.Test.YtklofnlffikpgaaGreatTwW2
set_option linter.all false
namespace Sg
open Go Go.Proofs Go.Proofs.YtklofnlffikpgaaGreat Go.ChangeShapes Go.WideShapes Go.RowKit
set_option maxRecDepth 20000
theorem GD:Rd Tryz.prog 3 1 (aF .i64) (fun n:Int=> -9223372036854775808≤n∧n≤9223372036854775807):=Rd.int Tryz.underlying3 (by kernel_rfl)
theorem V4:Rd Tryz.prog 123 1 (aF .i64) (fun n:Int=> -9223372036854775808≤n∧n≤9223372036854775807):=Rd.int Tryz.underlying123 (by kernel_rfl)
def TU (x:Source):Prop:=(fun n:Int=> -9223372036854775808≤n∧n≤9223372036854775807) x.bus∧(fun n:Int=> -9223372036854775808≤n∧n≤9223372036854775807) x.kind∧(fun n:Int=> -9223372036854775808≤n∧n≤9223372036854775807) x.power∧(fun n:Int=> -9223372036854775808≤n∧n≤9223372036854775807) x.sync∧(fun n:Int=> -9223372036854775808≤n∧n≤9223372036854775807) x.ohm
theorem Wi:Rd Tryz.prog 125 5 Source.cell TU:=by
 refine⟨by kernel_rfl,fun h=> ?_⟩
 obtain⟨hl,hf⟩:=Rd.fields Tryz.underlying125 (n:=5) (by kernel_rfl) h
 obtain⟨a0,s0,c0⟩:=Rd.field (off:=0) GD (hf 0 _ rfl)
 obtain⟨a1,s1,c1⟩:=Rd.field (off:=1) V4 (hf 1 _ rfl)
 obtain⟨a2,s2,c2⟩:=Rd.field (off:=2) GD (hf 2 _ rfl)
 obtain⟨a3,s3,c3⟩:=Rd.field (off:=3) GD (hf 3 _ rfl)
 obtain⟨a4,s4,c4⟩:=Rd.field (off:=4) GD (hf 4 _ rfl)
 exact⟨⟨a0,a1,a2,a3,a4⟩,⟨s0,s1,s2,s3,s4⟩,hl,fun j hj=>match j,hj with|0,_=>c0 0 (by decide)|1,_=>c1 0 (by decide)|2,_=>c2 0 (by decide)|3,_=>c3 0 (by decide)|4,_=>c4 0 (by decide)⟩
def WX (l:List Source):Prop:=l.length≤9223372036854775807∧ ∀x∈l,TU x
theorem Yp:Rd Tryz.prog 22 1 (Av 5 Source.cell) WX:=Rd.slice Tryz.underlying22 (by kernel_rfl) (by decide) Wi
theorem XG:Rd Tryz.prog 110 1 (aF .i64) (fun n:Int=> -9223372036854775808≤n∧n≤9223372036854775807):=Rd.int Tryz.underlying110 (by kernel_rfl)
def TQ (x:sP):Prop:=(fun n:Int=> -9223372036854775808≤n∧n≤9223372036854775807) x.amps∧(fun n:Int=> -9223372036854775808≤n∧n≤9223372036854775807) x.millis
theorem WO:Rd Tryz.prog 211 2 sP.cell TQ:=by
 refine⟨by kernel_rfl,fun h=> ?_⟩
 obtain⟨hl,hf⟩:=Rd.fields Tryz.underlying211 (n:=2) (by kernel_rfl) h
 obtain⟨a0,s0,c0⟩:=Rd.field (off:=0) GD (hf 0 _ rfl)
 obtain⟨a1,s1,c1⟩:=Rd.field (off:=1) GD (hf 1 _ rfl)
 exact⟨⟨a0,a1⟩,⟨s0,s1⟩,hl,fun j hj=>match j,hj with|0,_=>c0 0 (by decide)|1,_=>c1 0 (by decide)⟩
def Tz (l:List sP):Prop:=l.length≤9223372036854775807∧ ∀x∈l,TQ x
theorem Xz:Rd Tryz.prog 111 1 (Av 2 sP.cell) Tz:=Rd.slice Tryz.underlying111 (by kernel_rfl) (by decide) WO
def TH (x:Link):Prop:=(fun n:Int=> -9223372036854775808≤n∧n≤9223372036854775807) x.a∧(fun n:Int=> -9223372036854775808≤n∧n≤9223372036854775807) x.b∧(fun n:Int=> -9223372036854775808≤n∧n≤9223372036854775807) x.kind∧(fun n:Int=> -9223372036854775808≤n∧n≤9223372036854775807) x.most∧(fun n:Int=> -9223372036854775808≤n∧n≤9223372036854775807) x.ohm∧Tz x.trip
theorem XD:Rd Tryz.prog 113 6 Link.cell TH:=by
 refine⟨by kernel_rfl,fun h=> ?_⟩
 obtain⟨hl,hf⟩:=Rd.fields Tryz.underlying113 (n:=6) (by kernel_rfl) h
 obtain⟨a0,s0,c0⟩:=Rd.field (off:=0) GD (hf 0 _ rfl)
 obtain⟨a1,s1,c1⟩:=Rd.field (off:=1) GD (hf 1 _ rfl)
 obtain⟨a2,s2,c2⟩:=Rd.field (off:=2) XG (hf 2 _ rfl)
 obtain⟨a3,s3,c3⟩:=Rd.field (off:=3) GD (hf 3 _ rfl)
 obtain⟨a4,s4,c4⟩:=Rd.field (off:=4) GD (hf 4 _ rfl)
 obtain⟨a5,s5,c5⟩:=Rd.field (off:=5) Xz (hf 5 _ rfl)
 exact⟨⟨a0,a1,a2,a3,a4,a5⟩,⟨s0,s1,s2,s3,s4,s5⟩,hl,fun j hj=>match j,hj with|0,_=>c0 0 (by decide)|1,_=>c1 0 (by decide)|2,_=>c2 0 (by decide)|3,_=>c3 0 (by decide)|4,_=>c4 0 (by decide)|5,_=>c5 0 (by decide)⟩
def VU (l:List Link):Prop:=l.length≤9223372036854775807∧ ∀x∈l,TH x
theorem Yr:Rd Tryz.prog 23 1 (Av 6 Link.cell) VU:=Rd.slice Tryz.underlying23 (by kernel_rfl) (by decide) XD
def Xu (x:ay):Prop:=(fun n:Int=> -9223372036854775808≤n∧n≤9223372036854775807) x.e0∧(fun n:Int=> -9223372036854775808≤n∧n≤9223372036854775807) x.e1
theorem YK:Rd Tryz.prog 44 2 ay.cell Xu:=by
 refine⟨by kernel_rfl,fun h=> ?_⟩
 obtain⟨hl,hf⟩:=Rd.elems Tryz.underlying44 (n:=2) (by kernel_rfl) h
 obtain⟨a0,s0,c0⟩:=Rd.field (off:=0) GD (hf 0 (by decide))
 obtain⟨a1,s1,c1⟩:=Rd.field (off:=1) GD (hf 1 (by decide))
 exact⟨⟨a0,a1⟩,⟨s0,s1⟩,hl,fun j hj=>match j,hj with|0,_=>c0 0 (by decide)|1,_=>c1 0 (by decide)⟩
def TR (x:aN):Prop:=Xu x.feeds∧(fun n:Int=> -9223372036854775808≤n∧n≤9223372036854775807) x.power∧(fun n:Int=> -9223372036854775808≤n∧n≤9223372036854775807) x.paths
theorem Wn:Rd Tryz.prog 100 4 aN.cell TR:=by
 refine⟨by kernel_rfl,fun h=> ?_⟩
 obtain⟨hl,hf⟩:=Rd.fields Tryz.underlying100 (n:=4) (by kernel_rfl) h
 obtain⟨a0,s0,c0⟩:=Rd.field (off:=0) YK (hf 0 _ rfl)
 obtain⟨a1,s1,c1⟩:=Rd.field (off:=2) GD (hf 1 _ rfl)
 obtain⟨a2,s2,c2⟩:=Rd.field (off:=3) GD (hf 2 _ rfl)
 exact⟨⟨a0,a1,a2⟩,⟨s0,s1,s2⟩,hl,fun j hj=>match j,hj with|0,_=>c0 0 (by decide)|1,_=>c0 1 (by decide)|2,_=>c1 0 (by decide)|3,_=>c2 0 (by decide)⟩
def Xc (l:List aN):Prop:=l.length≤9223372036854775807∧ ∀x∈l,TR x
theorem Y0:Rd Tryz.prog 24 1 (Av 4 aN.cell) Xc:=Rd.slice Tryz.underlying24 (by kernel_rfl) (by decide) Wn
def Yz (x:ah):Prop:=(fun n:Int=> -9223372036854775808≤n∧n≤9223372036854775807) x.buses∧WX x.sources∧VU x.links∧Xc x.racks
theorem YT:Rd Tryz.prog 26 4 ah.cell Yz:=by
 refine⟨by kernel_rfl,fun h=> ?_⟩
 obtain⟨hl,hf⟩:=Rd.fields Tryz.underlying26 (n:=4) (by kernel_rfl) h
 obtain⟨a0,s0,c0⟩:=Rd.field (off:=0) GD (hf 0 _ rfl)
 obtain⟨a1,s1,c1⟩:=Rd.field (off:=1) Yp (hf 1 _ rfl)
 obtain⟨a2,s2,c2⟩:=Rd.field (off:=2) Yr (hf 2 _ rfl)
 obtain⟨a3,s3,c3⟩:=Rd.field (off:=3) Y0 (hf 3 _ rfl)
 exact⟨⟨a0,a1,a2,a3⟩,⟨s0,s1,s2,s3⟩,hl,fun j hj=>match j,hj with|0,_=>c0 0 (by decide)|1,_=>c1 0 (by decide)|2,_=>c2 0 (by decide)|3,_=>c3 0 (by decide)⟩
theorem ZF:Rd Tryz.prog 4 1 af (fun _:Bool=>True):=Rd.bool Tryz.underlying4 (by kernel_rfl)
def Jl (l:List Bool):Prop:=l.length≤9223372036854775807∧ ∀x∈l,(fun _:Bool=>True) x
theorem Kr:Rd Tryz.prog 27 1 (Av 1 af) Jl:=Rd.slice Tryz.underlying27 (by kernel_rfl) (by decide) ZF
def Yt (x:State):Prop:=Jl x.closed∧Jl x.locked∧Jl x.badLink∧Jl x.on_∧Jl x.badSource∧Jl x.earthed∧Jl x.badBus
theorem Yq:Rd Tryz.prog 29 7 State.cell Yt:=by
 refine⟨by kernel_rfl,fun h=> ?_⟩
 obtain⟨hl,hf⟩:=Rd.fields Tryz.underlying29 (n:=7) (by kernel_rfl) h
 obtain⟨a0,s0,c0⟩:=Rd.field (off:=0) Kr (hf 0 _ rfl)
 obtain⟨a1,s1,c1⟩:=Rd.field (off:=1) Kr (hf 1 _ rfl)
 obtain⟨a2,s2,c2⟩:=Rd.field (off:=2) Kr (hf 2 _ rfl)
 obtain⟨a3,s3,c3⟩:=Rd.field (off:=3) Kr (hf 3 _ rfl)
 obtain⟨a4,s4,c4⟩:=Rd.field (off:=4) Kr (hf 4 _ rfl)
 obtain⟨a5,s5,c5⟩:=Rd.field (off:=5) Kr (hf 5 _ rfl)
 obtain⟨a6,s6,c6⟩:=Rd.field (off:=6) Kr (hf 6 _ rfl)
 exact⟨⟨a0,a1,a2,a3,a4,a5,a6⟩,⟨s0,s1,s2,s3,s4,s5,s6⟩,hl,fun j hj=>match j,hj with|0,_=>c0 0 (by decide)|1,_=>c1 0 (by decide)|2,_=>c2 0 (by decide)|3,_=>c3 0 (by decide)|4,_=>c4 0 (by decide)|5,_=>c5 0 (by decide)|6,_=>c6 0 (by decide)⟩
def TM (x:Transfer):Prop:=(fun n:Int=> -9223372036854775808≤n∧n≤9223372036854775807) x.watch∧(fun n:Int=> -9223372036854775808≤n∧n≤9223372036854775807) x.open_∧(fun n:Int=> -9223372036854775808≤n∧n≤9223372036854775807) x.close
theorem XK:Rd Tryz.prog 101 3 Transfer.cell TM:=by
 refine⟨by kernel_rfl,fun h=> ?_⟩
 obtain⟨hl,hf⟩:=Rd.fields Tryz.underlying101 (n:=3) (by kernel_rfl) h
 obtain⟨a0,s0,c0⟩:=Rd.field (off:=0) GD (hf 0 _ rfl)
 obtain⟨a1,s1,c1⟩:=Rd.field (off:=1) GD (hf 1 _ rfl)
 obtain⟨a2,s2,c2⟩:=Rd.field (off:=2) GD (hf 2 _ rfl)
 exact⟨⟨a0,a1,a2⟩,⟨s0,s1,s2⟩,hl,fun j hj=>match j,hj with|0,_=>c0 0 (by decide)|1,_=>c1 0 (by decide)|2,_=>c2 0 (by decide)⟩
def YN (l:List Transfer):Prop:=l.length≤9223372036854775807∧ ∀x∈l,TM x
theorem YC:Rd Tryz.prog 30 1 (Av 3 Transfer.cell) YN:=Rd.slice Tryz.underlying30 (by kernel_rfl) (by decide) XK
end Sg
namespace Go.Proofs.YtklofnlffikpgaaGreat
open Sg Go.ChangeShapes Go.WideShapes Go.ChangeAt Go.RowKit
theorem Tryz.own:ownKnob Tryz.prog.godebug=none:=by kernel_rfl
theorem Tryz.laidOut:laidOutB Tryz.prog=true:=by kernel_rfl
set_option maxRecDepth 100000 in
theorem zR (H:Type) (enc:TypeId × Value→H) (W:World) (base:Nat) (args:Array Value) (ds gs:List (DataW H)) (before:List MemPlace)
  (hval: ∀(j:Nat) t v,Tryz.f7.params[j]? =some t→args[j]? =some v→Value.okWide Tryz.prog W .any base t v)
  (hW:DataW.Whole enc Tryz.prog Tryz.f7.params.toList Rows.pathsTwoSpec.vars false W args.toList ds gs before):
  Calls Tryz.prog 7 args W fun e W'=> ∃v,e= .returned v∧Rows.pathsTwoSpec.post enc Tryz.prog Tryz.f7 false true false false W args v W':=by
 have hW':=hW
 obtain⟨p,q,hA0,hV,rfl,hfz,hnd⟩:=hW
 have hA:DataW.TrodAll enc Tryz.prog W 0 (fun _=>true) true Tryz.f7.params.toList args.toList ds p:=hA0
 rw [Tryz.params7]at hA hval
 obtain⟨v0,l0,d0,e0,p0,q0,hv0,hd0,hp0,h0,r0⟩:=trodAll_cons hA
 obtain⟨v1,l1,d1,e1,p1,q1,hv1,hd1,hp1,h1,r1⟩:=trodAll_cons r0
 obtain⟨v2,l2,d2,e2,p2,q2,hv2,hd2,hp2,h2,r2⟩:=trodAll_cons r1
 obtain⟨v3,l3,d3,e3,p3,q3,hv3,hd3,hp3,h3,r3⟩:=trodAll_cons r2
 obtain⟨hvz,hdz,hpz⟩:=trodAll_nil r3
 have hgs:=(trodVars_none hV).1
 have hargs:args= #[v0,v1,v2,v3]:=by
  have:args.toList=[v0,v1,v2,v3]:=by rw [hv0,hv1,hv2,hv3,hvz]
  cases args;simp at this;rw [this]
 have hds:ds=[d0,d1,d2,d3]:=by rw [hd0,hd1,hd2,hd3,hdz]
 subst hargs
 obtain⟨a0,s0,c0⟩:=Rd.agg YT Tryz.underlying26 (hval 0 26 v0 rfl rfl) h0
 obtain⟨a1,s1,c1⟩:=Rd.agg Yq Tryz.underlying29 (hval 1 29 v1 rfl rfl) h1
 obtain⟨a2,s2,c2⟩:=Rd.one GD (Rh Tryz.underlying3 (hval 2 3 v2 rfl rfl)) h2
 obtain⟨a3,s3,c3⟩:=Rd.one YC (ML Tryz.underlying30 (hval 3 30 v3 rfl rfl)) h3
 have hm:lX a0 a1 a2 a3=some true:=Ed a0 a1 a2 a3 ⟨s0.2.1.1,s0.2.2.1.1,s0.2.2.2.1,fun x hx=>(s0.2.2.1.2 x hx).2.2.2.2.2.1⟩
 refine(M6 (vs:=[v0,v1,v2,v3]) (xH a0 a1 a2 a3 hm) ⟨c0,c1,c2,c3,trivial⟩ (fun _ h=>by cases h)).mono fun e W' ⟨he,hb⟩=> ⟨_,he, ?_⟩
 refine Qy (t4:=4) rfl hW' ?_ ?_ ?_ rfl Tryz.underlying4 Tryz.laidOut ?_ hb
 ·rw [hds,hgs];rfl
 ·rw [hds,hgs];rfl
 ·rw [hds,hgs];rfl
 ·intro t ht
  rw [Tryz.params7]at ht
  simp at ht
  rcases ht with rfl|rfl|rfl|rfl<;>exact⟨by kernel_rfl,of_decide_eq_true (by kernel_rfl)⟩
set_option maxRecDepth 100000 in
theorem BL (os:Os) (started:os.Started) (H:Type) (enc:TypeId × Value→H):
  ReturnsInHanded {} Tryz.checked os 7 .any (Rows.pathsTwoSpec.pre6 enc Tryz.prog Tryz.f7 Rows.pathsTwoRow.domain false) (Rows.pathsTwoSpec.post enc Tryz.prog Tryz.f7 false true false false):=by
 refine returnsInHanded_of_change (C:=Tryz.checked) Tryz.own started (by kernel_rfl) Tryz.func7
  (ChangeSpec.witness6 (enc:=enc) (C:=Tryz.checked) false ⟨#[], #[.agg #[.int .i64 0, .slice none 0 0, .slice none 0 0, .slice none 0 0], .agg #[.slice none 0 0, .slice none 0 0, .slice none 0 0, .slice none 0 0, .slice none 0 0, .slice none 0 0, .slice none 0 0], .int .i64 0, .slice none 0 0],[]⟩ 16 (by kernel_rfl) (by kernel_rfl) (by kernel_rfl) (by kernel_rfl)) ?_
 intro W base args ds gs before hval hW _ _
 exact zR H enc W base args ds gs before hval hW
theorem pathsTwo_holds:Rows.PathsTwoSaid:=
 OpenClaim.holds_of_wide 7 Tryz.f7 rfl rfl rfl rfl rfl rfl rfl ⟨rfl,rfl,rfl,rfl,rfl⟩ rfl rfl rfl rfl rfl (by kernel_rfl) Tryz.func7 (by kernel_rfl)
  (of_decide_eq_true (by kernel_rfl)) (by unfold Func.isWrapper;first|(rw [if_pos (by decide+kernel)];kernel_rfl)|(rw [if_neg (by decide+kernel)];exact⟨rfl,rfl⟩))
  (fun os started H enc _=>BL os started H enc)
end Go.Proofs.YtklofnlffikpgaaGreat
