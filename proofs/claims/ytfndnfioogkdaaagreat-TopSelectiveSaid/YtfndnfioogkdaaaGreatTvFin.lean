/- TopSelective: for every plant, state and bus, the law that a selectively cleared fault loses just the racks that are fed and for which the bus is critical returns true (no conditions). -/
import Derived.Test.YtfndnfioogkdaaaGreatRows
import Derived.ProofKit
import Derived.Test.YtfndnfioogkdaaaGreatTvLc
import Derived.Test.YtfndnfioogkdaaaGreatTvLg
import Derived.Test.YtfndnfioogkdaaaGreatTvW4
set_option linter.all false
namespace Sg
open Go Go.Proofs Go.Proofs.YtfndnfioogkdaaaGreat Go.ChangeShapes Go.WideShapes Go.RowKit
set_option maxRecDepth 20000
theorem O9:Rd Tryz.prog 3 1 (aC .i64) (fun n:Int=> -9223372036854775808≤n∧n≤9223372036854775807):=Rd.int Tryz.underlying3 (by kernel_rfl)
theorem aep:Rd Tryz.prog 96 1 (aC .i64) (fun n:Int=> -9223372036854775808≤n∧n≤9223372036854775807):=Rd.int Tryz.underlying96 (by kernel_rfl)
def acT (x:Source):Prop:=(fun n:Int=> -9223372036854775808≤n∧n≤9223372036854775807) x.bus∧(fun n:Int=> -9223372036854775808≤n∧n≤9223372036854775807) x.kind∧(fun n:Int=> -9223372036854775808≤n∧n≤9223372036854775807) x.power∧(fun n:Int=> -9223372036854775808≤n∧n≤9223372036854775807) x.sync∧(fun n:Int=> -9223372036854775808≤n∧n≤9223372036854775807) x.fq
theorem aew:Rd Tryz.prog 98 5 Source.cell acT:=by
 refine⟨by kernel_rfl,fun h=> ?_⟩
 obtain⟨hl,hf⟩:=Rd.fields Tryz.underlying98 (n:=5) (by kernel_rfl) h
 obtain⟨a0,s0,c0⟩:=Rd.field (off:=0) O9 (hf 0 _ rfl)
 obtain⟨a1,s1,c1⟩:=Rd.field (off:=1) aep (hf 1 _ rfl)
 obtain⟨a2,s2,c2⟩:=Rd.field (off:=2) O9 (hf 2 _ rfl)
 obtain⟨a3,s3,c3⟩:=Rd.field (off:=3) O9 (hf 3 _ rfl)
 obtain⟨a4,s4,c4⟩:=Rd.field (off:=4) O9 (hf 4 _ rfl)
 exact⟨⟨a0,a1,a2,a3,a4⟩,⟨s0,s1,s2,s3,s4⟩,hl,fun j hj=>match j,hj with|0,_=>c0 0 (by decide)|1,_=>c1 0 (by decide)|2,_=>c2 0 (by decide)|3,_=>c3 0 (by decide)|4,_=>c4 0 (by decide)⟩
def abY (l:List Source):Prop:=l.length≤9223372036854775807∧ ∀x∈l,acT x
theorem ae4:Rd Tryz.prog 22 1 (Ae 5 Source.cell) abY:=Rd.slice Tryz.underlying22 (by kernel_rfl) (by decide) aew
theorem ae2:Rd Tryz.prog 67 1 (aC .i64) (fun n:Int=> -9223372036854775808≤n∧n≤9223372036854775807):=Rd.int Tryz.underlying67 (by kernel_rfl)
def Yw (x:qQ):Prop:=(fun n:Int=> -9223372036854775808≤n∧n≤9223372036854775807) x.amps∧(fun n:Int=> -9223372036854775808≤n∧n≤9223372036854775807) x.millis
theorem abS:Rd Tryz.prog 163 2 qQ.cell Yw:=by
 refine⟨by kernel_rfl,fun h=> ?_⟩
 obtain⟨hl,hf⟩:=Rd.fields Tryz.underlying163 (n:=2) (by kernel_rfl) h
 obtain⟨a0,s0,c0⟩:=Rd.field (off:=0) O9 (hf 0 _ rfl)
 obtain⟨a1,s1,c1⟩:=Rd.field (off:=1) O9 (hf 1 _ rfl)
 exact⟨⟨a0,a1⟩,⟨s0,s1⟩,hl,fun j hj=>match j,hj with|0,_=>c0 0 (by decide)|1,_=>c1 0 (by decide)⟩
def aa4 (l:List qQ):Prop:=l.length≤9223372036854775807∧ ∀x∈l,Yw x
theorem aeQ:Rd Tryz.prog 68 1 (Ae 2 qQ.cell) aa4:=Rd.slice Tryz.underlying68 (by kernel_rfl) (by decide) abS
def aby (x:Link):Prop:=(fun n:Int=> -9223372036854775808≤n∧n≤9223372036854775807) x.a∧(fun n:Int=> -9223372036854775808≤n∧n≤9223372036854775807) x.b∧(fun n:Int=> -9223372036854775808≤n∧n≤9223372036854775807) x.kind∧(fun n:Int=> -9223372036854775808≤n∧n≤9223372036854775807) x.most∧(fun n:Int=> -9223372036854775808≤n∧n≤9223372036854775807) x.fq∧aa4 x.trip
theorem aeU:Rd Tryz.prog 70 6 Link.cell aby:=by
 refine⟨by kernel_rfl,fun h=> ?_⟩
 obtain⟨hl,hf⟩:=Rd.fields Tryz.underlying70 (n:=6) (by kernel_rfl) h
 obtain⟨a0,s0,c0⟩:=Rd.field (off:=0) O9 (hf 0 _ rfl)
 obtain⟨a1,s1,c1⟩:=Rd.field (off:=1) O9 (hf 1 _ rfl)
 obtain⟨a2,s2,c2⟩:=Rd.field (off:=2) ae2 (hf 2 _ rfl)
 obtain⟨a3,s3,c3⟩:=Rd.field (off:=3) O9 (hf 3 _ rfl)
 obtain⟨a4,s4,c4⟩:=Rd.field (off:=4) O9 (hf 4 _ rfl)
 obtain⟨a5,s5,c5⟩:=Rd.field (off:=5) aeQ (hf 5 _ rfl)
 exact⟨⟨a0,a1,a2,a3,a4,a5⟩,⟨s0,s1,s2,s3,s4,s5⟩,hl,fun j hj=>match j,hj with|0,_=>c0 0 (by decide)|1,_=>c1 0 (by decide)|2,_=>c2 0 (by decide)|3,_=>c3 0 (by decide)|4,_=>c4 0 (by decide)|5,_=>c5 0 (by decide)⟩
def abh (l:List Link):Prop:=l.length≤9223372036854775807∧ ∀x∈l,aby x
theorem aeS:Rd Tryz.prog 23 1 (Ae 6 Link.cell) abh:=Rd.slice Tryz.underlying23 (by kernel_rfl) (by decide) aeU
def acE (x:ai):Prop:=(fun n:Int=> -9223372036854775808≤n∧n≤9223372036854775807) x.e0∧(fun n:Int=> -9223372036854775808≤n∧n≤9223372036854775807) x.e1
theorem aeB:Rd Tryz.prog 41 2 ai.cell acE:=by
 refine⟨by kernel_rfl,fun h=> ?_⟩
 obtain⟨hl,hf⟩:=Rd.elems Tryz.underlying41 (n:=2) (by kernel_rfl) h
 obtain⟨a0,s0,c0⟩:=Rd.field (off:=0) O9 (hf 0 (by decide))
 obtain⟨a1,s1,c1⟩:=Rd.field (off:=1) O9 (hf 1 (by decide))
 exact⟨⟨a0,a1⟩,⟨s0,s1⟩,hl,fun j hj=>match j,hj with|0,_=>c0 0 (by decide)|1,_=>c1 0 (by decide)⟩
def acN (x:aU):Prop:=acE x.feeds∧(fun n:Int=> -9223372036854775808≤n∧n≤9223372036854775807) x.power∧(fun n:Int=> -9223372036854775808≤n∧n≤9223372036854775807) x.paths
theorem aeF:Rd Tryz.prog 43 4 aU.cell acN:=by
 refine⟨by kernel_rfl,fun h=> ?_⟩
 obtain⟨hl,hf⟩:=Rd.fields Tryz.underlying43 (n:=4) (by kernel_rfl) h
 obtain⟨a0,s0,c0⟩:=Rd.field (off:=0) aeB (hf 0 _ rfl)
 obtain⟨a1,s1,c1⟩:=Rd.field (off:=2) O9 (hf 1 _ rfl)
 obtain⟨a2,s2,c2⟩:=Rd.field (off:=3) O9 (hf 2 _ rfl)
 exact⟨⟨a0,a1,a2⟩,⟨s0,s1,s2⟩,hl,fun j hj=>match j,hj with|0,_=>c0 0 (by decide)|1,_=>c0 1 (by decide)|2,_=>c1 0 (by decide)|3,_=>c2 0 (by decide)⟩
def ab2 (l:List aU):Prop:=l.length≤9223372036854775807∧ ∀x∈l,acN x
theorem aeI:Rd Tryz.prog 24 1 (Ae 4 aU.cell) ab2:=Rd.slice Tryz.underlying24 (by kernel_rfl) (by decide) aeF
def ae8 (x:au):Prop:=(fun n:Int=> -9223372036854775808≤n∧n≤9223372036854775807) x.buses∧abY x.sources∧abh x.links∧ab2 x.racks
theorem aeR:Rd Tryz.prog 26 4 au.cell ae8:=by
 refine⟨by kernel_rfl,fun h=> ?_⟩
 obtain⟨hl,hf⟩:=Rd.fields Tryz.underlying26 (n:=4) (by kernel_rfl) h
 obtain⟨a0,s0,c0⟩:=Rd.field (off:=0) O9 (hf 0 _ rfl)
 obtain⟨a1,s1,c1⟩:=Rd.field (off:=1) ae4 (hf 1 _ rfl)
 obtain⟨a2,s2,c2⟩:=Rd.field (off:=2) aeS (hf 2 _ rfl)
 obtain⟨a3,s3,c3⟩:=Rd.field (off:=3) aeI (hf 3 _ rfl)
 exact⟨⟨a0,a1,a2,a3⟩,⟨s0,s1,s2,s3⟩,hl,fun j hj=>match j,hj with|0,_=>c0 0 (by decide)|1,_=>c1 0 (by decide)|2,_=>c2 0 (by decide)|3,_=>c3 0 (by decide)⟩
theorem rd4:Rd Tryz.prog 4 1 ah (fun _:Bool=>True):=Rd.bool Tryz.underlying4 (by kernel_rfl)
def OV (l:List Bool):Prop:=l.length≤9223372036854775807∧ ∀x∈l,(fun _:Bool=>True) x
theorem Qn:Rd Tryz.prog 27 1 (Ae 1 ah) OV:=Rd.slice Tryz.underlying27 (by kernel_rfl) (by decide) rd4
def aeH (x:State):Prop:=OV x.closed∧OV x.locked∧OV x.badLink∧OV x.on_∧OV x.badSource∧OV x.earthed∧OV x.badBus
theorem ae5:Rd Tryz.prog 29 7 State.cell aeH:=by
 refine⟨by kernel_rfl,fun h=> ?_⟩
 obtain⟨hl,hf⟩:=Rd.fields Tryz.underlying29 (n:=7) (by kernel_rfl) h
 obtain⟨a0,s0,c0⟩:=Rd.field (off:=0) Qn (hf 0 _ rfl)
 obtain⟨a1,s1,c1⟩:=Rd.field (off:=1) Qn (hf 1 _ rfl)
 obtain⟨a2,s2,c2⟩:=Rd.field (off:=2) Qn (hf 2 _ rfl)
 obtain⟨a3,s3,c3⟩:=Rd.field (off:=3) Qn (hf 3 _ rfl)
 obtain⟨a4,s4,c4⟩:=Rd.field (off:=4) Qn (hf 4 _ rfl)
 obtain⟨a5,s5,c5⟩:=Rd.field (off:=5) Qn (hf 5 _ rfl)
 obtain⟨a6,s6,c6⟩:=Rd.field (off:=6) Qn (hf 6 _ rfl)
 exact⟨⟨a0,a1,a2,a3,a4,a5,a6⟩,⟨s0,s1,s2,s3,s4,s5,s6⟩,hl,fun j hj=>match j,hj with|0,_=>c0 0 (by decide)|1,_=>c1 0 (by decide)|2,_=>c2 0 (by decide)|3,_=>c3 0 (by decide)|4,_=>c4 0 (by decide)|5,_=>c5 0 (by decide)|6,_=>c6 0 (by decide)⟩
end Sg
namespace Go.Proofs.YtfndnfioogkdaaaGreat
open Sg Go.ChangeShapes Go.WideShapes Go.ChangeAt Go.RowKit
theorem Tryz.own:ownKnob Tryz.prog.godebug=none:=by kernel_rfl
theorem Tryz.laidOut:laidOutB Tryz.prog=true:=by kernel_rfl
set_option maxRecDepth 100000 in
theorem zx (H:Type) (enc:TypeId × Value→H) (W:World) (base:Nat) (args:Array Value) (ds gs:List (DataW H)) (before:List MemPlace)
  (hval: ∀(j:Nat) t v,Tryz.f4.params[j]? =some t→args[j]? =some v→Value.okWide Tryz.prog W .any base t v)
  (hW:DataW.Whole enc Tryz.prog Tryz.f4.params.toList Rows.topSelectiveSpec.vars false W args.toList ds gs before):
  Calls Tryz.prog 4 args W fun e W'=> ∃v,e= .returned v∧Rows.topSelectiveSpec.post enc Tryz.prog Tryz.f4 false true false false W args v W':=by
 have hW':=hW
 obtain⟨p,q,hA0,hV,rfl,hfz,hnd⟩:=hW
 have hA:DataW.TrodAll enc Tryz.prog W 0 (fun _=>true) true Tryz.f4.params.toList args.toList ds p:=hA0
 rw [Tryz.params4]at hA hval
 obtain⟨v0,l0,d0,e0,p0,q0,hv0,hd0,hp0,h0,r0⟩:=trodAll_cons hA
 obtain⟨v1,l1,d1,e1,p1,q1,hv1,hd1,hp1,h1,r1⟩:=trodAll_cons r0
 obtain⟨v2,l2,d2,e2,p2,q2,hv2,hd2,hp2,h2,r2⟩:=trodAll_cons r1
 obtain⟨hvz,hdz,hpz⟩:=trodAll_nil r2
 have hgs:=(trodVars_none hV).1
 have hargs:args= #[v0,v1,v2]:=by
  have:args.toList=[v0,v1,v2]:=by rw [hv0,hv1,hv2,hvz]
  cases args;simp at this;rw [this]
 have hds:ds=[d0,d1,d2]:=by rw [hd0,hd1,hd2,hdz]
 subst hargs
 obtain⟨a0,s0,c0⟩:=Rd.agg aeR Tryz.underlying26 (hval 0 26 v0 rfl rfl) h0
 obtain⟨a1,s1,c1⟩:=Rd.agg ae5 Tryz.underlying29 (hval 1 29 v1 rfl rfl) h1
 obtain⟨a2,s2,c2⟩:=Rd.one O9 (Xy Tryz.underlying3 (hval 2 3 v2 rfl rfl)) h2
 have hm:ku a0 a1 a2=some true:=Ee a0 a1 a2 ⟨s0.2.1.1,s0.2.2.1.1,s0.2.2.2.1,fun x hx=>(s0.2.2.1.2 x hx).2.2.2.2.2.1⟩
 refine(R4 (vs:=[v0,v1,v2]) (zk a0 a1 a2 hm) ⟨c0,c1,c2,trivial⟩ (fun _ h=>by cases h)).mono fun e W' ⟨he,hb⟩=> ⟨_,he, ?_⟩
 refine Vp (t4:=4) rfl hW' ?_ ?_ ?_ rfl Tryz.underlying4 Tryz.laidOut ?_ hb
 ·rw [hds,hgs];rfl
 ·rw [hds,hgs];rfl
 ·rw [hds,hgs];rfl
 ·intro t ht
  rw [Tryz.params4]at ht
  simp at ht
  rcases ht with rfl|rfl|rfl<;>exact⟨by kernel_rfl,of_decide_eq_true (by kernel_rfl)⟩
set_option maxRecDepth 100000 in
theorem BN (os:Os) (started:os.Started) (H:Type) (enc:TypeId × Value→H):
  ReturnsInHanded {} Tryz.checked os 4 .any (Rows.topSelectiveSpec.pre6 enc Tryz.prog Tryz.f4 Rows.topSelectiveRow.domain false) (Rows.topSelectiveSpec.post enc Tryz.prog Tryz.f4 false true false false):=by
 refine returnsInHanded_of_change (C:=Tryz.checked) Tryz.own started (by kernel_rfl) Tryz.func4
  (ChangeSpec.witness6 (enc:=enc) (C:=Tryz.checked) false ⟨#[], #[.agg #[.int .i64 0, .slice none 0 0, .slice none 0 0, .slice none 0 0], .agg #[.slice none 0 0, .slice none 0 0, .slice none 0 0, .slice none 0 0, .slice none 0 0, .slice none 0 0, .slice none 0 0], .int .i64 0],[]⟩ 16 (by kernel_rfl) (by kernel_rfl) (by kernel_rfl) (by kernel_rfl)) ?_
 intro W base args ds gs before hval hW _ _
 exact zx H enc W base args ds gs before hval hW
theorem topSelective_holds:Rows.TopSelectiveSaid:=
 OpenClaim.holds_of_wide 4 Tryz.f4 rfl rfl rfl rfl rfl rfl rfl ⟨rfl,rfl,rfl,rfl,rfl⟩ rfl rfl rfl rfl rfl (by kernel_rfl) Tryz.func4 (by kernel_rfl)
  (of_decide_eq_true (by kernel_rfl)) (by unfold Func.isWrapper;first|(rw [if_pos (by decide+kernel)];kernel_rfl)|(rw [if_neg (by decide+kernel)];exact⟨rfl,rfl⟩))
  (fun os started H enc _=>BN os started H enc)
end Go.Proofs.YtfndnfioogkdaaaGreat
