/- GuardClears: for every plant, state and bus, the law that compares how a fault is cleared, whether selectively, and what is lost with the reference returns true (no conditions). -/
import Derived.Test.YtpndenfhglaikaaGreatRows
import Derived.ProofKit
import Derived.Test.YtpndenfhglaikaaGreatLd
import Derived.Test.YtpndenfhglaikaaGreatLe
import Derived.Test.YtpndenfhglaikaaGreatW2
set_option linter.all false
namespace Sg
open Go Go.Proofs Go.Proofs.YtpndenfhglaikaaGreat Go.ChangeShapes Go.WideShapes Go.RowKit
set_option maxRecDepth 20000
theorem U4:Rd Tryz.prog 3 1 (aC .i64) (fun n:Int=> -9223372036854775808≤n∧n≤9223372036854775807):=Rd.int Tryz.underlying3 (by kernel_rfl)
theorem anL:Rd Tryz.prog 58 1 (aC .i64) (fun n:Int=> -9223372036854775808≤n∧n≤9223372036854775807):=Rd.int Tryz.underlying58 (by kernel_rfl)
def ajR (x:Source):Prop:=(fun n:Int=> -9223372036854775808≤n∧n≤9223372036854775807) x.bus∧(fun n:Int=> -9223372036854775808≤n∧n≤9223372036854775807) x.kind∧(fun n:Int=> -9223372036854775808≤n∧n≤9223372036854775807) x.power∧(fun n:Int=> -9223372036854775808≤n∧n≤9223372036854775807) x.sync∧(fun n:Int=> -9223372036854775808≤n∧n≤9223372036854775807) x.bK
theorem an6:Rd Tryz.prog 60 5 Source.cell ajR:=by
 refine⟨by kernel_rfl,fun h=> ?_⟩
 obtain⟨hl,hf⟩:=Rd.fields Tryz.underlying60 (n:=5) (by kernel_rfl) h
 obtain⟨a0,s0,c0⟩:=Rd.field (off:=0) U4 (hf 0 _ rfl)
 obtain⟨a1,s1,c1⟩:=Rd.field (off:=1) anL (hf 1 _ rfl)
 obtain⟨a2,s2,c2⟩:=Rd.field (off:=2) U4 (hf 2 _ rfl)
 obtain⟨a3,s3,c3⟩:=Rd.field (off:=3) U4 (hf 3 _ rfl)
 obtain⟨a4,s4,c4⟩:=Rd.field (off:=4) U4 (hf 4 _ rfl)
 exact⟨⟨a0,a1,a2,a3,a4⟩,⟨s0,s1,s2,s3,s4⟩,hl,fun j hj=>match j,hj with|0,_=>c0 0 (by decide)|1,_=>c1 0 (by decide)|2,_=>c2 0 (by decide)|3,_=>c3 0 (by decide)|4,_=>c4 0 (by decide)⟩
def aic (l:List Source):Prop:=l.length≤9223372036854775807∧ ∀x∈l,ajR x
theorem anx:Rd Tryz.prog 22 1 (slC 5 Source.cell) aic:=Rd.slice Tryz.underlying22 (by kernel_rfl) (by decide) an6
theorem anO:Rd Tryz.prog 61 1 (aC .i64) (fun n:Int=> -9223372036854775808≤n∧n≤9223372036854775807):=Rd.int Tryz.underlying61 (by kernel_rfl)
def akS (x:bP):Prop:=(fun n:Int=> -9223372036854775808≤n∧n≤9223372036854775807) x.amps∧(fun n:Int=> -9223372036854775808≤n∧n≤9223372036854775807) x.millis
theorem anz:Rd Tryz.prog 63 2 bP.cell akS:=by
 refine⟨by kernel_rfl,fun h=> ?_⟩
 obtain⟨hl,hf⟩:=Rd.fields Tryz.underlying63 (n:=2) (by kernel_rfl) h
 obtain⟨a0,s0,c0⟩:=Rd.field (off:=0) U4 (hf 0 _ rfl)
 obtain⟨a1,s1,c1⟩:=Rd.field (off:=1) U4 (hf 1 _ rfl)
 exact⟨⟨a0,a1⟩,⟨s0,s1⟩,hl,fun j hj=>match j,hj with|0,_=>c0 0 (by decide)|1,_=>c1 0 (by decide)⟩
def aiI (l:List bP):Prop:=l.length≤9223372036854775807∧ ∀x∈l,akS x
theorem an7:Rd Tryz.prog 64 1 (slC 2 bP.cell) aiI:=Rd.slice Tryz.underlying64 (by kernel_rfl) (by decide) anz
def ajI (x:Link):Prop:=(fun n:Int=> -9223372036854775808≤n∧n≤9223372036854775807) x.a∧(fun n:Int=> -9223372036854775808≤n∧n≤9223372036854775807) x.b∧(fun n:Int=> -9223372036854775808≤n∧n≤9223372036854775807) x.kind∧(fun n:Int=> -9223372036854775808≤n∧n≤9223372036854775807) x.most∧(fun n:Int=> -9223372036854775808≤n∧n≤9223372036854775807) x.bK∧aiI x.trip
theorem anu:Rd Tryz.prog 66 6 Link.cell ajI:=by
 refine⟨by kernel_rfl,fun h=> ?_⟩
 obtain⟨hl,hf⟩:=Rd.fields Tryz.underlying66 (n:=6) (by kernel_rfl) h
 obtain⟨a0,s0,c0⟩:=Rd.field (off:=0) U4 (hf 0 _ rfl)
 obtain⟨a1,s1,c1⟩:=Rd.field (off:=1) U4 (hf 1 _ rfl)
 obtain⟨a2,s2,c2⟩:=Rd.field (off:=2) anO (hf 2 _ rfl)
 obtain⟨a3,s3,c3⟩:=Rd.field (off:=3) U4 (hf 3 _ rfl)
 obtain⟨a4,s4,c4⟩:=Rd.field (off:=4) U4 (hf 4 _ rfl)
 obtain⟨a5,s5,c5⟩:=Rd.field (off:=5) an7 (hf 5 _ rfl)
 exact⟨⟨a0,a1,a2,a3,a4,a5⟩,⟨s0,s1,s2,s3,s4,s5⟩,hl,fun j hj=>match j,hj with|0,_=>c0 0 (by decide)|1,_=>c1 0 (by decide)|2,_=>c2 0 (by decide)|3,_=>c3 0 (by decide)|4,_=>c4 0 (by decide)|5,_=>c5 0 (by decide)⟩
def akj (l:List Link):Prop:=l.length≤9223372036854775807∧ ∀x∈l,ajI x
theorem anR:Rd Tryz.prog 23 1 (slC 6 Link.cell) akj:=Rd.slice Tryz.underlying23 (by kernel_rfl) (by decide) anu
def aje (x:bL):Prop:=(fun n:Int=> -9223372036854775808≤n∧n≤9223372036854775807) x.e0∧(fun n:Int=> -9223372036854775808≤n∧n≤9223372036854775807) x.e1
theorem anv:Rd Tryz.prog 69 2 bL.cell aje:=by
 refine⟨by kernel_rfl,fun h=> ?_⟩
 obtain⟨hl,hf⟩:=Rd.elems Tryz.underlying69 (n:=2) (by kernel_rfl) h
 obtain⟨a0,s0,c0⟩:=Rd.field (off:=0) U4 (hf 0 (by decide))
 obtain⟨a1,s1,c1⟩:=Rd.field (off:=1) U4 (hf 1 (by decide))
 exact⟨⟨a0,a1⟩,⟨s0,s1⟩,hl,fun j hj=>match j,hj with|0,_=>c0 0 (by decide)|1,_=>c1 0 (by decide)⟩
def aml (x:aJ):Prop:=aje x.feeds∧(fun n:Int=> -9223372036854775808≤n∧n≤9223372036854775807) x.power∧(fun n:Int=> -9223372036854775808≤n∧n≤9223372036854775807) x.paths
theorem an2:Rd Tryz.prog 71 4 aJ.cell aml:=by
 refine⟨by kernel_rfl,fun h=> ?_⟩
 obtain⟨hl,hf⟩:=Rd.fields Tryz.underlying71 (n:=4) (by kernel_rfl) h
 obtain⟨a0,s0,c0⟩:=Rd.field (off:=0) anv (hf 0 _ rfl)
 obtain⟨a1,s1,c1⟩:=Rd.field (off:=2) U4 (hf 1 _ rfl)
 obtain⟨a2,s2,c2⟩:=Rd.field (off:=3) U4 (hf 2 _ rfl)
 exact⟨⟨a0,a1,a2⟩,⟨s0,s1,s2⟩,hl,fun j hj=>match j,hj with|0,_=>c0 0 (by decide)|1,_=>c0 1 (by decide)|2,_=>c1 0 (by decide)|3,_=>c2 0 (by decide)⟩
def aj1 (l:List aJ):Prop:=l.length≤9223372036854775807∧ ∀x∈l,aml x
theorem anw:Rd Tryz.prog 24 1 (slC 4 aJ.cell) aj1:=Rd.slice Tryz.underlying24 (by kernel_rfl) (by decide) an2
def anX (x:ah):Prop:=(fun n:Int=> -9223372036854775808≤n∧n≤9223372036854775807) x.buses∧aic x.sources∧akj x.links∧aj1 x.racks
theorem an3:Rd Tryz.prog 26 4 ah.cell anX:=by
 refine⟨by kernel_rfl,fun h=> ?_⟩
 obtain⟨hl,hf⟩:=Rd.fields Tryz.underlying26 (n:=4) (by kernel_rfl) h
 obtain⟨a0,s0,c0⟩:=Rd.field (off:=0) U4 (hf 0 _ rfl)
 obtain⟨a1,s1,c1⟩:=Rd.field (off:=1) anx (hf 1 _ rfl)
 obtain⟨a2,s2,c2⟩:=Rd.field (off:=2) anR (hf 2 _ rfl)
 obtain⟨a3,s3,c3⟩:=Rd.field (off:=3) anw (hf 3 _ rfl)
 exact⟨⟨a0,a1,a2,a3⟩,⟨s0,s1,s2,s3⟩,hl,fun j hj=>match j,hj with|0,_=>c0 0 (by decide)|1,_=>c1 0 (by decide)|2,_=>c2 0 (by decide)|3,_=>c3 0 (by decide)⟩
theorem rd4:Rd Tryz.prog 4 1 af (fun _:Bool=>True):=Rd.bool Tryz.underlying4 (by kernel_rfl)
def RZ (l:List Bool):Prop:=l.length≤9223372036854775807∧ ∀x∈l,(fun _:Bool=>True) x
theorem VJ:Rd Tryz.prog 27 1 (slC 1 af) RZ:=Rd.slice Tryz.underlying27 (by kernel_rfl) (by decide) rd4
def anQ (x:State):Prop:=RZ x.closed∧RZ x.locked∧RZ x.badLink∧RZ x.on_∧RZ x.badSource∧RZ x.earthed∧RZ x.badBus
theorem anA:Rd Tryz.prog 29 7 State.cell anQ:=by
 refine⟨by kernel_rfl,fun h=> ?_⟩
 obtain⟨hl,hf⟩:=Rd.fields Tryz.underlying29 (n:=7) (by kernel_rfl) h
 obtain⟨a0,s0,c0⟩:=Rd.field (off:=0) VJ (hf 0 _ rfl)
 obtain⟨a1,s1,c1⟩:=Rd.field (off:=1) VJ (hf 1 _ rfl)
 obtain⟨a2,s2,c2⟩:=Rd.field (off:=2) VJ (hf 2 _ rfl)
 obtain⟨a3,s3,c3⟩:=Rd.field (off:=3) VJ (hf 3 _ rfl)
 obtain⟨a4,s4,c4⟩:=Rd.field (off:=4) VJ (hf 4 _ rfl)
 obtain⟨a5,s5,c5⟩:=Rd.field (off:=5) VJ (hf 5 _ rfl)
 obtain⟨a6,s6,c6⟩:=Rd.field (off:=6) VJ (hf 6 _ rfl)
 exact⟨⟨a0,a1,a2,a3,a4,a5,a6⟩,⟨s0,s1,s2,s3,s4,s5,s6⟩,hl,fun j hj=>match j,hj with|0,_=>c0 0 (by decide)|1,_=>c1 0 (by decide)|2,_=>c2 0 (by decide)|3,_=>c3 0 (by decide)|4,_=>c4 0 (by decide)|5,_=>c5 0 (by decide)|6,_=>c6 0 (by decide)⟩
end Sg
namespace Go.Proofs.YtpndenfhglaikaaGreat
open Sg Go.ChangeShapes Go.WideShapes Go.ChangeAt Go.RowKit
theorem Tryz.own:ownKnob Tryz.prog.godebug=none:=by kernel_rfl
theorem Tryz.laidOut:laidOutB Tryz.prog=true:=by kernel_rfl
set_option maxRecDepth 100000 in
theorem Ee (H:Type) (enc:TypeId × Value→H) (W:World) (base:Nat) (args:Array Value) (ds gs:List (DataW H)) (before:List MemPlace)
  (hval: ∀(j:Nat) t v,Tryz.f3.params[j]? =some t→args[j]? =some v→Value.okWide Tryz.prog W .any base t v)
  (hW:DataW.Whole enc Tryz.prog Tryz.f3.params.toList Rows.guardClearsSpec.vars false W args.toList ds gs before)
  (hsz:(DataW.weightsEach Tryz.prog (Tryz.f3.params.toList++Rows.guardClearsSpec.plain.varTypes Tryz.prog) (ds++gs)).all (· ≤reachBytes)=true):
  Calls Tryz.prog 3 args W fun e W'=> ∃v,e= .returned v∧Rows.guardClearsSpec.post enc Tryz.prog Tryz.f3 false true false false W args v W':=by
 have hW':=hW
 obtain⟨p,q,hA0,hV,rfl,hfz,hnd⟩:=hW
 have hA:DataW.TrodAll enc Tryz.prog W 0 (fun _=>true) true Tryz.f3.params.toList args.toList ds p:=hA0
 rw [Tryz.params3]at hA hval
 obtain⟨v0,l0,d0,e0,p0,q0,hv0,hd0,hp0,h0,r0⟩:=trodAll_cons hA
 obtain⟨v1,l1,d1,e1,p1,q1,hv1,hd1,hp1,h1,r1⟩:=trodAll_cons r0
 obtain⟨v2,l2,d2,e2,p2,q2,hv2,hd2,hp2,h2,r2⟩:=trodAll_cons r1
 obtain⟨hvz,hdz,hpz⟩:=trodAll_nil r2
 have hgs:=(trodVars_none hV).1
 have hargs:args= #[v0,v1,v2]:=by
  have:args.toList=[v0,v1,v2]:=by rw [hv0,hv1,hv2,hvz]
  cases args;simp at this;rw [this]
 have hds:ds=[d0,d1,d2]:=by rw [hd0,hd1,hd2,hdz]
 subst hargs
 obtain⟨a0,s0,c0⟩:=Rd.agg an3 Tryz.underlying26 (hval 0 26 v0 rfl rfl) h0
 obtain⟨a1,s1,c1⟩:=Rd.agg anA Tryz.underlying29 (hval 1 29 v1 rfl rfl) h1
 obtain⟨a2,s2,c2⟩:=Rd.one U4 (adf Tryz.underlying3 (hval 2 3 v2 rfl rfl)) h2
 have hsz1:(DataW.weightsEach Tryz.prog [26,29,3] [d0,d1,d2]).all (fun x=>decide (x≤reachBytes))=true:=by rw [hds,hgs,Tryz.params3]at hsz;exact hsz
 have w1: ∀q∈d1.weights Tryz.prog 29,q≤reachBytes:=fun q hq=>of_decide_eq_true (List.all_eq_true.1 hsz1 q (DataW.weights_mem_each (j:=1) rfl rfl q hq))
 have z1_0:a1.closed.length*Tryz.prog.bytesOf 4≤reachBytes:=BI Tryz.underlying29 h1 w1 (i:=0) rfl Tryz.underlying27 (by kernel_rfl) (xB c1 (j:=0) rfl)
 rw [show Tryz.prog.bytesOf 4=1 from by kernel_rfl]at z1_0
 have z1_1:a1.locked.length*Tryz.prog.bytesOf 4≤reachBytes:=BI Tryz.underlying29 h1 w1 (i:=1) rfl Tryz.underlying27 (by kernel_rfl) (xB c1 (j:=1) rfl)
 rw [show Tryz.prog.bytesOf 4=1 from by kernel_rfl]at z1_1
 have z1_2:a1.badLink.length*Tryz.prog.bytesOf 4≤reachBytes:=BI Tryz.underlying29 h1 w1 (i:=2) rfl Tryz.underlying27 (by kernel_rfl) (xB c1 (j:=2) rfl)
 rw [show Tryz.prog.bytesOf 4=1 from by kernel_rfl]at z1_2
 have z1_3:a1.on_.length*Tryz.prog.bytesOf 4≤reachBytes:=BI Tryz.underlying29 h1 w1 (i:=3) rfl Tryz.underlying27 (by kernel_rfl) (xB c1 (j:=3) rfl)
 rw [show Tryz.prog.bytesOf 4=1 from by kernel_rfl]at z1_3
 have z1_4:a1.badSource.length*Tryz.prog.bytesOf 4≤reachBytes:=BI Tryz.underlying29 h1 w1 (i:=4) rfl Tryz.underlying27 (by kernel_rfl) (xB c1 (j:=4) rfl)
 rw [show Tryz.prog.bytesOf 4=1 from by kernel_rfl]at z1_4
 have z1_5:a1.earthed.length*Tryz.prog.bytesOf 4≤reachBytes:=BI Tryz.underlying29 h1 w1 (i:=5) rfl Tryz.underlying27 (by kernel_rfl) (xB c1 (j:=5) rfl)
 rw [show Tryz.prog.bytesOf 4=1 from by kernel_rfl]at z1_5
 have z1_6:a1.badBus.length*Tryz.prog.bytesOf 4≤reachBytes:=BI Tryz.underlying29 h1 w1 (i:=6) rfl Tryz.underlying27 (by kernel_rfl) (xB c1 (j:=6) rfl)
 rw [show Tryz.prog.bytesOf 4=1 from by kernel_rfl]at z1_6
 simp only [reachBytes,Nat.mul_one]at z1_0 z1_1 z1_2 z1_3 z1_4 z1_5 z1_6
 have hm:jl a0 a1 a2=some true:=Ji a0 a1 a2 ⟨s0.2.1.1,s0.2.2.1.1,s0.2.2.2.1,fun x hx=>(s0.2.2.1.2 x hx).2.2.2.2.2.1⟩ s0.1.2 ⟨z1_0,z1_1,z1_2,z1_3,z1_4,z1_5,z1_6⟩
 refine(Zm (vs:=[v0,v1,v2]) (BB a0 a1 a2 hm) ⟨c0,c1,c2,trivial⟩).mono fun e W' ⟨he,hb⟩=> ⟨_,he, ?_⟩
 refine abf (t4:=4) rfl hW' ?_ ?_ ?_ rfl Tryz.underlying4 Tryz.laidOut ?_ hb
 ·rw [hds,hgs];rfl
 ·rw [hds,hgs];rfl
 ·rw [hds,hgs];rfl
 ·intro t ht
  rw [Tryz.params3]at ht
  simp at ht
  rcases ht with rfl|rfl|rfl<;>exact⟨by kernel_rfl,of_decide_eq_true (by kernel_rfl)⟩
set_option maxRecDepth 100000 in
theorem Gy (os:Os) (started:os.Started) (H:Type) (enc:TypeId × Value→H):
  ReturnsInHanded {} Tryz.checked os 3 .any (Rows.guardClearsSpec.pre6 enc Tryz.prog Tryz.f3 Rows.guardClearsRow.domain false) (Rows.guardClearsSpec.post enc Tryz.prog Tryz.f3 false true false false):=by
 refine returnsInHanded_of_change_sized (C:=Tryz.checked) Tryz.own started (by kernel_rfl) Tryz.func3
  (ChangeSpec.witness6 (enc:=enc) (C:=Tryz.checked) false ⟨#[], #[.agg #[.int .i64 0, .slice none 0 0, .slice none 0 0, .slice none 0 0], .agg #[.slice none 0 0, .slice none 0 0, .slice none 0 0, .slice none 0 0, .slice none 0 0, .slice none 0 0, .slice none 0 0], .int .i64 0],[]⟩ 16 (by kernel_rfl) (by kernel_rfl) (by kernel_rfl) (by kernel_rfl)) ?_
 intro W base args ds gs before hval hW _ hsz _
 exact Ee H enc W base args ds gs before hval hW hsz
theorem guardClears_holds:Rows.GuardClearsSaid:=
 OpenClaim.holds_of_wide 3 Tryz.f3 rfl rfl rfl rfl rfl rfl rfl ⟨rfl,rfl,rfl,rfl,rfl⟩ rfl rfl rfl rfl rfl (by kernel_rfl) Tryz.func3 (by kernel_rfl)
  (of_decide_eq_true (by kernel_rfl)) (by unfold Func.isWrapper;first|(rw [if_pos (by decide+kernel)];kernel_rfl)|(rw [if_neg (by decide+kernel)];exact⟨rfl,rfl⟩))
  (fun os started H enc _=>Gy os started H enc)
end Go.Proofs.YtpndenfhglaikaaGreat
