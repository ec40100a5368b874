/- FlowWays: for every plant, state and bus, the law that follows the links of each short way from its source to the fault, and compares its resistance with those of the neighbours, returns true (no conditions). -/
import Derived.Test.YtpndenfhglaikaaRows
import Derived.ProofKit
import Derived.Test.YtpndenfhglaikaaLc
import Derived.Test.YtpndenfhglaikaaLd
import Derived.Test.YtpndenfhglaikaaW2
set_option linter.all false
namespace Sg
open Go Go.Proofs Go.Proofs.Ytpndenfhglaikaa Go.ChangeShapes Go.WideShapes Go.RowKit
set_option maxRecDepth 20000
theorem QC:Rd Try.prog 3 1 (aC .i64) (fun n:Int=> -9223372036854775808≤n∧n≤9223372036854775807):=Rd.int Try.underlying3 (by kernel_rfl)
theorem ait:Rd Try.prog 124 1 (aC .i64) (fun n:Int=> -9223372036854775808≤n∧n≤9223372036854775807):=Rd.int Try.underlying124 (by kernel_rfl)
def ZN (x:aj):Prop:=(fun n:Int=> -9223372036854775808≤n∧n≤9223372036854775807) x.bus∧(fun n:Int=> -9223372036854775808≤n∧n≤9223372036854775807) x.kind∧(fun n:Int=> -9223372036854775808≤n∧n≤9223372036854775807) x.cK∧(fun n:Int=> -9223372036854775808≤n∧n≤9223372036854775807) x.sync∧(fun n:Int=> -9223372036854775808≤n∧n≤9223372036854775807) x.bU
theorem ahH:Rd Try.prog 126 5 aj.cell ZN:=by
 refine⟨by kernel_rfl,fun h=> ?_⟩
 obtain⟨hl,hf⟩:=Rd.fields Try.underlying126 (n:=5) (by kernel_rfl) h
 obtain⟨a0,s0,c0⟩:=Rd.field (off:=0) QC (hf 0 _ rfl)
 obtain⟨a1,s1,c1⟩:=Rd.field (off:=1) ait (hf 1 _ rfl)
 obtain⟨a2,s2,c2⟩:=Rd.field (off:=2) QC (hf 2 _ rfl)
 obtain⟨a3,s3,c3⟩:=Rd.field (off:=3) QC (hf 3 _ rfl)
 obtain⟨a4,s4,c4⟩:=Rd.field (off:=4) QC (hf 4 _ rfl)
 exact⟨⟨a0,a1,a2,a3,a4⟩,⟨s0,s1,s2,s3,s4⟩,hl,fun j hj=>match j,hj with|0,_=>c0 0 (by decide)|1,_=>c1 0 (by decide)|2,_=>c2 0 (by decide)|3,_=>c3 0 (by decide)|4,_=>c4 0 (by decide)⟩
def ah6 (l:List aj):Prop:=l.length≤9223372036854775807∧ ∀x∈l,ZN x
theorem aiY:Rd Try.prog 22 1 (Na 5 aj.cell) ah6:=Rd.slice Try.underlying22 (by kernel_rfl) (by decide) ahH
theorem aiS:Rd Try.prog 50 1 (aC .i64) (fun n:Int=> -9223372036854775808≤n∧n≤9223372036854775807):=Rd.int Try.underlying50 (by kernel_rfl)
def Z7 (x:ic):Prop:=(fun n:Int=> -9223372036854775808≤n∧n≤9223372036854775807) x.amps∧(fun n:Int=> -9223372036854775808≤n∧n≤9223372036854775807) x.nE
theorem afw:Rd Try.prog 148 2 ic.cell Z7:=by
 refine⟨by kernel_rfl,fun h=> ?_⟩
 obtain⟨hl,hf⟩:=Rd.fields Try.underlying148 (n:=2) (by kernel_rfl) h
 obtain⟨a0,s0,c0⟩:=Rd.field (off:=0) QC (hf 0 _ rfl)
 obtain⟨a1,s1,c1⟩:=Rd.field (off:=1) QC (hf 1 _ rfl)
 exact⟨⟨a0,a1⟩,⟨s0,s1⟩,hl,fun j hj=>match j,hj with|0,_=>c0 0 (by decide)|1,_=>c1 0 (by decide)⟩
def afX (l:List ic):Prop:=l.length≤9223372036854775807∧ ∀x∈l,Z7 x
theorem aiL:Rd Try.prog 51 1 (Na 2 ic.cell) afX:=Rd.slice Try.underlying51 (by kernel_rfl) (by decide) afw
def aft (x:aM):Prop:=(fun n:Int=> -9223372036854775808≤n∧n≤9223372036854775807) x.a∧(fun n:Int=> -9223372036854775808≤n∧n≤9223372036854775807) x.b∧(fun n:Int=> -9223372036854775808≤n∧n≤9223372036854775807) x.kind∧(fun n:Int=> -9223372036854775808≤n∧n≤9223372036854775807) x.most∧(fun n:Int=> -9223372036854775808≤n∧n≤9223372036854775807) x.bU∧afX x.trip
theorem aiU:Rd Try.prog 53 6 aM.cell aft:=by
 refine⟨by kernel_rfl,fun h=> ?_⟩
 obtain⟨hl,hf⟩:=Rd.fields Try.underlying53 (n:=6) (by kernel_rfl) h
 obtain⟨a0,s0,c0⟩:=Rd.field (off:=0) QC (hf 0 _ rfl)
 obtain⟨a1,s1,c1⟩:=Rd.field (off:=1) QC (hf 1 _ rfl)
 obtain⟨a2,s2,c2⟩:=Rd.field (off:=2) aiS (hf 2 _ rfl)
 obtain⟨a3,s3,c3⟩:=Rd.field (off:=3) QC (hf 3 _ rfl)
 obtain⟨a4,s4,c4⟩:=Rd.field (off:=4) QC (hf 4 _ rfl)
 obtain⟨a5,s5,c5⟩:=Rd.field (off:=5) aiL (hf 5 _ rfl)
 exact⟨⟨a0,a1,a2,a3,a4,a5⟩,⟨s0,s1,s2,s3,s4,s5⟩,hl,fun j hj=>match j,hj with|0,_=>c0 0 (by decide)|1,_=>c1 0 (by decide)|2,_=>c2 0 (by decide)|3,_=>c3 0 (by decide)|4,_=>c4 0 (by decide)|5,_=>c5 0 (by decide)⟩
def agw (l:List aM):Prop:=l.length≤9223372036854775807∧ ∀x∈l,aft x
theorem aiQ:Rd Try.prog 23 1 (Na 6 aM.cell) agw:=Rd.slice Try.underlying23 (by kernel_rfl) (by decide) aiU
def ZU (x:ah):Prop:=(fun n:Int=> -9223372036854775808≤n∧n≤9223372036854775807) x.e0∧(fun n:Int=> -9223372036854775808≤n∧n≤9223372036854775807) x.e1
theorem afe:Rd Try.prog 164 2 ah.cell ZU:=by
 refine⟨by kernel_rfl,fun h=> ?_⟩
 obtain⟨hl,hf⟩:=Rd.elems Try.underlying164 (n:=2) (by kernel_rfl) h
 obtain⟨a0,s0,c0⟩:=Rd.field (off:=0) QC (hf 0 (by decide))
 obtain⟨a1,s1,c1⟩:=Rd.field (off:=1) QC (hf 1 (by decide))
 exact⟨⟨a0,a1⟩,⟨s0,s1⟩,hl,fun j hj=>match j,hj with|0,_=>c0 0 (by decide)|1,_=>c1 0 (by decide)⟩
def ZR (x:aK):Prop:=ZU x.bY∧(fun n:Int=> -9223372036854775808≤n∧n≤9223372036854775807) x.cK∧(fun n:Int=> -9223372036854775808≤n∧n≤9223372036854775807) x.uT
theorem adA:Rd Try.prog 166 4 aK.cell ZR:=by
 refine⟨by kernel_rfl,fun h=> ?_⟩
 obtain⟨hl,hf⟩:=Rd.fields Try.underlying166 (n:=4) (by kernel_rfl) h
 obtain⟨a0,s0,c0⟩:=Rd.field (off:=0) afe (hf 0 _ rfl)
 obtain⟨a1,s1,c1⟩:=Rd.field (off:=2) QC (hf 1 _ rfl)
 obtain⟨a2,s2,c2⟩:=Rd.field (off:=3) QC (hf 2 _ rfl)
 exact⟨⟨a0,a1,a2⟩,⟨s0,s1,s2⟩,hl,fun j hj=>match j,hj with|0,_=>c0 0 (by decide)|1,_=>c0 1 (by decide)|2,_=>c1 0 (by decide)|3,_=>c2 0 (by decide)⟩
def aeW (l:List aK):Prop:=l.length≤9223372036854775807∧ ∀x∈l,ZR x
theorem ajb:Rd Try.prog 24 1 (Na 4 aK.cell) aeW:=Rd.slice Try.underlying24 (by kernel_rfl) (by decide) adA
def aiR (x:au):Prop:=(fun n:Int=> -9223372036854775808≤n∧n≤9223372036854775807) x.ax∧ah6 x.ai∧agw x.af∧aeW x.aF
theorem ai4:Rd Try.prog 26 4 au.cell aiR:=by
 refine⟨by kernel_rfl,fun h=> ?_⟩
 obtain⟨hl,hf⟩:=Rd.fields Try.underlying26 (n:=4) (by kernel_rfl) h
 obtain⟨a0,s0,c0⟩:=Rd.field (off:=0) QC (hf 0 _ rfl)
 obtain⟨a1,s1,c1⟩:=Rd.field (off:=1) aiY (hf 1 _ rfl)
 obtain⟨a2,s2,c2⟩:=Rd.field (off:=2) aiQ (hf 2 _ rfl)
 obtain⟨a3,s3,c3⟩:=Rd.field (off:=3) ajb (hf 3 _ rfl)
 exact⟨⟨a0,a1,a2,a3⟩,⟨s0,s1,s2,s3⟩,hl,fun j hj=>match j,hj with|0,_=>c0 0 (by decide)|1,_=>c1 0 (by decide)|2,_=>c2 0 (by decide)|3,_=>c3 0 (by decide)⟩
theorem rd4:Rd Try.prog 4 1 aD (fun _:Bool=>True):=Rd.bool Try.underlying4 (by kernel_rfl)
def PN (l:List Bool):Prop:=l.length≤9223372036854775807∧ ∀x∈l,(fun _:Bool=>True) x
theorem RG:Rd Try.prog 27 1 (Na 1 aD) PN:=Rd.slice Try.underlying27 (by kernel_rfl) (by decide) rd4
def aiO (x:ay):Prop:=PN x.bK∧PN x.fe∧PN x.bG∧PN x.on_∧PN x.bL∧PN x.fq∧PN x.aG
theorem ai8:Rd Try.prog 29 7 ay.cell aiO:=by
 refine⟨by kernel_rfl,fun h=> ?_⟩
 obtain⟨hl,hf⟩:=Rd.fields Try.underlying29 (n:=7) (by kernel_rfl) h
 obtain⟨a0,s0,c0⟩:=Rd.field (off:=0) RG (hf 0 _ rfl)
 obtain⟨a1,s1,c1⟩:=Rd.field (off:=1) RG (hf 1 _ rfl)
 obtain⟨a2,s2,c2⟩:=Rd.field (off:=2) RG (hf 2 _ rfl)
 obtain⟨a3,s3,c3⟩:=Rd.field (off:=3) RG (hf 3 _ rfl)
 obtain⟨a4,s4,c4⟩:=Rd.field (off:=4) RG (hf 4 _ rfl)
 obtain⟨a5,s5,c5⟩:=Rd.field (off:=5) RG (hf 5 _ rfl)
 obtain⟨a6,s6,c6⟩:=Rd.field (off:=6) RG (hf 6 _ rfl)
 exact⟨⟨a0,a1,a2,a3,a4,a5,a6⟩,⟨s0,s1,s2,s3,s4,s5,s6⟩,hl,fun j hj=>match j,hj with|0,_=>c0 0 (by decide)|1,_=>c1 0 (by decide)|2,_=>c2 0 (by decide)|3,_=>c3 0 (by decide)|4,_=>c4 0 (by decide)|5,_=>c5 0 (by decide)|6,_=>c6 0 (by decide)⟩
end Sg
namespace Go.Proofs.Ytpndenfhglaikaa
open Sg Go.ChangeShapes Go.WideShapes Go.ChangeAt Go.RowKit
theorem Try.own:ownKnob Try.prog.godebug=none:=by kernel_rfl
theorem Try.laidOut:laidOutB Try.prog=true:=by kernel_rfl
set_option maxRecDepth 100000 in
theorem GA (H:Type) (enc:TypeId × Value→H) (W:World) (base:Nat) (args:Array Value) (ds gs:List (DataW H)) (before:List MemPlace)
  (hval: ∀(j:Nat) t v,Try.f11.params[j]? =some t→args[j]? =some v→Value.okWide Try.prog W .any base t v)
  (hW:DataW.Whole enc Try.prog Try.f11.params.toList Rows.flowWaysSpec.vars false W args.toList ds gs before):
  Calls Try.prog 11 args W fun e W'=> ∃v,e= .returned v∧Rows.flowWaysSpec.post enc Try.prog Try.f11 false true false false W args v W':=by
 have hW':=hW
 obtain⟨p,q,hA0,hV,rfl,hfz,hnd⟩:=hW
 have hA:DataW.TrodAll enc Try.prog W 0 (fun _=>true) true Try.f11.params.toList args.toList ds p:=hA0
 rw [Try.params11]at hA hval
 obtain⟨v0,l0,d0,e0,p0,q0,hv0,hd0,hp0,h0,r0⟩:=trodAll_cons hA
 obtain⟨v1,l1,d1,e1,p1,q1,hv1,hd1,hp1,h1,r1⟩:=trodAll_cons r0
 obtain⟨v2,l2,d2,e2,p2,q2,hv2,hd2,hp2,h2,r2⟩:=trodAll_cons r1
 obtain⟨hvz,hdz,hpz⟩:=trodAll_nil r2
 have hgs:=(trodVars_none hV).1
 have hargs:args= #[v0,v1,v2]:=by
  have:args.toList=[v0,v1,v2]:=by rw [hv0,hv1,hv2,hvz]
  cases args;simp at this;rw [this]
 have hds:ds=[d0,d1,d2]:=by rw [hd0,hd1,hd2,hdz]
 subst hargs
 obtain⟨a0,s0,c0⟩:=Rd.agg ai4 Try.underlying26 (hval 0 26 v0 rfl rfl) h0
 obtain⟨a1,s1,c1⟩:=Rd.agg ai8 Try.underlying29 (hval 1 29 v1 rfl rfl) h1
 obtain⟨a2,s2,c2⟩:=Rd.one QC (Y9 Try.underlying3 (hval 2 3 v2 rfl rfl)) h2
 have hm:ku a0 a1 a2=some true:=Ll a0 a1 a2 ⟨s0.2.1.1,s0.2.2.1.1,s0.2.2.2.1,fun x hx=>(s0.2.2.1.2 x hx).2.2.2.2.2.1⟩
 refine(Te (vs:=[v0,v1,v2]) (D9 a0 a1 a2 hm) ⟨c0,c1,c2,trivial⟩).mono fun e W' ⟨he,hb⟩=> ⟨_,he, ?_⟩
 refine WB (t4:=4) rfl hW' ?_ ?_ ?_ rfl Try.underlying4 Try.laidOut ?_ hb
 ·rw [hds,hgs];rfl
 ·rw [hds,hgs];rfl
 ·rw [hds,hgs];rfl
 ·intro t ht
  rw [Try.params11]at ht
  simp at ht
  rcases ht with rfl|rfl|rfl<;>exact⟨by kernel_rfl,of_decide_eq_true (by kernel_rfl)⟩
set_option maxRecDepth 100000 in
theorem Jj (os:Os) (started:os.Started) (H:Type) (enc:TypeId × Value→H):
  ReturnsInHanded {} Try.checked os 11 .any (Rows.flowWaysSpec.pre6 enc Try.prog Try.f11 Rows.flowWaysRow.domain false) (Rows.flowWaysSpec.post enc Try.prog Try.f11 false true false false):=by
 refine returnsInHanded_of_change (C:=Try.checked) Try.own started (by kernel_rfl) Try.func11
  (ChangeSpec.witness6 (enc:=enc) (C:=Try.checked) false ⟨#[], #[.agg #[.int .i64 0, .slice none 0 0, .slice none 0 0, .slice none 0 0], .agg #[.slice none 0 0, .slice none 0 0, .slice none 0 0, .slice none 0 0, .slice none 0 0, .slice none 0 0, .slice none 0 0], .int .i64 0],[]⟩ 16 (by kernel_rfl) (by kernel_rfl) (by kernel_rfl) (by kernel_rfl)) ?_
 intro W base args ds gs before hval hW _ _
 exact GA H enc W base args ds gs before hval hW
theorem flowWays_holds:Rows.FlowWaysSaid:=
 OpenClaim.holds_of_wide 11 Try.f11 rfl rfl rfl rfl rfl rfl rfl ⟨rfl,rfl,rfl,rfl,rfl⟩ rfl rfl rfl rfl rfl (by kernel_rfl) Try.func11 (by kernel_rfl)
  (of_decide_eq_true (by kernel_rfl)) (by unfold Func.isWrapper;first|(rw [if_pos (by decide+kernel)];kernel_rfl)|(rw [if_neg (by decide+kernel)];exact⟨rfl,rfl⟩))
  (fun os started H enc _=>Jj os started H enc)
end Go.Proofs.Ytpndenfhglaikaa
