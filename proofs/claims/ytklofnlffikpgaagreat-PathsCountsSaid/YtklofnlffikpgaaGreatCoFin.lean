/- PathsCounts: for every plant, state, rack and list of ways, the law that compares strength, critical parts and ways with the reference returns true (no conditions). -/
import Derived.Test.YtklofnlffikpgaaGreatRows
import Derived.ProofKit
import Derived.Test.YtklofnlffikpgaaGreatCoLg
import Derived.Test.YtklofnlffikpgaaGreatCoLh
import Derived.Test.YtklofnlffikpgaaGreatCoW3
set_option linter.all false
namespace Sg
open Go Go.Proofs Go.Proofs.YtklofnlffikpgaaGreat Go.ChangeShapes Go.WideShapes Go.RowKit
set_option maxRecDepth 20000
theorem MX:Rz Tryz.prog 3 1 (aH .i64) (fun n:Int=> -9223372036854775808<=n/\n<=9223372036854775807):=(Rd.int Tryz.underlying3 (by kernel_rfl)).z
theorem aal:Rz Tryz.prog 123 1 (aH .i64) (fun n:Int=> -9223372036854775808<=n/\n<=9223372036854775807):=(Rd.int Tryz.underlying123 (by kernel_rfl)).z
def XB (x:Source):Prop:=(fun n:Int=> -9223372036854775808<=n/\n<=9223372036854775807) x.bus/\(fun n:Int=> -9223372036854775808<=n/\n<=9223372036854775807) x.kind/\(fun n:Int=> -9223372036854775808<=n/\n<=9223372036854775807) x.power/\(fun n:Int=> -9223372036854775808<=n/\n<=9223372036854775807) x.bp/\(fun n:Int=> -9223372036854775808<=n/\n<=9223372036854775807) x.ohm
theorem abr:Rz Tryz.prog 125 5 Source.cell XB:=by
 refine⟨by kernel_rfl,fun h hz=> ?_⟩
 obtain⟨hl,hf⟩:=Rz.fields Tryz.underlying125 (n:=5) (by kernel_rfl) h hz
 obtain⟨a0,s0,c0⟩:=Rz.field (off:=0) MX (hf 0 _ rfl)
 obtain⟨a1,s1,c1⟩:=Rz.field (off:=1) aal (hf 1 _ rfl)
 obtain⟨a2,s2,c2⟩:=Rz.field (off:=2) MX (hf 2 _ rfl)
 obtain⟨a3,s3,c3⟩:=Rz.field (off:=3) MX (hf 3 _ rfl)
 obtain⟨a4,s4,c4⟩:=Rz.field (off:=4) MX (hf 4 _ rfl)
 exact⟨⟨a0,a1,a2,a3,a4⟩,⟨s0,s1,s2,s3,s4⟩,hl,fun j hj=>match j,hj with|0,_=>c0 0 (by decide)|1,_=>c1 0 (by decide)|2,_=>c2 0 (by decide)|3,_=>c3 0 (by decide)|4,_=>c4 0 (by decide)⟩
def abN (l:List Source):Prop:=l.length<=9223372036854775807/\(∀x∈l,XB x)/\l.length*40<=140737488351232
theorem acv:Rz Tryz.prog 22 1 (wC 5 Source.cell) abN:=Rz.slice Tryz.underlying22 (by kernel_rfl) (by decide) (b:=40) (by kernel_rfl) abr
theorem ZR:Rz Tryz.prog 110 1 (aH .i64) (fun n:Int=> -9223372036854775808<=n/\n<=9223372036854775807):=(Rd.int Tryz.underlying110 (by kernel_rfl)).z
def XJ (x:kJ):Prop:=(fun n:Int=> -9223372036854775808<=n/\n<=9223372036854775807) x.br/\(fun n:Int=> -9223372036854775808<=n/\n<=9223372036854775807) x.bj
theorem abj:Rz Tryz.prog 211 2 kJ.cell XJ:=by
 refine⟨by kernel_rfl,fun h hz=> ?_⟩
 obtain⟨hl,hf⟩:=Rz.fields Tryz.underlying211 (n:=2) (by kernel_rfl) h hz
 obtain⟨a0,s0,c0⟩:=Rz.field (off:=0) MX (hf 0 _ rfl)
 obtain⟨a1,s1,c1⟩:=Rz.field (off:=1) MX (hf 1 _ rfl)
 exact⟨⟨a0,a1⟩,⟨s0,s1⟩,hl,fun j hj=>match j,hj with|0,_=>c0 0 (by decide)|1,_=>c1 0 (by decide)⟩
def XD (l:List kJ):Prop:=l.length<=9223372036854775807/\(∀x∈l,XJ x)/\l.length*16<=140737488351232
theorem aaz:Rz Tryz.prog 111 1 (wC 2 kJ.cell) XD:=Rz.slice Tryz.underlying111 (by kernel_rfl) (by decide) (b:=16) (by kernel_rfl) abj
def XA (x:Link):Prop:=(fun n:Int=> -9223372036854775808<=n/\n<=9223372036854775807) x.a/\(fun n:Int=> -9223372036854775808<=n/\n<=9223372036854775807) x.b/\(fun n:Int=> -9223372036854775808<=n/\n<=9223372036854775807) x.kind/\(fun n:Int=> -9223372036854775808<=n/\n<=9223372036854775807) x.most/\(fun n:Int=> -9223372036854775808<=n/\n<=9223372036854775807) x.ohm/\XD x.trip
theorem ZM:Rz Tryz.prog 113 6 Link.cell XA:=by
 refine⟨by kernel_rfl,fun h hz=> ?_⟩
 obtain⟨hl,hf⟩:=Rz.fields Tryz.underlying113 (n:=6) (by kernel_rfl) h hz
 obtain⟨a0,s0,c0⟩:=Rz.field (off:=0) MX (hf 0 _ rfl)
 obtain⟨a1,s1,c1⟩:=Rz.field (off:=1) MX (hf 1 _ rfl)
 obtain⟨a2,s2,c2⟩:=Rz.field (off:=2) ZR (hf 2 _ rfl)
 obtain⟨a3,s3,c3⟩:=Rz.field (off:=3) MX (hf 3 _ rfl)
 obtain⟨a4,s4,c4⟩:=Rz.field (off:=4) MX (hf 4 _ rfl)
 obtain⟨a5,s5,c5⟩:=Rz.field (off:=5) aaz (hf 5 _ rfl)
 exact⟨⟨a0,a1,a2,a3,a4,a5⟩,⟨s0,s1,s2,s3,s4,s5⟩,hl,fun j hj=>match j,hj with|0,_=>c0 0 (by decide)|1,_=>c1 0 (by decide)|2,_=>c2 0 (by decide)|3,_=>c3 0 (by decide)|4,_=>c4 0 (by decide)|5,_=>c5 0 (by decide)⟩
def ZY (l:List Link):Prop:=l.length<=9223372036854775807/\(∀x∈l,XA x)/\l.length*64<=140737488351232
theorem acV:Rz Tryz.prog 23 1 (wC 6 Link.cell) ZY:=Rz.slice Tryz.underlying23 (by kernel_rfl) (by decide) (b:=64) (by kernel_rfl) ZM
def aat (x:aB):Prop:=(fun n:Int=> -9223372036854775808<=n/\n<=9223372036854775807) x.e0/\(fun n:Int=> -9223372036854775808<=n/\n<=9223372036854775807) x.e1
theorem acD:Rz Tryz.prog 44 2 aB.cell aat:=by
 refine⟨by kernel_rfl,fun h hz=> ?_⟩
 obtain⟨hl,hf⟩:=Rz.elems Tryz.underlying44 (n:=2) (by kernel_rfl) h hz
 obtain⟨a0,s0,c0⟩:=Rz.field (off:=0) MX (hf 0 (by decide))
 obtain⟨a1,s1,c1⟩:=Rz.field (off:=1) MX (hf 1 (by decide))
 exact⟨⟨a0,a1⟩,⟨s0,s1⟩,hl,fun j hj=>match j,hj with|0,_=>c0 0 (by decide)|1,_=>c1 0 (by decide)⟩
def XF (x:aL):Prop:=aat x.ba/\(fun n:Int=> -9223372036854775808<=n/\n<=9223372036854775807) x.power/\(fun n:Int=> -9223372036854775808<=n/\n<=9223372036854775807) x.bm
theorem aar:Rz Tryz.prog 100 4 aL.cell XF:=by
 refine⟨by kernel_rfl,fun h hz=> ?_⟩
 obtain⟨hl,hf⟩:=Rz.fields Tryz.underlying100 (n:=4) (by kernel_rfl) h hz
 obtain⟨a0,s0,c0⟩:=Rz.field (off:=0) acD (hf 0 _ rfl)
 obtain⟨a1,s1,c1⟩:=Rz.field (off:=2) MX (hf 1 _ rfl)
 obtain⟨a2,s2,c2⟩:=Rz.field (off:=3) MX (hf 2 _ rfl)
 exact⟨⟨a0,a1,a2⟩,⟨s0,s1,s2⟩,hl,fun j hj=>match j,hj with|0,_=>c0 0 (by decide)|1,_=>c0 1 (by decide)|2,_=>c1 0 (by decide)|3,_=>c2 0 (by decide)⟩
def ZJ (l:List aL):Prop:=l.length<=9223372036854775807/\(∀x∈l,XF x)/\l.length*32<=140737488351232
theorem acU:Rz Tryz.prog 24 1 (wC 4 aL.cell) ZJ:=Rz.slice Tryz.underlying24 (by kernel_rfl) (by decide) (b:=32) (by kernel_rfl) aar
def acg (x:ah):Prop:=(fun n:Int=> -9223372036854775808<=n/\n<=9223372036854775807) x.ap/\abN x.aa/\ZY x.ae/\ZJ x.a_
theorem acz:Rz Tryz.prog 26 4 ah.cell acg:=by
 refine⟨by kernel_rfl,fun h hz=> ?_⟩
 obtain⟨hl,hf⟩:=Rz.fields Tryz.underlying26 (n:=4) (by kernel_rfl) h hz
 obtain⟨a0,s0,c0⟩:=Rz.field (off:=0) MX (hf 0 _ rfl)
 obtain⟨a1,s1,c1⟩:=Rz.field (off:=1) acv (hf 1 _ rfl)
 obtain⟨a2,s2,c2⟩:=Rz.field (off:=2) acV (hf 2 _ rfl)
 obtain⟨a3,s3,c3⟩:=Rz.field (off:=3) acU (hf 3 _ rfl)
 exact⟨⟨a0,a1,a2,a3⟩,⟨s0,s1,s2,s3⟩,hl,fun j hj=>match j,hj with|0,_=>c0 0 (by decide)|1,_=>c1 0 (by decide)|2,_=>c2 0 (by decide)|3,_=>c3 0 (by decide)⟩
theorem rd4:Rz Tryz.prog 4 1 af (fun _:Bool=>True):=(Rd.bool Tryz.underlying4 (by kernel_rfl)).z
def ME (l:List Bool):Prop:=l.length<=9223372036854775807/\(∀x∈l,(fun _:Bool=>True) x)/\l.length*1<=140737488351232
theorem NY:Rz Tryz.prog 27 1 (wC 1 af) ME:=Rz.slice Tryz.underlying27 (by kernel_rfl) (by decide) (b:=1) (by kernel_rfl) rd4
def acN (x:State):Prop:=ME x.aq/\ME x.aw/\ME x.am/\ME x.on_/\ME x.ag/\ME x.ar/\ME x.al
theorem acX:Rz Tryz.prog 29 7 State.cell acN:=by
 refine⟨by kernel_rfl,fun h hz=> ?_⟩
 obtain⟨hl,hf⟩:=Rz.fields Tryz.underlying29 (n:=7) (by kernel_rfl) h hz
 obtain⟨a0,s0,c0⟩:=Rz.field (off:=0) NY (hf 0 _ rfl)
 obtain⟨a1,s1,c1⟩:=Rz.field (off:=1) NY (hf 1 _ rfl)
 obtain⟨a2,s2,c2⟩:=Rz.field (off:=2) NY (hf 2 _ rfl)
 obtain⟨a3,s3,c3⟩:=Rz.field (off:=3) NY (hf 3 _ rfl)
 obtain⟨a4,s4,c4⟩:=Rz.field (off:=4) NY (hf 4 _ rfl)
 obtain⟨a5,s5,c5⟩:=Rz.field (off:=5) NY (hf 5 _ rfl)
 obtain⟨a6,s6,c6⟩:=Rz.field (off:=6) NY (hf 6 _ rfl)
 exact⟨⟨a0,a1,a2,a3,a4,a5,a6⟩,⟨s0,s1,s2,s3,s4,s5,s6⟩,hl,fun j hj=>match j,hj with|0,_=>c0 0 (by decide)|1,_=>c1 0 (by decide)|2,_=>c2 0 (by decide)|3,_=>c3 0 (by decide)|4,_=>c4 0 (by decide)|5,_=>c5 0 (by decide)|6,_=>c6 0 (by decide)⟩
theorem acR:Rz Tryz.prog 82 1 (aH .i64) (fun n:Int=> -9223372036854775808<=n/\n<=9223372036854775807):=(Rd.int Tryz.underlying82 (by kernel_rfl)).z
def aam (x:Part):Prop:=(fun n:Int=> -9223372036854775808<=n/\n<=9223372036854775807) x.kind/\(fun n:Int=> -9223372036854775808<=n/\n<=9223372036854775807) x.index
theorem acO:Rz Tryz.prog 84 2 Part.cell aam:=by
 refine⟨by kernel_rfl,fun h hz=> ?_⟩
 obtain⟨hl,hf⟩:=Rz.fields Tryz.underlying84 (n:=2) (by kernel_rfl) h hz
 obtain⟨a0,s0,c0⟩:=Rz.field (off:=0) acR (hf 0 _ rfl)
 obtain⟨a1,s1,c1⟩:=Rz.field (off:=1) MX (hf 1 _ rfl)
 exact⟨⟨a0,a1⟩,⟨s0,s1⟩,hl,fun j hj=>match j,hj with|0,_=>c0 0 (by decide)|1,_=>c1 0 (by decide)⟩
def aau (l:List Part):Prop:=l.length<=9223372036854775807/\(∀x∈l,aam x)/\l.length*16<=140737488351232
theorem acZ:Rz Tryz.prog 48 1 (wC 2 Part.cell) aau:=Rz.slice Tryz.underlying48 (by kernel_rfl) (by decide) (b:=16) (by kernel_rfl) acO
def acn (l:List (List Part)):Prop:=l.length<=9223372036854775807/\(∀x∈l,aau x)/\l.length*24<=140737488351232
theorem acw:Rz Tryz.prog 61 1 (wC 1 (wC 2 Part.cell)) acn:=Rz.slice Tryz.underlying61 (by kernel_rfl) (by decide) (b:=24) (by kernel_rfl) acZ
end Sg
namespace Go.Proofs.YtklofnlffikpgaaGreat
open Sg Go.ChangeShapes Go.WideShapes Go.ChangeAt Go.RowKit
theorem Tryz.own:ownKnob Tryz.prog.godebug=none:=by kernel_rfl
theorem Tryz.laidOut:laidOutB Tryz.prog=true:=by kernel_rfl
set_option maxRecDepth 100000 in
theorem zJ (H:Type) (enc:TypeId × Value->H) (W:World) (base:Nat) (args:Array Value) (ds gs:List (DataW H)) (before:List MemPlace)
  (hval: ∀(j:Nat) t v,Tryz.f5.params[j]? =some t->args[j]? =some v->Value.okWide Tryz.prog W .any base t v)
  (hW:DataW.Whole enc Tryz.prog Tryz.f5.params.toList Rows.pathsCountsSpec.vars false W args.toList ds gs before)
  (hsz:(DataW.weightsEach Tryz.prog (Tryz.f5.params.toList++Rows.pathsCountsSpec.plain.varTypes Tryz.prog) (ds++gs)).all (· <=reachBytes)=true):
  Calls Tryz.prog 5 args W fun e W'=> ∃v,e= .returned v/\Rows.pathsCountsSpec.post enc Tryz.prog Tryz.f5 false true false false W args v W':=by
 have hW':=hW
 obtain⟨p,q,hA0,hV,rfl,hfz,hnd⟩:=hW
 have hA:DataW.TrodAll enc Tryz.prog W 0 (fun _=>true) true Tryz.f5.params.toList args.toList ds p:=hA0
 rw [Tryz.params5]at hA hval
 obtain⟨v0,l0,d0,e0,p0,q0,hv0,hd0,hp0,h0,r0⟩:=trodAll_cons hA
 obtain⟨v1,l1,d1,e1,p1,q1,hv1,hd1,hp1,h1,r1⟩:=trodAll_cons r0
 obtain⟨v2,l2,d2,e2,p2,q2,hv2,hd2,hp2,h2,r2⟩:=trodAll_cons r1
 obtain⟨v3,l3,d3,e3,p3,q3,hv3,hd3,hp3,h3,r3⟩:=trodAll_cons r2
 obtain⟨hvz,hdz,hpz⟩:=trodAll_nil r3
 have hgs:=(trodVars_none hV).1
 have hargs:args= #[v0,v1,v2,v3]:=by
  have:args.toList=[v0,v1,v2,v3]:=by rw [hv0,hv1,hv2,hv3,hvz]
  cases args;simp at this;rw [this]
 have hds:ds=[d0,d1,d2,d3]:=by rw [hd0,hd1,hd2,hd3,hdz]
 subst hargs
 have hsz1:(DataW.weightsEach Tryz.prog [26,29,3,61] [d0,d1,d2,d3]).all (fun x=>decide (x<=reachBytes))=true:=by rw [hds,hgs,Tryz.params5]at hsz;exact hsz
 obtain⟨a0,s0,c0⟩:=Rz.agg acz Tryz.underlying26 (hval 0 26 v0 rfl rfl) h0 (fun q hq=>of_decide_eq_true (List.all_eq_true.1 hsz1 q (DataW.weights_mem_each (j:=0) rfl rfl q hq)))
 obtain⟨a1,s1,c1⟩:=Rz.agg acX Tryz.underlying29 (hval 1 29 v1 rfl rfl) h1 (fun q hq=>of_decide_eq_true (List.all_eq_true.1 hsz1 q (DataW.weights_mem_each (j:=1) rfl rfl q hq)))
 obtain⟨a2,s2,c2⟩:=Rz.one MX (Wy Tryz.underlying3 (hval 2 3 v2 rfl rfl)) h2 (fun q hq=>of_decide_eq_true (List.all_eq_true.1 hsz1 q (DataW.weights_mem_each (j:=2) rfl rfl q hq)))
 obtain⟨a3,s3,c3⟩:=Rz.one acw (Rc Tryz.underlying61 (hval 3 61 v3 rfl rfl)) h3 (fun q hq=>of_decide_eq_true (List.all_eq_true.1 hsz1 q (DataW.weights_mem_each (j:=3) rfl rfl q hq)))
 have hm:jP a0 a1 a2 a3=some true:=Ei a0 a1 a2 a3 ⟨s0.2.1.1,s0.2.2.1.1,s0.2.2.2.1,fun x hx=>(s0.2.2.1.2.1 x hx).2.2.2.2.2.1⟩ (fun x hx=>by have:=(s0.2.2.1.2.1 x hx).2.2.2.2.2.2.2;omega) ⟨by have:=s1.1.2.2;omega,by have:=s1.2.1.2.2;omega,by have:=s1.2.2.1.2.2;omega,by have:=s1.2.2.2.1.2.2;omega,by have:=s1.2.2.2.2.1.2.2;omega,by have:=s1.2.2.2.2.2.1.2.2;omega,by have:=s1.2.2.2.2.2.2.2.2;omega⟩ s3.1
 refine(Qi (vs:=[v0,v1,v2,v3]) (xS a0 a1 a2 a3 hm) ⟨c0,c1,c2,c3,trivial⟩ (fun _ h=>by cases h)).mono fun e W' ⟨he,hb⟩=> ⟨_,he, ?_⟩
 refine U8 (t4:=4) rfl hW' ?_ ?_ ?_ rfl Tryz.underlying4 Tryz.laidOut ?_ hb
 ·rw [hds,hgs];rfl
 ·rw [hds,hgs];rfl
 ·rw [hds,hgs];rfl
 ·intro t ht
  rw [Tryz.params5]at ht
  simp at ht
  rcases ht with rfl|rfl|rfl|rfl<;>exact⟨by kernel_rfl,of_decide_eq_true (by kernel_rfl)⟩
set_option maxRecDepth 100000 in
theorem Bh (os:Os) (started:os.Started) (H:Type) (enc:TypeId × Value->H):
  ReturnsInHanded {} Tryz.checked os 5 .any (Rows.pathsCountsSpec.pre6 enc Tryz.prog Tryz.f5 Rows.pathsCountsRow.domain false) (Rows.pathsCountsSpec.post enc Tryz.prog Tryz.f5 false true false false):=by
 refine returnsInHanded_of_change_sized (C:=Tryz.checked) Tryz.own started (by kernel_rfl) Tryz.func5
  (ChangeSpec.witness6 (enc:=enc) (C:=Tryz.checked) false ⟨#[], #[.agg #[.int .i64 0, .slice none 0 0, .slice none 0 0, .slice none 0 0], .agg #[.slice none 0 0, .slice none 0 0, .slice none 0 0, .slice none 0 0, .slice none 0 0, .slice none 0 0, .slice none 0 0], .int .i64 0, .slice none 0 0],[]⟩ 16 (by kernel_rfl) (by kernel_rfl) (by kernel_rfl) (by kernel_rfl)) ?_
 intro W base args ds gs before hval hW _ hsz _
 exact zJ H enc W base args ds gs before hval hW hsz
theorem pathsCounts_holds:Rows.PathsCountsSaid:=
 OpenClaim.holds_of_wide 5 Tryz.f5 rfl rfl rfl rfl rfl rfl rfl ⟨rfl,rfl,rfl,rfl,rfl⟩ rfl rfl rfl rfl rfl (by kernel_rfl) Tryz.func5 (by kernel_rfl)
  (of_decide_eq_true (by kernel_rfl)) (by unfold Func.isWrapper;first|(rw [cj (by decide+kernel)];kernel_rfl)|(rw [ci (by decide+kernel)];exact⟨rfl,rfl⟩))
  (fun os started H enc _=>Bh os started H enc)
end Go.Proofs.YtklofnlffikpgaaGreat
