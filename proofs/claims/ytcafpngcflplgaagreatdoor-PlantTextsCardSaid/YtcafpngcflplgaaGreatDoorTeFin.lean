/- The plant printed, parsed, shown and read by the program and by the reference alike. -/
import Derived.Test.YtcafpngcflplgaaGreatDoorCards
import Derived.Test.YtcafpngcflplgaaGreatDoorTie
import Derived.ProofKit
import Derived.Lay
import Derived.Stop.LaidErr
import Derived.Lib.LaidTab
import Derived.Lib.ItoaNum
import Derived.Test.YtcafpngcflplgaaGreatDoorTeLg
import Derived.Test.YtcafpngcflplgaaGreatDoorTeLh
import Derived.Test.YtcafpngcflplgaaGreatDoorTeW3
set_option linter.all false
namespace Sg
open Go Go.Proofs Go.Proofs.YtcafpngcflplgaaGreatDoor Go.ChangeShapes Go.WideShapes Go.RowKit
set_option maxRecDepth 20000
theorem NT:Rd Tryz.prog 3 1 (aS .i64) (fun n:Int=> -9223372036854775808<=n/\n<=9223372036854775807):=Rd.int Tryz.underlying3 (by kernel_rfl)
theorem abn:Rd Tryz.prog 65 1 (aS .i64) (fun n:Int=> -9223372036854775808<=n/\n<=9223372036854775807):=Rd.int Tryz.underlying65 (by kernel_rfl)
def YF (x:Source):Prop:=(fun n:Int=> -9223372036854775808<=n/\n<=9223372036854775807) x.bus/\(fun n:Int=> -9223372036854775808<=n/\n<=9223372036854775807) x.kind/\(fun n:Int=> -9223372036854775808<=n/\n<=9223372036854775807) x.power/\(fun n:Int=> -9223372036854775808<=n/\n<=9223372036854775807) x.br/\(fun n:Int=> -9223372036854775808<=n/\n<=9223372036854775807) x.ohm
theorem ab7:Rd Tryz.prog 67 5 Source.cell YF:=by
 refine⟨by kernel_rfl,fun h=> ?_⟩;obtain⟨hl,hf⟩:=Rd.fields Tryz.underlying67 (n:=5) (by kernel_rfl) h;obtain⟨a0,s0,c0⟩:=Rd.field (off:=0) NT (hf 0 _ rfl);obtain⟨a1,s1,c1⟩:=Rd.field (off:=1) abn (hf 1 _ rfl);obtain⟨a2,s2,c2⟩:=Rd.field (off:=2) NT (hf 2 _ rfl);obtain⟨a3,s3,c3⟩:=Rd.field (off:=3) NT (hf 3 _ rfl);obtain⟨a4,s4,c4⟩:=Rd.field (off:=4) NT (hf 4 _ rfl);exact⟨⟨a0,a1,a2,a3,a4⟩,⟨s0,s1,s2,s3,s4⟩,hl,fun j hj=>match j,hj with|0,_=>c0 0 (by decide)|1,_=>c1 0 (by decide)|2,_=>c2 0 (by decide)|3,_=>c3 0 (by decide)|4,_=>c4 0 (by decide)⟩
def YO (l:List Source):Prop:=l.length<=9223372036854775807/\ ∀x∈l,YF x
theorem abk:Rd Tryz.prog 23 1 (YA 5 Source.cell) YO:=Rd.slice Tryz.underlying23 (by kernel_rfl) (by decide) ab7
theorem abm:Rd Tryz.prog 68 1 (aS .i64) (fun n:Int=> -9223372036854775808<=n/\n<=9223372036854775807):=Rd.int Tryz.underlying68 (by kernel_rfl)
def aau (x:aQ):Prop:=(fun n:Int=> -9223372036854775808<=n/\n<=9223372036854775807) x.bp/\(fun n:Int=> -9223372036854775808<=n/\n<=9223372036854775807) x.bi
theorem abX:Rd Tryz.prog 70 2 aQ.cell aau:=by
 refine⟨by kernel_rfl,fun h=> ?_⟩;obtain⟨hl,hf⟩:=Rd.fields Tryz.underlying70 (n:=2) (by kernel_rfl) h;obtain⟨a0,s0,c0⟩:=Rd.field (off:=0) NT (hf 0 _ rfl);obtain⟨a1,s1,c1⟩:=Rd.field (off:=1) NT (hf 1 _ rfl);exact⟨⟨a0,a1⟩,⟨s0,s1⟩,hl,fun j hj=>match j,hj with|0,_=>c0 0 (by decide)|1,_=>c1 0 (by decide)⟩
def Zy (l:List aQ):Prop:=l.length<=9223372036854775807/\ ∀x∈l,aau x
theorem abr:Rd Tryz.prog 71 1 (YA 2 aQ.cell) Zy:=Rd.slice Tryz.underlying71 (by kernel_rfl) (by decide) abX
def aaW (x:Link):Prop:=(fun n:Int=> -9223372036854775808<=n/\n<=9223372036854775807) x.a/\(fun n:Int=> -9223372036854775808<=n/\n<=9223372036854775807) x.b/\(fun n:Int=> -9223372036854775808<=n/\n<=9223372036854775807) x.kind/\(fun n:Int=> -9223372036854775808<=n/\n<=9223372036854775807) x.most/\(fun n:Int=> -9223372036854775808<=n/\n<=9223372036854775807) x.ohm/\Zy x.trip
theorem abM:Rd Tryz.prog 73 6 Link.cell aaW:=by
 refine⟨by kernel_rfl,fun h=> ?_⟩;obtain⟨hl,hf⟩:=Rd.fields Tryz.underlying73 (n:=6) (by kernel_rfl) h;obtain⟨a0,s0,c0⟩:=Rd.field (off:=0) NT (hf 0 _ rfl);obtain⟨a1,s1,c1⟩:=Rd.field (off:=1) NT (hf 1 _ rfl);obtain⟨a2,s2,c2⟩:=Rd.field (off:=2) abm (hf 2 _ rfl);obtain⟨a3,s3,c3⟩:=Rd.field (off:=3) NT (hf 3 _ rfl);obtain⟨a4,s4,c4⟩:=Rd.field (off:=4) NT (hf 4 _ rfl);obtain⟨a5,s5,c5⟩:=Rd.field (off:=5) abr (hf 5 _ rfl);exact⟨⟨a0,a1,a2,a3,a4,a5⟩,⟨s0,s1,s2,s3,s4,s5⟩,hl,fun j hj=>match j,hj with|0,_=>c0 0 (by decide)|1,_=>c1 0 (by decide)|2,_=>c2 0 (by decide)|3,_=>c3 0 (by decide)|4,_=>c4 0 (by decide)|5,_=>c5 0 (by decide)⟩
def ZN (l:List Link):Prop:=l.length<=9223372036854775807/\ ∀x∈l,aaW x
theorem abj:Rd Tryz.prog 24 1 (YA 6 Link.cell) ZN:=Rd.slice Tryz.underlying24 (by kernel_rfl) (by decide) abM
def ZH (x:aC):Prop:=(fun n:Int=> -9223372036854775808<=n/\n<=9223372036854775807) x.e0/\(fun n:Int=> -9223372036854775808<=n/\n<=9223372036854775807) x.e1
theorem abL:Rd Tryz.prog 74 2 aC.cell ZH:=by
 refine⟨by kernel_rfl,fun h=> ?_⟩;obtain⟨hl,hf⟩:=Rd.elems Tryz.underlying74 (n:=2) (by kernel_rfl) h;obtain⟨a0,s0,c0⟩:=Rd.field (off:=0) NT (hf 0 (by decide));obtain⟨a1,s1,c1⟩:=Rd.field (off:=1) NT (hf 1 (by decide));exact⟨⟨a0,a1⟩,⟨s0,s1⟩,hl,fun j hj=>match j,hj with|0,_=>c0 0 (by decide)|1,_=>c1 0 (by decide)⟩
def Zt (x:aF):Prop:=ZH x.bh/\(fun n:Int=> -9223372036854775808<=n/\n<=9223372036854775807) x.power/\(fun n:Int=> -9223372036854775808<=n/\n<=9223372036854775807) x.bk
theorem abK:Rd Tryz.prog 76 4 aF.cell Zt:=by
 refine⟨by kernel_rfl,fun h=> ?_⟩;obtain⟨hl,hf⟩:=Rd.fields Tryz.underlying76 (n:=4) (by kernel_rfl) h;obtain⟨a0,s0,c0⟩:=Rd.field (off:=0) abL (hf 0 _ rfl);obtain⟨a1,s1,c1⟩:=Rd.field (off:=2) NT (hf 1 _ rfl);obtain⟨a2,s2,c2⟩:=Rd.field (off:=3) NT (hf 2 _ rfl);exact⟨⟨a0,a1,a2⟩,⟨s0,s1,s2⟩,hl,fun j hj=>match j,hj with|0,_=>c0 0 (by decide)|1,_=>c0 1 (by decide)|2,_=>c1 0 (by decide)|3,_=>c2 0 (by decide)⟩
def Za (l:List aF):Prop:=l.length<=9223372036854775807/\ ∀x∈l,Zt x
theorem abT:Rd Tryz.prog 25 1 (YA 4 aF.cell) Za:=Rd.slice Tryz.underlying25 (by kernel_rfl) (by decide) abK
def ab2 (x:ah):Prop:=(fun n:Int=> -9223372036854775808<=n/\n<=9223372036854775807) x.ae/\YO x.aa/\ZN x.ac/\Za x.am
theorem abt:Rd Tryz.prog 27 4 ah.cell ab2:=by
 refine⟨by kernel_rfl,fun h=> ?_⟩;obtain⟨hl,hf⟩:=Rd.fields Tryz.underlying27 (n:=4) (by kernel_rfl) h;obtain⟨a0,s0,c0⟩:=Rd.field (off:=0) NT (hf 0 _ rfl);obtain⟨a1,s1,c1⟩:=Rd.field (off:=1) abk (hf 1 _ rfl);obtain⟨a2,s2,c2⟩:=Rd.field (off:=2) abj (hf 2 _ rfl);obtain⟨a3,s3,c3⟩:=Rd.field (off:=3) abT (hf 3 _ rfl);exact⟨⟨a0,a1,a2,a3⟩,⟨s0,s1,s2,s3⟩,hl,fun j hj=>match j,hj with|0,_=>c0 0 (by decide)|1,_=>c1 0 (by decide)|2,_=>c2 0 (by decide)|3,_=>c3 0 (by decide)⟩
theorem rd4:Rd Tryz.prog 4 1 af (fun _:Bool=>True):=Rd.bool Tryz.underlying4 (by kernel_rfl)
def Mt (l:List Bool):Prop:=l.length<=9223372036854775807/\ ∀x∈l,(fun _:Bool=>True) x
theorem NA:Rd Tryz.prog 33 1 (YA 1 af) Mt:=Rd.slice Tryz.underlying33 (by kernel_rfl) (by decide) rd4
def abg (x:State):Prop:=Mt x.a_/\Mt x.ba/\Mt x.aq/\Mt x.on_/\Mt x.ag/\Mt x.aw/\Mt x.ap
theorem abG:Rd Tryz.prog 35 7 State.cell abg:=by
 refine⟨by kernel_rfl,fun h=> ?_⟩;obtain⟨hl,hf⟩:=Rd.fields Tryz.underlying35 (n:=7) (by kernel_rfl) h;obtain⟨a0,s0,c0⟩:=Rd.field (off:=0) NA (hf 0 _ rfl);obtain⟨a1,s1,c1⟩:=Rd.field (off:=1) NA (hf 1 _ rfl);obtain⟨a2,s2,c2⟩:=Rd.field (off:=2) NA (hf 2 _ rfl);obtain⟨a3,s3,c3⟩:=Rd.field (off:=3) NA (hf 3 _ rfl);obtain⟨a4,s4,c4⟩:=Rd.field (off:=4) NA (hf 4 _ rfl);obtain⟨a5,s5,c5⟩:=Rd.field (off:=5) NA (hf 5 _ rfl);obtain⟨a6,s6,c6⟩:=Rd.field (off:=6) NA (hf 6 _ rfl);exact⟨⟨a0,a1,a2,a3,a4,a5,a6⟩,⟨s0,s1,s2,s3,s4,s5,s6⟩,hl,fun j hj=>match j,hj with|0,_=>c0 0 (by decide)|1,_=>c1 0 (by decide)|2,_=>c2 0 (by decide)|3,_=>c3 0 (by decide)|4,_=>c4 0 (by decide)|5,_=>c5 0 (by decide)|6,_=>c6 0 (by decide)⟩
theorem rd9:Rd Tryz.prog 9 1 dh (fun _:ByteArray=>True):=Rd.str Tryz.underlying9 (by kernel_rfl)
end Sg
namespace Go.Proofs.YtcafpngcflplgaaGreatDoor
open Sg Go.ChangeShapes Go.WideShapes Go.ChangeAt Go.RowKit
theorem Tryz.own:ownKnob Tryz.prog.godebug=none:=by kernel_rfl
theorem Tryz.laidOut:laidOutB Tryz.prog=true:=by kernel_rfl
theorem Tryz.star: "*" ++ "errors.errorString" = "*errors.errorString" :=by decide
theorem Tryz.Tc (u:TypeId) (h:Tryz.prog.typeName? 3 u=some "*errors.errorString"):u=261:=
 typeName_ptr_named (nm:= "errors.errorString") (by rw [Tryz.star];kernel_rfl) (by kernel_rfl) (by decide) u (by rw [Tryz.star];exact h)
theorem Tryz.gl {W:World} (hL:laidMet Tryz.prog Rows.plantTextsRow.laid W) (hsh:W.ShapedOpen Tryz.prog):GL (Ez W) W:=by
 have h1:Lib.TabIs Tryz.prog W "internal/strconv.uint64pow10" .u64 Lib.pow10Tab:=Lib.tabIs_of_head (name:= "internal/strconv.uint64pow10") (k:= .u64) (zs:=Lib.pow10Tab) (g:=1) (t:=236) (e:=198) (n:=20) (by kernel_rfl) (by kernel_rfl) Tryz.underlying236 Tryz.underlying198 (by kernel_rfl) (by kernel_rfl) (laidMet.tail (laidMet.tail hL));obtain⟨a5,_,h5,_⟩:=laid_sentinel (n:= "strconv.ErrRange") (g:=5) (laidMet.tail (laidMet.tail (laidMet.tail (laidMet.tail hL)))) (by kernel_rfl) (by kernel_rfl) Tryz.underlying122 Tryz.Tc Tryz.underlying261 Tryz.underlying263 rfl rfl Tryz.underlying9 (by kernel_rfl) (by kernel_rfl);obtain⟨a4,_,h4,_⟩:=laid_sentinel (n:= "strconv.ErrSyntax") (g:=4) (laidMet.tail (laidMet.tail (laidMet.tail (laidMet.tail (laidMet.tail hL))))) (by kernel_rfl) (by kernel_rfl) Tryz.underlying122 Tryz.Tc Tryz.underlying261 Tryz.underlying263 rfl rfl Tryz.underlying9 (by kernel_rfl) (by kernel_rfl);obtain⟨m,h0⟩:=Ry (g:=0) (t:=3) (zero:= #[.int .i64 0]) hsh (of_decide_eq_true (by kernel_rfl)) (by kernel_rfl) rfl (by kernel_rfl) (by kernel_rfl) Tryz.underlying3;obtain⟨l1,E1,z1,k1⟩:=Hl (g:=1) (by kernel_rfl) h1;obtain⟨l4,E4,z4,k4⟩:=Hl (g:=4) (by kernel_rfl) h4;obtain⟨l5,E5,z5,k5⟩:=Hl (g:=5) (by kernel_rfl) h5;intro x hx;unfold Ra at hx;simp only [ej,List.not_mem_nil,or_false]at hx;rcases hx with rfl|rfl|rfl|rfl;·exact⟨l1,_,E1,z1,k1,by rw [Lib.pow10Tab,List.map_map];rfl⟩
 ·exact⟨(Array.getElem?_eq_some_iff.1 h0).1,_,_,_,h0,m,rfl⟩
 ·exact⟨l4,_,E4,z4,k4,_,_,rfl⟩
 ·exact⟨l5,_,E5,z5,k5,_,_,rfl⟩
set_option maxRecDepth 100000 in
theorem yS (H:Type) (enc:TypeId × Value->H) (W:World) (base:Nat) (args:Array Value) (ds gs:List (DataW H)) (before:List MemPlace)
  (hval: ∀(j:Nat) t v,Tryz.f4.params[j]? =some t->args[j]? =some v->Value.okWide Tryz.prog W .any base t v)
  (hW:DataW.Whole enc Tryz.prog Tryz.f4.params.toList Rows.plantTextsSpec.vars false W args.toList ds gs before)
  (hL:laidMet Tryz.prog Rows.plantTextsRow.laid W) (hsh:W.ShapedOpen Tryz.prog):
  Calls Tryz.prog 4 args W fun e W'=> ∃v,e= .returned v/\Rows.plantTextsSpec.post enc Tryz.prog Tryz.f4 false true false false W args v W':=by
 have hW':=hW;obtain⟨p,q,hA0,hV,rfl,hfz,hnd⟩:=hW;have hA:DataW.TrodAll enc Tryz.prog W 0 (fun _=>true) true Tryz.f4.params.toList args.toList ds p:=hA0;rw [Tryz.params4]at hA hval;obtain⟨v0,l0,d0,e0,p0,q0,hv0,hd0,hp0,h0,r0⟩:=trodAll_cons hA;obtain⟨v1,l1,d1,e1,p1,q1,hv1,hd1,hp1,h1,r1⟩:=trodAll_cons r0;obtain⟨v2,l2,d2,e2,p2,q2,hv2,hd2,hp2,h2,r2⟩:=trodAll_cons r1;obtain⟨v3,l3,d3,e3,p3,q3,hv3,hd3,hp3,h3,r3⟩:=trodAll_cons r2;obtain⟨hvz,hdz,hpz⟩:=trodAll_nil r3;have hgs:=(trodVars_none hV).1;have hargs:args= #[v0,v1,v2,v3]:=by
  have:args.toList=[v0,v1,v2,v3]:=by rw [hv0,hv1,hv2,hv3,hvz]
  cases args;simp at this;rw [this]
 have hds:ds=[d0,d1,d2,d3]:=by rw [hd0,hd1,hd2,hd3,hdz]
 subst hargs;obtain⟨a0,s0,c0⟩:=Rd.agg abt Tryz.underlying27 (hval 0 27 v0 rfl rfl) h0;obtain⟨a1,s1,c1⟩:=Rd.agg abG Tryz.underlying35 (hval 1 35 v1 rfl rfl) h1;obtain⟨a2,s2,c2⟩:=Rd.one rd9 (EQ Tryz.underlying9 (hval 2 9 v2 rfl rfl)) h2;obtain⟨a3,s3,c3⟩:=Rd.one rd9 (EQ Tryz.underlying9 (hval 3 9 v3 rfl rfl)) h3;have hm:kr a0 a1 a2 a3=some true:=EG a0 a1 a2 a3 ⟨s0.2.1.1,s0.2.2.1.1,s0.2.2.2.1,fun x hx=>(s0.2.2.1.2 x hx).2.2.2.2.2.1⟩;refine(QF (vs:=[v0,v1,v2,v3]) (wM a0 a1 a2 a3 hm) ⟨c0,c1,c2,c3,trivial⟩ (Tryz.gl hL hsh)).mono fun e W' ⟨he,hb⟩=> ⟨_,he, ?_⟩;refine TK (t4:=4) rfl hW' ?_ ?_ ?_ rfl Tryz.underlying4 Tryz.laidOut ?_ hb;·rw [hds,hgs];rfl
 ·rw [hds,hgs];rfl
 ·rw [hds,hgs];rfl
 ·intro t ht;rw [Tryz.params4]at ht;simp at ht;rcases ht with rfl|rfl|rfl|rfl<;>exact⟨by kernel_rfl,of_decide_eq_true (by kernel_rfl)⟩
set_option maxRecDepth 100000 in
theorem Ba (os:Os) (started:os.Started) (H:Type) (enc:TypeId × Value->H):
  ReturnsInHanded {} Tryz.checked os 4 .any (fun w args=>(Rows.plantTextsSpec.pre enc Tryz.prog Tryz.f4 [] false w args/\laidMetH Tryz.prog Rows.plantTextsRow.laid w)/\sizedMet enc Tryz.prog Tryz.f4 (OpenSpec.ofChange Rows.plantTextsSpec) false w args)
   (Rows.plantTextsSpec.post enc Tryz.prog Tryz.f4 false true false false):=by
 refine Kl (C:=Tryz.checked) (X:=fun w _=>laidMetH Tryz.prog Rows.plantTextsRow.laid w) (fun _ _ _ hh h=>h.of_heap hh) Tryz.own started (by kernel_rfl) Tryz.func4
  (ChangeSpec.witness_shaped (enc:=enc) (C:=Tryz.checked) (os:=os) (X:=fun w _=>laidMetH Tryz.prog Rows.plantTextsRow.laid w) false (World.laidAll Tryz.prog os Rows.plantTextsRow.laid) #[.agg #[.int .i64 0, .slice none 0 0, .slice none 0 0, .slice none 0 0], .agg #[.slice none 0 0, .slice none 0 0, .slice none 0 0, .slice none 0 0, .slice none 0 0, .slice none 0 0, .slice none 0 0], .string ⟨#[]⟩, .string ⟨#[]⟩] 16 (World.laidAll_os _ _ _)
   (World.shaped_of_ZipB (by kernel_rfl) (by kernel_rfl)) (by kernel_rfl) (by kernel_rfl) (by kernel_rfl)
   (by rw [MakeChecks.laidMetH_plain _ _ _ (by kernel_rfl)];exact laidMet_laidAll _ (by kernel_rfl) (by kernel_rfl))) ?_
 intro W base args ds gs before hval hW hL hsh;rw [MakeChecks.laidMetH_plain _ _ _ (by kernel_rfl)]at hL;exact yS H enc W base args ds gs before hval hW hL hsh
theorem Ff:Rows.plantTextsRow.holds Tryz.pinned (OpenSpec.ofChange Rows.plantTextsSpec):=
 OpenClaim.holds_of_wide 4 Tryz.f4 rfl rfl rfl rfl rfl rfl rfl ⟨rfl,rfl,rfl,rfl,rfl⟩ rfl rfl rfl rfl rfl (by kernel_rfl) Tryz.func4 (by kernel_rfl)
  (of_decide_eq_true (by kernel_rfl)) (by unfold Func.isWrapper;first|(rw [cj (by decide+kernel)];kernel_rfl)|(rw [ci (by decide+kernel)];exact⟨rfl,rfl⟩))
  (fun os started H enc _=>Ba os started H enc)
theorem plantTexts_holds:Rows.PlantTextsCardSaid:=
 Claim7.holds_tied_plain_at .later [] [.data, .data, .data, .data, .sentinel, .sentinel, .pinned] true (true, "766c1364a324b3f61fdddb2a91585e8857cd94d8ae0f256a1f87ed0f9e9f8423") true Ff (fun _ h=>by cases h) (by kernel_rfl) (fun _ h=>by cases h) plantTexts_row_tie rfl ⟨rfl,rfl⟩ (by kernel_rfl) rfl
  (fun f fn hf hfn=>by
   obtain rfl:f=4:=Option.some.inj ((show Tryz.prog.funcNamed Rows.plantTextsRow.func=some 4 by kernel_rfl).symm.trans hf)|>.symm
   obtain rfl:fn=Tryz.f4:=(Option.some.inj (Tryz.func4.symm.trans hfn)).symm;exact⟨by kernel_rfl,fun j t ht=>by
    rw [Tryz.params4]at ht;have hm:t∈[27,35,9,9]:=by simpa using Array.mem_of_getElem? ht
    have hall:([27,35,9,9].all fun u=> !Tryz.prog.wantsStandIn u)=true:=by kernel_rfl
    exact(show Tryz.prog.wantsStandIn t=false by simpa using List.all_eq_true.1 hall t hm)⟩)
  (by kernel_rfl)
end Go.Proofs.YtcafpngcflplgaaGreatDoor
