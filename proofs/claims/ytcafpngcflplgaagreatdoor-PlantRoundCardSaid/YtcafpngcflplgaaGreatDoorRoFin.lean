/- PlantRound: for every plant, state and text, the law that writes plants and states and reads them again, and reads a text and writes it again, returns true (no conditions). -/
import Derived.Test.YtcafpngcflplgaaGreatDoorCards
import Derived.Test.YtcafpngcflplgaaGreatDoorTie
import Derived.ProofKit
import Derived.Lay
import Derived.Stop.LaidErr
import Derived.Lib.LaidTab
import Derived.Lib.ItoaNum
import Derived.Test.YtcafpngcflplgaaGreatDoorRoLg
import Derived.Test.YtcafpngcflplgaaGreatDoorRoLh
import Derived.Test.YtcafpngcflplgaaGreatDoorRoW2
set_option linter.all false
namespace Sg
open Go Go.Proofs Go.Proofs.YtcafpngcflplgaaGreatDoor Go.ChangeShapes Go.WideShapes Go.RowKit
set_option maxRecDepth 20000
theorem Kg:Rd Tryz.prog 3 1 (aD .i64) (fun n:Int=> -9223372036854775808≤n∧n≤9223372036854775807):=Rd.int Tryz.underlying3 (by kernel_rfl)
theorem XP:Rd Tryz.prog 65 1 (aD .i64) (fun n:Int=> -9223372036854775808≤n∧n≤9223372036854775807):=Rd.int Tryz.underlying65 (by kernel_rfl)
def Wp (x:Source):Prop:=(fun n:Int=> -9223372036854775808≤n∧n≤9223372036854775807) x.bus∧(fun n:Int=> -9223372036854775808≤n∧n≤9223372036854775807) x.kind∧(fun n:Int=> -9223372036854775808≤n∧n≤9223372036854775807) x.power∧(fun n:Int=> -9223372036854775808≤n∧n≤9223372036854775807) x.sync∧(fun n:Int=> -9223372036854775808≤n∧n≤9223372036854775807) x.ohm
theorem XD:Rd Tryz.prog 67 5 Source.cell Wp:=by
 refine⟨by kernel_rfl,fun h=> ?_⟩
 obtain⟨hl,hf⟩:=Rd.fields Tryz.underlying67 (n:=5) (by kernel_rfl) h
 obtain⟨a0,s0,c0⟩:=Rd.field (off:=0) Kg (hf 0 _ rfl)
 obtain⟨a1,s1,c1⟩:=Rd.field (off:=1) XP (hf 1 _ rfl)
 obtain⟨a2,s2,c2⟩:=Rd.field (off:=2) Kg (hf 2 _ rfl)
 obtain⟨a3,s3,c3⟩:=Rd.field (off:=3) Kg (hf 3 _ rfl)
 obtain⟨a4,s4,c4⟩:=Rd.field (off:=4) Kg (hf 4 _ rfl)
 exact⟨⟨a0,a1,a2,a3,a4⟩,⟨s0,s1,s2,s3,s4⟩,hl,fun j hj=>match j,hj with|0,_=>c0 0 (by decide)|1,_=>c1 0 (by decide)|2,_=>c2 0 (by decide)|3,_=>c3 0 (by decide)|4,_=>c4 0 (by decide)⟩
def Wj (l:List Source):Prop:=l.length≤9223372036854775807∧ ∀x∈l,Wp x
theorem XT:Rd Tryz.prog 23 1 (UG 5 Source.cell) Wj:=Rd.slice Tryz.underlying23 (by kernel_rfl) (by decide) XD
theorem Yh:Rd Tryz.prog 68 1 (aD .i64) (fun n:Int=> -9223372036854775808≤n∧n≤9223372036854775807):=Rd.int Tryz.underlying68 (by kernel_rfl)
def Vl (x:aW):Prop:=(fun n:Int=> -9223372036854775808≤n∧n≤9223372036854775807) x.amps∧(fun n:Int=> -9223372036854775808≤n∧n≤9223372036854775807) x.millis
theorem XK:Rd Tryz.prog 70 2 aW.cell Vl:=by
 refine⟨by kernel_rfl,fun h=> ?_⟩
 obtain⟨hl,hf⟩:=Rd.fields Tryz.underlying70 (n:=2) (by kernel_rfl) h
 obtain⟨a0,s0,c0⟩:=Rd.field (off:=0) Kg (hf 0 _ rfl)
 obtain⟨a1,s1,c1⟩:=Rd.field (off:=1) Kg (hf 1 _ rfl)
 exact⟨⟨a0,a1⟩,⟨s0,s1⟩,hl,fun j hj=>match j,hj with|0,_=>c0 0 (by decide)|1,_=>c1 0 (by decide)⟩
def Wn (l:List aW):Prop:=l.length≤9223372036854775807∧ ∀x∈l,Vl x
theorem XV:Rd Tryz.prog 71 1 (UG 2 aW.cell) Wn:=Rd.slice Tryz.underlying71 (by kernel_rfl) (by decide) XK
def U3 (x:Link):Prop:=(fun n:Int=> -9223372036854775808≤n∧n≤9223372036854775807) x.a∧(fun n:Int=> -9223372036854775808≤n∧n≤9223372036854775807) x.b∧(fun n:Int=> -9223372036854775808≤n∧n≤9223372036854775807) x.kind∧(fun n:Int=> -9223372036854775808≤n∧n≤9223372036854775807) x.most∧(fun n:Int=> -9223372036854775808≤n∧n≤9223372036854775807) x.ohm∧Wn x.trip
theorem XC:Rd Tryz.prog 73 6 Link.cell U3:=by
 refine⟨by kernel_rfl,fun h=> ?_⟩
 obtain⟨hl,hf⟩:=Rd.fields Tryz.underlying73 (n:=6) (by kernel_rfl) h
 obtain⟨a0,s0,c0⟩:=Rd.field (off:=0) Kg (hf 0 _ rfl)
 obtain⟨a1,s1,c1⟩:=Rd.field (off:=1) Kg (hf 1 _ rfl)
 obtain⟨a2,s2,c2⟩:=Rd.field (off:=2) Yh (hf 2 _ rfl)
 obtain⟨a3,s3,c3⟩:=Rd.field (off:=3) Kg (hf 3 _ rfl)
 obtain⟨a4,s4,c4⟩:=Rd.field (off:=4) Kg (hf 4 _ rfl)
 obtain⟨a5,s5,c5⟩:=Rd.field (off:=5) XV (hf 5 _ rfl)
 exact⟨⟨a0,a1,a2,a3,a4,a5⟩,⟨s0,s1,s2,s3,s4,s5⟩,hl,fun j hj=>match j,hj with|0,_=>c0 0 (by decide)|1,_=>c1 0 (by decide)|2,_=>c2 0 (by decide)|3,_=>c3 0 (by decide)|4,_=>c4 0 (by decide)|5,_=>c5 0 (by decide)⟩
def Vi (l:List Link):Prop:=l.length≤9223372036854775807∧ ∀x∈l,U3 x
theorem Yi:Rd Tryz.prog 24 1 (UG 6 Link.cell) Vi:=Rd.slice Tryz.underlying24 (by kernel_rfl) (by decide) XC
def Wz (x:ax):Prop:=(fun n:Int=> -9223372036854775808≤n∧n≤9223372036854775807) x.e0∧(fun n:Int=> -9223372036854775808≤n∧n≤9223372036854775807) x.e1
theorem XQ:Rd Tryz.prog 74 2 ax.cell Wz:=by
 refine⟨by kernel_rfl,fun h=> ?_⟩
 obtain⟨hl,hf⟩:=Rd.elems Tryz.underlying74 (n:=2) (by kernel_rfl) h
 obtain⟨a0,s0,c0⟩:=Rd.field (off:=0) Kg (hf 0 (by decide))
 obtain⟨a1,s1,c1⟩:=Rd.field (off:=1) Kg (hf 1 (by decide))
 exact⟨⟨a0,a1⟩,⟨s0,s1⟩,hl,fun j hj=>match j,hj with|0,_=>c0 0 (by decide)|1,_=>c1 0 (by decide)⟩
def V8 (x:aG):Prop:=Wz x.feeds∧(fun n:Int=> -9223372036854775808≤n∧n≤9223372036854775807) x.power∧(fun n:Int=> -9223372036854775808≤n∧n≤9223372036854775807) x.paths
theorem XR:Rd Tryz.prog 76 4 aG.cell V8:=by
 refine⟨by kernel_rfl,fun h=> ?_⟩
 obtain⟨hl,hf⟩:=Rd.fields Tryz.underlying76 (n:=4) (by kernel_rfl) h
 obtain⟨a0,s0,c0⟩:=Rd.field (off:=0) XQ (hf 0 _ rfl)
 obtain⟨a1,s1,c1⟩:=Rd.field (off:=2) Kg (hf 1 _ rfl)
 obtain⟨a2,s2,c2⟩:=Rd.field (off:=3) Kg (hf 2 _ rfl)
 exact⟨⟨a0,a1,a2⟩,⟨s0,s1,s2⟩,hl,fun j hj=>match j,hj with|0,_=>c0 0 (by decide)|1,_=>c0 1 (by decide)|2,_=>c1 0 (by decide)|3,_=>c2 0 (by decide)⟩
def Vz (l:List aG):Prop:=l.length≤9223372036854775807∧ ∀x∈l,V8 x
theorem X9:Rd Tryz.prog 25 1 (UG 4 aG.cell) Vz:=Rd.slice Tryz.underlying25 (by kernel_rfl) (by decide) XR
def XW (x:au):Prop:=(fun n:Int=> -9223372036854775808≤n∧n≤9223372036854775807) x.buses∧Wj x.sources∧Vi x.links∧Vz x.racks
theorem XZ:Rd Tryz.prog 27 4 au.cell XW:=by
 refine⟨by kernel_rfl,fun h=> ?_⟩
 obtain⟨hl,hf⟩:=Rd.fields Tryz.underlying27 (n:=4) (by kernel_rfl) h
 obtain⟨a0,s0,c0⟩:=Rd.field (off:=0) Kg (hf 0 _ rfl)
 obtain⟨a1,s1,c1⟩:=Rd.field (off:=1) XT (hf 1 _ rfl)
 obtain⟨a2,s2,c2⟩:=Rd.field (off:=2) Yi (hf 2 _ rfl)
 obtain⟨a3,s3,c3⟩:=Rd.field (off:=3) X9 (hf 3 _ rfl)
 exact⟨⟨a0,a1,a2,a3⟩,⟨s0,s1,s2,s3⟩,hl,fun j hj=>match j,hj with|0,_=>c0 0 (by decide)|1,_=>c1 0 (by decide)|2,_=>c2 0 (by decide)|3,_=>c3 0 (by decide)⟩
theorem Y1:Rd Tryz.prog 4 1 af (fun _:Bool=>True):=Rd.bool Tryz.underlying4 (by kernel_rfl)
def Jr (l:List Bool):Prop:=l.length≤9223372036854775807∧ ∀x∈l,(fun _:Bool=>True) x
theorem Lh:Rd Tryz.prog 33 1 (UG 1 af) Jr:=Rd.slice Tryz.underlying33 (by kernel_rfl) (by decide) Y1
def X8 (x:State):Prop:=Jr x.closed∧Jr x.locked∧Jr x.badLink∧Jr x.on_∧Jr x.badSource∧Jr x.earthed∧Jr x.badBus
theorem Yd:Rd Tryz.prog 35 7 State.cell X8:=by
 refine⟨by kernel_rfl,fun h=> ?_⟩
 obtain⟨hl,hf⟩:=Rd.fields Tryz.underlying35 (n:=7) (by kernel_rfl) h
 obtain⟨a0,s0,c0⟩:=Rd.field (off:=0) Lh (hf 0 _ rfl)
 obtain⟨a1,s1,c1⟩:=Rd.field (off:=1) Lh (hf 1 _ rfl)
 obtain⟨a2,s2,c2⟩:=Rd.field (off:=2) Lh (hf 2 _ rfl)
 obtain⟨a3,s3,c3⟩:=Rd.field (off:=3) Lh (hf 3 _ rfl)
 obtain⟨a4,s4,c4⟩:=Rd.field (off:=4) Lh (hf 4 _ rfl)
 obtain⟨a5,s5,c5⟩:=Rd.field (off:=5) Lh (hf 5 _ rfl)
 obtain⟨a6,s6,c6⟩:=Rd.field (off:=6) Lh (hf 6 _ rfl)
 exact⟨⟨a0,a1,a2,a3,a4,a5,a6⟩,⟨s0,s1,s2,s3,s4,s5,s6⟩,hl,fun j hj=>match j,hj with|0,_=>c0 0 (by decide)|1,_=>c1 0 (by decide)|2,_=>c2 0 (by decide)|3,_=>c3 0 (by decide)|4,_=>c4 0 (by decide)|5,_=>c5 0 (by decide)|6,_=>c6 0 (by decide)⟩
theorem YN:Rd Tryz.prog 9 1 fo (fun _:ByteArray=>True):=Rd.str Tryz.underlying9 (by kernel_rfl)
end Sg
namespace Go.Proofs.YtcafpngcflplgaaGreatDoor
open Sg Go.ChangeShapes Go.WideShapes Go.ChangeAt Go.RowKit
theorem Tryz.own:ownKnob Tryz.prog.godebug=none:=by kernel_rfl
theorem Tryz.laidOut:laidOutB Tryz.prog=true:=by kernel_rfl
theorem Tryz.star: "*" ++ "errors.errorString" = "*errors.errorString" :=by decide
theorem Tryz.Oz (u:TypeId) (h:Tryz.prog.typeName? 3 u=some "*errors.errorString"):u=261:=
 typeName_ptr_named (nm:= "errors.errorString") (by rw [Tryz.star];kernel_rfl) (by kernel_rfl) (by decide) u (by rw [Tryz.star];exact h)
theorem Tryz.gl {W:World} (hL:laidMet Tryz.prog Rows.plantRoundRow.laid W) (hsh:W.ShapedOpen Tryz.prog):GL (Bw W) W:=by
 have h1:Lib.TabIs Tryz.prog W "internal/strconv.uint64pow10" .u64 Lib.pow10Tab:=Lib.tabIs_of_head (name:= "internal/strconv.uint64pow10") (k:= .u64) (zs:=Lib.pow10Tab) (g:=1) (t:=236) (e:=198) (n:=20) (by kernel_rfl) (by kernel_rfl) Tryz.underlying236 Tryz.underlying198 (by kernel_rfl) (by kernel_rfl) (laidMet.tail (laidMet.tail hL))
 obtain⟨a5,_,h5,_⟩:=laid_sentinel (n:= "strconv.ErrRange") (g:=5) (laidMet.tail (laidMet.tail (laidMet.tail (laidMet.tail hL)))) (by kernel_rfl) (by kernel_rfl) Tryz.underlying122 Tryz.Oz Tryz.underlying261 Tryz.underlying263 rfl rfl Tryz.underlying9 (by kernel_rfl) (by kernel_rfl)
 obtain⟨a4,_,h4,_⟩:=laid_sentinel (n:= "strconv.ErrSyntax") (g:=4) (laidMet.tail (laidMet.tail (laidMet.tail (laidMet.tail (laidMet.tail hL))))) (by kernel_rfl) (by kernel_rfl) Tryz.underlying122 Tryz.Oz Tryz.underlying261 Tryz.underlying263 rfl rfl Tryz.underlying9 (by kernel_rfl) (by kernel_rfl)
 obtain⟨m,h0⟩:=NU (g:=0) (t:=3) (zero:= #[.int .i64 0]) hsh (of_decide_eq_true (by kernel_rfl)) (by kernel_rfl) rfl (by kernel_rfl) (by kernel_rfl) Tryz.underlying3
 obtain⟨l1,E1,z1,k1⟩:=CJ (g:=1) (by kernel_rfl) h1
 obtain⟨l4,E4,z4,k4⟩:=CJ (g:=4) (by kernel_rfl) h4
 obtain⟨l5,E5,z5,k5⟩:=CJ (g:=5) (by kernel_rfl) h5
 intro x hx
 unfold MW at hx
 simp only [List.mem_cons,List.not_mem_nil,or_false]at hx
 rcases hx with rfl|rfl|rfl|rfl
 ·exact⟨l1,_,E1,z1,k1,by rw [Lib.pow10Tab,List.map_map];rfl⟩
 ·exact⟨(Array.getElem?_eq_some_iff.1 h0).1,_,_,_,h0,m,rfl⟩
 ·exact⟨l4,_,E4,z4,k4,_,_,rfl⟩
 ·exact⟨l5,_,E5,z5,k5,_,_,rfl⟩
set_option maxRecDepth 100000 in
theorem vF (H:Type) (enc:TypeId × Value→H) (W:World) (base:Nat) (args:Array Value) (ds gs:List (DataW H)) (before:List MemPlace)
  (hval: ∀(j:Nat) t v,Tryz.f5.params[j]? =some t→args[j]? =some v→Value.okWide Tryz.prog W .any base t v)
  (hW:DataW.Whole enc Tryz.prog Tryz.f5.params.toList Rows.plantRoundSpec.vars false W args.toList ds gs before)
  (hL:laidMet Tryz.prog Rows.plantRoundRow.laid W) (hsh:W.ShapedOpen Tryz.prog):
  Calls Tryz.prog 5 args W fun e W'=> ∃v,e= .returned v∧Rows.plantRoundSpec.post enc Tryz.prog Tryz.f5 false true false false W args v W':=by
 have hW':=hW
 obtain⟨p,q,hA0,hV,rfl,hfz,hnd⟩:=hW
 have hA:DataW.TrodAll enc Tryz.prog W 0 (fun _=>true) true Tryz.f5.params.toList args.toList ds p:=hA0
 rw [Tryz.params5]at hA hval
 obtain⟨v0,l0,d0,e0,p0,q0,hv0,hd0,hp0,h0,r0⟩:=trodAll_cons hA
 obtain⟨v1,l1,d1,e1,p1,q1,hv1,hd1,hp1,h1,r1⟩:=trodAll_cons r0
 obtain⟨v2,l2,d2,e2,p2,q2,hv2,hd2,hp2,h2,r2⟩:=trodAll_cons r1
 obtain⟨hvz,hdz,hpz⟩:=trodAll_nil r2
 have hgs:=(trodVars_none hV).1
 have hargs:args= #[v0,v1,v2]:=by
  have:args.toList=[v0,v1,v2]:=by rw [hv0,hv1,hv2,hvz]
  cases args;simp at this;rw [this]
 have hds:ds=[d0,d1,d2]:=by rw [hd0,hd1,hd2,hdz]
 subst hargs
 obtain⟨a0,s0,c0⟩:=Rd.agg XZ Tryz.underlying27 (hval 0 27 v0 rfl rfl) h0
 obtain⟨a1,s1,c1⟩:=Rd.agg Yd Tryz.underlying35 (hval 1 35 v1 rfl rfl) h1
 obtain⟨a2,s2,c2⟩:=Rd.one YN (Ke Tryz.underlying9 (hval 2 9 v2 rfl rfl)) h2
 have hm:iG a0 a1 a2=some true:=Bt a0 a1 a2 ⟨s0.2.1.1,s0.2.2.1.1,s0.2.2.2.1,fun x hx=>(s0.2.2.1.2 x hx).2.2.2.2.2.1⟩
 refine(NG (vs:=[v0,v1,v2]) (sN a0 a1 a2 hm) ⟨c0,c1,c2,trivial⟩ (Tryz.gl hL hsh)).mono fun e W' ⟨he,hb⟩=> ⟨_,he, ?_⟩
 refine Qk (t4:=4) rfl hW' ?_ ?_ ?_ rfl Tryz.underlying4 Tryz.laidOut ?_ hb
 ·rw [hds,hgs];rfl
 ·rw [hds,hgs];rfl
 ·rw [hds,hgs];rfl
 ·intro t ht
  rw [Tryz.params5]at ht
  simp at ht
  rcases ht with rfl|rfl|rfl<;>exact⟨by kernel_rfl,of_decide_eq_true (by kernel_rfl)⟩
set_option maxRecDepth 100000 in
theorem yP (os:Os) (started:os.Started) (H:Type) (enc:TypeId × Value→H):
  ReturnsInHanded {} Tryz.checked os 5 .any (fun w args=>(Rows.plantRoundSpec.pre enc Tryz.prog Tryz.f5 [] false w args∧laidMetH Tryz.prog Rows.plantRoundRow.laid w)∧sizedMet enc Tryz.prog Tryz.f5 (OpenSpec.ofChange Rows.plantRoundSpec) false w args)
   (Rows.plantRoundSpec.post enc Tryz.prog Tryz.f5 false true false false):=by
 refine GV (C:=Tryz.checked) (X:=fun w _=>laidMetH Tryz.prog Rows.plantRoundRow.laid w) (fun _ _ _ hh h=>h.of_heap hh) Tryz.own started (by kernel_rfl) Tryz.func5
  (ChangeSpec.witness_shaped (enc:=enc) (C:=Tryz.checked) (os:=os) (X:=fun w _=>laidMetH Tryz.prog Rows.plantRoundRow.laid w) false (World.laidAll Tryz.prog os Rows.plantRoundRow.laid) #[.agg #[.int .i64 0, .slice none 0 0, .slice none 0 0, .slice none 0 0], .agg #[.slice none 0 0, .slice none 0 0, .slice none 0 0, .slice none 0 0, .slice none 0 0, .slice none 0 0, .slice none 0 0], .string ⟨#[]⟩] 16 (World.laidAll_os _ _ _)
   (World.shaped_of_ZipB (by kernel_rfl) (by kernel_rfl)) (by kernel_rfl) (by kernel_rfl) (by kernel_rfl)
   (by rw [MakeChecks.laidMetH_plain _ _ _ (by kernel_rfl)];exact laidMet_laidAll _ (by kernel_rfl) (by kernel_rfl))) ?_
 intro W base args ds gs before hval hW hL hsh
 rw [MakeChecks.laidMetH_plain _ _ _ (by kernel_rfl)]at hL
 exact vF H enc W base args ds gs before hval hW hL hsh
theorem D7:Rows.plantRoundRow.holds Tryz.pinned (OpenSpec.ofChange Rows.plantRoundSpec):=
 OpenClaim.holds_of_wide 5 Tryz.f5 rfl rfl rfl rfl rfl rfl rfl ⟨rfl,rfl,rfl,rfl,rfl⟩ rfl rfl rfl rfl rfl (by kernel_rfl) Tryz.func5 (by kernel_rfl)
  (of_decide_eq_true (by kernel_rfl)) (by unfold Func.isWrapper;first|(rw [if_pos (by decide+kernel)];kernel_rfl)|(rw [if_neg (by decide+kernel)];exact⟨rfl,rfl⟩))
  (fun os started H enc _=>yP os started H enc)
theorem plantRound_holds:Rows.PlantRoundCardSaid:=
 Claim7.holds_tied_plain_at .later [] [.data, .data, .data, .data, .sentinel, .sentinel, .pinned] true (true, "766c1364a324b3f61fdddb2a91585e8857cd94d8ae0f256a1f87ed0f9e9f8423") true D7 (fun _ h=>by cases h) (by kernel_rfl) (fun _ h=>by cases h) plantRound_row_tie rfl ⟨rfl,rfl⟩ (by kernel_rfl) rfl
  (fun f fn hf hfn=>by
   obtain rfl:f=5:=Option.some.inj ((show Tryz.prog.funcNamed Rows.plantRoundRow.func=some 5 by kernel_rfl).symm.trans hf)|>.symm
   obtain rfl:fn=Tryz.f5:=(Option.some.inj (Tryz.func5.symm.trans hfn)).symm
   exact⟨by kernel_rfl,fun j t ht=>by
    rw [Tryz.params5]at ht
    have hm:t∈[27,35,9]:=by simpa using Array.mem_of_getElem? ht
    have hall:([27,35,9].all fun u=> !Tryz.prog.wantsStandIn u)=true:=by kernel_rfl
    exact(show Tryz.prog.wantsStandIn t=false by simpa using List.all_eq_true.1 hall t hm)⟩)
  (by kernel_rfl)
end Go.Proofs.YtcafpngcflplgaaGreatDoor
