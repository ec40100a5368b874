import Derived.Test.YtcafpngcflplgaaGreatDoorRoLf
import Derived.Test.YtcafpngcflplgaaGreatDoorRoLg
set_option linter.all false
namespace Sg
open Go
structure Source where
 bus:Int
 kind:Int
 power:Int
 sync:Int
 ohm:Int
instance:Inhabited Source:=⟨⟨default,default,default,default,default⟩⟩
def Source.cell (x:Source):Nat→DV
 |0=>(.int .i64 x.bus)
 |1=>(.int .i64 x.kind)
 |2=>(.int .i64 x.power)
 |3=>(.int .i64 x.sync)
 |4=>(.int .i64 x.ohm)
 |_=> .nilp
structure aW where
 amps:Int
 millis:Int
instance:Inhabited aW:=⟨⟨default,default⟩⟩
def aW.cell (x:aW):Nat→DV
 |0=>(.int .i64 x.amps)
 |1=>(.int .i64 x.millis)
 |_=> .nilp
structure Link where
 a:Int
 b:Int
 kind:Int
 most:Int
 ohm:Int
 trip:(List aW)
instance:Inhabited Link:=⟨⟨default,default,default,default,default,default⟩⟩
def Link.cell (x:Link):Nat→DV
 |0=>(.int .i64 x.a)
 |1=>(.int .i64 x.b)
 |2=>(.int .i64 x.kind)
 |3=>(.int .i64 x.most)
 |4=>(.int .i64 x.ohm)
 |5=>(bK none 2 aW.cell x.trip)
 |_=> .nilp
structure ax where
 e0:Int
 e1:Int
instance:Inhabited ax:=⟨⟨default,default⟩⟩
def ax.cell (x:ax):Nat→DV
 |0=>(.int .i64 x.e0)
 |1=>(.int .i64 x.e1)
 |_=> .nilp
structure aG where
 feeds:ax
 power:Int
 paths:Int
instance:Inhabited aG:=⟨⟨default,default,default⟩⟩
def aG.cell (x:aG):Nat→DV
 |0=>(.int .i64 x.feeds.e0)
 |1=>(.int .i64 x.feeds.e1)
 |2=>(.int .i64 x.power)
 |3=>(.int .i64 x.paths)
 |_=> .nilp
structure au where
 buses:Int
 sources:(List Source)
 links:(List Link)
 racks:(List aG)
instance:Inhabited au:=⟨⟨default,default,default,default⟩⟩
def au.cell (x:au):Nat→DV
 |0=>(.int .i64 x.buses)
 |1=>(bK none 5 Source.cell x.sources)
 |2=>(bK none 6 Link.cell x.links)
 |3=>(bK none 4 aG.cell x.racks)
 |_=> .nilp
structure State where
 closed:(List Bool)
 locked:(List Bool)
 badLink:(List Bool)
 on_:(List Bool)
 badSource:(List Bool)
 earthed:(List Bool)
 badBus:(List Bool)
instance:Inhabited State:=⟨⟨default,default,default,default,default,default,default⟩⟩
def State.cell (x:State):Nat→DV
 |0=>(bK none 1 af x.closed)
 |1=>(bK none 1 af x.locked)
 |2=>(bK none 1 af x.badLink)
 |3=>(bK none 1 af x.on_)
 |4=>(bK none 1 af x.badSource)
 |5=>(bK none 1 af x.earthed)
 |6=>(bK none 1 af x.badBus)
 |_=> .nilp
structure bR where
 l:(List Bool)
 n:Int
instance:Inhabited bR:=⟨⟨default,default⟩⟩
def bR.cell (x:bR):Nat→DV
 |0=>(bK none 1 af x.l)
 |1=>(.int .i64 x.n)
 |_=> .nilp
structure aF where
 head:(List (Int × Int))
instance:Inhabited aF:=⟨⟨default⟩⟩
def aF.cell (x:aF):Nat→DV
 |0=> .nilp
 |_=> .nilp
structure ah where
 buses:(List Int)
 sources:(List Int)
instance:Inhabited ah:=⟨⟨default,default⟩⟩
def ah.cell (x:ah):Nat→DV
 |0=>(bK none 1 (aD .i64) x.buses)
 |1=>(bK none 1 (aD .i64) x.sources)
 |_=> .nilp
structure aM where
 e0:Bool
 e1:Bool
instance:Inhabited aM:=⟨⟨default,default⟩⟩
def aM.cell (x:aM):Nat→DV
 |0=>(.bool x.e0)
 |1=>(.bool x.e1)
 |_=> .nilp
structure Part where
 kind:Int
 index:Int
instance:Inhabited Part:=⟨⟨default,default⟩⟩
def Part.cell (x:Part):Nat→DV
 |0=>(.int .i64 x.kind)
 |1=>(.int .i64 x.index)
 |_=> .nilp
def ah.ev (x:ah):Nat→EV
 |0=> .row 3 1 x.buses.length (aA (aD .i64) x.buses)
 |1=> .row 3 1 x.sources.length (aA (aD .i64) x.sources)
 |_=> .d .nilp
def aL (n:Int) (first:Int) (last:Int):Option Bool:=
 some (bif (decide (first≤n))then(decide (n≤last))else false)
def oO (p:au):Option (Int × (List Source) × (List Link) × (List aG)):=
 some (p.buses,p.sources,p.links,p.racks)
def qQ (p:au):Option (Int × (List Source) × (List Link) × (List aG)):=
 some (p.buses,p.sources,p.links,p.racks)
def qX (p:au):Option (Int × (List Source) × (List Link) × (List aG)):=
 some (p.buses,p.sources,p.links,p.racks)
def jI (x:Source) (x1:Int) (x11:(List Source)) (x12:(List Link)) (x13:(List aG)):Option Bool:=
 (aL x.bus 0 (IntKind.wrap .i64 (x1 - 1))).bind fun r_=>
 (bif gB [(r_,true)]then aL x.kind 1 3 else some default).bind fun r_1=>
 (bif gB [((bif r_ then r_1 else false),true)]then aL x.power 1 100000 else some default).bind fun r_2=>
 (bif gB [((bif (bif r_ then r_1 else false)then r_2 else false),true)]then aL x.sync 0 8 else some default).bind fun r_3=>
 (bif gB [((bif (bif (bif r_ then r_1 else false)then r_2 else false)then r_3 else false),true)]then aL x.ohm 10 100000 else some default).bind fun r_4=>
 some (bif (bif (bif (bif r_ then r_1 else false)then r_2 else false)then r_3 else false)then r_4 else false)
def oH (x:Source) (x1:Int) (x11:(List Source)) (x12:(List Link)) (x13:(List aG)):Option Bool:=
 (jI x x1 x11 x12 x13).bind fun r_=>
 some (!r_)
def jh (s_:(List Source)) (f_:Int) (f_1:(List Source)) (f_2:(List Link)) (f_3:(List aG)):Int→Option (cO Int (Ex Unit Int)):=
 fun t8=>
 bif (decide (t8<(s_.length:Int)))then
 (oH (at' s_ t8.toNat) f_ f_1 f_2 f_3).bind fun r_=>
 bU ((0:Int)≤t8∧t8<(s_.length:Int)) (
 bif r_ then
 some (.done (.ret t8))
 else
 some (.next (IntKind.wrap .i64 (t8+1))))
 else
 some (.done (.brk ()))
def kG (s_:(List Source)) (f_:Int) (f_1:(List Source)) (f_2:(List Link)) (f_3:(List aG)):Option Int:=
 Option.bind (aR (jh s_ f_ f_1 f_2 f_3) FUEL (0)) fun o=>match o with
 | .ret v=>some v
 | .brk _=>
 some (-1)
def fU (s_:(List Source)) (f_:Int) (f_1:(List Source)) (f_2:(List Link)) (f_3:(List aG)):Option Bool:=
 (kG s_ f_ f_1 f_2 f_3).bind fun r_=>
 some (decide (0≤r_))
def nC (l:(List Source)) (most:Int) (right:Int) (right1:(List Source)) (right2:(List Link)) (right3:(List aG)):Option Bool:=
 (bif gB [((decide ((l.length:Int)≤most)),true)]then fU l right right1 right2 right3 else some default).bind fun r_=>
 some (bif (decide ((l.length:Int)≤most))then(!r_)else false)
def jm (x:Link):Int→Option (cO Int (Ex Unit Bool)):=
 fun t50=>
 bif (decide (t50<(x.trip.length:Int)))then
 bU ((0:Int)≤t50∧t50<(x.trip.length:Int)) (
 (aL ((at' x.trip t50.toNat).amps) 1 1000000).bind fun r_5=>
 (bif gB [((!r_5),false)]then aL ((at' x.trip t50.toNat).millis) 1 100000 else some default).bind fun r_6=>
 bU ((gB [((decide (0<t50)),true),((bif (!r_5)then true else(!r_6)),false)]=true→(0:Int)≤(IntKind.wrap .i64 (t50 - 1))∧(IntKind.wrap .i64 (t50 - 1))<(x.trip.length:Int))∧(gB [((decide (((at' x.trip t50.toNat).amps)≤((at' x.trip ((IntKind.wrap .i64 (t50 - 1)).toNat)).amps))),false),((decide (0<t50)),true),((bif (!r_5)then true else(!r_6)),false)]=true→(0:Int)≤(IntKind.wrap .i64 (t50 - 1))∧(IntKind.wrap .i64 (t50 - 1))<(x.trip.length:Int))) (
 bif (bif (bif (!r_5)then true else(!r_6))then true else(bif (decide (0<t50))then(bif (decide (((at' x.trip t50.toNat).amps)≤((at' x.trip ((IntKind.wrap .i64 (t50 - 1)).toNat)).amps)))then true else(decide (((at' x.trip ((IntKind.wrap .i64 (t50 - 1)).toNat)).millis)≤((at' x.trip t50.toNat).millis))))else false))then
 some (.done (.ret false))
 else
 some (.next (IntKind.wrap .i64 (t50+1)))))
 else
 some (.done (.brk ()))
def kU (x:Link) (x1:Int) (x11:(List Source)) (x12:(List Link)) (x13:(List aG)):Option Bool:=
 (aL x.a 0 (IntKind.wrap .i64 (x1 - 1))).bind fun r_=>
 (bif gB [((!r_),false)]then aL x.b 0 (IntKind.wrap .i64 (x1 - 1))else some default).bind fun r_1=>
 (bif gB [((bif (bif (!r_)then true else(!r_1))then true else(decide (x.a=x.b))),false)]then aL x.kind 1 3 else some default).bind fun r_2=>
 (bif gB [((bif (bif (bif (!r_)then true else(!r_1))then true else(decide (x.a=x.b)))then true else(!r_2)),false)]then aL x.most 1 100000 else some default).bind fun r_3=>
 (bif gB [((bif (bif (bif (bif (!r_)then true else(!r_1))then true else(decide (x.a=x.b)))then true else(!r_2))then true else(!r_3)),false)]then aL x.ohm 10 100000 else some default).bind fun r_4=>
 bif (bif (bif (bif (bif (bif (!r_)then true else(!r_1))then true else(decide (x.a=x.b)))then true else(!r_2))then true else(!r_3))then true else(!r_4))then
 some false
 else
 Option.bind (aR (jm x) FUEL (0)) fun o=>match o with
 | .ret v=>some v
 | .brk _=>
 some (bif (decide ((x.trip.length:Int)≤6))then(bif (decide ((x.trip.length:Int)=0))then true else(decide (x.kind=3)))else false)
def lC (x:Link) (x1:Int) (x11:(List Source)) (x12:(List Link)) (x13:(List aG)):Option Bool:=
 (kU x x1 x11 x12 x13).bind fun r_=>
 some (!r_)
def gN (s_:(List Link)) (f_:Int) (f_1:(List Source)) (f_2:(List Link)) (f_3:(List aG)):Int→Option (cO Int (Ex Unit Int)):=
 fun t8=>
 bif (decide (t8<(s_.length:Int)))then
 (lC (at' s_ t8.toNat) f_ f_1 f_2 f_3).bind fun r_=>
 bU ((0:Int)≤t8∧t8<(s_.length:Int)) (
 bif r_ then
 some (.done (.ret t8))
 else
 some (.next (IntKind.wrap .i64 (t8+1))))
 else
 some (.done (.brk ()))
def je (s_:(List Link)) (f_:Int) (f_1:(List Source)) (f_2:(List Link)) (f_3:(List aG)):Option Int:=
 Option.bind (aR (gN s_ f_ f_1 f_2 f_3) FUEL (0)) fun o=>match o with
 | .ret v=>some v
 | .brk _=>
 some (-1)
def eD (s_:(List Link)) (f_:Int) (f_1:(List Source)) (f_2:(List Link)) (f_3:(List aG)):Option Bool:=
 (je s_ f_ f_1 f_2 f_3).bind fun r_=>
 some (decide (0≤r_))
def kW (l:(List Link)) (most:Int) (right:Int) (right1:(List Source)) (right2:(List Link)) (right3:(List aG)):Option Bool:=
 (bif gB [((decide ((l.length:Int)≤most)),true)]then eD l right right1 right2 right3 else some default).bind fun r_=>
 some (bif (decide ((l.length:Int)≤most))then(!r_)else false)
def lZ (x:aG):Option Int:=
 bif (decide (x.feeds.e1=(-1)))then
 some 1
 else
 some 2
def kY (x:aG) (x1:Int) (x11:(List Source)) (x12:(List Link)) (x13:(List aG)):Option Bool:=
 (aL x.feeds.e0 0 (IntKind.wrap .i64 (x1 - 1))).bind fun r_=>
 (bif gB [(r_,true)]then aL x.feeds.e1 (-1) (IntKind.wrap .i64 (x1 - 1))else some default).bind fun r_1=>
 (bif gB [((bif (bif r_ then r_1 else false)then(!decide (x.feeds.e0=x.feeds.e1))else false),true)]then aL x.power 1 100000 else some default).bind fun r_2=>
 (bif gB [((bif (bif (bif r_ then r_1 else false)then(!decide (x.feeds.e0=x.feeds.e1))else false)then r_2 else false),true)]then lZ x else some default).bind fun r_3=>
 (bif gB [((bif (bif (bif r_ then r_1 else false)then(!decide (x.feeds.e0=x.feeds.e1))else false)then r_2 else false),true)]then aL x.paths 0 r_3 else some default).bind fun r_4=>
 some (bif (bif (bif (bif r_ then r_1 else false)then(!decide (x.feeds.e0=x.feeds.e1))else false)then r_2 else false)then r_4 else false)
def lm (x:aG) (x1:Int) (x11:(List Source)) (x12:(List Link)) (x13:(List aG)):Option Bool:=
 (kY x x1 x11 x12 x13).bind fun r_=>
 some (!r_)
def gQ (s_:(List aG)) (f_:Int) (f_1:(List Source)) (f_2:(List Link)) (f_3:(List aG)):Int→Option (cO Int (Ex Unit Int)):=
 fun t8=>
 bif (decide (t8<(s_.length:Int)))then
 (lm (⟨((at' s_ t8.toNat).feeds),(at' s_ t8.toNat).power,(at' s_ t8.toNat).paths⟩:aG) f_ f_1 f_2 f_3).bind fun r_=>
 bU ((0:Int)≤t8∧t8<(s_.length:Int)) (
 bif r_ then
 some (.done (.ret t8))
 else
 some (.next (IntKind.wrap .i64 (t8+1))))
 else
 some (.done (.brk ()))
def jg (s_:(List aG)) (f_:Int) (f_1:(List Source)) (f_2:(List Link)) (f_3:(List aG)):Option Int:=
 Option.bind (aR (gQ s_ f_ f_1 f_2 f_3) FUEL (0)) fun o=>match o with
 | .ret v=>some v
 | .brk _=>
 some (-1)
def eF (s_:(List aG)) (f_:Int) (f_1:(List Source)) (f_2:(List Link)) (f_3:(List aG)):Option Bool:=
 (jg s_ f_ f_1 f_2 f_3).bind fun r_=>
 some (decide (0≤r_))
def kT (l:(List aG)) (most:Int) (right:Int) (right1:(List Source)) (right2:(List Link)) (right3:(List aG)):Option Bool:=
 (bif gB [((decide ((l.length:Int)≤most)),true)]then eF l right right1 right2 right3 else some default).bind fun r_=>
 some (bif (decide ((l.length:Int)≤most))then(!r_)else false)
def eB (p:au):Option Int:=
 (aL p.buses 1 24).bind fun r_=>
 bif (!r_)then
 some 10
 else
 (oO p).bind fun r_1=>
 (nC p.sources 8 r_1.1 r_1.2.1 r_1.2.2.1 r_1.2.2.2).bind fun r_2=>
 bif (!r_2)then
 some 11
 else
 (qQ p).bind fun r_3=>
 (kW p.links 40 r_3.1 r_3.2.1 r_3.2.2.1 r_3.2.2.2).bind fun r_4=>
 bif (!r_4)then
 some 12
 else
 (qX p).bind fun r_5=>
 (kT p.racks 24 r_5.1 r_5.2.1 r_5.2.2.1 r_5.2.2.2).bind fun r_6=>
 bif (!r_6)then
 some 13
 else
 some 0
def jP:Option (List (ByteArray × Int)):=
 some (ay aS ⟨#[98,97,116,116,101,114,121]⟩ 3 (ay aS ⟨#[103,101,110,101,114,97,116,111,114]⟩ 2 (ay aS ⟨#[103,114,105,100]⟩ 1 ([]:(List (ByteArray × Int))))))
def kV:Option (List (ByteArray × Int)):=
 some (ay aS ⟨#[98,114,101,97,107,101,114]⟩ 3 (ay aS ⟨#[115,119,105,116,99,104]⟩ 2 (ay aS ⟨#[99,97,98,108,101]⟩ 1 ([]:(List (ByteArray × Int))))))
def pX:Option (List (ByteArray × Int)):=
 some (ay aS ⟨#[114,97,99,107]⟩ 4 (ay aS ⟨#[108,105,110,107]⟩ 3 (ay aS ⟨#[115,111,117,114,99,101]⟩ 2 (ay aS ⟨#[112,108,97,110,116]⟩ 1 ([]:(List (ByteArray × Int)))))))
def iR (words:(List (ByteArray × Int))) (w_:ByteArray):Option (Option Int):=
 eu (dJ ((aO aS w_ words).isSome)) (fun r_=>
 some (some ((aO aS w_ words).getD 0))) (
 some none)
def fM (words:(List (ByteArray × Int))) (w_:ByteArray):Option (Option Int):=
 eu (dJ ((aO aS w_ words).isSome)) (fun r_=>
 some (some ((aO aS w_ words).getD 0))) (
 some none)
def eX (r_:(List ByteArray)):((List aW) × Int)→Option (cO ((List aW) × Int) (Ex (List aW) (Option (Int × au)))):=
 fun zz=>match zz with
 |(x5,t122)=>
 bif (decide (t122<(((r_.length - 6):Nat):Int)))then
 bU ((0:Int)≤t122∧t122<((r_.drop 6).length:Int)) (
 (bT (at' (r_.drop 6) t122.toNat) ⟨#[58]⟩).bind fun r_19=>
 eu (dJ r_19.2.2) (fun r_20=>
 eu (aP r_19.1) (fun r_21=>
 eu (aP r_19.2.1) (fun r_22=>
 bU (((x5.length+[(⟨r_21,r_22⟩:aW)].length)*16≤140737488355328)∧(x5.length+[(⟨r_21,r_22⟩:aW)].length≤4611686018427387904)) (
 some (.next ((x5++[(⟨r_21,r_22⟩:aW)]),(IntKind.wrap .i64 (t122+1)))))) (
 some (.done (.ret none)))) (
 some (.done (.ret none)))) (
 some (.done (.ret none))))
 else
 some (.done (.brk x5))
def ni (rank:Int) (s_:ByteArray) (plant:au):Option (Option (Int × au)):=
 (gy s_ ⟨#[32]⟩).bind fun r_=>
 (pX).bind fun r_1=>
 bU ((0:Int)≤0∧0<(r_.length:Int)) (
 eu (dJ (bif (bif (aO aS (at' r_ 0) r_1).isSome then(decide (rank≤((aO aS (at' r_ 0) r_1).getD 0)))else false)then((decide (1<((aO aS (at' r_ 0) r_1).getD 0)))==(decide (0<rank)))else false)) (fun r_2=>
 bif (decide (((aO aS (at' r_ 0) r_1).getD 0)=1))then
 eu (dJ (decide ((r_.length:Int)=2))) (fun r_3=>
 eu (aP (at' r_ 1)) (fun r_4=>
 bU ((0:Int)≤1∧1<(r_.length:Int)) (
 some (some (((aO aS (at' r_ 0) r_1).getD 0),(⟨r_4,plant.sources,plant.links,plant.racks⟩:au))))) (
 bU ((0:Int)≤1∧1<(r_.length:Int)) (
 some none))) (
 some none)
 else
 bif (decide (((aO aS (at' r_ 0) r_1).getD 0)=2))then
 eu (dJ (decide ((r_.length:Int)=6))) (fun r_5=>
 eu (aP (at' r_ 1)) (fun r_6=>
 (jP).bind fun r_7=>
 eu (iR r_7 (at' r_ 2)) (fun r_8=>
 eu (aP (at' r_ 3)) (fun r_9=>
 eu (aP (at' r_ 4)) (fun r_10=>
 eu (aP (at' r_ 5)) (fun r_11=>
 bU (((0:Int)≤1∧1<(r_.length:Int))∧((0:Int)≤2∧2<(r_.length:Int))∧((0:Int)≤3∧3<(r_.length:Int))∧((0:Int)≤4∧4<(r_.length:Int))∧((0:Int)≤5∧5<(r_.length:Int))∧((plant.sources.length+[(⟨r_6,r_8,r_9,r_10,r_11⟩:Source)].length)*40≤140737488355328)∧(plant.sources.length+[(⟨r_6,r_8,r_9,r_10,r_11⟩:Source)].length≤4611686018427387904)) (
 some (some (((aO aS (at' r_ 0) r_1).getD 0),(⟨plant.buses,(plant.sources++[(⟨r_6,r_8,r_9,r_10,r_11⟩:Source)]),plant.links,plant.racks⟩:au))))) (
 bU (((0:Int)≤1∧1<(r_.length:Int))∧((0:Int)≤2∧2<(r_.length:Int))∧((0:Int)≤3∧3<(r_.length:Int))∧((0:Int)≤4∧4<(r_.length:Int))∧((0:Int)≤5∧5<(r_.length:Int))) (
 some none))) (
 bU (((0:Int)≤1∧1<(r_.length:Int))∧((0:Int)≤2∧2<(r_.length:Int))∧((0:Int)≤3∧3<(r_.length:Int))∧((0:Int)≤4∧4<(r_.length:Int))∧((0:Int)≤5∧5<(r_.length:Int))) (
 some none))) (
 bU (((0:Int)≤1∧1<(r_.length:Int))∧((0:Int)≤2∧2<(r_.length:Int))∧((0:Int)≤3∧3<(r_.length:Int))∧((0:Int)≤4∧4<(r_.length:Int))∧((0:Int)≤5∧5<(r_.length:Int))) (
 some none))) (
 bU (((0:Int)≤1∧1<(r_.length:Int))∧((0:Int)≤2∧2<(r_.length:Int))∧((0:Int)≤3∧3<(r_.length:Int))∧((0:Int)≤4∧4<(r_.length:Int))∧((0:Int)≤5∧5<(r_.length:Int))) (
 some none))) (
 bU (((0:Int)≤1∧1<(r_.length:Int))∧((0:Int)≤2∧2<(r_.length:Int))∧((0:Int)≤3∧3<(r_.length:Int))∧((0:Int)≤4∧4<(r_.length:Int))∧((0:Int)≤5∧5<(r_.length:Int))) (
 some none))) (
 some none)
 else
 bif (decide (((aO aS (at' r_ 0) r_1).getD 0)=3))then
 eu (dJ (decide (6≤(r_.length:Int)))) (fun r_12=>
 eu (aP (at' r_ 1)) (fun r_13=>
 eu (aP (at' r_ 2)) (fun r_14=>
 (kV).bind fun r_15=>
 eu (fM r_15 (at' r_ 3)) (fun r_16=>
 eu (aP (at' r_ 4)) (fun r_17=>
 eu (aP (at' r_ 5)) (fun r_18=>
 bU (((0:Int)≤1∧1<(r_.length:Int))∧((0:Int)≤2∧2<(r_.length:Int))∧((0:Int)≤3∧3<(r_.length:Int))∧((0:Int)≤4∧4<(r_.length:Int))∧((0:Int)≤5∧5<(r_.length:Int))) (
 bU ((0:Int)≤(6:Int)∧(6:Int)≤(r_.length:Int)) (
 Option.bind (aR (eX r_) FUEL (([]:List aW),0)) fun o=>match o with
 | .ret v=>some v
 | .brk x51=>
 bU (((plant.links.length+[(⟨r_13,r_14,r_16,r_17,r_18,x51⟩:Link)].length)*64≤140737488355328)∧(plant.links.length+[(⟨r_13,r_14,r_16,r_17,r_18,x51⟩:Link)].length≤4611686018427387904)) (
 some (some (((aO aS (at' r_ 0) r_1).getD 0),(⟨plant.buses,plant.sources,(plant.links++[(⟨r_13,r_14,r_16,r_17,r_18,x51⟩:Link)]),plant.racks⟩:au))))))) (
 bU (((0:Int)≤1∧1<(r_.length:Int))∧((0:Int)≤2∧2<(r_.length:Int))∧((0:Int)≤3∧3<(r_.length:Int))∧((0:Int)≤4∧4<(r_.length:Int))∧((0:Int)≤5∧5<(r_.length:Int))) (
 some none))) (
 bU (((0:Int)≤1∧1<(r_.length:Int))∧((0:Int)≤2∧2<(r_.length:Int))∧((0:Int)≤3∧3<(r_.length:Int))∧((0:Int)≤4∧4<(r_.length:Int))∧((0:Int)≤5∧5<(r_.length:Int))) (
 some none))) (
 bU (((0:Int)≤1∧1<(r_.length:Int))∧((0:Int)≤2∧2<(r_.length:Int))∧((0:Int)≤3∧3<(r_.length:Int))∧((0:Int)≤4∧4<(r_.length:Int))∧((0:Int)≤5∧5<(r_.length:Int))) (
 some none))) (
 bU (((0:Int)≤1∧1<(r_.length:Int))∧((0:Int)≤2∧2<(r_.length:Int))∧((0:Int)≤3∧3<(r_.length:Int))∧((0:Int)≤4∧4<(r_.length:Int))∧((0:Int)≤5∧5<(r_.length:Int))) (
 some none))) (
 bU (((0:Int)≤1∧1<(r_.length:Int))∧((0:Int)≤2∧2<(r_.length:Int))∧((0:Int)≤3∧3<(r_.length:Int))∧((0:Int)≤4∧4<(r_.length:Int))∧((0:Int)≤5∧5<(r_.length:Int))) (
 some none))) (
 some none)
 else
 bif (decide (((aO aS (at' r_ 0) r_1).getD 0)=4))then
 eu (dJ (decide ((r_.length:Int)=5))) (fun r_23=>
 eu (aP (at' r_ 1)) (fun r_24=>
 eu (aP (at' r_ 2)) (fun r_25=>
 eu (aP (at' r_ 3)) (fun r_26=>
 eu (aP (at' r_ 4)) (fun r_27=>
 bU (((0:Int)≤1∧1<(r_.length:Int))∧((0:Int)≤2∧2<(r_.length:Int))∧((0:Int)≤3∧3<(r_.length:Int))∧((0:Int)≤4∧4<(r_.length:Int))∧((plant.racks.length+[(⟨(⟨r_24,r_25⟩:ax),r_26,r_27⟩:aG)].length)*32≤140737488355328)∧(plant.racks.length+[(⟨(⟨r_24,r_25⟩:ax),r_26,r_27⟩:aG)].length≤4611686018427387904)) (
 some (some (((aO aS (at' r_ 0) r_1).getD 0),(⟨plant.buses,plant.sources,plant.links,(plant.racks++[(⟨(⟨r_24,r_25⟩:ax),r_26,r_27⟩:aG)])⟩:au))))) (
 bU (((0:Int)≤1∧1<(r_.length:Int))∧((0:Int)≤2∧2<(r_.length:Int))∧((0:Int)≤3∧3<(r_.length:Int))∧((0:Int)≤4∧4<(r_.length:Int))) (
 some none))) (
 bU (((0:Int)≤1∧1<(r_.length:Int))∧((0:Int)≤2∧2<(r_.length:Int))∧((0:Int)≤3∧3<(r_.length:Int))∧((0:Int)≤4∧4<(r_.length:Int))) (
 some none))) (
 bU (((0:Int)≤1∧1<(r_.length:Int))∧((0:Int)≤2∧2<(r_.length:Int))∧((0:Int)≤3∧3<(r_.length:Int))∧((0:Int)≤4∧4<(r_.length:Int))) (
 some none))) (
 bU (((0:Int)≤1∧1<(r_.length:Int))∧((0:Int)≤2∧2<(r_.length:Int))∧((0:Int)≤3∧3<(r_.length:Int))∧((0:Int)≤4∧4<(r_.length:Int))) (
 some none))) (
 some none)
 else
 some (some (((aO aS (at' r_ 0) r_1).getD 0),plant))) (
 some none))
def bQ  :(Int × (List Source) × (List Link) × (List aG) × ByteArray × Int × Int)→Option (cO (Int × (List Source) × (List Link) × (List aG) × ByteArray × Int × Int) (Ex (Int × (List Source) × (List Link) × (List aG) × Int) (Sum (Int × (List Source) × (List Link) × (List aG) × Bool × Int) (Int × (List Source) × (List Link) × (List aG) × Int)))):=
 fun zz=>match zz with
 |(o0,o1,o2,o3,text1,n,rank)=>
 bif (!((text1:ByteArray).toList==(⟨#[]⟩:ByteArray).toList))then
 (bT text1 ⟨#[10]⟩).bind fun r_=>
 eu (dJ r_.2.2) (fun r_1=>
 eu (ni rank r_.1 (⟨o0,o1,o2,o3⟩:au)) (fun r_2=>
 some (.next (r_2.2.buses,r_2.2.sources,r_2.2.links,r_2.2.racks,r_.2.1,(IntKind.wrap .i64 (n+1)),r_2.1))) (
 some (.done (.ret (.inr (o0,o1,o2,o3,n)))))) (
 some (.done (.ret (.inr (o0,o1,o2,o3,n)))))
 else
 some (.done (.brk (o0,o1,o2,o3,n)))
def mh (text:ByteArray):Option (au × Int × Bool):=
 Option.bind (α:=Unit) (
 some ()) fun z_=>
 Option.bind (α:=(Sum (Int × (List Source) × (List Link) × (List aG) × Bool × Int) (Int × (List Source) × (List Link) × (List aG) × Int))) (
 Option.bind (aR bQ FUEL (0,([]:List Source),([]:List Link),([]:List aG),text,0,0)) fun o=>match o with
 | .ret v=>some v
 | .brk (o01,o11,o21,o31,n1)=>
 some (.inl (o01,o11,o21,o31,(decide (0<n1)),n1))) fun o=>match o with
 | .inl w_=>
 some ((⟨w_.1,w_.2.1,w_.2.2.1,w_.2.2.2.1⟩:au),w_.2.2.2.2.2,w_.2.2.2.2.1)
 | .inr x=>
 some ((⟨x.1,x.2.1,x.2.2.1,x.2.2.2.1⟩:au),x.2.2.2.2,false)
def dO (text:ByteArray):Option (au × Int × Int):=
 bif (decide (131072<((text.size:Nat):Int)))then
 some ((⟨0,([]:List Source),([]:List Link),([]:List aG)⟩:au),0,2)
 else
 (mh text).bind fun r_=>
 bif (!r_.2.2)then
 some ((⟨0,([]:List Source),([]:List Link),([]:List aG)⟩:au),r_.2.1,3)
 else
 (eB r_.1).bind fun r_1=>
 bif (!decide (r_1=0))then
 some ((⟨0,([]:List Source),([]:List Link),([]:List aG)⟩:au),r_.2.1,r_1)
 else
 some (r_.1,0,0)
def gH (a:(List Source)) (b:(List Source)):Int→Option (cO Int (Ex Unit Bool)):=
 fun i=>
 bif (decide (i<(a.length:Int)))then
 bU (((0:Int)≤i∧i<(a.length:Int))∧((0:Int)≤i∧i<(b.length:Int))) (
 bif (!((decide (((at' a i.toNat).bus)=((at' b i.toNat).bus))) && ((decide (((at' a i.toNat).kind)=((at' b i.toNat).kind))) && ((decide (((at' a i.toNat).power)=((at' b i.toNat).power))) && ((decide (((at' a i.toNat).sync)=((at' b i.toNat).sync))) && ((decide (((at' a i.toNat).ohm)=((at' b i.toNat).ohm))) && true))))))then
 some (.done (.ret false))
 else
 some (.next (IntKind.wrap .i64 (i+1))))
 else
 some (.done (.brk ()))
def jl (a:(List Source)) (b:(List Source)):Option Bool:=
 bif (!decide ((a.length:Int)=(b.length:Int)))then
 some false
 else
 Option.bind (aR (gH a b) FUEL (0)) fun o=>match o with
 | .ret v=>some v
 | .brk _=>
 some true
def iK (a:(List aW)) (b:(List aW)):Int→Option (cO Int (Ex Unit Bool)):=
 fun i=>
 bif (decide (i<(a.length:Int)))then
 bU (((0:Int)≤i∧i<(a.length:Int))∧((0:Int)≤i∧i<(b.length:Int))) (
 bif (!((decide (((at' a i.toNat).amps)=((at' b i.toNat).amps))) && ((decide (((at' a i.toNat).millis)=((at' b i.toNat).millis))) && true)))then
 some (.done (.ret false))
 else
 some (.next (IntKind.wrap .i64 (i+1))))
 else
 some (.done (.brk ()))
def j4 (a:(List aW)) (b:(List aW)):Option Bool:=
 bif (!decide ((a.length:Int)=(b.length:Int)))then
 some false
 else
 Option.bind (aR (iK a b) FUEL (0)) fun o=>match o with
 | .ret v=>some v
 | .brk _=>
 some true
def lq (a:Link) (b:Link):Option Bool:=
 (bif gB [((bif (bif (bif (bif (decide (a.a=b.a))then(decide (a.b=b.b))else false)then(decide (a.kind=b.kind))else false)then(decide (a.most=b.most))else false)then(decide (a.ohm=b.ohm))else false),true)]then j4 a.trip b.trip else some default).bind fun r_=>
 some (bif (bif (bif (bif (bif (decide (a.a=b.a))then(decide (a.b=b.b))else false)then(decide (a.kind=b.kind))else false)then(decide (a.most=b.most))else false)then(decide (a.ohm=b.ohm))else false)then r_ else false)
def iD (a:(List Link)) (b:(List Link)):Int→Option (cO Int (Ex Unit Bool)):=
 fun i=>
 bif (decide (i<(a.length:Int)))then
 (lq (at' a i.toNat) (at' b i.toNat)).bind fun r_=>
 bU (((0:Int)≤i∧i<(a.length:Int))∧((0:Int)≤i∧i<(b.length:Int))) (
 bif (!r_)then
 some (.done (.ret false))
 else
 some (.next (IntKind.wrap .i64 (i+1))))
 else
 some (.done (.brk ()))
def j5 (a:(List Link)) (b:(List Link)):Option Bool:=
 bif (!decide ((a.length:Int)=(b.length:Int)))then
 some false
 else
 Option.bind (aR (iD a b) FUEL (0)) fun o=>match o with
 | .ret v=>some v
 | .brk _=>
 some true
def iC (a:(List aG)) (b:(List aG)):Int→Option (cO Int (Ex Unit Bool)):=
 fun i=>
 bif (decide (i<(a.length:Int)))then
 bU (((0:Int)≤i∧i<(a.length:Int))∧((0:Int)≤i∧i<(b.length:Int))) (
 bif (!((decide ((((at' a i.toNat).feeds).e0)=(((at' b i.toNat).feeds).e0))) && ((decide ((((at' a i.toNat).feeds).e1)=(((at' b i.toNat).feeds).e1))) && ((decide (((at' a i.toNat).power)=((at' b i.toNat).power))) && ((decide (((at' a i.toNat).paths)=((at' b i.toNat).paths))) && true)))))then
 some (.done (.ret false))
 else
 some (.next (IntKind.wrap .i64 (i+1))))
 else
 some (.done (.brk ()))
def ko (a:(List aG)) (b:(List aG)):Option Bool:=
 bif (!decide ((a.length:Int)=(b.length:Int)))then
 some false
 else
 Option.bind (aR (iC a b) FUEL (0)) fun o=>match o with
 | .ret v=>some v
 | .brk _=>
 some true
def j6 (a:au) (b:au):Option Bool:=
 (bif gB [((decide (a.buses=b.buses)),true)]then jl a.sources b.sources else some default).bind fun r_=>
 (bif gB [((bif (decide (a.buses=b.buses))then r_ else false),true)]then j5 a.links b.links else some default).bind fun r_1=>
 (bif gB [((bif (bif (decide (a.buses=b.buses))then r_ else false)then r_1 else false),true)]then ko a.racks b.racks else some default).bind fun r_2=>
 some (bif (bif (bif (decide (a.buses=b.buses))then r_ else false)then r_1 else false)then r_2 else false)
def rQ:Option au:=
 some (⟨3,[(⟨0,1,500,0,20⟩:Source),(⟨2,2,300,0,40⟩:Source)],[(⟨0,1,3,400,10,[(⟨1000,400⟩:aW),(⟨5000,50⟩:aW)]⟩:Link),(⟨1,2,3,400,10,([]:List aW)⟩:Link)],[(⟨(⟨1,(-1)⟩:ax),100,1⟩:aG)]⟩:au)
def fQ (p:au) (s_:State):Int→Option (cO Int (Ex Unit Int)):=
 fun t55=>
 bif (decide (t55<([(⟨s_.closed,(p.links.length:Int)⟩:bR),(⟨s_.locked,(p.links.length:Int)⟩:bR),(⟨s_.badLink,(p.links.length:Int)⟩:bR),(⟨s_.on_,(p.sources.length:Int)⟩:bR),(⟨s_.badSource,(p.sources.length:Int)⟩:bR),(⟨s_.earthed,p.buses⟩:bR),(⟨s_.badBus,p.buses⟩:bR)].length:Int)))then
 bU ((0:Int)≤t55∧t55<([(⟨s_.closed,(p.links.length:Int)⟩:bR),(⟨s_.locked,(p.links.length:Int)⟩:bR),(⟨s_.badLink,(p.links.length:Int)⟩:bR),(⟨s_.on_,(p.sources.length:Int)⟩:bR),(⟨s_.badSource,(p.sources.length:Int)⟩:bR),(⟨s_.earthed,p.buses⟩:bR),(⟨s_.badBus,p.buses⟩:bR)].length:Int)) (
 bif (!decide ((((at' [(⟨s_.closed,(p.links.length:Int)⟩:bR),(⟨s_.locked,(p.links.length:Int)⟩:bR),(⟨s_.badLink,(p.links.length:Int)⟩:bR),(⟨s_.on_,(p.sources.length:Int)⟩:bR),(⟨s_.badSource,(p.sources.length:Int)⟩:bR),(⟨s_.earthed,p.buses⟩:bR),(⟨s_.badBus,p.buses⟩:bR)] t55.toNat).l).length:Int)=((at' [(⟨s_.closed,(p.links.length:Int)⟩:bR),(⟨s_.locked,(p.links.length:Int)⟩:bR),(⟨s_.badLink,(p.links.length:Int)⟩:bR),(⟨s_.on_,(p.sources.length:Int)⟩:bR),(⟨s_.badSource,(p.sources.length:Int)⟩:bR),(⟨s_.earthed,p.buses⟩:bR),(⟨s_.badBus,p.buses⟩:bR)] t55.toNat).n)))then
 some (.done (.ret 9))
 else
 some (.next (IntKind.wrap .i64 (t55+1))))
 else
 some (.done (.brk ()))
def fT (p:au) (s_:State):Int→Option (cO Int (Ex Unit Int)):=
 fun t69=>
 bif (decide (t69<(p.links.length:Int)))then
 bU ((0:Int)≤t69∧t69<(p.links.length:Int)) (
 bU ((gB [((decide (((at' p.links t69.toNat).kind)=1)),true)]=true→(0:Int)≤t69∧t69<(s_.closed.length:Int))∧(gB [((!(at' s_.closed t69.toNat)),false),((decide (((at' p.links t69.toNat).kind)=1)),true)]=true→(0:Int)≤t69∧t69<(s_.locked.length:Int))) (
 bif (bif (decide (((at' p.links t69.toNat).kind)=1))then(bif (!(at' s_.closed t69.toNat))then true else(at' s_.locked t69.toNat))else false)then
 some (.done (.ret 9))
 else
 some (.next (IntKind.wrap .i64 (t69+1)))))
 else
 some (.done (.brk ()))
def bI (p:au) (s_:State):Option Int:=
 (eB p).bind fun r_=>
 bif (!decide (r_=0))then
 some r_
 else
 Option.bind (aR (fQ p s_) FUEL (0)) fun o=>match o with
 | .ret v=>some v
 | .brk _=>
 Option.bind (aR (fT p s_) FUEL (0)) fun o=>match o with
 | .ret v=>some v
 | .brk _=>
 some 0
def nT (p:au) (s_:State):Option (Int × (List Source) × (List Link) × (List aG) × (List Bool) × (List Bool) × (List Bool) × (List Bool) × (List Bool) × (List Bool) × (List Bool)):=
 some (p.buses,p.sources,p.links,p.racks,s_.closed,s_.locked,s_.badLink,s_.on_,s_.badSource,s_.earthed,s_.badBus)
def qf (g:aF):Int→Option (cO Int (Ex Unit Int)):=
 fun x1=>
 bif (!((aO dS x1 g.head).isSome))then
 some (.done (.ret x1))
 else
 some (.next ((aO dS x1 g.head).getD 0))
def di (g:aF) (x:Int):Option Int:=
 Option.bind (aR (qf g) FUEL (x)) fun o=>match o with
 | .ret v=>some v
 | .brk _=>none
def mV (g:aF) (a:Int) (b:Int):Option (List (Int × Int)):=
 (di g a).bind fun r_=>
 (di g b).bind fun r_1=>
 bif (!decide (r_=r_1))then
 some (ay dS r_ r_1 g.head)
 else
 some g.head
def jw (x22:Int) (x221:Int) (x222:Int) (x223:Int) (x224:Int) (x225:(List aW)) (o_:aF):Option aF:=
 (mV o_ x22 x221).bind fun r_=>
 some (⟨r_⟩:aF)
def qx (x12:(List Link)) (x2:(List Bool)) (x22:(List Bool)) (x26:(List Bool)):((List (Int × Int)) × Int)→Option (cO ((List (Int × Int)) × Int) (Ex (List (Int × Int)) aF)):=
 fun zz=>match zz with
 |(o0,t9)=>
 bif (decide (t9<(x12.length:Int)))then
 bU ((0:Int)≤t9∧t9<(x12.length:Int)) (
 bif (bif (bif (bif (at' x2 t9.toNat)then(!(at' x22 t9.toNat))else false)then(!(at' x26 (((at' x12 t9.toNat).a).toNat)))else false)then(!(at' x26 (((at' x12 t9.toNat).b).toNat)))else false)then
 (jw ((at' x12 t9.toNat).a) ((at' x12 t9.toNat).b) ((at' x12 t9.toNat).kind) ((at' x12 t9.toNat).most) ((at' x12 t9.toNat).ohm) ((at' x12 t9.toNat).trip) (⟨o0⟩:aF)).bind fun r_=>
 bU (((0:Int)≤t9∧t9<(x2.length:Int))∧(gB [((at' x2 t9.toNat),true)]=true→(0:Int)≤t9∧t9<(x22.length:Int))∧(gB [((bif (at' x2 t9.toNat)then(!(at' x22 t9.toNat))else false),true)]=true→(0:Int)≤(at' x12 t9.toNat).a∧(at' x12 t9.toNat).a<(x26.length:Int))∧(gB [((bif (bif (at' x2 t9.toNat)then(!(at' x22 t9.toNat))else false)then(!(at' x26 (((at' x12 t9.toNat).a).toNat)))else false),true)]=true→(0:Int)≤(at' x12 t9.toNat).b∧(at' x12 t9.toNat).b<(x26.length:Int))) (
 some (.next (r_.head,(IntKind.wrap .i64 (t9+1)))))
 else
 bU (((0:Int)≤t9∧t9<(x2.length:Int))∧(gB [((at' x2 t9.toNat),true)]=true→(0:Int)≤t9∧t9<(x22.length:Int))∧(gB [((bif (at' x2 t9.toNat)then(!(at' x22 t9.toNat))else false),true)]=true→(0:Int)≤(at' x12 t9.toNat).a∧(at' x12 t9.toNat).a<(x26.length:Int))∧(gB [((bif (bif (at' x2 t9.toNat)then(!(at' x22 t9.toNat))else false)then(!(at' x26 (((at' x12 t9.toNat).a).toNat)))else false),true)]=true→(0:Int)≤(at' x12 t9.toNat).b∧(at' x12 t9.toNat).b<(x26.length:Int))) (
 some (.next (o0,(IntKind.wrap .i64 (t9+1))))))
 else
 some (.done (.brk o0))
def mF (x1:Int) (x11:(List Source)) (x12:(List Link)) (x13:(List aG)) (x2:(List Bool)) (x21:(List Bool)) (x22:(List Bool)) (x23:(List Bool)) (x24:(List Bool)) (x25:(List Bool)) (x26:(List Bool)) (o_:aF):Option aF:=
 Option.bind (aR (qx x12 x2 x22 x26) FUEL (o_.head,0)) fun o=>match o with
 | .ret v=>some v
 | .brk o01=>
 some (⟨o01⟩:aF)
def xV (p:au) (s_:State) (r_1:aF):((List ah) × (List (Int × Int)) × Int)→Option (cO ((List ah) × (List (Int × Int)) × Int) (Ex ((List ah) × (List (Int × Int))) (List ah))):=
 fun zz=>match zz with
 |(out,at_,t32)=>
 bif (decide (t32<p.buses))then
 bU ((0:Int)≤t32∧t32<(s_.badBus.length:Int)) (
 bif (at' s_.badBus t32.toNat)then
 some (.next (out,at_,(IntKind.wrap .i64 (t32+1))))
 else
 (di r_1 t32).bind fun r_2=>
 bif (!((aO dS r_2 at_).isSome))then
 bU (((out.length+[(⟨([]:List Int),([]:List Int)⟩:ah)].length)*48≤140737488355328)∧(out.length+[(⟨([]:List Int),([]:List Int)⟩:ah)].length≤4611686018427387904)) (
 bU (((0:Int)≤((aO dS r_2 (ay dS r_2 (out.length:Int) at_)).getD 0)∧((aO dS r_2 (ay dS r_2 (out.length:Int) at_)).getD 0)<((out++[(⟨([]:List Int),([]:List Int)⟩:ah)]).length:Int))∧((((at' (out++[(⟨([]:List Int),([]:List Int)⟩:ah)]) (((aO dS r_2 (ay dS r_2 (out.length:Int) at_)).getD 0).toNat)).buses).length+[t32].length)*8≤140737488355328)∧(((at' (out++[(⟨([]:List Int),([]:List Int)⟩:ah)]) (((aO dS r_2 (ay dS r_2 (out.length:Int) at_)).getD 0).toNat)).buses).length+[t32].length≤4611686018427387904)) (
 some (.next (((out++[(⟨([]:List Int),([]:List Int)⟩:ah)]).set (((aO dS r_2 (ay dS r_2 (out.length:Int) at_)).getD 0).toNat) (⟨(((at' (out++[(⟨([]:List Int),([]:List Int)⟩:ah)]) (((aO dS r_2 (ay dS r_2 (out.length:Int) at_)).getD 0).toNat)).buses)++[t32]),(at' (out++[(⟨([]:List Int),([]:List Int)⟩:ah)]) (((aO dS r_2 (ay dS r_2 (out.length:Int) at_)).getD 0).toNat)).sources⟩:ah)),(ay dS r_2 (out.length:Int) at_),(IntKind.wrap .i64 (t32+1))))))
 else
 bU (((0:Int)≤((aO dS r_2 at_).getD 0)∧((aO dS r_2 at_).getD 0)<(out.length:Int))∧((((at' out (((aO dS r_2 at_).getD 0).toNat)).buses).length+[t32].length)*8≤140737488355328)∧(((at' out (((aO dS r_2 at_).getD 0).toNat)).buses).length+[t32].length≤4611686018427387904)) (
 some (.next ((out.set (((aO dS r_2 at_).getD 0).toNat) (⟨(((at' out (((aO dS r_2 at_).getD 0).toNat)).buses)++[t32]),(at' out (((aO dS r_2 at_).getD 0).toNat)).sources⟩:ah)),at_,(IntKind.wrap .i64 (t32+1))))))
 else
 some (.done (.brk (out,at_)))
def wK (p:au) (s_:State) (r_1:aF) (at_1:(List (Int × Int))):((List ah) × Int)→Option (cO ((List ah) × Int) (Ex (List ah) (List ah))):=
 fun zz=>match zz with
 |(out2,t78)=>
 bif (decide (t78<(p.sources.length:Int)))then
 bU ((0:Int)≤t78∧t78<(p.sources.length:Int)) (
 bU (((0:Int)≤t78∧t78<(s_.on_.length:Int))∧(gB [((at' s_.on_ t78.toNat),true)]=true→(0:Int)≤t78∧t78<(s_.badSource.length:Int))∧(gB [((bif (at' s_.on_ t78.toNat)then(!(at' s_.badSource t78.toNat))else false),true)]=true→(0:Int)≤(at' p.sources t78.toNat).bus∧(at' p.sources t78.toNat).bus<(s_.badBus.length:Int))) (
 bif (bif (bif (at' s_.on_ t78.toNat)then(!(at' s_.badSource t78.toNat))else false)then(!(at' s_.badBus (((at' p.sources t78.toNat).bus).toNat)))else false)then
 (di r_1 ((at' p.sources t78.toNat).bus)).bind fun r_3=>
 bU (((0:Int)≤((aO dS r_3 at_1).getD 0)∧((aO dS r_3 at_1).getD 0)<(out2.length:Int))∧((((at' out2 (((aO dS r_3 at_1).getD 0).toNat)).sources).length+[t78].length)*8≤140737488355328)∧(((at' out2 (((aO dS r_3 at_1).getD 0).toNat)).sources).length+[t78].length≤4611686018427387904)) (
 some (.next ((out2.set (((aO dS r_3 at_1).getD 0).toNat) (⟨(at' out2 (((aO dS r_3 at_1).getD 0).toNat)).buses,(((at' out2 (((aO dS r_3 at_1).getD 0).toNat)).sources)++[t78])⟩:ah)),(IntKind.wrap .i64 (t78+1)))))
 else
 some (.next (out2,(IntKind.wrap .i64 (t78+1))))))
 else
 some (.done (.brk out2))
def iQ (p:au) (s_:State):Option (List ah):=
 (nT p s_).bind fun r_=>
 (mF r_.1 r_.2.1 r_.2.2.1 r_.2.2.2.1 r_.2.2.2.2.1 r_.2.2.2.2.2.1 r_.2.2.2.2.2.2.1 r_.2.2.2.2.2.2.2.1 r_.2.2.2.2.2.2.2.2.1 r_.2.2.2.2.2.2.2.2.2.1 r_.2.2.2.2.2.2.2.2.2.2 (⟨([]:(List (Int × Int)))⟩:aF)).bind fun r_1=>
 Option.bind (aR (xV p s_ r_1) FUEL (([]:List ah),([]:(List (Int × Int))),0)) fun o=>match o with
 | .ret v=>some v
 | .brk (out1,at_1)=>
 Option.bind (aR (wK p s_ r_1 at_1) FUEL (out1,0)) fun o=>match o with
 | .ret v=>some v
 | .brk out3=>
 some out3
def rR (p:au) (s_:State):Option ((List ah) × Int):=
 (bI p s_).bind fun r_=>
 bif (!decide (r_=0))then
 some (([]:List ah),r_)
 else
 (iQ p s_).bind fun r_1=>
 some (r_1,0)
def dF (x y:ax):Int:=if x.e0<y.e0 then -1 else if y.e0<x.e0 then 1 else if x.e1<y.e1 then -1 else if y.e1<x.e1 then 1 else 0
def pK (s:(List ax)):Option (List ax):=match s with
 |[]=>some []
 |x::xs=>bif decide ((x::xs).length<4611686018427387904)then some ((x::xs).mergeSort fun x y=> !decide (dF y x<0))else none
def wQ (p:au) (r_1:(List ah)) (t24:Int) (t31:Int):((List ax) × Int)→Option (cO ((List ax) × Int) (Ex (List ax) (cO ((List ax) × Int) (Ex (List ax) (cO ((List ax) × Int) (Ex (List ax) ((List ax) × Int))))))):=
 fun zz=>match zz with
 |(out4,t42)=>
 bif (decide (t42<(((((at' r_1 t24.toNat).sources).length - ((IntKind.wrap .i64 (t31+1)).toNat)):Nat):Int)))then
 bU ((0:Int)≤t42∧t42<((((at' r_1 t24.toNat).sources).drop ((IntKind.wrap .i64 (t31+1)).toNat)).length:Int)) (
 bU (((0:Int)≤(at' ((at' r_1 t24.toNat).sources) t31.toNat)∧(at' ((at' r_1 t24.toNat).sources) t31.toNat)<(p.sources.length:Int))∧(gB [((decide (((at' p.sources ((at' ((at' r_1 t24.toNat).sources) t31.toNat).toNat)).sync)=0)),false)]=true→(0:Int)≤(at' ((at' r_1 t24.toNat).sources) t31.toNat)∧(at' ((at' r_1 t24.toNat).sources) t31.toNat)<(p.sources.length:Int))∧(gB [((decide (((at' p.sources ((at' ((at' r_1 t24.toNat).sources) t31.toNat).toNat)).sync)=0)),false)]=true→(0:Int)≤(at' (((at' r_1 t24.toNat).sources).drop ((IntKind.wrap .i64 (t31+1)).toNat)) t42.toNat)∧(at' (((at' r_1 t24.toNat).sources).drop ((IntKind.wrap .i64 (t31+1)).toNat)) t42.toNat)<(p.sources.length:Int))) (
 bif (bif (decide (((at' p.sources ((at' ((at' r_1 t24.toNat).sources) t31.toNat).toNat)).sync)=0))then true else(!decide (((at' p.sources ((at' ((at' r_1 t24.toNat).sources) t31.toNat).toNat)).sync)=((at' p.sources ((at' (((at' r_1 t24.toNat).sources).drop ((IntKind.wrap .i64 (t31+1)).toNat)) t42.toNat).toNat)).sync))))then
 bU (((out4.length+[(⟨(at' ((at' r_1 t24.toNat).sources) t31.toNat),(at' (((at' r_1 t24.toNat).sources).drop ((IntKind.wrap .i64 (t31+1)).toNat)) t42.toNat)⟩:ax)].length)*16≤140737488355328)∧(out4.length+[(⟨(at' ((at' r_1 t24.toNat).sources) t31.toNat),(at' (((at' r_1 t24.toNat).sources).drop ((IntKind.wrap .i64 (t31+1)).toNat)) t42.toNat)⟩:ax)].length≤4611686018427387904)) (
 some (.next ((out4++[(⟨(at' ((at' r_1 t24.toNat).sources) t31.toNat),(at' (((at' r_1 t24.toNat).sources).drop ((IntKind.wrap .i64 (t31+1)).toNat)) t42.toNat)⟩:ax)]),(IntKind.wrap .i64 (t42+1)))))
 else
 some (.next (out4,(IntKind.wrap .i64 (t42+1))))))
 else
 some (.done (.brk out4))
def xq (p:au) (r_1:(List ah)) (t24:Int):((List ax) × Int)→Option (cO ((List ax) × Int) (Ex (List ax) (cO ((List ax) × Int) (Ex (List ax) ((List ax) × Int))))):=
 fun zz=>match zz with
 |(out2,t31)=>
 bif (decide (t31<(((at' r_1 t24.toNat).sources).length:Int)))then
 bU ((0:Int)≤t31∧t31<(((at' r_1 t24.toNat).sources).length:Int)) (
 bU ((0:Int)≤(IntKind.wrap .i64 (t31+1))∧(IntKind.wrap .i64 (t31+1))≤(((at' r_1 t24.toNat).sources).length:Int)) (
 Option.bind (aR (wQ p r_1 t24 t31) FUEL (out2,0)) fun o=>match o with
 | .ret v=>some v
 | .brk out5=>
 some (.next (out5,(IntKind.wrap .i64 (t31+1))))))
 else
 some (.done (.brk out2))
def wR (p:au) (r_1:(List ah)):((List ax) × Int)→Option (cO ((List ax) × Int) (Ex (List ax) ((List ax) × Int))):=
 fun zz=>match zz with
 |(out,t24)=>
 bif (decide (t24<(r_1.length:Int)))then
 bU ((0:Int)≤t24∧t24<(r_1.length:Int)) (
 Option.bind (aR (xq p r_1 t24) FUEL (out,0)) fun o=>match o with
 | .ret v=>some v
 | .brk out3=>
 some (.next (out3,(IntKind.wrap .i64 (t24+1)))))
 else
 some (.done (.brk out))
def rJ (p:au) (s_:State):Option ((List ax) × Int):=
 (bI p s_).bind fun r_=>
 bif (!decide (r_=0))then
 some (([]:List ax),r_)
 else
 (iQ p s_).bind fun r_1=>
 Option.bind (aR (wR p r_1) FUEL (([]:List ax),0)) fun o=>match o with
 | .ret v=>some v
 | .brk out1=>
 (pK out1).bind fun r_2=>
 bU (out1.length=r_2.length) (
 some (r_2,0))
def yA (a:(List Int)) (b:(List Int)):Int→Option (cO Int (Ex Unit Bool)):=
 fun i=>
 bif (decide (i<(a.length:Int)))then
 bU (((0:Int)≤i∧i<(a.length:Int))∧((0:Int)≤i∧i<(b.length:Int))) (
 bif (!decide ((at' a i.toNat)=(at' b i.toNat)))then
 some (.done (.ret false))
 else
 some (.next (IntKind.wrap .i64 (i+1))))
 else
 some (.done (.brk ()))
def oK (a:(List Int)) (b:(List Int)):Option Bool:=
 bif (!decide ((a.length:Int)=(b.length:Int)))then
 some false
 else
 Option.bind (aR (yA a b) FUEL (0)) fun o=>match o with
 | .ret v=>some v
 | .brk _=>
 some true
def qU (a:(List ah)) (b:(List ah)):Int→Option (cO Int (Ex Unit Bool)):=
 fun i=>
 bif (decide (i<(a.length:Int)))then
 (oK ((at' a i.toNat).buses) ((at' b i.toNat).buses)).bind fun r_=>
 (bif gB [((!r_),false)]then oK ((at' a i.toNat).sources) ((at' b i.toNat).sources)else some default).bind fun r_1=>
 bU (((0:Int)≤i∧i<(a.length:Int))∧((0:Int)≤i∧i<(b.length:Int))∧(gB [((!r_),false)]=true→(0:Int)≤i∧i<(a.length:Int))∧(gB [((!r_),false)]=true→(0:Int)≤i∧i<(b.length:Int))) (
 bif (bif (!r_)then true else(!r_1))then
 some (.done (.ret false))
 else
 some (.next (IntKind.wrap .i64 (i+1))))
 else
 some (.done (.brk ()))
def jQ (a:(List ah)) (b:(List ah)):Option Bool:=
 bif (!decide ((a.length:Int)=(b.length:Int)))then
 some false
 else
 Option.bind (aR (qU a b) FUEL (0)) fun o=>match o with
 | .ret v=>some v
 | .brk _=>
 some true
def uz (a:(List ax)) (b:(List ax)):Int→Option (cO Int (Ex Unit Bool)):=
 fun i=>
 bif (decide (i<(a.length:Int)))then
 bU (((0:Int)≤i∧i<(a.length:Int))∧((0:Int)≤i∧i<(b.length:Int))) (
 bif (!((decide (((at' a i.toNat).e0)=((at' b i.toNat).e0))) && ((decide (((at' a i.toNat).e1)=((at' b i.toNat).e1))) && true)))then
 some (.done (.ret false))
 else
 some (.next (IntKind.wrap .i64 (i+1))))
 else
 some (.done (.brk ()))
def pJ (a:(List ax)) (b:(List ax)):Option Bool:=
 bif (!decide ((a.length:Int)=(b.length:Int)))then
 some false
 else
 Option.bind (aR (uz a b) FUEL (0)) fun o=>match o with
 | .ret v=>some v
 | .brk _=>
 some true
def QS:DV→Int
 | .int _ n=>n
 |_=>0
def fmtS (p:au) (i j:Nat):Int:=QS (Source.cell (at' p.sources i) j)
def K6 (p:au) (i j:Nat):Int:=QS (Link.cell (at' p.links i) j)
def Ii (p:au) (i:Nat):Nat:=(at' p.links i).trip.length
def KA (p:au) (i j:Nat):Int:=QS (aG.cell (at' p.racks i) j)
def Ku (p:au) (i g j:Nat):Int:=QS (aW.cell (at' (at' p.links i).trip g) j)
def PX (p:au):List UInt8:=K9 p.buses p.sources.length p.links.length p.racks.length (fmtS p) (K6 p) (KA p) (Ii p) (Ku p)
def bH (p:au):Option (ByteArray × Int):=
 (eB p).bind fun c=>bif decide (c=0)then(bif fmtG p.buses p.sources.length p.links.length p.racks.length (fmtS p) (K6 p) (KA p) (Ii p) (Ku p)then some (sb (PX p),0)else none)else some (⟨#[]⟩,c)
def dH (n:Int):Option (List Bool):=
 bU (((0:Int)≤n)∧((1:Int)*n≤281474976710656)∧((n:Int)≤9223372036854775807)) (
 some (List.replicate n.toNat (false:Bool)))
def wP (p:au):((List Bool) × Int)→Option (cO ((List Bool) × Int) (Ex (List Bool) (State × Int))):=
 fun zz=>match zz with
 |(s0,t50)=>
 bif (decide (t50<(p.links.length:Int)))then
 bU ((0:Int)≤t50∧t50<(p.links.length:Int)) (
 bU ((0:Int)≤t50∧t50<(s0.length:Int)) (
 some (.next ((s0.set t50.toNat (decide (((at' p.links t50.toNat).kind)=1))),(IntKind.wrap .i64 (t50+1))))))
 else
 some (.done (.brk s0))
def rH (p:au):Option (State × Int):=
 (eB p).bind fun r_=>
 bif (!decide (r_=0))then
 some ((⟨([]:List Bool),([]:List Bool),([]:List Bool),([]:List Bool),([]:List Bool),([]:List Bool),([]:List Bool)⟩:State),r_)
 else
 (dH (p.links.length:Int)).bind fun r_1=>
 (dH (p.links.length:Int)).bind fun r_2=>
 (dH (p.links.length:Int)).bind fun r_3=>
 (dH (p.sources.length:Int)).bind fun r_4=>
 (dH (p.sources.length:Int)).bind fun r_5=>
 (dH p.buses).bind fun r_6=>
 (dH p.buses).bind fun r_7=>
 Option.bind (aR (wP p) FUEL (r_1,0)) fun o=>match o with
 | .ret v=>some v
 | .brk s01=>
 some ((⟨s01,r_2,r_3,r_4,r_5,r_6,r_7⟩:State),0)
def Bp (r_1:(List ah)) (t25:Int):((List Bool) × Int)→Option (cO ((List Bool) × Int) (Ex (List Bool) (cO ((List Bool) × Int) (Ex (List Bool) ((List Bool) × Int))))):=
 fun zz=>match zz with
 |(out2,t32)=>
 bif (decide (t32<(((at' r_1 t25.toNat).buses).length:Int)))then
 bU ((0:Int)≤t32∧t32<(((at' r_1 t25.toNat).buses).length:Int)) (
 bU ((0:Int)≤(at' ((at' r_1 t25.toNat).buses) t32.toNat)∧(at' ((at' r_1 t25.toNat).buses) t32.toNat)<(out2.length:Int)) (
 some (.next ((out2.set ((at' ((at' r_1 t25.toNat).buses) t32.toNat).toNat) (decide (0<(((at' r_1 t25.toNat).sources).length:Int)))),(IntKind.wrap .i64 (t32+1))))))
 else
 some (.done (.brk out2))
def Bn (r_1:(List ah)):((List Bool) × Int)→Option (cO ((List Bool) × Int) (Ex (List Bool) ((List Bool) × Int))):=
 fun zz=>match zz with
 |(out,t25)=>
 bif (decide (t25<(r_1.length:Int)))then
 bU ((0:Int)≤t25∧t25<(r_1.length:Int)) (
 Option.bind (aR (Bp r_1 t25) FUEL (out,0)) fun o=>match o with
 | .ret v=>some v
 | .brk out3=>
 some (.next (out3,(IntKind.wrap .i64 (t25+1)))))
 else
 some (.done (.brk out))
def zq (p:au) (s_:State):Option ((List Bool) × Int):=
 (bI p s_).bind fun r_=>
 bif (!decide (r_=0))then
 some (([]:List Bool),r_)
 else
 bU (((0:Int)≤p.buses)∧((1:Int)*p.buses≤281474976710656)∧((p.buses:Int)≤9223372036854775807)) (
 (iQ p s_).bind fun r_1=>
 Option.bind (aR (Bn r_1) FUEL ((List.replicate p.buses.toNat (false:Bool)),0)) fun o=>match o with
 | .ret v=>some v
 | .brk out1=>
 some (out1,0))
def CK (p:au) (r_:((List Bool) × Int)):((List aM) × Int)→Option (cO ((List aM) × Int) (Ex (List aM) ((List aM) × Int))):=
 fun zz=>match zz with
 |(out,t26)=>
 bif (decide (t26<(p.racks.length:Int)))then
 bU ((0:Int)≤t26∧t26<(p.racks.length:Int)) (
 bU (gB [((decide (0≤(((at' p.racks t26.toNat).feeds).e0))),true)]=true→(0:Int)≤((at' p.racks t26.toNat).feeds).e0∧((at' p.racks t26.toNat).feeds).e0<(r_.1.length:Int)) (
 bU (gB [((decide (0≤(((at' p.racks t26.toNat).feeds).e1))),true)]=true→(0:Int)≤((at' p.racks t26.toNat).feeds).e1∧((at' p.racks t26.toNat).feeds).e1<(r_.1.length:Int)) (
 bU (((out.length+[(⟨(bif (decide (0≤(((at' p.racks t26.toNat).feeds).e0)))then(at' r_.1 ((((at' p.racks t26.toNat).feeds).e0).toNat))else false),(bif (decide (0≤(((at' p.racks t26.toNat).feeds).e1)))then(at' r_.1 ((((at' p.racks t26.toNat).feeds).e1).toNat))else false)⟩:aM)].length)*2≤140737488355328)∧(out.length+[(⟨(bif (decide (0≤(((at' p.racks t26.toNat).feeds).e0)))then(at' r_.1 ((((at' p.racks t26.toNat).feeds).e0).toNat))else false),(bif (decide (0≤(((at' p.racks t26.toNat).feeds).e1)))then(at' r_.1 ((((at' p.racks t26.toNat).feeds).e1).toNat))else false)⟩:aM)].length≤4611686018427387904)) (
 some (.next ((out++[(⟨(bif (decide (0≤(((at' p.racks t26.toNat).feeds).e0)))then(at' r_.1 ((((at' p.racks t26.toNat).feeds).e0).toNat))else false),(bif (decide (0≤(((at' p.racks t26.toNat).feeds).e1)))then(at' r_.1 ((((at' p.racks t26.toNat).feeds).e1).toNat))else false)⟩:aM)]),(IntKind.wrap .i64 (t26+1))))))))
 else
 some (.done (.brk out))
def AP (p:au) (s_:State):Option ((List aM) × Int):=
 (zq p s_).bind fun r_=>
 bif (!decide (r_.2=0))then
 some (([]:List aM),r_.2)
 else
 Option.bind (aR (CK p r_) FUEL (([]:List aM),0)) fun o=>match o with
 | .ret v=>some v
 | .brk out1=>
 some (out1,0)
def uT (s_:(List Bool)) (s_nn:Bool):Option (List Bool):=
 bif (!s_nn)then
 some ([]:List Bool)
 else
 bU (((([]:List Bool).length+s_.length)*1≤140737488355328)∧(([]:List Bool).length+s_.length≤4611686018427387904)) (
 some (([]:List Bool)++s_))
def dL (s:(List Bool)):Option (List Bool):=uT s true
def uD (s_:State):Option State:=
 bU ((0:Int)≤0∧0<(7:Int)) (
 (dL s_.closed).bind fun r_=>
 bU ((0:Int)≤1∧1<(7:Int)) (
 (dL s_.locked).bind fun r_1=>
 bU ((0:Int)≤2∧2<(7:Int)) (
 (dL s_.badLink).bind fun r_2=>
 bU ((0:Int)≤3∧3<(7:Int)) (
 (dL s_.on_).bind fun r_3=>
 bU ((0:Int)≤4∧4<(7:Int)) (
 (dL s_.badSource).bind fun r_4=>
 bU ((0:Int)≤5∧5<(7:Int)) (
 (dL s_.earthed).bind fun r_5=>
 bU ((0:Int)≤6∧6<(7:Int)) (
 (dL s_.badBus).bind fun r_6=>
 some (⟨r_,r_1,r_2,r_3,r_4,r_5,r_6⟩:State))))))))
def uG (p:au) (s_:State) (x:Part) (is:Bool):Option (State × Int):=
 (bI p s_).bind fun r_=>
 bif (!decide (r_=0))then
 some ((⟨([]:List Bool),([]:List Bool),([]:List Bool),([]:List Bool),([]:List Bool),([]:List Bool),([]:List Bool)⟩:State),r_)
 else
 (uD s_).bind fun r_1=>
 bif (dS x.kind 1)then
 (aL x.index 0 (IntKind.wrap .i64 ((r_1.badBus.length:Int) - 1))).bind fun r_2=>
 bif (!r_2)then
 some ((⟨([]:List Bool),([]:List Bool),([]:List Bool),([]:List Bool),([]:List Bool),([]:List Bool),([]:List Bool)⟩:State),14)
 else
 bU ((0:Int)≤x.index∧x.index<(r_1.badBus.length:Int)) (
 some ((⟨r_1.closed,r_1.locked,r_1.badLink,r_1.on_,r_1.badSource,r_1.earthed,(r_1.badBus.set x.index.toNat is)⟩:State),0))
 else
 bif (dS x.kind 2)then
 (aL x.index 0 (IntKind.wrap .i64 ((r_1.badSource.length:Int) - 1))).bind fun r_3=>
 bif (!r_3)then
 some ((⟨([]:List Bool),([]:List Bool),([]:List Bool),([]:List Bool),([]:List Bool),([]:List Bool),([]:List Bool)⟩:State),14)
 else
 bU ((0:Int)≤x.index∧x.index<(r_1.badSource.length:Int)) (
 some ((⟨r_1.closed,r_1.locked,r_1.badLink,r_1.on_,(r_1.badSource.set x.index.toNat is),r_1.earthed,r_1.badBus⟩:State),0))
 else
 bif (dS x.kind 3)then
 (aL x.index 0 (IntKind.wrap .i64 ((r_1.badLink.length:Int) - 1))).bind fun r_4=>
 bif (!r_4)then
 some ((⟨([]:List Bool),([]:List Bool),([]:List Bool),([]:List Bool),([]:List Bool),([]:List Bool),([]:List Bool)⟩:State),14)
 else
 bU ((0:Int)≤x.index∧x.index<(r_1.badLink.length:Int)) (
 some ((⟨r_1.closed,r_1.locked,(r_1.badLink.set x.index.toNat is),r_1.on_,r_1.badSource,r_1.earthed,r_1.badBus⟩:State),0))
 else
 (aL x.index 0 (-1)).bind fun r_5=>
 bif (!r_5)then
 some ((⟨([]:List Bool),([]:List Bool),([]:List Bool),([]:List Bool),([]:List Bool),([]:List Bool),([]:List Bool)⟩:State),14)
 else
 none
def qa (p:au) (s_:State) (x:Part):Option (State × Int):=
 (uG p s_ x true).bind fun r_=>
 some (r_.1,r_.2)
def lM (p:au) (s_:State):Option (Int × (List Source) × (List Link) × (List aG) × State):=
 some (p.buses,p.sources,p.links,p.racks,s_)
def om (x12:(List Link)) (state:State):((List (Int × Int)) × Int)→Option (cO ((List (Int × Int)) × Int) (Ex (List (Int × Int)) aF)):=
 fun zz=>match zz with
 |(o0,t9)=>
 bif (decide (t9<(x12.length:Int)))then
 bU ((0:Int)≤t9∧t9<(x12.length:Int)) (
 bif (bif (bif (bif (at' state.closed t9.toNat)then(!(at' state.badLink t9.toNat))else false)then(!(at' state.badBus (((at' x12 t9.toNat).a).toNat)))else false)then(!(at' state.badBus (((at' x12 t9.toNat).b).toNat)))else false)then
 (jw ((at' x12 t9.toNat).a) ((at' x12 t9.toNat).b) ((at' x12 t9.toNat).kind) ((at' x12 t9.toNat).most) ((at' x12 t9.toNat).ohm) ((at' x12 t9.toNat).trip) (⟨o0⟩:aF)).bind fun r_=>
 bU (((0:Int)≤t9∧t9<(state.closed.length:Int))∧(gB [((at' state.closed t9.toNat),true)]=true→(0:Int)≤t9∧t9<(state.badLink.length:Int))∧(gB [((bif (at' state.closed t9.toNat)then(!(at' state.badLink t9.toNat))else false),true)]=true→(0:Int)≤(at' x12 t9.toNat).a∧(at' x12 t9.toNat).a<(state.badBus.length:Int))∧(gB [((bif (bif (at' state.closed t9.toNat)then(!(at' state.badLink t9.toNat))else false)then(!(at' state.badBus (((at' x12 t9.toNat).a).toNat)))else false),true)]=true→(0:Int)≤(at' x12 t9.toNat).b∧(at' x12 t9.toNat).b<(state.badBus.length:Int))) (
 some (.next (r_.head,(IntKind.wrap .i64 (t9+1)))))
 else
 bU (((0:Int)≤t9∧t9<(state.closed.length:Int))∧(gB [((at' state.closed t9.toNat),true)]=true→(0:Int)≤t9∧t9<(state.badLink.length:Int))∧(gB [((bif (at' state.closed t9.toNat)then(!(at' state.badLink t9.toNat))else false),true)]=true→(0:Int)≤(at' x12 t9.toNat).a∧(at' x12 t9.toNat).a<(state.badBus.length:Int))∧(gB [((bif (bif (at' state.closed t9.toNat)then(!(at' state.badLink t9.toNat))else false)then(!(at' state.badBus (((at' x12 t9.toNat).a).toNat)))else false),true)]=true→(0:Int)≤(at' x12 t9.toNat).b∧(at' x12 t9.toNat).b<(state.badBus.length:Int))) (
 some (.next (o0,(IntKind.wrap .i64 (t9+1))))))
 else
 some (.done (.brk o0))
def kL (x1:Int) (x11:(List Source)) (x12:(List Link)) (x13:(List aG)) (state:State) (o_:aF):Option aF:=
 Option.bind (aR (om x12 state) FUEL (o_.head,0)) fun o=>match o with
 | .ret v=>some v
 | .brk o01=>
 some (⟨o01⟩:aF)
def sO (p:au) (s_:State) (r_1:aF):((List ah) × (List (Int × Int)) × Int)→Option (cO ((List ah) × (List (Int × Int)) × Int) (Ex ((List ah) × (List (Int × Int))) (List ah))):=
 fun zz=>match zz with
 |(out,at_,t32)=>
 bif (decide (t32<p.buses))then
 bU ((0:Int)≤t32∧t32<(s_.badBus.length:Int)) (
 bif (at' s_.badBus t32.toNat)then
 some (.next (out,at_,(IntKind.wrap .i64 (t32+1))))
 else
 (di r_1 t32).bind fun r_2=>
 bif (!((aO dS r_2 at_).isSome))then
 bU (((out.length+[(⟨([]:List Int),([]:List Int)⟩:ah)].length)*48≤140737488355328)∧(out.length+[(⟨([]:List Int),([]:List Int)⟩:ah)].length≤4611686018427387904)) (
 bU (((0:Int)≤((aO dS r_2 (ay dS r_2 (out.length:Int) at_)).getD 0)∧((aO dS r_2 (ay dS r_2 (out.length:Int) at_)).getD 0)<((out++[(⟨([]:List Int),([]:List Int)⟩:ah)]).length:Int))∧((((at' (out++[(⟨([]:List Int),([]:List Int)⟩:ah)]) (((aO dS r_2 (ay dS r_2 (out.length:Int) at_)).getD 0).toNat)).buses).length+[t32].length)*8≤140737488355328)∧(((at' (out++[(⟨([]:List Int),([]:List Int)⟩:ah)]) (((aO dS r_2 (ay dS r_2 (out.length:Int) at_)).getD 0).toNat)).buses).length+[t32].length≤4611686018427387904)) (
 some (.next (((out++[(⟨([]:List Int),([]:List Int)⟩:ah)]).set (((aO dS r_2 (ay dS r_2 (out.length:Int) at_)).getD 0).toNat) (⟨(((at' (out++[(⟨([]:List Int),([]:List Int)⟩:ah)]) (((aO dS r_2 (ay dS r_2 (out.length:Int) at_)).getD 0).toNat)).buses)++[t32]),(at' (out++[(⟨([]:List Int),([]:List Int)⟩:ah)]) (((aO dS r_2 (ay dS r_2 (out.length:Int) at_)).getD 0).toNat)).sources⟩:ah)),(ay dS r_2 (out.length:Int) at_),(IntKind.wrap .i64 (t32+1))))))
 else
 bU (((0:Int)≤((aO dS r_2 at_).getD 0)∧((aO dS r_2 at_).getD 0)<(out.length:Int))∧((((at' out (((aO dS r_2 at_).getD 0).toNat)).buses).length+[t32].length)*8≤140737488355328)∧(((at' out (((aO dS r_2 at_).getD 0).toNat)).buses).length+[t32].length≤4611686018427387904)) (
 some (.next ((out.set (((aO dS r_2 at_).getD 0).toNat) (⟨(((at' out (((aO dS r_2 at_).getD 0).toNat)).buses)++[t32]),(at' out (((aO dS r_2 at_).getD 0).toNat)).sources⟩:ah)),at_,(IntKind.wrap .i64 (t32+1))))))
 else
 some (.done (.brk (out,at_)))
def sS (p:au) (s_:State) (r_1:aF) (at_1:(List (Int × Int))):((List ah) × Int)→Option (cO ((List ah) × Int) (Ex (List ah) (List ah))):=
 fun zz=>match zz with
 |(out2,t78)=>
 bif (decide (t78<(p.sources.length:Int)))then
 bU ((0:Int)≤t78∧t78<(p.sources.length:Int)) (
 bU (((0:Int)≤t78∧t78<(s_.on_.length:Int))∧(gB [((at' s_.on_ t78.toNat),true)]=true→(0:Int)≤t78∧t78<(s_.badSource.length:Int))∧(gB [((bif (at' s_.on_ t78.toNat)then(!(at' s_.badSource t78.toNat))else false),true)]=true→(0:Int)≤(at' p.sources t78.toNat).bus∧(at' p.sources t78.toNat).bus<(s_.badBus.length:Int))) (
 bif (bif (bif (at' s_.on_ t78.toNat)then(!(at' s_.badSource t78.toNat))else false)then(!(at' s_.badBus (((at' p.sources t78.toNat).bus).toNat)))else false)then
 (di r_1 ((at' p.sources t78.toNat).bus)).bind fun r_3=>
 bU (((0:Int)≤((aO dS r_3 at_1).getD 0)∧((aO dS r_3 at_1).getD 0)<(out2.length:Int))∧((((at' out2 (((aO dS r_3 at_1).getD 0).toNat)).sources).length+[t78].length)*8≤140737488355328)∧(((at' out2 (((aO dS r_3 at_1).getD 0).toNat)).sources).length+[t78].length≤4611686018427387904)) (
 some (.next ((out2.set (((aO dS r_3 at_1).getD 0).toNat) (⟨(at' out2 (((aO dS r_3 at_1).getD 0).toNat)).buses,(((at' out2 (((aO dS r_3 at_1).getD 0).toNat)).sources)++[t78])⟩:ah)),(IntKind.wrap .i64 (t78+1)))))
 else
 some (.next (out2,(IntKind.wrap .i64 (t78+1))))))
 else
 some (.done (.brk out2))
def iM (p:au) (s_:State):Option (List ah):=
 (lM p s_).bind fun r_=>
 (kL r_.1 r_.2.1 r_.2.2.1 r_.2.2.2.1 s_ (⟨([]:(List (Int × Int)))⟩:aF)).bind fun r_1=>
 Option.bind (aR (sO p s_ r_1) FUEL (([]:List ah),([]:(List (Int × Int))),0)) fun o=>match o with
 | .ret v=>some v
 | .brk (out1,at_1)=>
 Option.bind (aR (sS p s_ r_1 at_1) FUEL (out1,0)) fun o=>match o with
 | .ret v=>some v
 | .brk out3=>
 some out3
def oI (p:au) (s_:State):Option ((List ah) × Int):=
 (bI p s_).bind fun r_=>
 bif (!decide (r_=0))then
 some (([]:List ah),r_)
 else
 (iM p s_).bind fun r_1=>
 some (r_1,0)
def xE (r_1:(List ah)) (t25:Int):((List Bool) × Int)→Option (cO ((List Bool) × Int) (Ex (List Bool) (cO ((List Bool) × Int) (Ex (List Bool) ((List Bool) × Int))))):=
 fun zz=>match zz with
 |(out2,t32)=>
 bif (decide (t32<(((at' r_1 t25.toNat).buses).length:Int)))then
 bU ((0:Int)≤t32∧t32<(((at' r_1 t25.toNat).buses).length:Int)) (
 bU ((0:Int)≤(at' ((at' r_1 t25.toNat).buses) t32.toNat)∧(at' ((at' r_1 t25.toNat).buses) t32.toNat)<(out2.length:Int)) (
 some (.next ((out2.set ((at' ((at' r_1 t25.toNat).buses) t32.toNat).toNat) (decide (0<(((at' r_1 t25.toNat).sources).length:Int)))),(IntKind.wrap .i64 (t32+1))))))
 else
 some (.done (.brk out2))
def xI (r_1:(List ah)):((List Bool) × Int)→Option (cO ((List Bool) × Int) (Ex (List Bool) ((List Bool) × Int))):=
 fun zz=>match zz with
 |(out,t25)=>
 bif (decide (t25<(r_1.length:Int)))then
 bU ((0:Int)≤t25∧t25<(r_1.length:Int)) (
 Option.bind (aR (xE r_1 t25) FUEL (out,0)) fun o=>match o with
 | .ret v=>some v
 | .brk out3=>
 some (.next (out3,(IntKind.wrap .i64 (t25+1)))))
 else
 some (.done (.brk out))
def rG (p:au) (s_:State):Option ((List Bool) × Int):=
 (bI p s_).bind fun r_=>
 bif (!decide (r_=0))then
 some (([]:List Bool),r_)
 else
 bU (((0:Int)≤p.buses)∧((1:Int)*p.buses≤281474976710656)∧((p.buses:Int)≤9223372036854775807)) (
 (iM p s_).bind fun r_1=>
 Option.bind (aR (xI r_1) FUEL ((List.replicate p.buses.toNat (false:Bool)),0)) fun o=>match o with
 | .ret v=>some v
 | .brk out1=>
 some (out1,0))
def zG (p:au) (r_:((List Bool) × Int)):((List aM) × Int)→Option (cO ((List aM) × Int) (Ex (List aM) ((List aM) × Int))):=
 fun zz=>match zz with
 |(out,t26)=>
 bif (decide (t26<(p.racks.length:Int)))then
 bU ((0:Int)≤t26∧t26<(p.racks.length:Int)) (
 bU (gB [((decide (0≤(((at' p.racks t26.toNat).feeds).e0))),true)]=true→(0:Int)≤((at' p.racks t26.toNat).feeds).e0∧((at' p.racks t26.toNat).feeds).e0<(r_.1.length:Int)) (
 bU (gB [((decide (0≤(((at' p.racks t26.toNat).feeds).e1))),true)]=true→(0:Int)≤((at' p.racks t26.toNat).feeds).e1∧((at' p.racks t26.toNat).feeds).e1<(r_.1.length:Int)) (
 bU (((out.length+[(⟨(bif (decide (0≤(((at' p.racks t26.toNat).feeds).e0)))then(at' r_.1 ((((at' p.racks t26.toNat).feeds).e0).toNat))else false),(bif (decide (0≤(((at' p.racks t26.toNat).feeds).e1)))then(at' r_.1 ((((at' p.racks t26.toNat).feeds).e1).toNat))else false)⟩:aM)].length)*2≤140737488355328)∧(out.length+[(⟨(bif (decide (0≤(((at' p.racks t26.toNat).feeds).e0)))then(at' r_.1 ((((at' p.racks t26.toNat).feeds).e0).toNat))else false),(bif (decide (0≤(((at' p.racks t26.toNat).feeds).e1)))then(at' r_.1 ((((at' p.racks t26.toNat).feeds).e1).toNat))else false)⟩:aM)].length≤4611686018427387904)) (
 some (.next ((out++[(⟨(bif (decide (0≤(((at' p.racks t26.toNat).feeds).e0)))then(at' r_.1 ((((at' p.racks t26.toNat).feeds).e0).toNat))else false),(bif (decide (0≤(((at' p.racks t26.toNat).feeds).e1)))then(at' r_.1 ((((at' p.racks t26.toNat).feeds).e1).toNat))else false)⟩:aM)]),(IntKind.wrap .i64 (t26+1))))))))
 else
 some (.done (.brk out))
def uN (p:au) (s_:State):Option ((List aM) × Int):=
 (rG p s_).bind fun r_=>
 bif (!decide (r_.2=0))then
 some (([]:List aM),r_.2)
 else
 Option.bind (aR (zG p r_) FUEL (([]:List aM),0)) fun o=>match o with
 | .ret v=>some v
 | .brk out1=>
 some (out1,0)
def dI:Option Bool:=
 (rQ).bind fun r_=>
 (rH r_).bind fun r_1=>
 bif (bif (bif (bif (!decide (r_1.2=0))then true else(!decide ((r_1.1.on_.length:Int)=2)))then true else(!decide ((r_1.1.closed.length:Int)=2)))then true else(!decide ((r_1.1.badBus.length:Int)=3)))then
 some false
 else
 (oI r_ (⟨[true,false],r_1.1.locked,r_1.1.badLink,[true,true],r_1.1.badSource,r_1.1.earthed,r_1.1.badBus⟩:State)).bind fun r_2=>
 (uN r_ (⟨[true,false],r_1.1.locked,r_1.1.badLink,[true,true],r_1.1.badSource,r_1.1.earthed,r_1.1.badBus⟩:State)).bind fun r_3=>
 bif (bif (bif (bif (!decide (r_2.2=0))then true else(!decide (r_3.2=0)))then true else(!decide ((r_3.1.length:Int)=1)))then true else(!((at' r_3.1 0).e0)))then
 bU (gB [((bif (bif (!decide (r_2.2=0))then true else(!decide (r_3.2=0)))then true else(!decide ((r_3.1.length:Int)=1))),false)]=true→(0:Int)≤0∧0<(r_3.1.length:Int)) (
 some false)
 else
 (jQ r_2.1 [(⟨[0,1],[0]⟩:ah),(⟨[2],[1]⟩:ah)]).bind fun r_4=>
 bU (gB [((bif (bif (!decide (r_2.2=0))then true else(!decide (r_3.2=0)))then true else(!decide ((r_3.1.length:Int)=1))),false)]=true→(0:Int)≤0∧0<(r_3.1.length:Int)) (
 bif (!r_4)then
 some false
 else
 bU ((0:Int)≤1∧1<([true,false].length:Int)) (
 (rJ r_ (⟨([true,false].set 1 true),r_1.1.locked,r_1.1.badLink,[true,true],r_1.1.badSource,r_1.1.earthed,r_1.1.badBus⟩:State)).bind fun r_5=>
 (qa r_ (⟨([true,false].set 1 true),r_1.1.locked,r_1.1.badLink,[true,true],r_1.1.badSource,r_1.1.earthed,r_1.1.badBus⟩:State) (⟨3,0⟩:Part)).bind fun r_6=>
 (rR r_ r_6.1).bind fun r_7=>
 bif (bif (bif (!decide (r_5.2=0))then true else(!decide (r_6.2=0)))then true else(!decide (r_7.2=0)))then
 some false
 else
 (pJ r_5.1 [(⟨0,1⟩:ax)]).bind fun r_8=>
 bif (!r_8)then
 some false
 else
 (jQ r_7.1 [(⟨[0],[0]⟩:ah),(⟨[1,2],[1]⟩:ah)]).bind fun r_9=>
 bif (!r_9)then
 some false
 else
 (qa r_ (⟨([true,false].set 1 true),r_1.1.locked,r_1.1.badLink,[true,true],r_1.1.badSource,r_1.1.earthed,r_1.1.badBus⟩:State) (⟨1,1⟩:Part)).bind fun r_10=>
 (AP r_ r_10.1).bind fun r_11=>
 (bH r_).bind fun r_12=>
 bU (gB [((bif (bif (bif (decide (r_10.2=0))then(decide (r_11.2=0))else false)then(decide (r_12.2=0))else false)then(decide ((r_11.1.length:Int)=1))else false),true)]=true→(0:Int)≤0∧0<(r_11.1.length:Int)) (
 some (bif (bif (bif (bif (bif (decide (r_10.2=0))then(decide (r_11.2=0))else false)then(decide (r_12.2=0))else false)then(decide ((r_11.1.length:Int)=1))else false)then(!((at' r_11.1 0).e0))else false)then((r_12.1:ByteArray).toList==(⟨#[112,108,97,110,116,32,51,10,115,111,117,114,99,101,32,48,32,103,114,105,100,32,53,48,48,32,48,32,50,48,10,115,111,117,114,99,101,32,50,32,103,101,110,101,114,97,116,111,114,32,51,48,48,32,48,32,52,48,10,108,105,110,107,32,48,32,49,32,98,114,101,97,107,101,114,32,52,48,48,32,49,48,32,49,48,48,48,58,52,48,48,32,53,48,48,48,58,53,48,10,108,105,110,107,32,49,32,50,32,98,114,101,97,107,101,114,32,52,48,48,32,49,48,10,114,97,99,107,32,49,32,45,49,32,49,48,48,32,49,10]⟩:ByteArray).toList)else false))))
def kX (p:au):Int→Option (cO Int (Ex Unit Bool)):=
 fun i=>
 bif (decide (i<(p.links.length:Int)))then
 bU ((0:Int)≤i∧i<(p.links.length:Int)) (
 bif (decide (20<(((at' p.links i.toNat).trip).length:Int)))then
 some (.done (.ret true))
 else
 some (.next (IntKind.wrap .i64 (i+1))))
 else
 some (.done (.brk ()))
def pu (p:au):Option Bool:=
 bif (bif (bif (decide (60<(p.sources.length:Int)))then true else(decide (60<(p.links.length:Int))))then true else(decide (60<(p.racks.length:Int))))then
 some true
 else
 Option.bind (aR (kX p) FUEL (0)) fun o=>match o with
 | .ret v=>some v
 | .brk _=>
 some false
def KX (s:State):Nat→List Bool
 |0=>s.closed
 |1=>s.locked
 |2=>s.badLink
 |3=>s.on_
 |4=>s.badSource
 |5=>s.earthed
 |_=>s.badBus
def jE (s:State):Option ByteArray:=bif Ip (KX s)then some (mP (KX s))else none
def gG (p:au) (s_:State):Option (ByteArray × Int):=
 (bI p s_).bind fun r_=>
 bif (!decide (r_=0))then
 some (⟨#[]⟩,r_)
 else
 (jE s_).bind fun r_1=>
 some (r_1,0)
def rz (state:State):Option (ByteArray × ByteArray × ByteArray × ByteArray × ByteArray × ByteArray × ByteArray):=
 some (⟨#[111,110]⟩,⟨#[98,97,100,115,111,117,114,99,101]⟩,⟨#[99,108,111,115,101,100]⟩,⟨#[108,111,99,107,101,100]⟩,⟨#[98,97,100,108,105,110,107]⟩,⟨#[101,97,114,116,104,101,100]⟩,⟨#[98,97,100,98,117,115]⟩)
def bP (r_3:(ByteArray × ByteArray × Bool)):((List Bool) × Int)→Option (cO ((List Bool) × Int) (Ex (List Bool) (List Bool))):=
 fun zz=>match zz with
 |(s31,t47)=>
 bif (decide (t47<((aQ r_3.2.1).length:Int)))then
 bU ((0:Int)≤t47∧t47<((aQ r_3.2.1).length:Int)) (
 bU (((s31.length+[(decide ((at' (aQ r_3.2.1) t47.toNat)=49))].length)*1≤140737488355328)∧(s31.length+[(decide ((at' (aQ r_3.2.1) t47.toNat)=49))].length≤4611686018427387904)) (
 some (.next ((s31++[(decide ((at' (aQ r_3.2.1) t47.toNat)=49))]),(IntKind.wrap .i64 (t47+1))))))
 else
 some (.done (.brk s31))
def sF (r_4:(ByteArray × ByteArray × Bool)):((List Bool) × Int)→Option (cO ((List Bool) × Int) (Ex (List Bool) (List Bool))):=
 fun zz=>match zz with
 |(s41,t471)=>
 bif (decide (t471<((aQ r_4.2.1).length:Int)))then
 bU ((0:Int)≤t471∧t471<((aQ r_4.2.1).length:Int)) (
 bU (((s41.length+[(decide ((at' (aQ r_4.2.1) t471.toNat)=49))].length)*1≤140737488355328)∧(s41.length+[(decide ((at' (aQ r_4.2.1) t471.toNat)=49))].length≤4611686018427387904)) (
 some (.next ((s41++[(decide ((at' (aQ r_4.2.1) t471.toNat)=49))]),(IntKind.wrap .i64 (t471+1))))))
 else
 some (.done (.brk s41))
def rZ (r_5:(ByteArray × ByteArray × Bool)):((List Bool) × Int)→Option (cO ((List Bool) × Int) (Ex (List Bool) (List Bool))):=
 fun zz=>match zz with
 |(s01,t472)=>
 bif (decide (t472<((aQ r_5.2.1).length:Int)))then
 bU ((0:Int)≤t472∧t472<((aQ r_5.2.1).length:Int)) (
 bU (((s01.length+[(decide ((at' (aQ r_5.2.1) t472.toNat)=49))].length)*1≤140737488355328)∧(s01.length+[(decide ((at' (aQ r_5.2.1) t472.toNat)=49))].length≤4611686018427387904)) (
 some (.next ((s01++[(decide ((at' (aQ r_5.2.1) t472.toNat)=49))]),(IntKind.wrap .i64 (t472+1))))))
 else
 some (.done (.brk s01))
def sj (r_6:(ByteArray × ByteArray × Bool)):((List Bool) × Int)→Option (cO ((List Bool) × Int) (Ex (List Bool) (List Bool))):=
 fun zz=>match zz with
 |(s11,t473)=>
 bif (decide (t473<((aQ r_6.2.1).length:Int)))then
 bU ((0:Int)≤t473∧t473<((aQ r_6.2.1).length:Int)) (
 bU (((s11.length+[(decide ((at' (aQ r_6.2.1) t473.toNat)=49))].length)*1≤140737488355328)∧(s11.length+[(decide ((at' (aQ r_6.2.1) t473.toNat)=49))].length≤4611686018427387904)) (
 some (.next ((s11++[(decide ((at' (aQ r_6.2.1) t473.toNat)=49))]),(IntKind.wrap .i64 (t473+1))))))
 else
 some (.done (.brk s11))
def rW (r_7:(ByteArray × ByteArray × Bool)):((List Bool) × Int)→Option (cO ((List Bool) × Int) (Ex (List Bool) (List Bool))):=
 fun zz=>match zz with
 |(s21,t474)=>
 bif (decide (t474<((aQ r_7.2.1).length:Int)))then
 bU ((0:Int)≤t474∧t474<((aQ r_7.2.1).length:Int)) (
 bU (((s21.length+[(decide ((at' (aQ r_7.2.1) t474.toNat)=49))].length)*1≤140737488355328)∧(s21.length+[(decide ((at' (aQ r_7.2.1) t474.toNat)=49))].length≤4611686018427387904)) (
 some (.next ((s21++[(decide ((at' (aQ r_7.2.1) t474.toNat)=49))]),(IntKind.wrap .i64 (t474+1))))))
 else
 some (.done (.brk s21))
def rV (r_8:(ByteArray × ByteArray × Bool)):((List Bool) × Int)→Option (cO ((List Bool) × Int) (Ex (List Bool) (List Bool))):=
 fun zz=>match zz with
 |(s51,t475)=>
 bif (decide (t475<((aQ r_8.2.1).length:Int)))then
 bU ((0:Int)≤t475∧t475<((aQ r_8.2.1).length:Int)) (
 bU (((s51.length+[(decide ((at' (aQ r_8.2.1) t475.toNat)=49))].length)*1≤140737488355328)∧(s51.length+[(decide ((at' (aQ r_8.2.1) t475.toNat)=49))].length≤4611686018427387904)) (
 some (.next ((s51++[(decide ((at' (aQ r_8.2.1) t475.toNat)=49))]),(IntKind.wrap .i64 (t475+1))))))
 else
 some (.done (.brk s51))
def su (r_9:(ByteArray × ByteArray × Bool)):((List Bool) × Int)→Option (cO ((List Bool) × Int) (Ex (List Bool) (List Bool))):=
 fun zz=>match zz with
 |(s61,t476)=>
 bif (decide (t476<((aQ r_9.2.1).length:Int)))then
 bU ((0:Int)≤t476∧t476<((aQ r_9.2.1).length:Int)) (
 bU (((s61.length+[(decide ((at' (aQ r_9.2.1) t476.toNat)=49))].length)*1≤140737488355328)∧(s61.length+[(decide ((at' (aQ r_9.2.1) t476.toNat)=49))].length≤4611686018427387904)) (
 some (.next ((s61++[(decide ((at' (aQ r_9.2.1) t476.toNat)=49))]),(IntKind.wrap .i64 (t476+1))))))
 else
 some (.done (.brk s61))
def iH (p:au) (text:ByteArray):Option (State × Int):=
 (eB p).bind fun r_=>
 bif (!decide (r_=0))then
 some ((⟨([]:List Bool),([]:List Bool),([]:List Bool),([]:List Bool),([]:List Bool),([]:List Bool),([]:List Bool)⟩:State),r_)
 else
 (gy text ⟨#[10]⟩).bind fun r_1=>
 (rz (⟨([]:List Bool),([]:List Bool),([]:List Bool),([]:List Bool),([]:List Bool),([]:List Bool),([]:List Bool)⟩:State)).bind fun r_2=>
 Option.bind (α:=(List Bool)) (
 bU ((0:Int)≤0∧0<(7:Int)) (
 bif (decide ((0:Int)<(r_1.length:Int)))then
 (bT (at' r_1 0) ⟨#[32]⟩).bind fun r_3=>
 bU ((0:Int)≤0∧0<(r_1.length:Int)) (
 Option.bind (aR (bP r_3) FUEL (([]:List Bool),0)) fun o=>match o with
 | .ret v=>some v
 | .brk s32=>
 some s32)
 else
 some ([]:List Bool))) fun s3=>
 Option.bind (α:=(List Bool)) (
 bU ((0:Int)≤1∧1<(7:Int)) (
 bif (decide ((1:Int)<(r_1.length:Int)))then
 (bT (at' r_1 1) ⟨#[32]⟩).bind fun r_4=>
 bU ((0:Int)≤1∧1<(r_1.length:Int)) (
 Option.bind (aR (sF r_4) FUEL (([]:List Bool),0)) fun o=>match o with
 | .ret v=>some v
 | .brk s42=>
 some s42)
 else
 some ([]:List Bool))) fun s4=>
 Option.bind (α:=(List Bool)) (
 bU ((0:Int)≤2∧2<(7:Int)) (
 bif (decide ((2:Int)<(r_1.length:Int)))then
 (bT (at' r_1 2) ⟨#[32]⟩).bind fun r_5=>
 bU ((0:Int)≤2∧2<(r_1.length:Int)) (
 Option.bind (aR (rZ r_5) FUEL (([]:List Bool),0)) fun o=>match o with
 | .ret v=>some v
 | .brk s02=>
 some s02)
 else
 some ([]:List Bool))) fun s0=>
 Option.bind (α:=(List Bool)) (
 bU ((0:Int)≤3∧3<(7:Int)) (
 bif (decide ((3:Int)<(r_1.length:Int)))then
 (bT (at' r_1 3) ⟨#[32]⟩).bind fun r_6=>
 bU ((0:Int)≤3∧3<(r_1.length:Int)) (
 Option.bind (aR (sj r_6) FUEL (([]:List Bool),0)) fun o=>match o with
 | .ret v=>some v
 | .brk s12=>
 some s12)
 else
 some ([]:List Bool))) fun s1=>
 Option.bind (α:=(List Bool)) (
 bU ((0:Int)≤4∧4<(7:Int)) (
 bif (decide ((4:Int)<(r_1.length:Int)))then
 (bT (at' r_1 4) ⟨#[32]⟩).bind fun r_7=>
 bU ((0:Int)≤4∧4<(r_1.length:Int)) (
 Option.bind (aR (rW r_7) FUEL (([]:List Bool),0)) fun o=>match o with
 | .ret v=>some v
 | .brk s22=>
 some s22)
 else
 some ([]:List Bool))) fun s2=>
 Option.bind (α:=(List Bool)) (
 bU ((0:Int)≤5∧5<(7:Int)) (
 bif (decide ((5:Int)<(r_1.length:Int)))then
 (bT (at' r_1 5) ⟨#[32]⟩).bind fun r_8=>
 bU ((0:Int)≤5∧5<(r_1.length:Int)) (
 Option.bind (aR (rV r_8) FUEL (([]:List Bool),0)) fun o=>match o with
 | .ret v=>some v
 | .brk s52=>
 some s52)
 else
 some ([]:List Bool))) fun s5=>
 Option.bind (α:=(List Bool)) (
 bU ((0:Int)≤6∧6<(7:Int)) (
 bif (decide ((6:Int)<(r_1.length:Int)))then
 (bT (at' r_1 6) ⟨#[32]⟩).bind fun r_9=>
 bU ((0:Int)≤6∧6<(r_1.length:Int)) (
 Option.bind (aR (su r_9) FUEL (([]:List Bool),0)) fun o=>match o with
 | .ret v=>some v
 | .brk s62=>
 some s62)
 else
 some ([]:List Bool))) fun s6=>
 (bI p (⟨s0,s1,s2,s3,s4,s5,s6⟩:State)).bind fun r_10=>
 (bif gB [((!decide (r_10=0)),false)]then jE (⟨s0,s1,s2,s3,s4,s5,s6⟩:State)else some default).bind fun r_11=>
 bif (bif (!decide (r_10=0))then true else(!((r_11:ByteArray).toList==(text:ByteArray).toList)))then
 some ((⟨([]:List Bool),([]:List Bool),([]:List Bool),([]:List Bool),([]:List Bool),([]:List Bool),([]:List Bool)⟩:State),3)
 else
 some ((⟨s0,s1,s2,s3,s4,s5,s6⟩:State),0)
def ic (a:(List Bool)) (b:(List Bool)):Int→Option (cO Int (Ex Unit Bool)):=
 fun i=>
 bif (decide (i<(a.length:Int)))then
 bU (((0:Int)≤i∧i<(a.length:Int))∧((0:Int)≤i∧i<(b.length:Int))) (
 bif (!((at' a i.toNat)==(at' b i.toNat)))then
 some (.done (.ret false))
 else
 some (.next (IntKind.wrap .i64 (i+1))))
 else
 some (.done (.brk ()))
def bX (a:(List Bool)) (b:(List Bool)):Option Bool:=
 bif (!decide ((a.length:Int)=(b.length:Int)))then
 some false
 else
 Option.bind (aR (ic a b) FUEL (0)) fun o=>match o with
 | .ret v=>some v
 | .brk _=>
 some true
def gu (a:State) (b:State):Option Bool:=
 (bX a.closed b.closed).bind fun r_=>
 (bif gB [(r_,true)]then bX a.locked b.locked else some default).bind fun r_1=>
 (bif gB [((bif r_ then r_1 else false),true)]then bX a.badLink b.badLink else some default).bind fun r_2=>
 (bif gB [((bif (bif r_ then r_1 else false)then r_2 else false),true)]then bX a.on_ b.on_ else some default).bind fun r_3=>
 (bif gB [((bif (bif (bif r_ then r_1 else false)then r_2 else false)then r_3 else false),true)]then bX a.badSource b.badSource else some default).bind fun r_4=>
 (bif gB [((bif (bif (bif (bif r_ then r_1 else false)then r_2 else false)then r_3 else false)then r_4 else false),true)]then bX a.earthed b.earthed else some default).bind fun r_5=>
 (bif gB [((bif (bif (bif (bif (bif r_ then r_1 else false)then r_2 else false)then r_3 else false)then r_4 else false)then r_5 else false),true)]then bX a.badBus b.badBus else some default).bind fun r_6=>
 some (bif (bif (bif (bif (bif (bif r_ then r_1 else false)then r_2 else false)then r_3 else false)then r_4 else false)then r_5 else false)then r_6 else false)
def iG (p:au) (s_:State) (text:ByteArray):Option Bool:=
 (pu p).bind fun r_=>
 bif (bif r_ then true else(decide (4000<((text.size:Nat):Int))))then
 (dI).bind fun r_1=>
 some r_1
 else
 (bH p).bind fun r_2=>
 bif (decide (r_2.2=0))then
 (dO r_2.1).bind fun r_3=>
 (bif gB [((bif (!decide (r_3.2.2=0))then true else(!decide (r_3.2.1=0))),false)]then j6 p r_3.1 else some default).bind fun r_4=>
 bif (bif (bif (!decide (r_3.2.2=0))then true else(!decide (r_3.2.1=0)))then true else(!r_4))then
 some false
 else
 (gG p s_).bind fun r_5=>
 bif (decide (r_5.2=0))then
 (iH p r_5.1).bind fun r_6=>
 (bif gB [((!decide (r_6.2=0)),false)]then gu s_ r_6.1 else some default).bind fun r_7=>
 bif (bif (!decide (r_6.2=0))then true else(!r_7))then
 some false
 else
 (dO text).bind fun r_8=>
 bif (decide (r_8.2.2=0))then
 (bH r_8.1).bind fun r_9=>
 bif (bif (!decide (r_9.2=0))then true else(!((r_9.1:ByteArray).toList==(text:ByteArray).toList)))then
 some false
 else
 (dI).bind fun r_10=>
 some r_10
 else
 (dI).bind fun r_11=>
 some r_11
 else
 (dO text).bind fun r_12=>
 bif (decide (r_12.2.2=0))then
 (bH r_12.1).bind fun r_13=>
 bif (bif (!decide (r_13.2=0))then true else(!((r_13.1:ByteArray).toList==(text:ByteArray).toList)))then
 some false
 else
 (dI).bind fun r_14=>
 some r_14
 else
 (dI).bind fun r_15=>
 some r_15
 else
 (gG p s_).bind fun r_16=>
 bif (decide (r_16.2=0))then
 (iH p r_16.1).bind fun r_17=>
 (bif gB [((!decide (r_17.2=0)),false)]then gu s_ r_17.1 else some default).bind fun r_18=>
 bif (bif (!decide (r_17.2=0))then true else(!r_18))then
 some false
 else
 (dO text).bind fun r_19=>
 bif (decide (r_19.2.2=0))then
 (bH r_19.1).bind fun r_20=>
 bif (bif (!decide (r_20.2=0))then true else(!((r_20.1:ByteArray).toList==(text:ByteArray).toList)))then
 some false
 else
 (dI).bind fun r_21=>
 some r_21
 else
 (dI).bind fun r_22=>
 some r_22
 else
 (dO text).bind fun r_23=>
 bif (decide (r_23.2.2=0))then
 (bH r_23.1).bind fun r_24=>
 bif (bif (!decide (r_24.2=0))then true else(!((r_24.1:ByteArray).toList==(text:ByteArray).toList)))then
 some false
 else
 (dI).bind fun r_25=>
 some r_25
 else
 (dI).bind fun r_26=>
 some r_26
end Sg
