import Derived.Test.YtpndenfhglaikaaGreatLd
set_option linter.all false
namespace Sg
open Go
structure Source where
 bus:Int
 kind:Int
 power:Int
 sync:Int
 bJ:Int
instance:Inhabited Source:=⟨⟨default,default,default,default,default⟩⟩
def Source.cell (x:Source):Nat→DV
 |0=>(.int .i64 x.bus)
 |1=>(.int .i64 x.kind)
 |2=>(.int .i64 x.power)
 |3=>(.int .i64 x.sync)
 |4=>(.int .i64 x.bJ)
 |_=> .nilp
structure gD where
 amps:Int
 millis:Int
instance:Inhabited gD:=⟨⟨default,default⟩⟩
def gD.cell (x:gD):Nat→DV
 |0=>(.int .i64 x.amps)
 |1=>(.int .i64 x.millis)
 |_=> .nilp
structure Link where
 a:Int
 b:Int
 kind:Int
 most:Int
 bJ:Int
 trip:(List gD)
instance:Inhabited Link:=⟨⟨default,default,default,default,default,default⟩⟩
def Link.cell (x:Link):Nat→DV
 |0=>(.int .i64 x.a)
 |1=>(.int .i64 x.b)
 |2=>(.int .i64 x.kind)
 |3=>(.int .i64 x.most)
 |4=>(.int .i64 x.bJ)
 |5=>(bM none 2 gD.cell x.trip)
 |_=> .nilp
structure af where
 e0:Int
 e1:Int
instance:Inhabited af:=⟨⟨default,default⟩⟩
def af.cell (x:af):Nat→DV
 |0=>(.int .i64 x.e0)
 |1=>(.int .i64 x.e1)
 |_=> .nilp
structure aD where
 feeds:af
 power:Int
 paths:Int
instance:Inhabited aD:=⟨⟨default,default,default⟩⟩
def aD.cell (x:aD):Nat→DV
 |0=>(.int .i64 x.feeds.e0)
 |1=>(.int .i64 x.feeds.e1)
 |2=>(.int .i64 x.power)
 |3=>(.int .i64 x.paths)
 |_=> .nilp
structure ah where
 buses:Int
 sources:(List Source)
 links:(List Link)
 racks:(List aD)
instance:Inhabited ah:=⟨⟨default,default,default,default⟩⟩
def ah.cell (x:ah):Nat→DV
 |0=>(.int .i64 x.buses)
 |1=>(bM none 5 Source.cell x.sources)
 |2=>(bM none 6 Link.cell x.links)
 |3=>(bM none 4 aD.cell x.racks)
 |_=> .nilp
structure State where
 closed:(List Bool)
 locked:(List Bool)
 badLink:(List Bool)
 on_:(List Bool)
 badSource:(List Bool)
 earthed:(List Bool)
 badBus:(List Bool)
instance:Inhabited State:=⟨⟨default,default,default,default,default,default,default⟩⟩
def State.cell (x:State):Nat→DV
 |0=>(bM none 1 aj x.closed)
 |1=>(bM none 1 aj x.locked)
 |2=>(bM none 1 aj x.badLink)
 |3=>(bM none 1 aj x.on_)
 |4=>(bM none 1 aj x.badSource)
 |5=>(bM none 1 aj x.earthed)
 |6=>(bM none 1 aj x.badBus)
 |_=> .nilp
structure dh where
 l:(List Bool)
 n:Int
instance:Inhabited dh:=⟨⟨default,default⟩⟩
def dh.cell (x:dh):Nat→DV
 |0=>(bM none 1 aj x.l)
 |1=>(.int .i64 x.n)
 |_=> .nilp
structure bg where
 to_:Int
 left:Int
instance:Inhabited bg:=⟨⟨default,default⟩⟩
def bg.cell (x:bg):Nat→DV
 |0=>(.int .i64 x.to_)
 |1=>(.int .i64 x.left)
 |_=> .nilp
structure Network where
 arcs:(List bg)
 from_:(List (List Int))
instance:Inhabited Network:=⟨⟨default,default⟩⟩
def Network.cell (x:Network):Nat→DV
 |0=>(bM none 2 bg.cell x.arcs)
 |1=>(bM none 1 (UO 1 (aG .i64)) x.from_)
 |_=> .nilp
structure bB where
 l:(List af)
instance:Inhabited bB:=⟨⟨default⟩⟩
def bB.cell (x:bB):Nat→DV
 |0=>(bM none 2 af.cell x.l)
 |_=> .nilp
structure aA where
 sources:(List Int)
 links:(List Int)
 racks:(List af)
instance:Inhabited aA:=⟨⟨default,default,default⟩⟩
def aA.cell (x:aA):Nat→DV
 |0=>(bM none 1 (aG .i64) x.sources)
 |1=>(bM none 1 (aG .i64) x.links)
 |2=>(bM none 2 af.cell x.racks)
 |_=> .nilp
structure Part where
 kind:Int
 index:Int
instance:Inhabited Part:=⟨⟨default,default⟩⟩
def Part.cell (x:Part):Nat→DV
 |0=>(.int .i64 x.kind)
 |1=>(.int .i64 x.index)
 |_=> .nilp
structure Way where
 there:Bool
 bJ:Int
 links:(List Int)
instance:Inhabited Way:=⟨⟨default,default,default⟩⟩
def Way.cell (x:Way):Nat→DV
 |0=>(.bool x.there)
 |1=>(.int .i64 x.bJ)
 |2=>(bM none 1 (aG .i64) x.links)
 |_=> .nilp
structure Short where
 source:Int
 bJ:Int
 amps:Int
 links:(List Int)
instance:Inhabited Short:=⟨⟨default,default,default,default⟩⟩
def Short.cell (x:Short):Nat→DV
 |0=>(.int .i64 x.source)
 |1=>(.int .i64 x.bJ)
 |2=>(.int .i64 x.amps)
 |3=>(bM none 1 (aG .i64) x.links)
 |_=> .nilp
instance:DecidableEq af:=fun a b=>if h:a.e0=b.e0∧a.e1=b.e1 then .isTrue (match a,b,h with|⟨_,_⟩,⟨_,_⟩,⟨h0,h1⟩=>by cases h0;cases h1;rfl)else .isFalse fun q=>h (by cases q;exact⟨rfl,rfl⟩)
def sM (x:List Int):Nat→EV
 |0=> .row 3 1 x.length (au (aG .i64) x)
 |_=> .d .nilp
def Df (racks:(List Int)):((List aD) × Int)→Option (aM ((List aD) × Int) (Ex (List aD) (ah × State))):=
 fun zz=>match zz with
 |(p3,i)=>
 bif (decide (i<(racks.length:Int)))then
 bn (((0:Int)≤i∧i<(racks.length:Int))∧((p3.length+[(⟨(⟨1,(-1)⟩:af),(at' racks i.toNat),1⟩:aD)].length)*32≤140737488355328)∧(p3.length+[(⟨(⟨1,(-1)⟩:af),(at' racks i.toNat),1⟩:aD)].length≤4611686018427387904)) (
 some (.next ((p3++[(⟨(⟨1,(-1)⟩:af),(at' racks i.toNat),1⟩:aD)]),(IntKind.wrap .i64 (i+1)))))
 else
 some (.done (.brk p3))
def lW (racks:(List Int)):Option (ah × State):=
 Option.bind (ay (Df racks) FUEL (([]:List aD),0)) fun o=>match o with
 | .ret v=>some v
 | .brk p31=>
 bn (((0:Int)≤2)∧((1:Int)*2≤281474976710656)∧((2:Int)≤9223372036854775807)∧((0:Int)≤3)∧((1:Int)*3≤281474976710656)∧((3:Int)≤9223372036854775807)) (
 some ((⟨3,[(⟨0,1,500,0,20⟩:Source),(⟨2,2,300,0,40⟩:Source)],[(⟨0,1,3,400,10,([]:List gD)⟩:Link),(⟨1,2,3,400,10,([]:List gD)⟩:Link)],p31⟩:ah),(⟨[true,true],(List.replicate 2 (false:Bool)),(List.replicate 2 (false:Bool)),[true,true],(List.replicate 2 (false:Bool)),(List.replicate 3 (false:Bool)),(List.replicate 3 (false:Bool))⟩:State)))
def qP (l:(List Source)):Option (List Source):=
 bn ((l.length*40≤140737488355328)∧(l.length≤4611686018427387904)) (
 some l)
def uL (l:(List gD)):Option (List gD):=
 bn ((l.length*16≤140737488355328)∧(l.length≤4611686018427387904)) (
 some l)
def qK (x:Link):Option Link:=
 (uL x.trip).bind fun r_=>
 some (⟨x.a,x.b,x.kind,x.most,x.bJ,r_⟩:Link)
def gL (l:(List Link)):((List Link) × Int)→Option (aM ((List Link) × Int) (Ex (List Link) (List Link))):=
 fun zz=>match zz with
 |(out,i)=>
 bif (decide (i<(l.length:Int)))then
 (qK (at' l i.toNat)).bind fun r_=>
 bn (((0:Int)≤i∧i<(l.length:Int))∧((out.length+[r_].length)*64≤140737488355328)∧(out.length+[r_].length≤4611686018427387904)) (
 some (.next ((out++[r_]),(IntKind.wrap .i64 (i+1)))))
 else
 some (.done (.brk out))
def uN (l:(List Link)):Option (List Link):=
 Option.bind (ay (gL l) FUEL (([]:List Link),0)) fun o=>match o with
 | .ret v=>some v
 | .brk out1=>
 some out1
def uO (l:(List aD)):Option (List aD):=
 bn ((l.length*32≤140737488355328)∧(l.length≤4611686018427387904)) (
 some l)
def qa (x:ah):Option ah:=
 (qP x.sources).bind fun r_=>
 (uN x.links).bind fun r_1=>
 (uO x.racks).bind fun r_2=>
 some (⟨x.buses,r_,r_1,r_2⟩:ah)
def dM (l:(List Bool)):Option (List Bool):=
 bn ((l.length*1≤140737488355328)∧(l.length≤4611686018427387904)) (
 some l)
def pW (x:State):Option State:=
 (dM x.closed).bind fun r_=>
 (dM x.locked).bind fun r_1=>
 (dM x.badLink).bind fun r_2=>
 (dM x.on_).bind fun r_3=>
 (dM x.badSource).bind fun r_4=>
 (dM x.earthed).bind fun r_5=>
 (dM x.badBus).bind fun r_6=>
 some (⟨r_,r_1,r_2,r_3,r_4,r_5,r_6⟩:State)
def jY (a:(List Source)) (b:(List Source)):Int→Option (aM Int (Ex Unit Bool)):=
 fun i=>
 bif (decide (i<(a.length:Int)))then
 bn (((0:Int)≤i∧i<(a.length:Int))∧((0:Int)≤i∧i<(b.length:Int))) (
 bif (!((decide (((at' a i.toNat).bus)=((at' b i.toNat).bus))) && ((decide (((at' a i.toNat).kind)=((at' b i.toNat).kind))) && ((decide (((at' a i.toNat).power)=((at' b i.toNat).power))) && ((decide (((at' a i.toNat).sync)=((at' b i.toNat).sync))) && ((decide (((at' a i.toNat).bJ)=((at' b i.toNat).bJ))) && true))))))then
 some (.done (.ret false))
 else
 some (.next (IntKind.wrap .i64 (i+1))))
 else
 some (.done (.brk ()))
def mK (a:(List Source)) (b:(List Source)):Option Bool:=
 bif (!decide ((a.length:Int)=(b.length:Int)))then
 some false
 else
 Option.bind (ay (jY a b) FUEL (0)) fun o=>match o with
 | .ret v=>some v
 | .brk _=>
 some true
def lG (a:(List gD)) (b:(List gD)):Int→Option (aM Int (Ex Unit Bool)):=
 fun i=>
 bif (decide (i<(a.length:Int)))then
 bn (((0:Int)≤i∧i<(a.length:Int))∧((0:Int)≤i∧i<(b.length:Int))) (
 bif (!((decide (((at' a i.toNat).amps)=((at' b i.toNat).amps))) && ((decide (((at' a i.toNat).millis)=((at' b i.toNat).millis))) && true)))then
 some (.done (.ret false))
 else
 some (.next (IntKind.wrap .i64 (i+1))))
 else
 some (.done (.brk ()))
def qd (a:(List gD)) (b:(List gD)):Option Bool:=
 bif (!decide ((a.length:Int)=(b.length:Int)))then
 some false
 else
 Option.bind (ay (lG a b) FUEL (0)) fun o=>match o with
 | .ret v=>some v
 | .brk _=>
 some true
def qO (a:Link) (b:Link):Option Bool:=
 (bif gB [((bif (bif (bif (bif (decide (a.a=b.a))then(decide (a.b=b.b))else false)then(decide (a.kind=b.kind))else false)then(decide (a.most=b.most))else false)then(decide (a.bJ=b.bJ))else false),true)]then qd a.trip b.trip else some default).bind fun r_=>
 some (bif (bif (bif (bif (bif (decide (a.a=b.a))then(decide (a.b=b.b))else false)then(decide (a.kind=b.kind))else false)then(decide (a.most=b.most))else false)then(decide (a.bJ=b.bJ))else false)then r_ else false)
def kZ (a:(List Link)) (b:(List Link)):Int→Option (aM Int (Ex Unit Bool)):=
 fun i=>
 bif (decide (i<(a.length:Int)))then
 (qO (at' a i.toNat) (at' b i.toNat)).bind fun r_=>
 bn (((0:Int)≤i∧i<(a.length:Int))∧((0:Int)≤i∧i<(b.length:Int))) (
 bif (!r_)then
 some (.done (.ret false))
 else
 some (.next (IntKind.wrap .i64 (i+1))))
 else
 some (.done (.brk ()))
def p8 (a:(List Link)) (b:(List Link)):Option Bool:=
 bif (!decide ((a.length:Int)=(b.length:Int)))then
 some false
 else
 Option.bind (ay (kZ a b) FUEL (0)) fun o=>match o with
 | .ret v=>some v
 | .brk _=>
 some true
def lS (a:(List aD)) (b:(List aD)):Int→Option (aM Int (Ex Unit Bool)):=
 fun i=>
 bif (decide (i<(a.length:Int)))then
 bn (((0:Int)≤i∧i<(a.length:Int))∧((0:Int)≤i∧i<(b.length:Int))) (
 bif (!((decide ((((at' a i.toNat).feeds).e0)=(((at' b i.toNat).feeds).e0))) && ((decide ((((at' a i.toNat).feeds).e1)=(((at' b i.toNat).feeds).e1))) && ((decide (((at' a i.toNat).power)=((at' b i.toNat).power))) && ((decide (((at' a i.toNat).paths)=((at' b i.toNat).paths))) && true)))))then
 some (.done (.ret false))
 else
 some (.next (IntKind.wrap .i64 (i+1))))
 else
 some (.done (.brk ()))
def pX (a:(List aD)) (b:(List aD)):Option Bool:=
 bif (!decide ((a.length:Int)=(b.length:Int)))then
 some false
 else
 Option.bind (ay (lS a b) FUEL (0)) fun o=>match o with
 | .ret v=>some v
 | .brk _=>
 some true
def qc (a:ah) (b:ah):Option Bool:=
 (bif gB [((decide (a.buses=b.buses)),true)]then mK a.sources b.sources else some default).bind fun r_=>
 (bif gB [((bif (decide (a.buses=b.buses))then r_ else false),true)]then p8 a.links b.links else some default).bind fun r_1=>
 (bif gB [((bif (bif (decide (a.buses=b.buses))then r_ else false)then r_1 else false),true)]then pX a.racks b.racks else some default).bind fun r_2=>
 some (bif (bif (bif (decide (a.buses=b.buses))then r_ else false)then r_1 else false)then r_2 else false)
def kF (a:(List Bool)) (b:(List Bool)):Int→Option (aM Int (Ex Unit Bool)):=
 fun i=>
 bif (decide (i<(a.length:Int)))then
 bn (((0:Int)≤i∧i<(a.length:Int))∧((0:Int)≤i∧i<(b.length:Int))) (
 bif (!((at' a i.toNat)==(at' b i.toNat)))then
 some (.done (.ret false))
 else
 some (.next (IntKind.wrap .i64 (i+1))))
 else
 some (.done (.brk ()))
def bT (a:(List Bool)) (b:(List Bool)):Option Bool:=
 bif (!decide ((a.length:Int)=(b.length:Int)))then
 some false
 else
 Option.bind (ay (kF a b) FUEL (0)) fun o=>match o with
 | .ret v=>some v
 | .brk _=>
 some true
def pY (a:State) (b:State):Option Bool:=
 (bT a.closed b.closed).bind fun r_=>
 (bif gB [(r_,true)]then bT a.locked b.locked else some default).bind fun r_1=>
 (bif gB [((bif r_ then r_1 else false),true)]then bT a.badLink b.badLink else some default).bind fun r_2=>
 (bif gB [((bif (bif r_ then r_1 else false)then r_2 else false),true)]then bT a.on_ b.on_ else some default).bind fun r_3=>
 (bif gB [((bif (bif (bif r_ then r_1 else false)then r_2 else false)then r_3 else false),true)]then bT a.badSource b.badSource else some default).bind fun r_4=>
 (bif gB [((bif (bif (bif (bif r_ then r_1 else false)then r_2 else false)then r_3 else false)then r_4 else false),true)]then bT a.earthed b.earthed else some default).bind fun r_5=>
 (bif gB [((bif (bif (bif (bif (bif r_ then r_1 else false)then r_2 else false)then r_3 else false)then r_4 else false)then r_5 else false),true)]then bT a.badBus b.badBus else some default).bind fun r_6=>
 some (bif (bif (bif (bif (bif (bif r_ then r_1 else false)then r_2 else false)then r_3 else false)then r_4 else false)then r_5 else false)then r_6 else false)
def bD (n:Int) (first:Int) (last:Int):Option Bool:=
 some (bif (decide (first≤n))then(decide (n≤last))else false)
def wO (p:ah):Option (Int × (List Source) × (List Link) × (List aD)):=
 some (p.buses,p.sources,p.links,p.racks)
def zx (p:ah):Option (Int × (List Source) × (List Link) × (List aD)):=
 some (p.buses,p.sources,p.links,p.racks)
def zG (p:ah):Option (Int × (List Source) × (List Link) × (List aD)):=
 some (p.buses,p.sources,p.links,p.racks)
def oL (x:Source) (x1:Int) (x11:(List Source)) (x12:(List Link)) (x13:(List aD)):Option Bool:=
 (bD x.bus 0 (IntKind.wrap .i64 (x1 - 1))).bind fun r_=>
 (bif gB [(r_,true)]then bD x.kind 1 3 else some default).bind fun r_1=>
 (bif gB [((bif r_ then r_1 else false),true)]then bD x.power 1 100000 else some default).bind fun r_2=>
 (bif gB [((bif (bif r_ then r_1 else false)then r_2 else false),true)]then bD x.sync 0 8 else some default).bind fun r_3=>
 (bif gB [((bif (bif (bif r_ then r_1 else false)then r_2 else false)then r_3 else false),true)]then bD x.bJ 10 100000 else some default).bind fun r_4=>
 some (bif (bif (bif (bif r_ then r_1 else false)then r_2 else false)then r_3 else false)then r_4 else false)
def vT (x:Source) (x1:Int) (x11:(List Source)) (x12:(List Link)) (x13:(List aD)):Option Bool:=
 (oL x x1 x11 x12 x13).bind fun r_=>
 some (!r_)
def mo (s_:(List Source)) (f_:Int) (f_1:(List Source)) (f_2:(List Link)) (f_3:(List aD)):Int→Option (aM Int (Ex Unit Int)):=
 fun t8=>
 bif (decide (t8<(s_.length:Int)))then
 (vT (at' s_ t8.toNat) f_ f_1 f_2 f_3).bind fun r_=>
 bn ((0:Int)≤t8∧t8<(s_.length:Int)) (
 bif r_ then
 some (.done (.ret t8))
 else
 some (.next (IntKind.wrap .i64 (t8+1))))
 else
 some (.done (.brk ()))
def qh (s_:(List Source)) (f_:Int) (f_1:(List Source)) (f_2:(List Link)) (f_3:(List aD)):Option Int:=
 Option.bind (ay (mo s_ f_ f_1 f_2 f_3) FUEL (0)) fun o=>match o with
 | .ret v=>some v
 | .brk _=>
 some (-1)
def jI (s_:(List Source)) (f_:Int) (f_1:(List Source)) (f_2:(List Link)) (f_3:(List aD)):Option Bool:=
 (qh s_ f_ f_1 f_2 f_3).bind fun r_=>
 some (decide (0≤r_))
def vg (l:(List Source)) (most:Int) (right:Int) (right1:(List Source)) (right2:(List Link)) (right3:(List aD)):Option Bool:=
 (bif gB [((decide ((l.length:Int)≤most)),true)]then jI l right right1 right2 right3 else some default).bind fun r_=>
 some (bif (decide ((l.length:Int)≤most))then(!r_)else false)
def mP (x:Link):Int→Option (aM Int (Ex Unit Bool)):=
 fun t50=>
 bif (decide (t50<(x.trip.length:Int)))then
 bn ((0:Int)≤t50∧t50<(x.trip.length:Int)) (
 (bD ((at' x.trip t50.toNat).amps) 1 1000000).bind fun r_5=>
 (bif gB [((!r_5),false)]then bD ((at' x.trip t50.toNat).millis) 1 100000 else some default).bind fun r_6=>
 bn ((gB [((decide (0<t50)),true),((bif (!r_5)then true else(!r_6)),false)]=true→(0:Int)≤(IntKind.wrap .i64 (t50 - 1))∧(IntKind.wrap .i64 (t50 - 1))<(x.trip.length:Int))∧(gB [((decide (((at' x.trip t50.toNat).amps)≤((at' x.trip ((IntKind.wrap .i64 (t50 - 1)).toNat)).amps))),false),((decide (0<t50)),true),((bif (!r_5)then true else(!r_6)),false)]=true→(0:Int)≤(IntKind.wrap .i64 (t50 - 1))∧(IntKind.wrap .i64 (t50 - 1))<(x.trip.length:Int))) (
 bif (bif (bif (!r_5)then true else(!r_6))then true else(bif (decide (0<t50))then(bif (decide (((at' x.trip t50.toNat).amps)≤((at' x.trip ((IntKind.wrap .i64 (t50 - 1)).toNat)).amps)))then true else(decide (((at' x.trip ((IntKind.wrap .i64 (t50 - 1)).toNat)).millis)≤((at' x.trip t50.toNat).millis))))else false))then
 some (.done (.ret false))
 else
 some (.next (IntKind.wrap .i64 (t50+1)))))
 else
 some (.done (.brk ()))
def qW (x:Link) (x1:Int) (x11:(List Source)) (x12:(List Link)) (x13:(List aD)):Option Bool:=
 (bD x.a 0 (IntKind.wrap .i64 (x1 - 1))).bind fun r_=>
 (bif gB [((!r_),false)]then bD x.b 0 (IntKind.wrap .i64 (x1 - 1))else some default).bind fun r_1=>
 (bif gB [((bif (bif (!r_)then true else(!r_1))then true else(decide (x.a=x.b))),false)]then bD x.kind 1 3 else some default).bind fun r_2=>
 (bif gB [((bif (bif (bif (!r_)then true else(!r_1))then true else(decide (x.a=x.b)))then true else(!r_2)),false)]then bD x.most 1 100000 else some default).bind fun r_3=>
 (bif gB [((bif (bif (bif (bif (!r_)then true else(!r_1))then true else(decide (x.a=x.b)))then true else(!r_2))then true else(!r_3)),false)]then bD x.bJ 10 100000 else some default).bind fun r_4=>
 bif (bif (bif (bif (bif (bif (!r_)then true else(!r_1))then true else(decide (x.a=x.b)))then true else(!r_2))then true else(!r_3))then true else(!r_4))then
 some false
 else
 Option.bind (ay (mP x) FUEL (0)) fun o=>match o with
 | .ret v=>some v
 | .brk _=>
 some (bif (decide ((x.trip.length:Int)≤6))then(bif (decide ((x.trip.length:Int)=0))then true else(decide (x.kind=3)))else false)
def rG (x:Link) (x1:Int) (x11:(List Source)) (x12:(List Link)) (x13:(List aD)):Option Bool:=
 (qW x x1 x11 x12 x13).bind fun r_=>
 some (!r_)
def kE (s_:(List Link)) (f_:Int) (f_1:(List Source)) (f_2:(List Link)) (f_3:(List aD)):Int→Option (aM Int (Ex Unit Int)):=
 fun t8=>
 bif (decide (t8<(s_.length:Int)))then
 (rG (at' s_ t8.toNat) f_ f_1 f_2 f_3).bind fun r_=>
 bn ((0:Int)≤t8∧t8<(s_.length:Int)) (
 bif r_ then
 some (.done (.ret t8))
 else
 some (.next (IntKind.wrap .i64 (t8+1))))
 else
 some (.done (.brk ()))
def mE (s_:(List Link)) (f_:Int) (f_1:(List Source)) (f_2:(List Link)) (f_3:(List aD)):Option Int:=
 Option.bind (ay (kE s_ f_ f_1 f_2 f_3) FUEL (0)) fun o=>match o with
 | .ret v=>some v
 | .brk _=>
 some (-1)
def ic (s_:(List Link)) (f_:Int) (f_1:(List Source)) (f_2:(List Link)) (f_3:(List aD)):Option Bool:=
 (mE s_ f_ f_1 f_2 f_3).bind fun r_=>
 some (decide (0≤r_))
def rE (l:(List Link)) (most:Int) (right:Int) (right1:(List Source)) (right2:(List Link)) (right3:(List aD)):Option Bool:=
 (bif gB [((decide ((l.length:Int)≤most)),true)]then ic l right right1 right2 right3 else some default).bind fun r_=>
 some (bif (decide ((l.length:Int)≤most))then(!r_)else false)
def tO (x:aD):Option Int:=
 bif (decide (x.feeds.e1=(-1)))then
 some 1
 else
 some 2
def rM (x:aD) (x1:Int) (x11:(List Source)) (x12:(List Link)) (x13:(List aD)):Option Bool:=
 (bD x.feeds.e0 0 (IntKind.wrap .i64 (x1 - 1))).bind fun r_=>
 (bif gB [(r_,true)]then bD x.feeds.e1 (-1) (IntKind.wrap .i64 (x1 - 1))else some default).bind fun r_1=>
 (bif gB [((bif (bif r_ then r_1 else false)then(!decide (x.feeds.e0=x.feeds.e1))else false),true)]then bD x.power 1 100000 else some default).bind fun r_2=>
 (bif gB [((bif (bif (bif r_ then r_1 else false)then(!decide (x.feeds.e0=x.feeds.e1))else false)then r_2 else false),true)]then tO x else some default).bind fun r_3=>
 (bif gB [((bif (bif (bif r_ then r_1 else false)then(!decide (x.feeds.e0=x.feeds.e1))else false)then r_2 else false),true)]then bD x.paths 0 r_3 else some default).bind fun r_4=>
 some (bif (bif (bif (bif r_ then r_1 else false)then(!decide (x.feeds.e0=x.feeds.e1))else false)then r_2 else false)then r_4 else false)
def rO (x:aD) (x1:Int) (x11:(List Source)) (x12:(List Link)) (x13:(List aD)):Option Bool:=
 (rM x x1 x11 x12 x13).bind fun r_=>
 some (!r_)
def kC (s_:(List aD)) (f_:Int) (f_1:(List Source)) (f_2:(List Link)) (f_3:(List aD)):Int→Option (aM Int (Ex Unit Int)):=
 fun t8=>
 bif (decide (t8<(s_.length:Int)))then
 (rO (⟨((at' s_ t8.toNat).feeds),(at' s_ t8.toNat).power,(at' s_ t8.toNat).paths⟩:aD) f_ f_1 f_2 f_3).bind fun r_=>
 bn ((0:Int)≤t8∧t8<(s_.length:Int)) (
 bif r_ then
 some (.done (.ret t8))
 else
 some (.next (IntKind.wrap .i64 (t8+1))))
 else
 some (.done (.brk ()))
def mh (s_:(List aD)) (f_:Int) (f_1:(List Source)) (f_2:(List Link)) (f_3:(List aD)):Option Int:=
 Option.bind (ay (kC s_ f_ f_1 f_2 f_3) FUEL (0)) fun o=>match o with
 | .ret v=>some v
 | .brk _=>
 some (-1)
def gY (s_:(List aD)) (f_:Int) (f_1:(List Source)) (f_2:(List Link)) (f_3:(List aD)):Option Bool:=
 (mh s_ f_ f_1 f_2 f_3).bind fun r_=>
 some (decide (0≤r_))
def q8 (l:(List aD)) (most:Int) (right:Int) (right1:(List Source)) (right2:(List Link)) (right3:(List aD)):Option Bool:=
 (bif gB [((decide ((l.length:Int)≤most)),true)]then gY l right right1 right2 right3 else some default).bind fun r_=>
 some (bif (decide ((l.length:Int)≤most))then(!r_)else false)
def pM (p:ah):Option Int:=
 (bD p.buses 1 24).bind fun r_=>
 bif (!r_)then
 some 10
 else
 (wO p).bind fun r_1=>
 (vg p.sources 8 r_1.1 r_1.2.1 r_1.2.2.1 r_1.2.2.2).bind fun r_2=>
 bif (!r_2)then
 some 11
 else
 (zx p).bind fun r_3=>
 (rE p.links 40 r_3.1 r_3.2.1 r_3.2.2.1 r_3.2.2.2).bind fun r_4=>
 bif (!r_4)then
 some 12
 else
 (zG p).bind fun r_5=>
 (q8 p.racks 24 r_5.1 r_5.2.1 r_5.2.2.1 r_5.2.2.2).bind fun r_6=>
 bif (!r_6)then
 some 13
 else
 some 0
def jH (p:ah) (s_:State):Int→Option (aM Int (Ex Unit Int)):=
 fun t55=>
 bif (decide (t55<([(⟨s_.closed,(p.links.length:Int)⟩:dh),(⟨s_.locked,(p.links.length:Int)⟩:dh),(⟨s_.badLink,(p.links.length:Int)⟩:dh),(⟨s_.on_,(p.sources.length:Int)⟩:dh),(⟨s_.badSource,(p.sources.length:Int)⟩:dh),(⟨s_.earthed,p.buses⟩:dh),(⟨s_.badBus,p.buses⟩:dh)].length:Int)))then
 bn ((0:Int)≤t55∧t55<([(⟨s_.closed,(p.links.length:Int)⟩:dh),(⟨s_.locked,(p.links.length:Int)⟩:dh),(⟨s_.badLink,(p.links.length:Int)⟩:dh),(⟨s_.on_,(p.sources.length:Int)⟩:dh),(⟨s_.badSource,(p.sources.length:Int)⟩:dh),(⟨s_.earthed,p.buses⟩:dh),(⟨s_.badBus,p.buses⟩:dh)].length:Int)) (
 bif (!decide ((((at' [(⟨s_.closed,(p.links.length:Int)⟩:dh),(⟨s_.locked,(p.links.length:Int)⟩:dh),(⟨s_.badLink,(p.links.length:Int)⟩:dh),(⟨s_.on_,(p.sources.length:Int)⟩:dh),(⟨s_.badSource,(p.sources.length:Int)⟩:dh),(⟨s_.earthed,p.buses⟩:dh),(⟨s_.badBus,p.buses⟩:dh)] t55.toNat).l).length:Int)=((at' [(⟨s_.closed,(p.links.length:Int)⟩:dh),(⟨s_.locked,(p.links.length:Int)⟩:dh),(⟨s_.badLink,(p.links.length:Int)⟩:dh),(⟨s_.on_,(p.sources.length:Int)⟩:dh),(⟨s_.badSource,(p.sources.length:Int)⟩:dh),(⟨s_.earthed,p.buses⟩:dh),(⟨s_.badBus,p.buses⟩:dh)] t55.toNat).n)))then
 some (.done (.ret 9))
 else
 some (.next (IntKind.wrap .i64 (t55+1))))
 else
 some (.done (.brk ()))
def jG (p:ah) (s_:State):Int→Option (aM Int (Ex Unit Int)):=
 fun t69=>
 bif (decide (t69<(p.links.length:Int)))then
 bn ((0:Int)≤t69∧t69<(p.links.length:Int)) (
 bn ((gB [((decide (((at' p.links t69.toNat).kind)=1)),true)]=true→(0:Int)≤t69∧t69<(s_.closed.length:Int))∧(gB [((!(at' s_.closed t69.toNat)),false),((decide (((at' p.links t69.toNat).kind)=1)),true)]=true→(0:Int)≤t69∧t69<(s_.locked.length:Int))) (
 bif (bif (decide (((at' p.links t69.toNat).kind)=1))then(bif (!(at' s_.closed t69.toNat))then true else(at' s_.locked t69.toNat))else false)then
 some (.done (.ret 9))
 else
 some (.next (IntKind.wrap .i64 (t69+1)))))
 else
 some (.done (.brk ()))
def fA (p:ah) (s_:State):Option Int:=
 (pM p).bind fun r_=>
 bif (!decide (r_=0))then
 some r_
 else
 Option.bind (ay (jH p s_) FUEL (0)) fun o=>match o with
 | .ret v=>some v
 | .brk _=>
 Option.bind (ay (jG p s_) FUEL (0)) fun o=>match o with
 | .ret v=>some v
 | .brk _=>
 some 0
def gZ (p:ah) (s_:State) (k:Int):Option Bool:=
 bn (((0:Int)≤k∧k<(s_.on_.length:Int))∧(gB [((at' s_.on_ k.toNat),true)]=true→(0:Int)≤k∧k<(s_.badSource.length:Int))∧(gB [((bif (at' s_.on_ k.toNat)then(!(at' s_.badSource k.toNat))else false),true)]=true→(0:Int)≤k∧k<(p.sources.length:Int))∧(gB [((bif (at' s_.on_ k.toNat)then(!(at' s_.badSource k.toNat))else false),true)]=true→(0:Int)≤(at' p.sources k.toNat).bus∧(at' p.sources k.toNat).bus<(s_.badBus.length:Int))) (
 some (bif (bif (at' s_.on_ k.toNat)then(!(at' s_.badSource k.toNat))else false)then(!(at' s_.badBus (((at' p.sources k.toNat).bus).toNat)))else false))
def dI (p:ah) (s_:State) (i:Int):Option Bool:=
 bn ((0:Int)≤i∧i<(p.links.length:Int)) (
 bn (((0:Int)≤i∧i<(s_.closed.length:Int))∧(gB [((at' s_.closed i.toNat),true)]=true→(0:Int)≤i∧i<(s_.badLink.length:Int))∧(gB [((bif (at' s_.closed i.toNat)then(!(at' s_.badLink i.toNat))else false),true)]=true→(0:Int)≤(at' p.links i.toNat).a∧(at' p.links i.toNat).a<(s_.badBus.length:Int))∧(gB [((bif (bif (at' s_.closed i.toNat)then(!(at' s_.badLink i.toNat))else false)then(!(at' s_.badBus (((at' p.links i.toNat).a).toNat)))else false),true)]=true→(0:Int)≤(at' p.links i.toNat).b∧(at' p.links i.toNat).b<(s_.badBus.length:Int))) (
 some (bif (bif (bif (at' s_.closed i.toNat)then(!(at' s_.badLink i.toNat))else false)then(!(at' s_.badBus (((at' p.links i.toNat).a).toNat)))else false)then(!(at' s_.badBus (((at' p.links i.toNat).b).toNat)))else false)))
def iE (s_:State) (b:Int):Option Bool:=
 bn (gB [((decide (0≤b)),true)]=true→(0:Int)≤b∧b<(s_.badBus.length:Int)) (
 some (bif (decide (0≤b))then(!(at' s_.badBus b.toNat))else false))
def dW (a:Int) (b:Int) (there:Int) (back:Int) (network:Network):Option (Int × Network):=
 bn (((network.arcs.length+[(⟨b,there⟩:bg),(⟨a,back⟩:bg)].length)*16≤140737488355328)∧(network.arcs.length+[(⟨b,there⟩:bg),(⟨a,back⟩:bg)].length≤4611686018427387904)) (
 bn (((0:Int)≤a∧a<(network.from_.length:Int))∧(((at' network.from_ a.toNat).length+[(network.arcs.length:Int)].length)*8≤140737488355328)∧((at' network.from_ a.toNat).length+[(network.arcs.length:Int)].length≤4611686018427387904)) (
 bn (((0:Int)≤b∧b<((network.from_.set a.toNat ((at' network.from_ a.toNat)++[(network.arcs.length:Int)])).length:Int))∧(((at' (network.from_.set a.toNat ((at' network.from_ a.toNat)++[(network.arcs.length:Int)])) b.toNat).length+[(IntKind.wrap .i64 ((network.arcs.length:Int)+1))].length)*8≤140737488355328)∧((at' (network.from_.set a.toNat ((at' network.from_ a.toNat)++[(network.arcs.length:Int)])) b.toNat).length+[(IntKind.wrap .i64 ((network.arcs.length:Int)+1))].length≤4611686018427387904)) (
 some ((network.arcs.length:Int),(⟨(network.arcs++[(⟨b,there⟩:bg),(⟨a,back⟩:bg)]),((network.from_.set a.toNat ((at' network.from_ a.toNat)++[(network.arcs.length:Int)])).set b.toNat ((at' (network.from_.set a.toNat ((at' network.from_ a.toNat)++[(network.arcs.length:Int)])) b.toNat)++[(IntKind.wrap .i64 ((network.arcs.length:Int)+1))]))⟩:Network)))))
def fM (network:Network):Option Unit:=
 some ()
def bQ (x19:Int) (x20:Int) (o_:(List Int)) (network:Network):(Int × Int)→Option (aM (Int × Int) (Ex Int (Nat × (List Int) × Network))):=
 fun zz=>match zz with
 |(least,at_)=>
 bn ((0:Int)≤at_∧at_<((o_.set x19.toNat x20).length:Int)) (
 bif (decide (0≤(at' (o_.set x19.toNat x20) at_.toNat)))then
 Option.bind (α:=Int) (
 bn (((0:Int)≤at_∧at_<((o_.set x19.toNat x20).length:Int))∧((0:Int)≤(at' (o_.set x19.toNat x20) at_.toNat)∧(at' (o_.set x19.toNat x20) at_.toNat)<(network.arcs.length:Int))) (
 bif (bif (decide (least<0))then true else(decide (((at' network.arcs ((at' (o_.set x19.toNat x20) at_.toNat).toNat)).left)<least)))then
 some ((at' network.arcs ((at' (o_.set x19.toNat x20) at_.toNat).toNat)).left)
 else
 some least)) fun least2=>
 bn (((0:Int)≤at_∧at_<((o_.set x19.toNat x20).length:Int))∧((0:Int)≤(IntKind.wrap .i64 (((BitVec.ofInt (IntKind.bits .i64) (at' (o_.set x19.toNat x20) at_.toNat) ^^^ BitVec.ofInt (IntKind.bits .i64) 1).toNat:Int)))∧(IntKind.wrap .i64 (((BitVec.ofInt (IntKind.bits .i64) (at' (o_.set x19.toNat x20) at_.toNat) ^^^ BitVec.ofInt (IntKind.bits .i64) 1).toNat:Int)))<(network.arcs.length:Int))) (
 some (.next (least2,(at' network.arcs ((IntKind.wrap .i64 (((BitVec.ofInt (IntKind.bits .i64) (at' (o_.set x19.toNat x20) at_.toNat) ^^^ BitVec.ofInt (IntKind.bits .i64) 1).toNat:Int))).toNat)).to_)))
 else
 some (.done (.brk least)))
def bS (x19:Int) (x20:Int) (o_:(List Int)) (least1:Int):((List bg) × Int)→Option (aM ((List bg) × Int) (Ex (List bg) (Nat × (List Int) × Network))):=
 fun zz=>match zz with
 |(o200,at_1)=>
 bn ((0:Int)≤at_1∧at_1<((o_.set x19.toNat x20).length:Int)) (
 bif (decide (0≤(at' (o_.set x19.toNat x20) at_1.toNat)))then
 bn (((0:Int)≤at_1∧at_1<((o_.set x19.toNat x20).length:Int))∧((0:Int)≤(at' (o_.set x19.toNat x20) at_1.toNat)∧(at' (o_.set x19.toNat x20) at_1.toNat)<(o200.length:Int))) (
 bn (((0:Int)≤at_1∧at_1<((o_.set x19.toNat x20).length:Int))∧((0:Int)≤(IntKind.wrap .i64 (((BitVec.ofInt (IntKind.bits .i64) (at' (o_.set x19.toNat x20) at_1.toNat) ^^^ BitVec.ofInt (IntKind.bits .i64) 1).toNat:Int)))∧(IntKind.wrap .i64 (((BitVec.ofInt (IntKind.bits .i64) (at' (o_.set x19.toNat x20) at_1.toNat) ^^^ BitVec.ofInt (IntKind.bits .i64) 1).toNat:Int)))<((o200.set ((at' (o_.set x19.toNat x20) at_1.toNat).toNat) (⟨(at' o200 ((at' (o_.set x19.toNat x20) at_1.toNat).toNat)).to_,(IntKind.wrap .i64 (((at' o200 ((at' (o_.set x19.toNat x20) at_1.toNat).toNat)).left) - least1))⟩:bg)).length:Int))) (
 bn (((0:Int)≤at_1∧at_1<((o_.set x19.toNat x20).length:Int))∧((0:Int)≤(IntKind.wrap .i64 (((BitVec.ofInt (IntKind.bits .i64) (at' (o_.set x19.toNat x20) at_1.toNat) ^^^ BitVec.ofInt (IntKind.bits .i64) 1).toNat:Int)))∧(IntKind.wrap .i64 (((BitVec.ofInt (IntKind.bits .i64) (at' (o_.set x19.toNat x20) at_1.toNat) ^^^ BitVec.ofInt (IntKind.bits .i64) 1).toNat:Int)))<(((o200.set ((at' (o_.set x19.toNat x20) at_1.toNat).toNat) (⟨(at' o200 ((at' (o_.set x19.toNat x20) at_1.toNat).toNat)).to_,(IntKind.wrap .i64 (((at' o200 ((at' (o_.set x19.toNat x20) at_1.toNat).toNat)).left) - least1))⟩:bg)).set ((IntKind.wrap .i64 (((BitVec.ofInt (IntKind.bits .i64) (at' (o_.set x19.toNat x20) at_1.toNat) ^^^ BitVec.ofInt (IntKind.bits .i64) 1).toNat:Int))).toNat) (⟨(at' (o200.set ((at' (o_.set x19.toNat x20) at_1.toNat).toNat) (⟨(at' o200 ((at' (o_.set x19.toNat x20) at_1.toNat).toNat)).to_,(IntKind.wrap .i64 (((at' o200 ((at' (o_.set x19.toNat x20) at_1.toNat).toNat)).left) - least1))⟩:bg)) ((IntKind.wrap .i64 (((BitVec.ofInt (IntKind.bits .i64) (at' (o_.set x19.toNat x20) at_1.toNat) ^^^ BitVec.ofInt (IntKind.bits .i64) 1).toNat:Int))).toNat)).to_,(IntKind.wrap .i64 (((at' (o200.set ((at' (o_.set x19.toNat x20) at_1.toNat).toNat) (⟨(at' o200 ((at' (o_.set x19.toNat x20) at_1.toNat).toNat)).to_,(IntKind.wrap .i64 (((at' o200 ((at' (o_.set x19.toNat x20) at_1.toNat).toNat)).left) - least1))⟩:bg)) ((IntKind.wrap .i64 (((BitVec.ofInt (IntKind.bits .i64) (at' (o_.set x19.toNat x20) at_1.toNat) ^^^ BitVec.ofInt (IntKind.bits .i64) 1).toNat:Int))).toNat)).left)+least1))⟩:bg)).length:Int))) (
 some (.next (((o200.set ((at' (o_.set x19.toNat x20) at_1.toNat).toNat) (⟨(at' o200 ((at' (o_.set x19.toNat x20) at_1.toNat).toNat)).to_,(IntKind.wrap .i64 (((at' o200 ((at' (o_.set x19.toNat x20) at_1.toNat).toNat)).left) - least1))⟩:bg)).set ((IntKind.wrap .i64 (((BitVec.ofInt (IntKind.bits .i64) (at' (o_.set x19.toNat x20) at_1.toNat) ^^^ BitVec.ofInt (IntKind.bits .i64) 1).toNat:Int))).toNat) (⟨(at' (o200.set ((at' (o_.set x19.toNat x20) at_1.toNat).toNat) (⟨(at' o200 ((at' (o_.set x19.toNat x20) at_1.toNat).toNat)).to_,(IntKind.wrap .i64 (((at' o200 ((at' (o_.set x19.toNat x20) at_1.toNat).toNat)).left) - least1))⟩:bg)) ((IntKind.wrap .i64 (((BitVec.ofInt (IntKind.bits .i64) (at' (o_.set x19.toNat x20) at_1.toNat) ^^^ BitVec.ofInt (IntKind.bits .i64) 1).toNat:Int))).toNat)).to_,(IntKind.wrap .i64 (((at' (o200.set ((at' (o_.set x19.toNat x20) at_1.toNat).toNat) (⟨(at' o200 ((at' (o_.set x19.toNat x20) at_1.toNat).toNat)).to_,(IntKind.wrap .i64 (((at' o200 ((at' (o_.set x19.toNat x20) at_1.toNat).toNat)).left) - least1))⟩:bg)) ((IntKind.wrap .i64 (((BitVec.ofInt (IntKind.bits .i64) (at' (o_.set x19.toNat x20) at_1.toNat) ^^^ BitVec.ofInt (IntKind.bits .i64) 1).toNat:Int))).toNat)).left)+least1))⟩:bg)),(at' ((o200.set ((at' (o_.set x19.toNat x20) at_1.toNat).toNat) (⟨(at' o200 ((at' (o_.set x19.toNat x20) at_1.toNat).toNat)).to_,(IntKind.wrap .i64 (((at' o200 ((at' (o_.set x19.toNat x20) at_1.toNat).toNat)).left) - least1))⟩:bg)).set ((IntKind.wrap .i64 (((BitVec.ofInt (IntKind.bits .i64) (at' (o_.set x19.toNat x20) at_1.toNat) ^^^ BitVec.ofInt (IntKind.bits .i64) 1).toNat:Int))).toNat) (⟨(at' (o200.set ((at' (o_.set x19.toNat x20) at_1.toNat).toNat) (⟨(at' o200 ((at' (o_.set x19.toNat x20) at_1.toNat).toNat)).to_,(IntKind.wrap .i64 (((at' o200 ((at' (o_.set x19.toNat x20) at_1.toNat).toNat)).left) - least1))⟩:bg)) ((IntKind.wrap .i64 (((BitVec.ofInt (IntKind.bits .i64) (at' (o_.set x19.toNat x20) at_1.toNat) ^^^ BitVec.ofInt (IntKind.bits .i64) 1).toNat:Int))).toNat)).to_,(IntKind.wrap .i64 (((at' (o200.set ((at' (o_.set x19.toNat x20) at_1.toNat).toNat) (⟨(at' o200 ((at' (o_.set x19.toNat x20) at_1.toNat).toNat)).to_,(IntKind.wrap .i64 (((at' o200 ((at' (o_.set x19.toNat x20) at_1.toNat).toNat)).left) - least1))⟩:bg)) ((IntKind.wrap .i64 (((BitVec.ofInt (IntKind.bits .i64) (at' (o_.set x19.toNat x20) at_1.toNat) ^^^ BitVec.ofInt (IntKind.bits .i64) 1).toNat:Int))).toNat)).left)+least1))⟩:bg)) ((IntKind.wrap .i64 (((BitVec.ofInt (IntKind.bits .i64) (at' (o_.set x19.toNat x20) at_1.toNat) ^^^ BitVec.ofInt (IntKind.bits .i64) 1).toNat:Int))).toNat)).to_)))))
 else
 some (.done (.brk o200)))
def dL (x19:Int) (x20:Int) (int:Int) (o_:(List Int)) (network:Network):Option (Nat × (List Int) × Network):=
 bn ((0:Int)≤x19∧x19<(o_.length:Int)) (
 bif (!decide (x19=int))then
 some (0,(o_.set x19.toNat x20),network)
 else
 Option.bind (ay (bQ x19 x20 o_ network) FUEL ((-1),int)) fun o=>match o with
 | .ret v=>some v
 | .brk least1=>
 Option.bind (ay (bS x19 x20 o_ least1) FUEL (network.arcs,int)) fun o=>match o with
 | .ret v=>some v
 | .brk o2001=>
 some (2,(o_.set x19.toNat x20),(⟨o2001,network.from_⟩:Network)))
def kU (x:af) (o_:bB):Option bB:=
 bn (((o_.l.length+[x].length)*16≤140737488355328)∧(o_.l.length+[x].length≤4611686018427387904)) (
 some (⟨(o_.l++[x])⟩:bB))
def jS (o_:bB):Option (af × Bool × bB):=
 bif (decide ((o_.l.length:Int)=0))then
 some ((⟨0,0⟩:af),false,o_)
 else
 bn (((0:Int)≤0∧0<(o_.l.length:Int))∧((0:Int)≤(1:Int)∧(1:Int)≤(o_.l.length:Int))) (
 some ((at' o_.l 0),true,(⟨(o_.l.drop 1)⟩:bB)))
def dR (at0:Int) (r_:(Nat × (List Int) × Network)):((List Bool) × (List af) × Int)→Option (aM ((List Bool) × (List af) × Int) (Ex ((List Bool) × (List af)) (aM ((List bg) × (List (List Int)) × (List Int) × (List Bool) × (List af) × Int × Int) (Ex Unit (Nat × (List Int) × Network))))):=
 fun zz=>match zz with
 |(seen1,q01,t36)=>
 bif (decide (t36<((at' r_.2.2.from_ at0.toNat).length:Int)))then
 bn ((0:Int)≤t36∧t36<((at' r_.2.2.from_ at0.toNat).length:Int)) (
 bn ((0:Int)≤(at' (at' r_.2.2.from_ at0.toNat) t36.toNat)∧(at' (at' r_.2.2.from_ at0.toNat) t36.toNat)<(r_.2.2.arcs.length:Int)) (
 bn (gB [((decide (0<((at' r_.2.2.arcs ((at' (at' r_.2.2.from_ at0.toNat) t36.toNat).toNat)).left))),true)]=true→(0:Int)≤(at' r_.2.2.arcs ((at' (at' r_.2.2.from_ at0.toNat) t36.toNat).toNat)).to_∧(at' r_.2.2.arcs ((at' (at' r_.2.2.from_ at0.toNat) t36.toNat).toNat)).to_<(seen1.length:Int)) (
 bif (bif (decide (0<((at' r_.2.2.arcs ((at' (at' r_.2.2.from_ at0.toNat) t36.toNat).toNat)).left)))then(!(at' seen1 (((at' r_.2.2.arcs ((at' (at' r_.2.2.from_ at0.toNat) t36.toNat).toNat)).to_).toNat)))else false)then
 bn ((0:Int)≤(at' r_.2.2.arcs ((at' (at' r_.2.2.from_ at0.toNat) t36.toNat).toNat)).to_∧(at' r_.2.2.arcs ((at' (at' r_.2.2.from_ at0.toNat) t36.toNat).toNat)).to_<(seen1.length:Int)) (
 (kU (⟨(at' r_.2.2.arcs ((at' (at' r_.2.2.from_ at0.toNat) t36.toNat).toNat)).to_,(at' (at' r_.2.2.from_ at0.toNat) t36.toNat)⟩:af) (⟨q01⟩:bB)).bind fun r_1=>
 some (.next ((seen1.set (((at' r_.2.2.arcs ((at' (at' r_.2.2.from_ at0.toNat) t36.toNat).toNat)).to_).toNat) true),r_1.l,(IntKind.wrap .i64 (t36+1)))))
 else
 some (.next (seen1,q01,(IntKind.wrap .i64 (t36+1)))))))
 else
 some (.done (.brk (seen1,q01)))
def jd (int:Int):((List bg) × (List (List Int)) × (List Int) × (List Bool) × (List af) × Int × Int)→Option (aM ((List bg) × (List (List Int)) × (List Int) × (List Bool) × (List af) × Int × Int) (Ex Unit (Nat × (List Int) × Network))):=
 fun zz=>match zz with
 |(o200,o201,o40,seen,q0,at0,at1)=>
 (dL at0 at1 int o40 (⟨o200,o201⟩:Network)).bind fun r_=>
 bif (Nat.beq r_.1 0)then
 bn ((0:Int)≤at0∧at0<(r_.2.2.from_.length:Int)) (
 Option.bind (ay (dR at0 r_) FUEL (seen,q0,0)) fun o=>match o with
 | .ret v=>some v
 | .brk (seen2,q02)=>
 (jS (⟨q02⟩:bB)).bind fun r_2=>
 bif (!r_2.2.1)then
 some (.done (.ret (0,r_.2.1,r_.2.2)))
 else
 some (.next (r_.2.2.arcs,r_.2.2.from_,r_.2.1,seen2,r_2.2.2.l,r_2.1.e0,r_2.1.e1)))
 else
 some (.done (.ret (r_.1,r_.2.1,r_.2.2)))
def ig (int:Int) (o_:(List Int)) (network:Network):Option (Nat × (List Int) × Network):=
 bn (((0:Int)≤(network.from_.length:Int))∧((1:Int)*(network.from_.length:Int)≤281474976710656)∧(((network.from_.length:Int):Int)≤9223372036854775807)) (
 bn ((0:Int)≤0∧0<((List.replicate ((network.from_.length:Int).toNat) (false:Bool)).length:Int)) (
 Option.bind (ay (jd int) FUEL (network.arcs,network.from_,o_,((List.replicate ((network.from_.length:Int).toNat) (false:Bool)).set 0 true),([]:List af),0,(-1))) fun o=>match o with
 | .ret v=>some v
 | .brk _=>none))
def lM (sink:Int):((List bg) × (List (List Int)))→Option (aM ((List bg) × (List (List Int))) (Ex Unit Network)):=
 fun zz=>match zz with
 |(o0,o1)=>
 bn (((0:Int)≤(o1.length:Int))∧((8:Int)*(o1.length:Int)≤281474976710656)∧(((o1.length:Int):Int)≤9223372036854775807)) (
 (fM (⟨o0,o1⟩:Network)).bind fun r_=>
 (ig sink (List.replicate ((o1.length:Int).toNat) (0:Int)) (⟨o0,o1⟩:Network)).bind fun r_1=>
 bif Nat.beq r_1.1 0 then
 some (.done (.ret r_1.2.2))
 else
 bn (r_1.1=2) (
 some (.next (r_1.2.2.arcs,r_1.2.2.from_))))
def kK (sink:Int) (network:Network):Option Network:=
 Option.bind (ay (lM sink) FUEL (network.arcs,network.from_)) fun o=>match o with
 | .ret v=>some v
 | .brk _=>none
def mH (x236:Int) (x237:Int) (plant:ah) (o_:(List Bool)):Option (List Bool):=
 bif (bif (decide (0<x236))then(decide (x236≤plant.buses))else false)then
 bn ((0:Int)≤(IntKind.wrap .i64 (x236 - 1))∧(IntKind.wrap .i64 (x236 - 1))<(o_.length:Int)) (
 some (o_.set ((IntKind.wrap .i64 (x236 - 1)).toNat) true))
 else
 some o_
def cZ (x1:(List bg)) (x11:(List (List Int))) (at0:Int):((List Bool) × (List af) × Int)→Option (aM ((List Bool) × (List af) × Int) (Ex ((List Bool) × (List af)) (aM ((List Bool) × (List Bool) × (List af) × Int × Int) (Ex Unit (List Bool))))):=
 fun zz=>match zz with
 |(seen1,q01,t36)=>
 bif (decide (t36<((at' x11 at0.toNat).length:Int)))then
 bn ((0:Int)≤t36∧t36<((at' x11 at0.toNat).length:Int)) (
 bn ((0:Int)≤(at' (at' x11 at0.toNat) t36.toNat)∧(at' (at' x11 at0.toNat) t36.toNat)<(x1.length:Int)) (
 bn (gB [((decide (0<((at' x1 ((at' (at' x11 at0.toNat) t36.toNat).toNat)).left))),true)]=true→(0:Int)≤(at' x1 ((at' (at' x11 at0.toNat) t36.toNat).toNat)).to_∧(at' x1 ((at' (at' x11 at0.toNat) t36.toNat).toNat)).to_<(seen1.length:Int)) (
 bif (bif (decide (0<((at' x1 ((at' (at' x11 at0.toNat) t36.toNat).toNat)).left)))then(!(at' seen1 (((at' x1 ((at' (at' x11 at0.toNat) t36.toNat).toNat)).to_).toNat)))else false)then
 bn ((0:Int)≤(at' x1 ((at' (at' x11 at0.toNat) t36.toNat).toNat)).to_∧(at' x1 ((at' (at' x11 at0.toNat) t36.toNat).toNat)).to_<(seen1.length:Int)) (
 (kU (⟨(at' x1 ((at' (at' x11 at0.toNat) t36.toNat).toNat)).to_,(at' (at' x11 at0.toNat) t36.toNat)⟩:af) (⟨q01⟩:bB)).bind fun r_1=>
 some (.next ((seen1.set (((at' x1 ((at' (at' x11 at0.toNat) t36.toNat).toNat)).to_).toNat) true),r_1.l,(IntKind.wrap .i64 (t36+1)))))
 else
 some (.next (seen1,q01,(IntKind.wrap .i64 (t36+1)))))))
 else
 some (.done (.brk (seen1,q01)))
def gN (x1:(List bg)) (x11:(List (List Int))) (plant:ah):((List Bool) × (List Bool) × (List af) × Int × Int)→Option (aM ((List Bool) × (List Bool) × (List af) × Int × Int) (Ex Unit (List Bool))):=
 fun zz=>match zz with
 |(o280,seen,q0,at0,at1)=>
 (mH at0 at1 plant o280).bind fun r_=>
 bn ((0:Int)≤at0∧at0<(x11.length:Int)) (
 Option.bind (ay (cZ x1 x11 at0) FUEL (seen,q0,0)) fun o=>match o with
 | .ret v=>some v
 | .brk (seen2,q02)=>
 (jS (⟨q02⟩:bB)).bind fun r_2=>
 bif (!r_2.2.1)then
 some (.done (.ret r_))
 else
 some (.next (r_,seen2,r_2.2.2.l,r_2.1.e0,r_2.1.e1)))
def dQ (x1:(List bg)) (x11:(List (List Int))) (plant:ah) (o_:(List Bool)):Option (List Bool):=
 bn (((0:Int)≤(x11.length:Int))∧((1:Int)*(x11.length:Int)≤281474976710656)∧(((x11.length:Int):Int)≤9223372036854775807)) (
 bn ((0:Int)≤0∧0<((List.replicate ((x11.length:Int).toNat) (false:Bool)).length:Int)) (
 Option.bind (ay (gN x1 x11 plant) FUEL (o_,((List.replicate ((x11.length:Int).toNat) (false:Bool)).set 0 true),([]:List af),0,(-1))) fun o=>match o with
 | .ret v=>some v
 | .brk _=>none))
def iJ (p:ah) (s_:State):((List bg) × (List (List Int)) × (List (Int × Int)) × Int)→Option (aM ((List bg) × (List (List Int)) × (List (Int × Int)) × Int) (Ex ((List Source) × (List bg) × (List (List Int)) × (List Int) × (List (Int × Int))) (aA × (List Bool) × Int))):=
 fun zz=>match zz with
 |(n0,n1,sources,t68)=>
 bif (decide (t68<(p.sources.length:Int)))then
 bn ((0:Int)≤t68∧t68<(p.sources.length:Int)) (
 (gZ p s_ t68).bind fun r_1=>
 bif r_1 then
 (dW 0 (IntKind.wrap .i64 ((1:Int)+((at' p.sources t68.toNat).bus))) ((at' p.sources t68.toNat).power) 0 (⟨n0,n1⟩:Network)).bind fun r_2=>
 some (.next (r_2.2.arcs,r_2.2.from_,(gJ J4 t68 r_2.1 sources),(IntKind.wrap .i64 (t68+1))))
 else
 some (.next (n0,n1,sources,(IntKind.wrap .i64 (t68+1)))))
 else
 some (.done (.brk (p.sources,n0,n1,(List.replicate ((p.sources.length:Int).toNat) (0:Int)),sources)))
def iI (p:ah) (s_:State) (p1:(List Source)):((List bg) × (List (List Int)) × (List (Int × Int)) × Int)→Option (aM ((List bg) × (List (List Int)) × (List (Int × Int)) × Int) (Ex ((List Link) × (List bg) × (List (List Int)) × (List Int) × (List (Int × Int))) (aA × (List Bool) × Int))):=
 fun zz=>match zz with
 |(n02,n12,links,t90)=>
 bif (decide (t90<(p.links.length:Int)))then
 bn ((0:Int)≤t90∧t90<(p.links.length:Int)) (
 (dI (⟨p.buses,p1,p.links,p.racks⟩:ah) s_ t90).bind fun r_3=>
 bif r_3 then
 (dW (IntKind.wrap .i64 ((1:Int)+((at' p.links t90.toNat).a))) (IntKind.wrap .i64 ((1:Int)+((at' p.links t90.toNat).b))) ((at' p.links t90.toNat).most) ((at' p.links t90.toNat).most) (⟨n02,n12⟩:Network)).bind fun r_4=>
 some (.next (r_4.2.arcs,r_4.2.from_,(gJ J4 t90 r_4.1 links),(IntKind.wrap .i64 (t90+1))))
 else
 some (.next (n02,n12,links,(IntKind.wrap .i64 (t90+1)))))
 else
 some (.done (.brk (p.links,n02,n12,(List.replicate ((p.links.length:Int).toNat) (0:Int)),links)))
def eY (p:ah) (s_:State) (t115:(List aD)) (t117:Int):((List bg) × (List (List Int)) × (List (af × Int)) × Int)→Option (aM ((List bg) × (List (List Int)) × (List (af × Int)) × Int) (Ex ((List bg) × (List (List Int)) × (List (af × Int))) (aM ((List aD) × Int × (List bg) × (List (List Int)) × (List af) × (List (af × Int)) × (List aD) × Int × Int) (Ex ((List aD) × Int × (List bg) × (List (List Int)) × (List af) × (List (af × Int))) (aA × (List Bool) × Int))))):=
 fun zz=>match zz with
 |(n06,n16,racks2,t134)=>
 bif (decide (t134<2))then
 bn ((0:Int)≤t134∧t134<((2:Nat):Int)) (
 (iE s_ (at' [((at' t115 t117.toNat).feeds).e0,((at' t115 t117.toNat).feeds).e1] t134.toNat)).bind fun r_6=>
 bif r_6 then
 (dW (IntKind.wrap .i64 ((1:Int)+(at' [((at' t115 t117.toNat).feeds).e0,((at' t115 t117.toNat).feeds).e1] t134.toNat))) (IntKind.wrap .i64 ((IntKind.wrap .i64 ((1:Int)+p.buses))+t117)) ((at' t115 t117.toNat).power) 0 (⟨n06,n16⟩:Network)).bind fun r_7=>
 some (.next (r_7.2.arcs,r_7.2.from_,(gJ (fun a b=>(decide (a.e0=b.e0) && (decide (a.e1=b.e1) && true))) (⟨t117,t134⟩:af) r_7.1 racks2),(IntKind.wrap .i64 (t134+1))))
 else
 some (.next (n06,n16,racks2,(IntKind.wrap .i64 (t134+1)))))
 else
 some (.done (.brk (n06,n16,racks2)))
def iO (p:ah) (s_:State):((List aD) × Int × (List bg) × (List (List Int)) × (List af) × (List (af × Int)) × (List aD) × Int × Int)→Option (aM ((List aD) × Int × (List bg) × (List (List Int)) × (List af) × (List (af × Int)) × (List aD) × Int × Int) (Ex ((List aD) × Int × (List bg) × (List (List Int)) × (List af) × (List (af × Int))) (aA × (List Bool) × Int))):=
 fun zz=>match zz with
 |(p3,sink,n04,n14,x2,racks,t115,t116,t117)=>
 bif (decide (t117<t116))then
 bn ((0:Int)≤t117∧t117<(t115.length:Int)) (
 (dW (IntKind.wrap .i64 ((IntKind.wrap .i64 ((1:Int)+p.buses))+t117)) sink ((at' t115 t117.toNat).power) 0 (⟨n04,n14⟩:Network)).bind fun r_5=>
 Option.bind (ay (eY p s_ t115 t117) FUEL (r_5.2.arcs,r_5.2.from_,racks,0)) fun o=>match o with
 | .ret v=>some v
 | .brk (n07,n17,racks3)=>
 some (.next (p3,sink,n07,n17,x2,racks3,t115,t116,(IntKind.wrap .i64 (t117+1)))))
 else
 some (.done (.brk (p3,sink,n04,n14,x2,racks)))
def jO (sources1:(List (Int × Int))) (r_8:Network):(List Int)→Nat→Option (List Int):=
 fun x01 i=>
 bn (((0:Int)≤(IntKind.wrap .i64 (((BitVec.ofInt (IntKind.bits .i64) (at' (sources1.map Prod.snd) i) ^^^ BitVec.ofInt (IntKind.bits .i64) 1).toNat:Int)))∧(IntKind.wrap .i64 (((BitVec.ofInt (IntKind.bits .i64) (at' (sources1.map Prod.snd) i) ^^^ BitVec.ofInt (IntKind.bits .i64) 1).toNat:Int)))<(r_8.arcs.length:Int))∧((0:Int)≤(at' (sources1.map Prod.fst) i)∧(at' (sources1.map Prod.fst) i)<(x01.length:Int))) (
 some (x01.set ((at' (sources1.map Prod.fst) i).toNat) ((at' r_8.arcs ((IntKind.wrap .i64 (((BitVec.ofInt (IntKind.bits .i64) (at' (sources1.map Prod.snd) i) ^^^ BitVec.ofInt (IntKind.bits .i64) 1).toNat:Int))).toNat)).left)))
def jM (p2:(List Link)) (links1:(List (Int × Int))) (r_8:Network):(List Int)→Nat→Option (List Int):=
 fun x11 i1=>
 bn (((0:Int)≤(at' (links1.map Prod.fst) i1)∧(at' (links1.map Prod.fst) i1)<(p2.length:Int))∧((0:Int)≤(at' (links1.map Prod.snd) i1)∧(at' (links1.map Prod.snd) i1)<(r_8.arcs.length:Int))∧((0:Int)≤(at' (links1.map Prod.fst) i1)∧(at' (links1.map Prod.fst) i1)<(x11.length:Int))) (
 some (x11.set ((at' (links1.map Prod.fst) i1).toNat) (IntKind.wrap .i64 (((at' p2 ((at' (links1.map Prod.fst) i1).toNat)).most) - ((at' r_8.arcs ((at' (links1.map Prod.snd) i1).toNat)).left)))))
def jP (racks1:(List (af × Int))) (r_8:Network):(List af)→Nat→Option (List af):=
 fun x22 i2=>
 bif (decide ((at' (racks1.map Prod.fst) i2).e1=0))then
 bn (((0:Int)≤(IntKind.wrap .i64 (((BitVec.ofInt (IntKind.bits .i64) (at' (racks1.map Prod.snd) i2) ^^^ BitVec.ofInt (IntKind.bits .i64) 1).toNat:Int)))∧(IntKind.wrap .i64 (((BitVec.ofInt (IntKind.bits .i64) (at' (racks1.map Prod.snd) i2) ^^^ BitVec.ofInt (IntKind.bits .i64) 1).toNat:Int)))<(r_8.arcs.length:Int))∧((0:Int)≤(at' (racks1.map Prod.fst) i2).e0∧(at' (racks1.map Prod.fst) i2).e0<(x22.length:Int))) (
 some (x22.set (((at' (racks1.map Prod.fst) i2).e0).toNat) (⟨(at' r_8.arcs ((IntKind.wrap .i64 (((BitVec.ofInt (IntKind.bits .i64) (at' (racks1.map Prod.snd) i2) ^^^ BitVec.ofInt (IntKind.bits .i64) 1).toNat:Int))).toNat)).left,(at' x22 (((at' (racks1.map Prod.fst) i2).e0).toNat)).e1⟩:af)))
 else
 bn ((at' (racks1.map Prod.fst) i2).e1=1) (
 bn (((0:Int)≤(IntKind.wrap .i64 (((BitVec.ofInt (IntKind.bits .i64) (at' (racks1.map Prod.snd) i2) ^^^ BitVec.ofInt (IntKind.bits .i64) 1).toNat:Int)))∧(IntKind.wrap .i64 (((BitVec.ofInt (IntKind.bits .i64) (at' (racks1.map Prod.snd) i2) ^^^ BitVec.ofInt (IntKind.bits .i64) 1).toNat:Int)))<(r_8.arcs.length:Int))∧((0:Int)≤(at' (racks1.map Prod.fst) i2).e0∧(at' (racks1.map Prod.fst) i2).e0<(x22.length:Int))) (
 some (x22.set (((at' (racks1.map Prod.fst) i2).e0).toNat) (⟨(at' x22 (((at' (racks1.map Prod.fst) i2).e0).toNat)).e0,(at' r_8.arcs ((IntKind.wrap .i64 (((BitVec.ofInt (IntKind.bits .i64) (at' (racks1.map Prod.snd) i2) ^^^ BitVec.ofInt (IntKind.bits .i64) 1).toNat:Int))).toNat)).left⟩:af))))
def bN (p:ah) (s_:State):Option (aA × (List Bool) × Int):=
 (fA p s_).bind fun r_=>
 bif (!decide (r_=0))then
 some ((⟨([]:List Int),([]:List Int),([]:List af)⟩:aA),([]:List Bool),r_)
 else
 bn (((0:Int)≤(IntKind.wrap .i64 ((IntKind.wrap .i64 ((IntKind.wrap .i64 ((1:Int)+p.buses))+(p.racks.length:Int)))+1)))∧((24:Int)*(IntKind.wrap .i64 ((IntKind.wrap .i64 ((IntKind.wrap .i64 ((1:Int)+p.buses))+(p.racks.length:Int)))+1))≤281474976710656)∧(((IntKind.wrap .i64 ((IntKind.wrap .i64 ((IntKind.wrap .i64 ((1:Int)+p.buses))+(p.racks.length:Int)))+1)):Int)≤9223372036854775807)) (
 bn (((0:Int)≤(p.sources.length:Int))∧((8:Int)*(p.sources.length:Int)≤281474976710656)∧(((p.sources.length:Int):Int)≤9223372036854775807)∧((0:Int)≤(p.links.length:Int))∧((8:Int)*(p.links.length:Int)≤281474976710656)∧(((p.links.length:Int):Int)≤9223372036854775807)∧((0:Int)≤(p.racks.length:Int))∧((16:Int)*(p.racks.length:Int)≤281474976710656)∧(((p.racks.length:Int):Int)≤9223372036854775807)) (
 Option.bind (ay (iJ p s_) FUEL (([]:List bg),(List.replicate ((IntKind.wrap .i64 ((IntKind.wrap .i64 ((IntKind.wrap .i64 ((1:Int)+p.buses))+(p.racks.length:Int)))+1)).toNat) (([]:List Int):(List Int))),([]:(List (Int × Int))),0)) fun o=>match o with
 | .ret v=>some v
 | .brk (p1,n01,n11,x0,sources1)=>
 Option.bind (ay (iI p s_ p1) FUEL (n01,n11,([]:(List (Int × Int))),0)) fun o=>match o with
 | .ret v=>some v
 | .brk (p2,n03,n13,x1,links1)=>
 Option.bind (ay (iO p s_) FUEL (p.racks,(IntKind.wrap .i64 ((IntKind.wrap .i64 ((1:Int)+p.buses))+(p.racks.length:Int))),n03,n13,(List.replicate ((p.racks.length:Int).toNat) ((⟨0,0⟩:af):af)),([]:(List (af × Int))),p.racks,(p.racks.length:Int),0)) fun o=>match o with
 | .ret v=>some v
 | .brk (p31,sink1,n05,n15,x21,racks1)=>
 (kK sink1 (⟨n05,n15⟩:Network)).bind fun r_8=>
 Option.bind (xH (jO sources1 r_8) sources1.length (List.range sources1.length) (x0)) fun x02=>
 Option.bind (xH (jM p2 links1 r_8) links1.length (List.range links1.length) (x1)) fun x12=>
 Option.bind (xH (jP racks1 r_8) racks1.length (List.range racks1.length) (x21)) fun x23=>
 bn (((0:Int)≤p.buses)∧((1:Int)*p.buses≤281474976710656)∧((p.buses:Int)≤9223372036854775807)) (
 (fM r_8).bind fun r_9=>
 (dQ r_8.arcs r_8.from_ (⟨p.buses,p1,p2,p31⟩:ah) (List.replicate p.buses.toNat (false:Bool))).bind fun r_10=>
 some ((⟨x02,x12,x23⟩:aA),r_10,0))))
def mM (a:(List Int)) (b:(List Int)):Int→Option (aM Int (Ex Unit Bool)):=
 fun i=>
 bif (decide (i<(a.length:Int)))then
 bn (((0:Int)≤i∧i<(a.length:Int))∧((0:Int)≤i∧i<(b.length:Int))) (
 bif (!decide ((at' a i.toNat)=(at' b i.toNat)))then
 some (.done (.ret false))
 else
 some (.next (IntKind.wrap .i64 (i+1))))
 else
 some (.done (.brk ()))
def jA (a:(List Int)) (b:(List Int)):Option Bool:=
 bif (!decide ((a.length:Int)=(b.length:Int)))then
 some false
 else
 Option.bind (ay (mM a b) FUEL (0)) fun o=>match o with
 | .ret v=>some v
 | .brk _=>
 some true
def nu (p:ah) (s_:State) (cut:(List Bool)):Option (Int × (List Source) × (List Link) × (List aD) × (List Bool) × (List Bool) × (List Bool) × (List Bool) × (List Bool) × (List Bool) × (List Bool) × (List Bool)):=
 some (p.buses,p.sources,p.links,p.racks,s_.closed,s_.locked,s_.badLink,s_.on_,s_.badSource,s_.earthed,s_.badBus,cut)
def fP (x25:Int) (x251:Int) (x26:Int) (part:(List Part)):Option (List Part):=
 bif (!decide (x25=0))then
 bn (((part.length+[(⟨x25,x251⟩:Part)].length)*16≤140737488355328)∧(part.length+[(⟨x25,x251⟩:Part)].length≤4611686018427387904)) (
 some (part++[(⟨x25,x251⟩:Part)]))
 else
 some part
def lT (b:Int) (x1:(List Bool)):Option Bool:=
 bn (gB [((decide (0≤b)),true)]=true→(0:Int)≤b∧b<(x1.length:Int)) (
 some (bif (decide (0≤b))then(at' x1 b.toNat)else false))
def dO (s_:(List Int)) (f_:(List Bool)):Int→Option (aM Int (Ex Unit Int)):=
 fun t8=>
 bif (decide (t8<(s_.length:Int)))then
 (lT (at' s_ t8.toNat) f_).bind fun r_=>
 bn ((0:Int)≤t8∧t8<(s_.length:Int)) (
 bif r_ then
 some (.done (.ret t8))
 else
 some (.next (IntKind.wrap .i64 (t8+1))))
 else
 some (.done (.brk ()))
def iq (s_:(List Int)) (f_:(List Bool)):Option Int:=
 Option.bind (ay (dO s_ f_) FUEL (0)) fun o=>match o with
 | .ret v=>some v
 | .brk _=>
 some (-1)
def bV (s_:(List Int)) (f_:(List Bool)):Option Bool:=
 (iq s_ f_).bind fun r_=>
 some (decide (0≤r_))
def pE (x1:Int) (x11:(List Source)) (x12:(List Link)) (x13:(List aD)) (x2:(List Bool)) (x21:(List Bool)) (x22:(List Bool)) (x23:(List Bool)) (x24:(List Bool)) (x25:(List Bool)) (x26:(List Bool)) (x3:(List Bool)):((List Part) × Int)→Option (aM ((List Part) × Int) (Ex (List Part) (List Part))):=
 fun zz=>match zz with
 |(o90,t15)=>
 bif (decide (t15<(x11.length:Int)))then
 bn ((0:Int)≤t15∧t15<(x11.length:Int)) (
 (gZ (⟨x1,x11,x12,x13⟩:ah) (⟨x2,x21,x22,x23,x24,x25,x26⟩:State) t15).bind fun r_=>
 bif (bif r_ then(!(at' x3 (((at' x11 t15.toNat).bus).toNat)))else false)then
 (fP 2 t15 ((at' x11 t15.toNat).power) o90).bind fun r_1=>
 bn (gB [(r_,true)]=true→(0:Int)≤(at' x11 t15.toNat).bus∧(at' x11 t15.toNat).bus<(x3.length:Int)) (
 some (.next (r_1,(IntKind.wrap .i64 (t15+1)))))
 else
 bn (gB [(r_,true)]=true→(0:Int)≤(at' x11 t15.toNat).bus∧(at' x11 t15.toNat).bus<(x3.length:Int)) (
 some (.next (o90,(IntKind.wrap .i64 (t15+1))))))
 else
 some (.done (.brk o90))
def pq (x1:Int) (x11:(List Source)) (x12:(List Link)) (x13:(List aD)) (x2:(List Bool)) (x21:(List Bool)) (x22:(List Bool)) (x23:(List Bool)) (x24:(List Bool)) (x25:(List Bool)) (x26:(List Bool)) (x3:(List Bool)):((List Part) × Int)→Option (aM ((List Part) × Int) (Ex (List Part) (List Part))):=
 fun zz=>match zz with
 |(o902,t45)=>
 bif (decide (t45<(x12.length:Int)))then
 bn ((0:Int)≤t45∧t45<(x12.length:Int)) (
 (dI (⟨x1,x11,x12,x13⟩:ah) (⟨x2,x21,x22,x23,x24,x25,x26⟩:State) t45).bind fun r_2=>
 bif (bif r_2 then(!((at' x3 (((at' x12 t45.toNat).a).toNat))==(at' x3 (((at' x12 t45.toNat).b).toNat))))else false)then
 (fP 3 t45 ((at' x12 t45.toNat).most) o902).bind fun r_3=>
 bn ((gB [(r_2,true)]=true→(0:Int)≤(at' x12 t45.toNat).a∧(at' x12 t45.toNat).a<(x3.length:Int))∧(gB [(r_2,true)]=true→(0:Int)≤(at' x12 t45.toNat).b∧(at' x12 t45.toNat).b<(x3.length:Int))) (
 some (.next (r_3,(IntKind.wrap .i64 (t45+1)))))
 else
 bn ((gB [(r_2,true)]=true→(0:Int)≤(at' x12 t45.toNat).a∧(at' x12 t45.toNat).a<(x3.length:Int))∧(gB [(r_2,true)]=true→(0:Int)≤(at' x12 t45.toNat).b∧(at' x12 t45.toNat).b<(x3.length:Int))) (
 some (.next (o902,(IntKind.wrap .i64 (t45+1))))))
 else
 some (.done (.brk o902))
def kL (x13:(List aD)) (x3:(List Bool)):((List Part) × Int)→Option (aM ((List Part) × Int) (Ex (List Part) (List Part))):=
 fun zz=>match zz with
 |(o904,t80)=>
 bif (decide (t80<(x13.length:Int)))then
 bn ((0:Int)≤t80∧t80<(x13.length:Int)) (
 (bV [((at' x13 t80.toNat).feeds).e0,((at' x13 t80.toNat).feeds).e1] x3).bind fun r_4=>
 bif r_4 then
 (fP 0 t80 ((at' x13 t80.toNat).power) o904).bind fun r_5=>
 some (.next (r_5,(IntKind.wrap .i64 (t80+1))))
 else
 some (.next (o904,(IntKind.wrap .i64 (t80+1)))))
 else
 some (.done (.brk o904))
def oP (x1:Int) (x11:(List Source)) (x12:(List Link)) (x13:(List aD)) (x2:(List Bool)) (x21:(List Bool)) (x22:(List Bool)) (x23:(List Bool)) (x24:(List Bool)) (x25:(List Bool)) (x26:(List Bool)) (x3:(List Bool)) (part:(List Part)):Option (List Part):=
 Option.bind (ay (pE x1 x11 x12 x13 x2 x21 x22 x23 x24 x25 x26 x3) FUEL (part,0)) fun o=>match o with
 | .ret v=>some v
 | .brk o901=>
 Option.bind (ay (pq x1 x11 x12 x13 x2 x21 x22 x23 x24 x25 x26 x3) FUEL (o901,0)) fun o=>match o with
 | .ret v=>some v
 | .brk o903=>
 Option.bind (ay (kL x13 x3) FUEL (o903,0)) fun o=>match o with
 | .ret v=>some v
 | .brk o905=>
 some o905
def kY (p:ah) (s_:State):Option ((List Part) × Int):=
 (bN p s_).bind fun r_=>
 bif (!decide (r_.2.2=0))then
 some (([]:List Part),r_.2.2)
 else
 (nu p s_ r_.2.1).bind fun r_1=>
 (oP r_1.1 r_1.2.1 r_1.2.2.1 r_1.2.2.2.1 r_1.2.2.2.2.1 r_1.2.2.2.2.2.1 r_1.2.2.2.2.2.2.1 r_1.2.2.2.2.2.2.2.1 r_1.2.2.2.2.2.2.2.2.1 r_1.2.2.2.2.2.2.2.2.2.1 r_1.2.2.2.2.2.2.2.2.2.2.1 r_1.2.2.2.2.2.2.2.2.2.2.2 ([]:List Part)).bind fun r_2=>
 some (r_2,0)
def kP (x:aA):(Int × Int)→Option (aM (Int × Int) (Ex Int Int)):=
 fun zz=>match zz with
 |(n,t9)=>
 bif (decide (t9<(x.racks.length:Int)))then
 bn ((0:Int)≤t9∧t9<(x.racks.length:Int)) (
 some (.next ((IntKind.wrap .i64 (n+(IntKind.wrap .i64 (((at' x.racks t9.toNat).e0)+((at' x.racks t9.toNat).e1))))),(IntKind.wrap .i64 (t9+1)))))
 else
 some (.done (.brk n))
def gX (x:aA):Option Int:=
 Option.bind (ay (kP x) FUEL (0,0)) fun o=>match o with
 | .ret v=>some v
 | .brk n1=>
 some n1
def wR (p:ah):(Int × Int)→Option (aM (Int × Int) (Ex Int (Bool × Int))):=
 fun zz=>match zz with
 |(n,t25)=>
 bif (decide (t25<(p.racks.length:Int)))then
 bn ((0:Int)≤t25∧t25<(p.racks.length:Int)) (
 some (.next ((IntKind.wrap .i64 (n+((at' p.racks t25.toNat).power))),(IntKind.wrap .i64 (t25+1)))))
 else
 some (.done (.brk n))
def nT (p:ah) (s_:State):Option (Bool × Int):=
 (bN p s_).bind fun r_=>
 bif (!decide (r_.2.2=0))then
 some (false,r_.2.2)
 else
 Option.bind (ay (wR p) FUEL (0,0)) fun o=>match o with
 | .ret v=>some v
 | .brk n1=>
 (gX r_.1).bind fun r_1=>
 some ((decide (r_1=n1)),0)
def lQ (a:(List Part)) (b:(List Part)):Int→Option (aM Int (Ex Unit Bool)):=
 fun i=>
 bif (decide (i<(a.length:Int)))then
 bn (((0:Int)≤i∧i<(a.length:Int))∧((0:Int)≤i∧i<(b.length:Int))) (
 bif (!((decide (((at' a i.toNat).kind)=((at' b i.toNat).kind))) && ((decide (((at' a i.toNat).index)=((at' b i.toNat).index))) && true)))then
 some (.done (.ret false))
 else
 some (.next (IntKind.wrap .i64 (i+1))))
 else
 some (.done (.brk ()))
def lV (a:(List Part)) (b:(List Part)):Option Bool:=
 bif (!decide ((a.length:Int)=(b.length:Int)))then
 some false
 else
 Option.bind (ay (lQ a b) FUEL (0)) fun o=>match o with
 | .ret v=>some v
 | .brk _=>
 some true
def qN (s_:(List Int)) (s_nn:Bool):Option (List Int):=
 bif (!s_nn)then
 some ([]:List Int)
 else
 bn (((([]:List Int).length+s_.length)*8≤140737488355328)∧(([]:List Int).length+s_.length≤4611686018427387904)) (
 some (([]:List Int)++s_))
def iT (s:(List Int)):Option (List Int):=qN s true
def xA (x:Int):Option Bool:=
 some (!decide (x=x))
def tX (x:Int) (y:Int):Option Int:=
 (xA x).bind fun r_=>
 (xA y).bind fun r_1=>
 bif r_ then
 bif r_1 then
 some 0
 else
 some (-1)
 else
 bif r_1 then
 some 1
 else
 bif (decide (x<y))then
 some (-1)
 else
 bif (decide (y<x))then
 some 1
 else
 some 0
def bL (s1:(List Int)) (s2:(List Int)):Int→Option (aM Int (Ex Unit Int)):=
 fun t11=>
 bif (decide (t11<(s1.length:Int)))then
 bn ((0:Int)≤t11∧t11<(s1.length:Int)) (
 bif (decide ((s2.length:Int)≤t11))then
 some (.done (.ret 1))
 else
 bn ((0:Int)≤t11∧t11<(s2.length:Int)) (
 (tX (at' s1 t11.toNat) (at' s2 t11.toNat)).bind fun r_=>
 bif (!decide (r_=0))then
 some (.done (.ret r_))
 else
 some (.next (IntKind.wrap .i64 (t11+1)))))
 else
 some (.done (.brk ()))
def sP (s1:(List Int)) (s2:(List Int)):Option Int:=
 Option.bind (ay (bL s1 s2) FUEL (0)) fun o=>match o with
 | .ret v=>some v
 | .brk _=>
 bif (decide ((s1.length:Int)<(s2.length:Int)))then
 some (-1)
 else
 some 0
def Bt (vals:(List Int)):Int→Option (aM Int (Ex Unit Int)):=
 fun t8=>
 bif (decide (t8<(vals.length:Int)))then
 bn ((0:Int)≤t8∧t8<(vals.length:Int)) (
 bif (!decide ((at' vals t8.toNat)=0))then
 some (.done (.ret (at' vals t8.toNat)))
 else
 some (.next (IntKind.wrap .i64 (t8+1))))
 else
 some (.done (.brk ()))
def EK (vals:(List Int)):Option Int:=
 Option.bind (ay (Bt vals) FUEL (0)) fun o=>match o with
 | .ret v=>some v
 | .brk _=>
 some 0
def ku (a:Way) (b:Way):Option Bool:=
 bif (!b.there)then
 some true
 else
 (sP a.links b.links).bind fun r_=>
 (EK [(IntKind.wrap .i64 (a.bJ - b.bJ)),(IntKind.wrap .i64 ((a.links.length:Int) - (b.links.length:Int))),r_]).bind fun r_1=>
 some (decide (r_1<0))
def kQ (p:ah) (t28:Int):((List Way) × Bool × Int)→Option (aM ((List Way) × Bool × Int) (Ex ((List Way) × Bool) (aM ((List Way) × Bool × Int) (Ex ((List Way) × Bool) (aM ((List Way) × Bool) (Ex (List Way) (List Way))))))):=
 fun zz=>match zz with
 |(out4,changed3,t49)=>
 bif (decide (t49<2))then
 bn ((0:Int)≤t49∧t49<((2:Nat):Int)) (
 bn ((0:Int)≤(at' [(⟨(at' p.links t28.toNat).a,(at' p.links t28.toNat).b⟩:af),(⟨(at' p.links t28.toNat).b,(at' p.links t28.toNat).a⟩:af)] t49.toNat).e0∧(at' [(⟨(at' p.links t28.toNat).a,(at' p.links t28.toNat).b⟩:af),(⟨(at' p.links t28.toNat).b,(at' p.links t28.toNat).a⟩:af)] t49.toNat).e0<(out4.length:Int)) (
 bif (!((at' out4 (((at' [(⟨(at' p.links t28.toNat).a,(at' p.links t28.toNat).b⟩:af),(⟨(at' p.links t28.toNat).b,(at' p.links t28.toNat).a⟩:af)] t49.toNat).e0).toNat)).there))then
 some (.next (out4,changed3,(IntKind.wrap .i64 (t49+1))))
 else
 (iT ((at' out4 (((at' [(⟨(at' p.links t28.toNat).a,(at' p.links t28.toNat).b⟩:af),(⟨(at' p.links t28.toNat).b,(at' p.links t28.toNat).a⟩:af)] t49.toNat).e0).toNat)).links)).bind fun r_1=>
 bn (((r_1.length+[t28].length)*8≤140737488355328)∧(r_1.length+[t28].length≤4611686018427387904)) (
 (ku (⟨true,(IntKind.wrap .i64 (((at' out4 (((at' [(⟨(at' p.links t28.toNat).a,(at' p.links t28.toNat).b⟩:af),(⟨(at' p.links t28.toNat).b,(at' p.links t28.toNat).a⟩:af)] t49.toNat).e0).toNat)).bJ)+((at' p.links t28.toNat).bJ))),(r_1++[t28])⟩:Way) (at' out4 (((at' [(⟨(at' p.links t28.toNat).a,(at' p.links t28.toNat).b⟩:af),(⟨(at' p.links t28.toNat).b,(at' p.links t28.toNat).a⟩:af)] t49.toNat).e1).toNat))).bind fun r_2=>
 bn ((0:Int)≤(at' [(⟨(at' p.links t28.toNat).a,(at' p.links t28.toNat).b⟩:af),(⟨(at' p.links t28.toNat).b,(at' p.links t28.toNat).a⟩:af)] t49.toNat).e1∧(at' [(⟨(at' p.links t28.toNat).a,(at' p.links t28.toNat).b⟩:af),(⟨(at' p.links t28.toNat).b,(at' p.links t28.toNat).a⟩:af)] t49.toNat).e1<(out4.length:Int)) (
 bif r_2 then
 bn ((0:Int)≤(at' [(⟨(at' p.links t28.toNat).a,(at' p.links t28.toNat).b⟩:af),(⟨(at' p.links t28.toNat).b,(at' p.links t28.toNat).a⟩:af)] t49.toNat).e1∧(at' [(⟨(at' p.links t28.toNat).a,(at' p.links t28.toNat).b⟩:af),(⟨(at' p.links t28.toNat).b,(at' p.links t28.toNat).a⟩:af)] t49.toNat).e1<(out4.length:Int)) (
 some (.next ((out4.set (((at' [(⟨(at' p.links t28.toNat).a,(at' p.links t28.toNat).b⟩:af),(⟨(at' p.links t28.toNat).b,(at' p.links t28.toNat).a⟩:af)] t49.toNat).e1).toNat) (⟨true,(IntKind.wrap .i64 (((at' out4 (((at' [(⟨(at' p.links t28.toNat).a,(at' p.links t28.toNat).b⟩:af),(⟨(at' p.links t28.toNat).b,(at' p.links t28.toNat).a⟩:af)] t49.toNat).e0).toNat)).bJ)+((at' p.links t28.toNat).bJ))),(r_1++[t28])⟩:Way)),true,(IntKind.wrap .i64 (t49+1)))))
 else
 some (.next (out4,changed3,(IntKind.wrap .i64 (t49+1))))))))
 else
 some (.done (.brk (out4,changed3)))
def qM (p:ah) (s_:State):((List Way) × Bool × Int)→Option (aM ((List Way) × Bool × Int) (Ex ((List Way) × Bool) (aM ((List Way) × Bool) (Ex (List Way) (List Way))))):=
 fun zz=>match zz with
 |(out2,changed1,t28)=>
 bif (decide (t28<(p.links.length:Int)))then
 bn ((0:Int)≤t28∧t28<(p.links.length:Int)) (
 (dI p s_ t28).bind fun r_=>
 bif (!r_)then
 some (.next (out2,changed1,(IntKind.wrap .i64 (t28+1))))
 else
 Option.bind (ay (kQ p t28) FUEL (out2,changed1,0)) fun o=>match o with
 | .ret v=>some v
 | .brk (out5,changed4)=>
 some (.next (out5,changed4,(IntKind.wrap .i64 (t28+1)))))
 else
 some (.done (.brk (out2,changed1)))
def ny (p:ah) (s_:State):((List Way) × Bool)→Option (aM ((List Way) × Bool) (Ex (List Way) (List Way))):=
 fun zz=>match zz with
 |(out,changed)=>
 bif changed then
 Option.bind (ay (qM p s_) FUEL (out,false,0)) fun o=>match o with
 | .ret v=>some v
 | .brk (out3,changed2)=>
 some (.next (out3,changed2))
 else
 some (.done (.brk out))
def qz (p:ah) (s_:State) (bus:Int):Option (List Way):=
 bn (((0:Int)≤p.buses)∧((40:Int)*p.buses≤281474976710656)∧((p.buses:Int)≤9223372036854775807)) (
 bn ((0:Int)≤bus∧bus<((List.replicate p.buses.toNat ((⟨false,0,([]:List Int)⟩:Way):Way)).length:Int)) (
 Option.bind (ay (ny p s_) FUEL (((List.replicate p.buses.toNat ((⟨false,0,([]:List Int)⟩:Way):Way)).set bus.toNat (⟨true,(at' (List.replicate p.buses.toNat ((⟨false,0,([]:List Int)⟩:Way):Way)) bus.toNat).bJ,(at' (List.replicate p.buses.toNat ((⟨false,0,([]:List Int)⟩:Way):Way)) bus.toNat).links⟩:Way)),true)) fun o=>match o with
 | .ret v=>some v
 | .brk out1=>
 some out1))
def nX (p:ah) (s_:State) (bus:Int):((List Short) × Int)→Option (aM ((List Short) × Int) (Ex (List Short) ((List Short) × Int))):=
 fun zz=>match zz with
 |(out,t31)=>
 bif (decide (t31<(p.sources.length:Int)))then
 bn ((0:Int)≤t31∧t31<(p.sources.length:Int)) (
 (bif gB [((at' s_.badBus bus.toNat),false)]then gZ p s_ t31 else some default).bind fun r_1=>
 bn ((0:Int)≤bus∧bus<(s_.badBus.length:Int)) (
 bif (bif (at' s_.badBus bus.toNat)then true else(!r_1))then
 some (.next (out,(IntKind.wrap .i64 (t31+1))))
 else
 (qz p s_ ((at' p.sources t31.toNat).bus)).bind fun r_2=>
 bn ((0:Int)≤bus∧bus<(r_2.length:Int)) (
 bif ((at' r_2 bus.toNat).there)then
 bn (((IntKind.wrap .i64 (((at' p.sources t31.toNat).bJ)+((at' r_2 bus.toNat).bJ)))≠(0:Int))∧((out.length+[(⟨t31,(IntKind.wrap .i64 (((at' p.sources t31.toNat).bJ)+((at' r_2 bus.toNat).bJ))),(IntKind.wrap .i64 (Int.tdiv (IntKind.wrap .i64 ((IntKind.wrap .i64 ((400000:Int)+(IntKind.wrap .i64 (((at' p.sources t31.toNat).bJ)+((at' r_2 bus.toNat).bJ))))) - 1)) (IntKind.wrap .i64 (((at' p.sources t31.toNat).bJ)+((at' r_2 bus.toNat).bJ))))),(at' r_2 bus.toNat).links⟩:Short)].length)*48≤140737488355328)∧(out.length+[(⟨t31,(IntKind.wrap .i64 (((at' p.sources t31.toNat).bJ)+((at' r_2 bus.toNat).bJ))),(IntKind.wrap .i64 (Int.tdiv (IntKind.wrap .i64 ((IntKind.wrap .i64 ((400000:Int)+(IntKind.wrap .i64 (((at' p.sources t31.toNat).bJ)+((at' r_2 bus.toNat).bJ))))) - 1)) (IntKind.wrap .i64 (((at' p.sources t31.toNat).bJ)+((at' r_2 bus.toNat).bJ))))),(at' r_2 bus.toNat).links⟩:Short)].length≤4611686018427387904)) (
 some (.next ((out++[(⟨t31,(IntKind.wrap .i64 (((at' p.sources t31.toNat).bJ)+((at' r_2 bus.toNat).bJ))),(IntKind.wrap .i64 (Int.tdiv (IntKind.wrap .i64 ((IntKind.wrap .i64 ((400000:Int)+(IntKind.wrap .i64 (((at' p.sources t31.toNat).bJ)+((at' r_2 bus.toNat).bJ))))) - 1)) (IntKind.wrap .i64 (((at' p.sources t31.toNat).bJ)+((at' r_2 bus.toNat).bJ))))),(at' r_2 bus.toNat).links⟩:Short)]),(IntKind.wrap .i64 (t31+1)))))
 else
 some (.next (out,(IntKind.wrap .i64 (t31+1)))))))
 else
 some (.done (.brk out))
def jg (p:ah) (s_:State) (bus:Int):Option ((List Short) × Int):=
 (fA p s_).bind fun r_=>
 bif (!decide (r_=0))then
 some (([]:List Short),r_)
 else
 bif (bif (decide (bus<0))then true else(decide (p.buses≤bus)))then
 some (([]:List Short),1)
 else
 Option.bind (ay (nX p s_ bus) FUEL (([]:List Short),0)) fun o=>match o with
 | .ret v=>some v
 | .brk out1=>
 some (out1,0)
def jF (a:(List Short)) (b:(List Short)):Int→Option (aM Int (Ex Unit Bool)):=
 fun i=>
 bif (decide (i<(a.length:Int)))then
 (bif gB [((bif (bif (!decide (((at' a i.toNat).source)=((at' b i.toNat).source)))then true else(!decide (((at' a i.toNat).bJ)=((at' b i.toNat).bJ))))then true else(!decide (((at' a i.toNat).amps)=((at' b i.toNat).amps)))),false)]then jA ((at' a i.toNat).links) ((at' b i.toNat).links)else some default).bind fun r_=>
 bn (((0:Int)≤i∧i<(a.length:Int))∧((0:Int)≤i∧i<(b.length:Int))∧(gB [((!decide (((at' a i.toNat).source)=((at' b i.toNat).source))),false)]=true→(0:Int)≤i∧i<(a.length:Int))∧(gB [((!decide (((at' a i.toNat).source)=((at' b i.toNat).source))),false)]=true→(0:Int)≤i∧i<(b.length:Int))∧(gB [((bif (!decide (((at' a i.toNat).source)=((at' b i.toNat).source)))then true else(!decide (((at' a i.toNat).bJ)=((at' b i.toNat).bJ)))),false)]=true→(0:Int)≤i∧i<(a.length:Int))∧(gB [((bif (!decide (((at' a i.toNat).source)=((at' b i.toNat).source)))then true else(!decide (((at' a i.toNat).bJ)=((at' b i.toNat).bJ)))),false)]=true→(0:Int)≤i∧i<(b.length:Int))∧(gB [((bif (bif (!decide (((at' a i.toNat).source)=((at' b i.toNat).source)))then true else(!decide (((at' a i.toNat).bJ)=((at' b i.toNat).bJ))))then true else(!decide (((at' a i.toNat).amps)=((at' b i.toNat).amps)))),false)]=true→(0:Int)≤i∧i<(a.length:Int))∧(gB [((bif (bif (!decide (((at' a i.toNat).source)=((at' b i.toNat).source)))then true else(!decide (((at' a i.toNat).bJ)=((at' b i.toNat).bJ))))then true else(!decide (((at' a i.toNat).amps)=((at' b i.toNat).amps)))),false)]=true→(0:Int)≤i∧i<(b.length:Int))) (
 bif (bif (bif (bif (!decide (((at' a i.toNat).source)=((at' b i.toNat).source)))then true else(!decide (((at' a i.toNat).bJ)=((at' b i.toNat).bJ))))then true else(!decide (((at' a i.toNat).amps)=((at' b i.toNat).amps))))then true else(!r_))then
 some (.done (.ret false))
 else
 some (.next (IntKind.wrap .i64 (i+1))))
 else
 some (.done (.brk ()))
def jD (a:(List Short)) (b:(List Short)):Option Bool:=
 bif (!decide ((a.length:Int)=(b.length:Int)))then
 some false
 else
 Option.bind (ay (jF a b) FUEL (0)) fun o=>match o with
 | .ret v=>some v
 | .brk _=>
 some true
def rT (s_:(List Int)) (v_:Int):Int→Option (aM Int (Ex Unit Int)):=
 fun t8=>
 bif (decide (t8<(s_.length:Int)))then
 bn ((0:Int)≤t8∧t8<(s_.length:Int)) (
 bif (decide (v_=(at' s_ t8.toNat)))then
 some (.done (.ret t8))
 else
 some (.next (IntKind.wrap .i64 (t8+1))))
 else
 some (.done (.brk ()))
def wL (s_:(List Int)) (v_:Int):Option Int:=
 Option.bind (ay (rT s_ v_) FUEL (0)) fun o=>match o with
 | .ret v=>some v
 | .brk _=>
 some (-1)
def mQ (s_:(List Int)) (v_:Int):Option Bool:=
 (wL s_ v_).bind fun r_=>
 some (decide (0≤r_))
def tH (i:Int) (o_:(List Int)):Option Bool:=
 some (bif (decide (i<0))then true else(decide ((o_.length:Int)≤i)))
def j6 (s_:(List Int)) (o_:(List Int)):Int→Option (aM Int (Ex Unit Int)):=
 fun t8=>
 bif (decide (t8<(s_.length:Int)))then
 (tH (at' s_ t8.toNat) o_).bind fun r_=>
 bn ((0:Int)≤t8∧t8<(s_.length:Int)) (
 bif r_ then
 some (.done (.ret t8))
 else
 some (.next (IntKind.wrap .i64 (t8+1))))
 else
 some (.done (.brk ()))
def mr (s_:(List Int)) (o_:(List Int)):Option Int:=
 Option.bind (ay (j6 s_ o_) FUEL (0)) fun o=>match o with
 | .ret v=>some v
 | .brk _=>
 some (-1)
def iH (s_:(List Int)) (o_:(List Int)):Option Bool:=
 (mr s_ o_).bind fun r_=>
 some (decide (0≤r_))
def jW (l:(List Short)) (out0:(List Int)) (t25:Int):((List Int) × Int)→Option (aM ((List Int) × Int) (Ex (List Int) (aM ((List Int) × Int) (Ex (List Int) ((List Int) × Bool × Int))))):=
 fun zz=>match zz with
 |(out02,t45)=>
 bif (decide (t45<(out0.length:Int)))then
 (mQ ((at' l t25.toNat).links) t45).bind fun r_2=>
 bif r_2 then
 bn ((0:Int)≤t45∧t45<(out02.length:Int)) (
 some (.next ((out02.set t45.toNat (IntKind.wrap .i64 ((at' out02 t45.toNat)+((at' l t25.toNat).amps)))),(IntKind.wrap .i64 (t45+1)))))
 else
 some (.next (out02,(IntKind.wrap .i64 (t45+1))))
 else
 some (.done (.brk out02))
def fZ (l:(List Short)):((List Int) × Int)→Option (aM ((List Int) × Int) (Ex (List Int) ((List Int) × Bool × Int))):=
 fun zz=>match zz with
 |(out0,t25)=>
 bif (decide (t25<(l.length:Int)))then
 bn ((0:Int)≤t25∧t25<(l.length:Int)) (
 (bif gB [((bif (decide (((at' l t25.toNat).amps)<0))then true else(decide (1000000<((at' l t25.toNat).amps)))),false)]then iH ((at' l t25.toNat).links) out0 else some default).bind fun r_1=>
 bif (bif (bif (decide (((at' l t25.toNat).amps)<0))then true else(decide (1000000<((at' l t25.toNat).amps))))then true else r_1)then
 some (.done (.ret (([]:List Int),false,1)))
 else
 Option.bind (ay (jW l out0 t25) FUEL (out0,0)) fun o=>match o with
 | .ret v=>some v
 | .brk out03=>
 some (.next (out03,(IntKind.wrap .i64 (t25+1)))))
 else
 some (.done (.brk out0))
def kM (p:ah) (l:(List Short)):Option ((List Int) × Bool × Int):=
 (pM p).bind fun r_=>
 bif (!decide (r_=0))then
 some (([]:List Int),false,r_)
 else
 bif (decide (8<(l.length:Int)))then
 some (([]:List Int),false,1)
 else
 bn (((0:Int)≤(p.links.length:Int))∧((8:Int)*(p.links.length:Int)≤281474976710656)∧(((p.links.length:Int):Int)≤9223372036854775807)) (
 Option.bind (ay (fZ l) FUEL ((List.replicate ((p.links.length:Int).toNat) (0:Int)),0)) fun o=>match o with
 | .ret v=>some v
 | .brk out01=>
 some (out01,true,0))
def dX (x45:Int) (x451:Int) (x46:Int) (int:Int):Option Int:=
 some (IntKind.wrap .i64 (int+x46))
def lq (x1:Int) (x11:(List Source)) (x12:(List Link)) (x13:(List aD)) (x2:(List Bool)) (x21:(List Bool)) (x22:(List Bool)) (x23:(List Bool)) (x24:(List Bool)) (x25:(List Bool)) (x26:(List Bool)) (x3:(List Bool)):(Int × Int)→Option (aM (Int × Int) (Ex Int Int)):=
 fun zz=>match zz with
 |(o110,t15)=>
 bif (decide (t15<(x11.length:Int)))then
 bn ((0:Int)≤t15∧t15<(x11.length:Int)) (
 (gZ (⟨x1,x11,x12,x13⟩:ah) (⟨x2,x21,x22,x23,x24,x25,x26⟩:State) t15).bind fun r_=>
 bif (bif r_ then(!(at' x3 (((at' x11 t15.toNat).bus).toNat)))else false)then
 (dX 2 t15 ((at' x11 t15.toNat).power) o110).bind fun r_1=>
 bn (gB [(r_,true)]=true→(0:Int)≤(at' x11 t15.toNat).bus∧(at' x11 t15.toNat).bus<(x3.length:Int)) (
 some (.next (r_1,(IntKind.wrap .i64 (t15+1)))))
 else
 bn (gB [(r_,true)]=true→(0:Int)≤(at' x11 t15.toNat).bus∧(at' x11 t15.toNat).bus<(x3.length:Int)) (
 some (.next (o110,(IntKind.wrap .i64 (t15+1))))))
 else
 some (.done (.brk o110))
def lF (x1:Int) (x11:(List Source)) (x12:(List Link)) (x13:(List aD)) (x2:(List Bool)) (x21:(List Bool)) (x22:(List Bool)) (x23:(List Bool)) (x24:(List Bool)) (x25:(List Bool)) (x26:(List Bool)) (x3:(List Bool)):(Int × Int)→Option (aM (Int × Int) (Ex Int Int)):=
 fun zz=>match zz with
 |(o1102,t45)=>
 bif (decide (t45<(x12.length:Int)))then
 bn ((0:Int)≤t45∧t45<(x12.length:Int)) (
 (dI (⟨x1,x11,x12,x13⟩:ah) (⟨x2,x21,x22,x23,x24,x25,x26⟩:State) t45).bind fun r_2=>
 bif (bif r_2 then(!((at' x3 (((at' x12 t45.toNat).a).toNat))==(at' x3 (((at' x12 t45.toNat).b).toNat))))else false)then
 (dX 3 t45 ((at' x12 t45.toNat).most) o1102).bind fun r_3=>
 bn ((gB [(r_2,true)]=true→(0:Int)≤(at' x12 t45.toNat).a∧(at' x12 t45.toNat).a<(x3.length:Int))∧(gB [(r_2,true)]=true→(0:Int)≤(at' x12 t45.toNat).b∧(at' x12 t45.toNat).b<(x3.length:Int))) (
 some (.next (r_3,(IntKind.wrap .i64 (t45+1)))))
 else
 bn ((gB [(r_2,true)]=true→(0:Int)≤(at' x12 t45.toNat).a∧(at' x12 t45.toNat).a<(x3.length:Int))∧(gB [(r_2,true)]=true→(0:Int)≤(at' x12 t45.toNat).b∧(at' x12 t45.toNat).b<(x3.length:Int))) (
 some (.next (o1102,(IntKind.wrap .i64 (t45+1))))))
 else
 some (.done (.brk o1102))
def lI (x13:(List aD)) (x3:(List Bool)):(Int × Int)→Option (aM (Int × Int) (Ex Int Int)):=
 fun zz=>match zz with
 |(o1104,t80)=>
 bif (decide (t80<(x13.length:Int)))then
 bn ((0:Int)≤t80∧t80<(x13.length:Int)) (
 (bV [((at' x13 t80.toNat).feeds).e0,((at' x13 t80.toNat).feeds).e1] x3).bind fun r_4=>
 bif r_4 then
 (dX 0 t80 ((at' x13 t80.toNat).power) o1104).bind fun r_5=>
 some (.next (r_5,(IntKind.wrap .i64 (t80+1))))
 else
 some (.next (o1104,(IntKind.wrap .i64 (t80+1)))))
 else
 some (.done (.brk o1104))
def kG (x1:Int) (x11:(List Source)) (x12:(List Link)) (x13:(List aD)) (x2:(List Bool)) (x21:(List Bool)) (x22:(List Bool)) (x23:(List Bool)) (x24:(List Bool)) (x25:(List Bool)) (x26:(List Bool)) (x3:(List Bool)) (int:Int):Option Int:=
 Option.bind (ay (lq x1 x11 x12 x13 x2 x21 x22 x23 x24 x25 x26 x3) FUEL (int,0)) fun o=>match o with
 | .ret v=>some v
 | .brk o1101=>
 Option.bind (ay (lF x1 x11 x12 x13 x2 x21 x22 x23 x24 x25 x26 x3) FUEL (o1101,0)) fun o=>match o with
 | .ret v=>some v
 | .brk o1103=>
 Option.bind (ay (lI x13 x3) FUEL (o1103,0)) fun o=>match o with
 | .ret v=>some v
 | .brk o1105=>
 some o1105
def qm (s_:State) (cut:(List Bool)):Int→Option (aM Int (Ex Unit (Int × Int))):=
 fun t27=>
 bif (decide (t27<(cut.length:Int)))then
 bn ((0:Int)≤t27∧t27<(cut.length:Int)) (
 bn (gB [((at' cut t27.toNat),true)]=true→(0:Int)≤t27∧t27<(s_.badBus.length:Int)) (
 bif (bif (at' cut t27.toNat)then(at' s_.badBus t27.toNat)else false)then
 some (.done (.ret (0,1)))
 else
 some (.next (IntKind.wrap .i64 (t27+1)))))
 else
 some (.done (.brk ()))
def lZ (p:ah) (s_:State) (cut:(List Bool)):Option (Int × Int):=
 (fA p s_).bind fun r_=>
 bif (!decide (r_=0))then
 some (0,r_)
 else
 bif (!decide ((cut.length:Int)=p.buses))then
 some (0,1)
 else
 Option.bind (ay (qm s_ cut) FUEL (0)) fun o=>match o with
 | .ret v=>some v
 | .brk _=>
 (nu p s_ cut).bind fun r_1=>
 (kG r_1.1 r_1.2.1 r_1.2.2.1 r_1.2.2.2.1 r_1.2.2.2.2.1 r_1.2.2.2.2.2.1 r_1.2.2.2.2.2.2.1 r_1.2.2.2.2.2.2.2.1 r_1.2.2.2.2.2.2.2.2.1 r_1.2.2.2.2.2.2.2.2.2.1 r_1.2.2.2.2.2.2.2.2.2.2.1 r_1.2.2.2.2.2.2.2.2.2.2.2 0).bind fun r_2=>
 some (r_2,0)
def zq:Option Unit:=
 some ()
def ru (p:ah) (s_:State) (x:aA):Int→Option (aM Int (Ex Unit Bool)):=
 fun t14=>
 bif (decide (t14<(x.sources.length:Int)))then
 bn ((0:Int)≤t14∧t14<(x.sources.length:Int)) (
 (bif gB [((decide (0<(at' x.sources t14.toNat))),true),((bif (decide ((at' x.sources t14.toNat)<0))then true else(decide (((at' p.sources t14.toNat).power)<(at' x.sources t14.toNat)))),false)]then gZ p s_ t14 else some default).bind fun r_=>
 bn (gB [((decide ((at' x.sources t14.toNat)<0)),false)]=true→(0:Int)≤t14∧t14<(p.sources.length:Int)) (
 bif (bif (bif (decide ((at' x.sources t14.toNat)<0))then true else(decide (((at' p.sources t14.toNat).power)<(at' x.sources t14.toNat))))then true else(bif (decide (0<(at' x.sources t14.toNat)))then(!r_)else false))then
 some (.done (.ret false))
 else
 some (.next (IntKind.wrap .i64 (t14+1)))))
 else
 some (.done (.brk ()))
def rW (p:ah) (s_:State) (x:aA):Int→Option (aM Int (Ex Unit Bool)):=
 fun t46=>
 bif (decide (t46<(x.links.length:Int)))then
 bn ((0:Int)≤t46∧t46<(x.links.length:Int)) (
 (bif gB [((!decide ((at' x.links t46.toNat)=0)),true),((bif (decide ((at' x.links t46.toNat)<(IntKind.wrap .i64 (0 - ((at' p.links t46.toNat).most)))))then true else(decide (((at' p.links t46.toNat).most)<(at' x.links t46.toNat)))),false)]then dI p s_ t46 else some default).bind fun r_1=>
 bn (((0:Int)≤t46∧t46<(p.links.length:Int))∧(gB [((decide ((at' x.links t46.toNat)<(IntKind.wrap .i64 (0 - ((at' p.links t46.toNat).most))))),false)]=true→(0:Int)≤t46∧t46<(p.links.length:Int))) (
 bif (bif (bif (decide ((at' x.links t46.toNat)<(IntKind.wrap .i64 (0 - ((at' p.links t46.toNat).most)))))then true else(decide (((at' p.links t46.toNat).most)<(at' x.links t46.toNat))))then true else(bif (!decide ((at' x.links t46.toNat)=0))then(!r_1)else false))then
 some (.done (.ret false))
 else
 some (.next (IntKind.wrap .i64 (t46+1)))))
 else
 some (.done (.brk ()))
def qL (p:ah) (s_:State) (x:aA):Option Bool:=
 Option.bind (ay (ru p s_ x) FUEL (0)) fun o=>match o with
 | .ret v=>some v
 | .brk _=>
 Option.bind (ay (rW p s_ x) FUEL (0)) fun o=>match o with
 | .ret v=>some v
 | .brk _=>
 some true
def gy (p:ah) (s_:State) (x:aA) (t14:Int):Int→Option (aM Int (Ex Unit (aM Int (Ex Unit Bool)))):=
 fun t20=>
 bif (decide (t20<2))then
 bn ((0:Int)≤t20∧t20<((2:Nat):Int)) (
 bif (decide (t20=0))then
 (bif gB [((decide (0<(at' [(at' x.racks t14.toNat).e0,(at' x.racks t14.toNat).e1] t20.toNat))),true),((bif (decide ((at' [(at' x.racks t14.toNat).e0,(at' x.racks t14.toNat).e1] t20.toNat)<0))then true else(decide (((at' p.racks t14.toNat).power)<(at' [(at' x.racks t14.toNat).e0,(at' x.racks t14.toNat).e1] t20.toNat)))),false)]then iE s_ (((at' p.racks t14.toNat).feeds).e0)else some default).bind fun r_=>
 bn ((gB [((decide ((at' [(at' x.racks t14.toNat).e0,(at' x.racks t14.toNat).e1] t20.toNat)<0)),false)]=true→(0:Int)≤t14∧t14<(p.racks.length:Int))∧(gB [((decide (0<(at' [(at' x.racks t14.toNat).e0,(at' x.racks t14.toNat).e1] t20.toNat))),true),((bif (decide ((at' [(at' x.racks t14.toNat).e0,(at' x.racks t14.toNat).e1] t20.toNat)<0))then true else(decide (((at' p.racks t14.toNat).power)<(at' [(at' x.racks t14.toNat).e0,(at' x.racks t14.toNat).e1] t20.toNat)))),false)]=true→(0:Int)≤t14∧t14<(p.racks.length:Int))) (
 bif (bif (bif (decide ((at' [(at' x.racks t14.toNat).e0,(at' x.racks t14.toNat).e1] t20.toNat)<0))then true else(decide (((at' p.racks t14.toNat).power)<(at' [(at' x.racks t14.toNat).e0,(at' x.racks t14.toNat).e1] t20.toNat))))then true else(bif (decide (0<(at' [(at' x.racks t14.toNat).e0,(at' x.racks t14.toNat).e1] t20.toNat)))then(!r_)else false))then
 some (.done (.ret (.done (.ret false))))
 else
 some (.next 1))
 else
 bn (t20=1) (
 (bif gB [((decide (0<(at' [(at' x.racks t14.toNat).e0,(at' x.racks t14.toNat).e1] t20.toNat))),true),((bif (decide ((at' [(at' x.racks t14.toNat).e0,(at' x.racks t14.toNat).e1] t20.toNat)<0))then true else(decide (((at' p.racks t14.toNat).power)<(at' [(at' x.racks t14.toNat).e0,(at' x.racks t14.toNat).e1] t20.toNat)))),false)]then iE s_ (((at' p.racks t14.toNat).feeds).e1)else some default).bind fun r_1=>
 bn ((gB [((decide ((at' [(at' x.racks t14.toNat).e0,(at' x.racks t14.toNat).e1] t20.toNat)<0)),false)]=true→(0:Int)≤t14∧t14<(p.racks.length:Int))∧(gB [((decide (0<(at' [(at' x.racks t14.toNat).e0,(at' x.racks t14.toNat).e1] t20.toNat))),true),((bif (decide ((at' [(at' x.racks t14.toNat).e0,(at' x.racks t14.toNat).e1] t20.toNat)<0))then true else(decide (((at' p.racks t14.toNat).power)<(at' [(at' x.racks t14.toNat).e0,(at' x.racks t14.toNat).e1] t20.toNat)))),false)]=true→(0:Int)≤t14∧t14<(p.racks.length:Int))) (
 bif (bif (bif (decide ((at' [(at' x.racks t14.toNat).e0,(at' x.racks t14.toNat).e1] t20.toNat)<0))then true else(decide (((at' p.racks t14.toNat).power)<(at' [(at' x.racks t14.toNat).e0,(at' x.racks t14.toNat).e1] t20.toNat))))then true else(bif (decide (0<(at' [(at' x.racks t14.toNat).e0,(at' x.racks t14.toNat).e1] t20.toNat)))then(!r_1)else false))then
 some (.done (.ret (.done (.ret false))))
 else
 some (.next 2))))
 else
 some (.done (.brk ()))
def uM (p:ah) (s_:State) (x:aA):Int→Option (aM Int (Ex Unit Bool)):=
 fun t14=>
 bif (decide (t14<(x.racks.length:Int)))then
 bn ((0:Int)≤t14∧t14<(x.racks.length:Int)) (
 Option.bind (ay (gy p s_ x t14) FUEL (0)) fun o=>match o with
 | .ret v=>some v
 | .brk _=>
 bn ((0:Int)≤t14∧t14<(p.racks.length:Int)) (
 bif (decide (((at' p.racks t14.toNat).power)<(IntKind.wrap .i64 (((at' x.racks t14.toNat).e0)+((at' x.racks t14.toNat).e1)))))then
 some (.done (.ret false))
 else
 some (.next (IntKind.wrap .i64 (t14+1)))))
 else
 some (.done (.brk ()))
def vk (p:ah) (s_:State) (x:aA):Option Bool:=
 Option.bind (ay (uM p s_ x) FUEL (0)) fun o=>match o with
 | .ret v=>some v
 | .brk _=>
 some true
def qQ (n:Int):Option Bool:=
 some (!decide (n=0))
def iY (s_:(List Int)):Int→Option (aM Int (Ex Unit Int)):=
 fun t8=>
 bif (decide (t8<(s_.length:Int)))then
 (qQ (at' s_ t8.toNat)).bind fun r_=>
 bn ((0:Int)≤t8∧t8<(s_.length:Int)) (
 bif r_ then
 some (.done (.ret t8))
 else
 some (.next (IntKind.wrap .i64 (t8+1))))
 else
 some (.done (.brk ()))
def jZ (s_:(List Int)):Option Int:=
 Option.bind (ay (iY s_) FUEL (0)) fun o=>match o with
 | .ret v=>some v
 | .brk _=>
 some (-1)
def dY (s_:(List Int)):Option Bool:=
 (jZ s_).bind fun r_=>
 some (decide (0≤r_))
def lm (p:ah) (x:aA):((List Int) × Int)→Option (aM ((List Int) × Int) (Ex (List Int) Bool)):=
 fun zz=>match zz with
 |(left,t22)=>
 bif (decide (t22<(x.sources.length:Int)))then
 bn ((0:Int)≤t22∧t22<(x.sources.length:Int)) (
 bn (((0:Int)≤t22∧t22<(p.sources.length:Int))∧((0:Int)≤(at' p.sources t22.toNat).bus∧(at' p.sources t22.toNat).bus<(left.length:Int))) (
 some (.next ((left.set (((at' p.sources t22.toNat).bus).toNat) (IntKind.wrap .i64 ((at' left (((at' p.sources t22.toNat).bus).toNat))+(at' x.sources t22.toNat)))),(IntKind.wrap .i64 (t22+1))))))
 else
 some (.done (.brk left))
def lD (p:ah) (x:aA):((List Int) × Int)→Option (aM ((List Int) × Int) (Ex (List Int) Bool)):=
 fun zz=>match zz with
 |(left2,t43)=>
 bif (decide (t43<(x.links.length:Int)))then
 bn ((0:Int)≤t43∧t43<(x.links.length:Int)) (
 bn (((0:Int)≤t43∧t43<(p.links.length:Int))∧((0:Int)≤(at' p.links t43.toNat).a∧(at' p.links t43.toNat).a<(left2.length:Int))) (
 bn (((0:Int)≤t43∧t43<(p.links.length:Int))∧((0:Int)≤(at' p.links t43.toNat).b∧(at' p.links t43.toNat).b<((left2.set (((at' p.links t43.toNat).a).toNat) (IntKind.wrap .i64 ((at' left2 (((at' p.links t43.toNat).a).toNat)) - (at' x.links t43.toNat)))).length:Int))) (
 some (.next (((left2.set (((at' p.links t43.toNat).a).toNat) (IntKind.wrap .i64 ((at' left2 (((at' p.links t43.toNat).a).toNat)) - (at' x.links t43.toNat)))).set (((at' p.links t43.toNat).b).toNat) (IntKind.wrap .i64 ((at' (left2.set (((at' p.links t43.toNat).a).toNat) (IntKind.wrap .i64 ((at' left2 (((at' p.links t43.toNat).a).toNat)) - (at' x.links t43.toNat)))) (((at' p.links t43.toNat).b).toNat))+(at' x.links t43.toNat)))),(IntKind.wrap .i64 (t43+1)))))))
 else
 some (.done (.brk left2))
def fB (p:ah) (x:aA) (t76:Int):((List Int) × Int)→Option (aM ((List Int) × Int) (Ex (List Int) (aM ((List Int) × Int) (Ex (List Int) Bool)))):=
 fun zz=>match zz with
 |(left6,t87)=>
 bif (decide (t87<2))then
 bn ((0:Int)≤t87∧t87<((2:Nat):Int)) (
 bif (decide (0≤(at' [((at' p.racks t76.toNat).feeds).e0,((at' p.racks t76.toNat).feeds).e1] t87.toNat)))then
 bif (decide (t87=0))then
 bn ((0:Int)≤(at' [((at' p.racks t76.toNat).feeds).e0,((at' p.racks t76.toNat).feeds).e1] t87.toNat)∧(at' [((at' p.racks t76.toNat).feeds).e0,((at' p.racks t76.toNat).feeds).e1] t87.toNat)<(left6.length:Int)) (
 some (.next ((left6.set ((at' [((at' p.racks t76.toNat).feeds).e0,((at' p.racks t76.toNat).feeds).e1] t87.toNat).toNat) (IntKind.wrap .i64 ((at' left6 ((at' [((at' p.racks t76.toNat).feeds).e0,((at' p.racks t76.toNat).feeds).e1] t87.toNat).toNat)) - ((at' x.racks t76.toNat).e0)))),1)))
 else
 bn (t87=1) (
 bn ((0:Int)≤(at' [((at' p.racks t76.toNat).feeds).e0,((at' p.racks t76.toNat).feeds).e1] t87.toNat)∧(at' [((at' p.racks t76.toNat).feeds).e0,((at' p.racks t76.toNat).feeds).e1] t87.toNat)<(left6.length:Int)) (
 some (.next ((left6.set ((at' [((at' p.racks t76.toNat).feeds).e0,((at' p.racks t76.toNat).feeds).e1] t87.toNat).toNat) (IntKind.wrap .i64 ((at' left6 ((at' [((at' p.racks t76.toNat).feeds).e0,((at' p.racks t76.toNat).feeds).e1] t87.toNat).toNat)) - ((at' x.racks t76.toNat).e1)))),2))))
 else
 some (.next (left6,(IntKind.wrap .i64 (t87+1)))))
 else
 some (.done (.brk left6))
def lg (p:ah) (x:aA):((List Int) × Int)→Option (aM ((List Int) × Int) (Ex (List Int) Bool)):=
 fun zz=>match zz with
 |(left4,t76)=>
 bif (decide (t76<(x.racks.length:Int)))then
 bn ((0:Int)≤t76∧t76<(x.racks.length:Int)) (
 bn ((0:Int)≤t76∧t76<(p.racks.length:Int)) (
 Option.bind (ay (fB p x t76) FUEL (left4,0)) fun o=>match o with
 | .ret v=>some v
 | .brk left7=>
 some (.next (left7,(IntKind.wrap .i64 (t76+1))))))
 else
 some (.done (.brk left4))
def pV (p:ah) (s_:State) (x:aA):Option Bool:=
 bn (((0:Int)≤p.buses)∧((8:Int)*p.buses≤281474976710656)∧((p.buses:Int)≤9223372036854775807)) (
 Option.bind (ay (lm p x) FUEL ((List.replicate p.buses.toNat (0:Int)),0)) fun o=>match o with
 | .ret v=>some v
 | .brk left1=>
 Option.bind (ay (lD p x) FUEL (left1,0)) fun o=>match o with
 | .ret v=>some v
 | .brk left3=>
 Option.bind (ay (lg p x) FUEL (left3,0)) fun o=>match o with
 | .ret v=>some v
 | .brk left5=>
 (dY left5).bind fun r_=>
 some (!r_))
def kI (p:ah) (s_:State) (x:aA):Option Int:=
 (fA p s_).bind fun r_=>
 bif (!decide (r_=0))then
 some r_
 else
 bif (bif (bif (!decide ((x.sources.length:Int)=(p.sources.length:Int)))then true else(!decide ((x.links.length:Int)=(p.links.length:Int))))then true else(!decide ((x.racks.length:Int)=(p.racks.length:Int))))then
 some 20
 else
 (zq).bind fun r_1=>
 bn ((0:Int)≤0∧0<(3:Int)) (
 (qL p s_ x).bind fun r_2=>
 bif (!r_2)then
 some 20
 else
 bn ((0:Int)≤1∧1<(3:Int)) (
 (vk p s_ x).bind fun r_3=>
 bif (!r_3)then
 some 20
 else
 bn ((0:Int)≤2∧2<(3:Int)) (
 (pV p s_ x).bind fun r_4=>
 bif (!r_4)then
 some 20
 else
 some 0)))
def nQ (p:ah) (s_:State) (x:aA) (cut:(List Bool)):Option Int:=
 (kI p s_ x).bind fun r_=>
 bif (!decide (r_=0))then
 some r_
 else
 (lZ p s_ cut).bind fun r_1=>
 (bif gB [((decide (r_1.2=0)),true)]then gX x else some default).bind fun r_2=>
 bif (bif (decide (r_1.2=0))then(!decide (r_1.1=r_2))else false)then
 some 7
 else
 some r_1.2
def fF:Option Bool:=
 (lW [100]).bind fun r_=>
 (bN r_.1 r_.2).bind fun r_1=>
 (nT r_.1 r_.2).bind fun r_2=>
 (bif gB [((bif (!decide (r_1.2.2=0))then true else(!decide (r_2.2=0))),false)]then gX r_1.1 else some default).bind fun r_3=>
 bif (bif (bif (bif (!decide (r_1.2.2=0))then true else(!decide (r_2.2=0)))then true else(!decide (r_3=100)))then true else(!r_2.1))then
 some false
 else
 (bT r_1.2.1 [true,true,true]).bind fun r_4=>
 bif (!r_4)then
 some false
 else
 (lW [300,600]).bind fun r_5=>
 (bN r_5.1 r_5.2).bind fun r_6=>
 (lZ r_5.1 r_5.2 r_6.2.1).bind fun r_7=>
 (kY r_5.1 r_5.2).bind fun r_8=>
 (bif gB [((bif (bif (!decide (r_6.2.2=0))then true else(!decide (r_7.2=0)))then true else(!decide (r_8.2=0))),false)]then gX r_6.1 else some default).bind fun r_9=>
 bif (bif (bif (bif (bif (!decide (r_6.2.2=0))then true else(!decide (r_7.2=0)))then true else(!decide (r_8.2=0)))then true else(!decide (r_9=700)))then true else(!decide (r_7.1=700)))then
 some false
 else
 (bT r_6.2.1 [true,false,false]).bind fun r_10=>
 bif (!r_10)then
 some false
 else
 (lV r_8.1 [(⟨2,1⟩:Part),(⟨3,0⟩:Part)]).bind fun r_11=>
 (bif gB [((!r_11),false)]then nQ r_5.1 r_5.2 r_6.1 r_6.2.1 else some default).bind fun r_12=>
 bif (bif (!r_11)then true else(!decide (r_12=0)))then
 some false
 else
 (jg r_5.1 r_5.2 1).bind fun r_13=>
 (kM r_5.1 r_13.1).bind fun r_14=>
 bif (bif (decide (r_13.2=0))then(decide (r_14.2.2=0))else false)then
 (jD r_13.1 [(⟨0,30,13334,[0]⟩:Short),(⟨1,50,8000,[1]⟩:Short)]).bind fun r_15=>
 bif r_15 then
 (jA r_14.1 [13334,8000]).bind fun r_16=>
 some r_16
 else
 some false
 else
 some false
def pU (x:Link):Int→Option (aM Int (Ex Unit Bool)):=
 fun i=>
 bif (decide (i<(x.trip.length:Int)))then
 bn ((0:Int)≤i∧i<(x.trip.length:Int)) (
 bif (bif (bif (bif (decide (((at' x.trip i.toNat).amps)<1))then true else(decide (1000000<((at' x.trip i.toNat).amps))))then true else(decide (((at' x.trip i.toNat).millis)<1)))then true else(decide (100000<((at' x.trip i.toNat).millis))))then
 some (.done (.ret false))
 else
 bn ((gB [((decide (0<i)),true)]=true→(0:Int)≤(IntKind.wrap .i64 (i - 1))∧(IntKind.wrap .i64 (i - 1))<(x.trip.length:Int))∧(gB [((decide (((at' x.trip i.toNat).amps)≤((at' x.trip ((IntKind.wrap .i64 (i - 1)).toNat)).amps))),false),((decide (0<i)),true)]=true→(0:Int)≤(IntKind.wrap .i64 (i - 1))∧(IntKind.wrap .i64 (i - 1))<(x.trip.length:Int))) (
 bif (bif (decide (0<i))then(bif (decide (((at' x.trip i.toNat).amps)≤((at' x.trip ((IntKind.wrap .i64 (i - 1)).toNat)).amps)))then true else(decide (((at' x.trip ((IntKind.wrap .i64 (i - 1)).toNat)).millis)≤((at' x.trip i.toNat).millis))))else false)then
 some (.done (.ret false))
 else
 some (.next (IntKind.wrap .i64 (i+1)))))
 else
 some (.done (.brk ()))
def uS (p:ah) (x:Link):Option Bool:=
 bif (bif (bif (bif (bif (bif (bif (bif (bif (bif (bif (decide (x.a<0))then true else(decide (p.buses≤x.a)))then true else(decide (x.b<0)))then true else(decide (p.buses≤x.b)))then true else(decide (x.a=x.b)))then true else(decide (x.kind<1)))then true else(decide (3<x.kind)))then true else(decide (x.most<1)))then true else(decide (100000<x.most)))then true else(decide (x.bJ<10)))then true else(decide (100000<x.bJ)))then
 some false
 else
 bif (bif (decide (6<(x.trip.length:Int)))then true else(bif (decide (0<(x.trip.length:Int)))then(!decide (x.kind=3))else false))then
 some false
 else
 Option.bind (ay (pU x) FUEL (0)) fun o=>match o with
 | .ret v=>some v
 | .brk _=>
 some true
def ol (p:ah):Int→Option (aM Int (Ex Unit Int)):=
 fun i=>
 bif (decide (i<(p.sources.length:Int)))then
 bn ((0:Int)≤i∧i<(p.sources.length:Int)) (
 bif (bif (bif (bif (bif (bif (bif (bif (bif (bif (decide (((at' p.sources i.toNat).bus)<0))then true else(decide (p.buses≤((at' p.sources i.toNat).bus))))then true else(decide (((at' p.sources i.toNat).kind)<1)))then true else(decide (3<((at' p.sources i.toNat).kind))))then true else(decide (((at' p.sources i.toNat).power)<1)))then true else(decide (100000<((at' p.sources i.toNat).power))))then true else(decide (((at' p.sources i.toNat).sync)<0)))then true else(decide (8<((at' p.sources i.toNat).sync))))then true else(decide (((at' p.sources i.toNat).bJ)<10)))then true else(decide (100000<((at' p.sources i.toNat).bJ))))then
 some (.done (.ret 11))
 else
 some (.next (IntKind.wrap .i64 (i+1))))
 else
 some (.done (.brk ()))
def oo (p:ah):Int→Option (aM Int (Ex Unit Int)):=
 fun i1=>
 bif (decide (i1<(p.links.length:Int)))then
 (uS p (at' p.links i1.toNat)).bind fun r_=>
 bn ((0:Int)≤i1∧i1<(p.links.length:Int)) (
 bif (!r_)then
 some (.done (.ret 12))
 else
 some (.next (IntKind.wrap .i64 (i1+1))))
 else
 some (.done (.brk ()))
def oH (p:ah):Int→Option (aM Int (Ex Unit Int)):=
 fun i2=>
 bif (decide (i2<(p.racks.length:Int)))then
 bn ((0:Int)≤i2∧i2<(p.racks.length:Int)) (
 bif (decide ((((at' p.racks i2.toNat).feeds).e1)=(-1)))then
 bif (bif (bif (bif (bif (bif (bif (bif (bif (decide ((((at' p.racks i2.toNat).feeds).e0)<0))then true else(decide (p.buses≤(((at' p.racks i2.toNat).feeds).e0))))then true else(decide ((((at' p.racks i2.toNat).feeds).e1)<(-1))))then true else(decide (p.buses≤(((at' p.racks i2.toNat).feeds).e1))))then true else(decide ((((at' p.racks i2.toNat).feeds).e0)=(((at' p.racks i2.toNat).feeds).e1))))then true else(decide (((at' p.racks i2.toNat).power)<1)))then true else(decide (100000<((at' p.racks i2.toNat).power))))then true else(decide (((at' p.racks i2.toNat).paths)<0)))then true else(decide (1<((at' p.racks i2.toNat).paths))))then
 some (.done (.ret 13))
 else
 some (.next (IntKind.wrap .i64 (i2+1)))
 else
 bif (bif (bif (bif (bif (bif (bif (bif (bif (decide ((((at' p.racks i2.toNat).feeds).e0)<0))then true else(decide (p.buses≤(((at' p.racks i2.toNat).feeds).e0))))then true else(decide ((((at' p.racks i2.toNat).feeds).e1)<(-1))))then true else(decide (p.buses≤(((at' p.racks i2.toNat).feeds).e1))))then true else(decide ((((at' p.racks i2.toNat).feeds).e0)=(((at' p.racks i2.toNat).feeds).e1))))then true else(decide (((at' p.racks i2.toNat).power)<1)))then true else(decide (100000<((at' p.racks i2.toNat).power))))then true else(decide (((at' p.racks i2.toNat).paths)<0)))then true else(decide (2<((at' p.racks i2.toNat).paths))))then
 some (.done (.ret 13))
 else
 some (.next (IntKind.wrap .i64 (i2+1))))
 else
 some (.done (.brk ()))
def ko (p:ah):Option Int:=
 bif (bif (decide (p.buses<1))then true else(decide (24<p.buses)))then
 some 10
 else
 bif (decide (8<(p.sources.length:Int)))then
 some 11
 else
 Option.bind (ay (ol p) FUEL (0)) fun o=>match o with
 | .ret v=>some v
 | .brk _=>
 bif (decide (40<(p.links.length:Int)))then
 some 12
 else
 Option.bind (ay (oo p) FUEL (0)) fun o=>match o with
 | .ret v=>some v
 | .brk _=>
 bif (decide (24<(p.racks.length:Int)))then
 some 13
 else
 Option.bind (ay (oH p) FUEL (0)) fun o=>match o with
 | .ret v=>some v
 | .brk _=>
 some 0
def oC (p:ah) (s_:State):Int→Option (aM Int (Ex Unit Bool)):=
 fun i=>
 bif (decide (i<(p.links.length:Int)))then
 bn (((0:Int)≤i∧i<(p.links.length:Int))∧(gB [((decide (((at' p.links i.toNat).kind)=1)),true)]=true→(0:Int)≤i∧i<(s_.closed.length:Int))∧(gB [((!(at' s_.closed i.toNat)),false),((decide (((at' p.links i.toNat).kind)=1)),true)]=true→(0:Int)≤i∧i<(s_.locked.length:Int))) (
 bif (bif (decide (((at' p.links i.toNat).kind)=1))then(bif (!(at' s_.closed i.toNat))then true else(at' s_.locked i.toNat))else false)then
 some (.done (.ret false))
 else
 some (.next (IntKind.wrap .i64 (i+1))))
 else
 some (.done (.brk ()))
def tY (p:ah) (s_:State):Option Bool:=
 bif (bif (bif (bif (bif (bif (bif (!decide ((s_.closed.length:Int)=(p.links.length:Int)))then true else(!decide ((s_.locked.length:Int)=(p.links.length:Int))))then true else(!decide ((s_.badLink.length:Int)=(p.links.length:Int))))then true else(!decide ((s_.on_.length:Int)=(p.sources.length:Int))))then true else(!decide ((s_.badSource.length:Int)=(p.sources.length:Int))))then true else(!decide ((s_.earthed.length:Int)=p.buses)))then true else(!decide ((s_.badBus.length:Int)=p.buses)))then
 some false
 else
 Option.bind (ay (oC p s_) FUEL (0)) fun o=>match o with
 | .ret v=>some v
 | .brk _=>
 some true
def dz (p:ah) (s_:State):Option Int:=
 (ko p).bind fun r_=>
 (bif gB [((decide (r_=0)),true)]then tY p s_ else some default).bind fun r_1=>
 bif (bif (decide (r_=0))then(!r_1)else false)then
 some 9
 else
 some r_
def qF (p:ah):Option Bool:=
 bif (bif (bif (decide (60<(p.sources.length:Int)))then true else(decide (60<(p.links.length:Int))))then true else(decide (60<(p.racks.length:Int))))then
 some true
 else
 (ko p).bind fun r_=>
 some (bif (decide (r_=0))then(bif (decide (10<p.buses))then true else(decide (16<(p.links.length:Int))))else false)
def kz (p:ah) (s_:State) (k:Int):Option Bool:=
 bn (((0:Int)≤k∧k<(s_.on_.length:Int))∧(gB [((at' s_.on_ k.toNat),true)]=true→(0:Int)≤k∧k<(s_.badSource.length:Int))∧(gB [((bif (at' s_.on_ k.toNat)then(!(at' s_.badSource k.toNat))else false),true)]=true→(0:Int)≤k∧k<(p.sources.length:Int))∧(gB [((bif (at' s_.on_ k.toNat)then(!(at' s_.badSource k.toNat))else false),true)]=true→(0:Int)≤(at' p.sources k.toNat).bus∧(at' p.sources k.toNat).bus<(s_.badBus.length:Int))) (
 some (bif (bif (at' s_.on_ k.toNat)then(!(at' s_.badSource k.toNat))else false)then(!(at' s_.badBus (((at' p.sources k.toNat).bus).toNat)))else false))
def dJ (p:ah) (s_:State) (i:Int):Option Bool:=
 bn (((0:Int)≤i∧i<(s_.closed.length:Int))∧(gB [((at' s_.closed i.toNat),true)]=true→(0:Int)≤i∧i<(s_.badLink.length:Int))∧(gB [((bif (at' s_.closed i.toNat)then(!(at' s_.badLink i.toNat))else false),true)]=true→(0:Int)≤i∧i<(p.links.length:Int))∧(gB [((bif (at' s_.closed i.toNat)then(!(at' s_.badLink i.toNat))else false),true)]=true→(0:Int)≤(at' p.links i.toNat).a∧(at' p.links i.toNat).a<(s_.badBus.length:Int))∧(gB [((bif (bif (at' s_.closed i.toNat)then(!(at' s_.badLink i.toNat))else false)then(!(at' s_.badBus (((at' p.links i.toNat).a).toNat)))else false),true)]=true→(0:Int)≤i∧i<(p.links.length:Int))∧(gB [((bif (bif (at' s_.closed i.toNat)then(!(at' s_.badLink i.toNat))else false)then(!(at' s_.badBus (((at' p.links i.toNat).a).toNat)))else false),true)]=true→(0:Int)≤(at' p.links i.toNat).b∧(at' p.links i.toNat).b<(s_.badBus.length:Int))) (
 some (bif (bif (bif (at' s_.closed i.toNat)then(!(at' s_.badLink i.toNat))else false)then(!(at' s_.badBus (((at' p.links i.toNat).a).toNat)))else false)then(!(at' s_.badBus (((at' p.links i.toNat).b).toNat)))else false))
def pu (p:ah) (s_:State) (cut:(List Bool)):(Int × Int)→Option (aM (Int × Int) (Ex Int Int)):=
 fun zz=>match zz with
 |(n,k)=>
 bif (decide (k<(p.sources.length:Int)))then
 (kz p s_ k).bind fun r_=>
 bn ((gB [(r_,true)]=true→(0:Int)≤k∧k<(p.sources.length:Int))∧(gB [(r_,true)]=true→(0:Int)≤(at' p.sources k.toNat).bus∧(at' p.sources k.toNat).bus<(cut.length:Int))) (
 bif (bif r_ then(!(at' cut (((at' p.sources k.toNat).bus).toNat)))else false)then
 bn ((0:Int)≤k∧k<(p.sources.length:Int)) (
 some (.next ((IntKind.wrap .i64 (n+((at' p.sources k.toNat).power))),(IntKind.wrap .i64 (k+1)))))
 else
 some (.next (n,(IntKind.wrap .i64 (k+1)))))
 else
 some (.done (.brk n))
def oZ (p:ah) (s_:State) (cut:(List Bool)):(Int × Int)→Option (aM (Int × Int) (Ex Int Int)):=
 fun zz=>match zz with
 |(n2,i)=>
 bif (decide (i<(p.links.length:Int)))then
 (dJ p s_ i).bind fun r_1=>
 bn ((gB [(r_1,true)]=true→(0:Int)≤i∧i<(p.links.length:Int))∧(gB [(r_1,true)]=true→(0:Int)≤(at' p.links i.toNat).a∧(at' p.links i.toNat).a<(cut.length:Int))∧(gB [(r_1,true)]=true→(0:Int)≤(at' p.links i.toNat).b∧(at' p.links i.toNat).b<(cut.length:Int))) (
 bif (bif r_1 then(!((at' cut (((at' p.links i.toNat).a).toNat))==(at' cut (((at' p.links i.toNat).b).toNat))))else false)then
 bn ((0:Int)≤i∧i<(p.links.length:Int)) (
 some (.next ((IntKind.wrap .i64 (n2+((at' p.links i.toNat).most))),(IntKind.wrap .i64 (i+1)))))
 else
 some (.next (n2,(IntKind.wrap .i64 (i+1)))))
 else
 some (.done (.brk n2))
def o5 (p:ah) (cut:(List Bool)):(Int × Int)→Option (aM (Int × Int) (Ex Int Int)):=
 fun zz=>match zz with
 |(n4,r_2)=>
 bif (decide (r_2<(p.racks.length:Int)))then
 bn ((0:Int)≤r_2∧r_2<(p.racks.length:Int)) (
 bn (((0:Int)≤((at' p.racks r_2.toNat).feeds).e0∧((at' p.racks r_2.toNat).feeds).e0<(cut.length:Int))∧(gB [((decide (0≤(((at' p.racks r_2.toNat).feeds).e1))),true),((at' cut ((((at' p.racks r_2.toNat).feeds).e0).toNat)),false)]=true→(0:Int)≤(if((at' p.racks r_2.toNat).feeds).e1<0 then 0 else((at' p.racks r_2.toNat).feeds).e1)∧(if((at' p.racks r_2.toNat).feeds).e1<0 then 0 else((at' p.racks r_2.toNat).feeds).e1)<(cut.length:Int))) (
 bif (bif (at' cut ((((at' p.racks r_2.toNat).feeds).e0).toNat))then true else(bif (decide (0≤(((at' p.racks r_2.toNat).feeds).e1)))then(at' cut ((if((at' p.racks r_2.toNat).feeds).e1<0 then 0 else((at' p.racks r_2.toNat).feeds).e1).toNat))else false))then
 bn ((0:Int)≤r_2∧r_2<(p.racks.length:Int)) (
 some (.next ((IntKind.wrap .i64 (n4+((at' p.racks r_2.toNat).power))),(IntKind.wrap .i64 (r_2+1)))))
 else
 some (.next (n4,(IntKind.wrap .i64 (r_2+1))))))
 else
 some (.done (.brk n4))
def jk (p:ah) (s_:State) (cut:(List Bool)):Option Int:=
 Option.bind (ay (pu p s_ cut) FUEL (0,0)) fun o=>match o with
 | .ret v=>some v
 | .brk n1=>
 Option.bind (ay (oZ p s_ cut) FUEL (n1,0)) fun o=>match o with
 | .ret v=>some v
 | .brk n3=>
 Option.bind (ay (o5 p cut) FUEL (n3,0)) fun o=>match o with
 | .ret v=>some v
 | .brk n5=>
 some n5
def oq (p:ah) (s_:State) (n:Int):((List Bool) × Bool × Int)→Option (aM ((List Bool) × Bool × Int) (Ex ((List Bool) × Bool) (Int × (List Bool)))):=
 fun zz=>match zz with
 |(cut,right,b)=>
 bif (decide (b<p.buses))then
 bn (((0:Int)≤b)∧(2≠(0:Int))∧((0:Int)≤b∧b<(cut.length:Int))) (
 bn ((gB [(right,true)]=true→(0:Int)≤b∧b<((cut.set b.toNat (decide ((Int.tmod (Int.fdiv n (2 ^ min b.toNat (IntKind.bits .i64))) 2)=1))).length:Int))∧(gB [((at' (cut.set b.toNat (decide ((Int.tmod (Int.fdiv n (2 ^ min b.toNat (IntKind.bits .i64))) 2)=1))) b.toNat),true),(right,true)]=true→(0:Int)≤b∧b<(s_.badBus.length:Int))) (
 some (.next ((cut.set b.toNat (decide ((Int.tmod (Int.fdiv n (2 ^ min b.toNat (IntKind.bits .i64))) 2)=1))),(bif right then(!(bif (at' (cut.set b.toNat (decide ((Int.tmod (Int.fdiv n (2 ^ min b.toNat (IntKind.bits .i64))) 2)=1))) b.toNat)then(at' s_.badBus b.toNat)else false))else false),(IntKind.wrap .i64 (b+1))))))
 else
 some (.done (.brk (cut,right)))
def oz (p:ah) (cut1:(List Bool)):((List Bool) × Int)→Option (aM ((List Bool) × Int) (Ex (List Bool) (Int × (List Bool)))):=
 fun zz=>match zz with
 |(out3,b1)=>
 bif (decide (b1<p.buses))then
 bn (((0:Int)≤b1∧b1<(out3.length:Int))∧(gB [((at' out3 b1.toNat),true)]=true→(0:Int)≤b1∧b1<(cut1.length:Int))) (
 some (.next ((out3.set b1.toNat (bif (at' out3 b1.toNat)then(at' cut1 b1.toNat)else false)),(IntKind.wrap .i64 (b1+1)))))
 else
 some (.done (.brk out3))
def jl (p:ah) (s_:State):(Int × (List Bool) × Int)→Option (aM (Int × (List Bool) × Int) (Ex (Int × (List Bool)) (Int × (List Bool)))):=
 fun zz=>match zz with
 |(least,out,n)=>
 bn ((0:Int)≤p.buses) (
 bif (decide (n<(IntKind.wrap .i64 ((1:Int)*2 ^ min p.buses.toNat (IntKind.bits .i64)))))then
 Option.bind (α:=(Int × (List Bool))) (
 bn (((0:Int)≤p.buses)∧((1:Int)*p.buses≤281474976710656)∧((p.buses:Int)≤9223372036854775807)) (
 Option.bind (ay (oq p s_ n) FUEL ((List.replicate p.buses.toNat (false:Bool)),true,0)) fun o=>match o with
 | .ret v=>some v
 | .brk (cut1,right1)=>
 bif (!right1)then
 some (least,out)
 else
 (jk p s_ cut1).bind fun r_=>
 bif (bif (decide (least<0))then true else(decide (r_<least)))then
 some (r_,cut1)
 else
 bif (decide (r_=least))then
 Option.bind (ay (oz p cut1) FUEL (out,0)) fun o=>match o with
 | .ret v=>some v
 | .brk out4=>
 some (least,out4)
 else
 some (least,out))) fun(least2,out2)=>
 some (.next (least2,out2,(IntKind.wrap .i64 (n+1))))
 else
 some (.done (.brk (least,out))))
def l9 (p:ah) (s_:State):Option (Int × (List Bool)):=
 bn (((0:Int)≤p.buses)∧((1:Int)*p.buses≤281474976710656)∧((p.buses:Int)≤9223372036854775807)) (
 Option.bind (ay (jl p s_) FUEL ((-1),(List.replicate p.buses.toNat (false:Bool)),0)) fun o=>match o with
 | .ret v=>some v
 | .brk (least1,out1)=>
 some (least1,out1))
def sO (p:ah) (s_:State) (r_1:(Int × (List Bool))):((List Part) × Int)→Option (aM ((List Part) × Int) (Ex (List Part) ((List Part) × Int))):=
 fun zz=>match zz with
 |(out,k)=>
 bif (decide (k<(p.sources.length:Int)))then
 (kz p s_ k).bind fun r_2=>
 bn ((gB [(r_2,true)]=true→(0:Int)≤k∧k<(p.sources.length:Int))∧(gB [(r_2,true)]=true→(0:Int)≤(at' p.sources k.toNat).bus∧(at' p.sources k.toNat).bus<(r_1.2.length:Int))) (
 bif (bif r_2 then(!(at' r_1.2 (((at' p.sources k.toNat).bus).toNat)))else false)then
 bn (((out.length+[(⟨2,k⟩:Part)].length)*16≤140737488355328)∧(out.length+[(⟨2,k⟩:Part)].length≤4611686018427387904)) (
 some (.next ((out++[(⟨2,k⟩:Part)]),(IntKind.wrap .i64 (k+1)))))
 else
 some (.next (out,(IntKind.wrap .i64 (k+1)))))
 else
 some (.done (.brk out))
def sQ (p:ah) (s_:State) (r_1:(Int × (List Bool))):((List Part) × Int)→Option (aM ((List Part) × Int) (Ex (List Part) ((List Part) × Int))):=
 fun zz=>match zz with
 |(out2,i)=>
 bif (decide (i<(p.links.length:Int)))then
 (dJ p s_ i).bind fun r_3=>
 bn ((gB [(r_3,true)]=true→(0:Int)≤i∧i<(p.links.length:Int))∧(gB [(r_3,true)]=true→(0:Int)≤(at' p.links i.toNat).a∧(at' p.links i.toNat).a<(r_1.2.length:Int))∧(gB [(r_3,true)]=true→(0:Int)≤(at' p.links i.toNat).b∧(at' p.links i.toNat).b<(r_1.2.length:Int))) (
 bif (bif r_3 then(!((at' r_1.2 (((at' p.links i.toNat).a).toNat))==(at' r_1.2 (((at' p.links i.toNat).b).toNat))))else false)then
 bn (((out2.length+[(⟨3,i⟩:Part)].length)*16≤140737488355328)∧(out2.length+[(⟨3,i⟩:Part)].length≤4611686018427387904)) (
 some (.next ((out2++[(⟨3,i⟩:Part)]),(IntKind.wrap .i64 (i+1)))))
 else
 some (.next (out2,(IntKind.wrap .i64 (i+1)))))
 else
 some (.done (.brk out2))
def mg (p:ah) (s_:State):Option ((List Part) × Int):=
 (dz p s_).bind fun r_=>
 bif (!decide (r_=0))then
 some (([]:List Part),r_)
 else
 (l9 p s_).bind fun r_1=>
 Option.bind (ay (sO p s_ r_1) FUEL (([]:List Part),0)) fun o=>match o with
 | .ret v=>some v
 | .brk out1=>
 Option.bind (ay (sQ p s_ r_1) FUEL (out1,0)) fun o=>match o with
 | .ret v=>some v
 | .brk out3=>
 some (out3,0)
def uJ (p:ah):(Int × Int)→Option (aM (Int × Int) (Ex Int (Bool × Int))):=
 fun zz=>match zz with
 |(all,r_1)=>
 bif (decide (r_1<(p.racks.length:Int)))then
 bn ((0:Int)≤r_1∧r_1<(p.racks.length:Int)) (
 some (.next ((IntKind.wrap .i64 (all+((at' p.racks r_1.toNat).power))),(IntKind.wrap .i64 (r_1+1)))))
 else
 some (.done (.brk all))
def oD (p:ah) (s_:State):Option (Bool × Int):=
 (dz p s_).bind fun r_=>
 bif (!decide (r_=0))then
 some (false,r_)
 else
 Option.bind (ay (uJ p) FUEL (0,0)) fun o=>match o with
 | .ret v=>some v
 | .brk all1=>
 (l9 p s_).bind fun r_2=>
 some ((decide (r_2.1=all1)),0)
def qf (p:ah) (x:aA) (b:Int):(Int × Int)→Option (aM (Int × Int) (Ex Int Int)):=
 fun zz=>match zz with
 |(n,k)=>
 bif (decide (k<(x.sources.length:Int)))then
 bn ((0:Int)≤k∧k<(p.sources.length:Int)) (
 bif (decide (((at' p.sources k.toNat).bus)=b))then
 bn ((0:Int)≤k∧k<(x.sources.length:Int)) (
 some (.next ((IntKind.wrap .i64 (n+(at' x.sources k.toNat))),(IntKind.wrap .i64 (k+1)))))
 else
 some (.next (n,(IntKind.wrap .i64 (k+1)))))
 else
 some (.done (.brk n))
def ql (p:ah) (x:aA) (b:Int):(Int × Int)→Option (aM (Int × Int) (Ex Int Int)):=
 fun zz=>match zz with
 |(n2,i)=>
 bif (decide (i<(x.links.length:Int)))then
 Option.bind (α:=Int) (
 bn ((0:Int)≤i∧i<(p.links.length:Int)) (
 bif (decide (((at' p.links i.toNat).a)=b))then
 bn ((0:Int)≤i∧i<(x.links.length:Int)) (
 bn ((0:Int)≤i∧i<(p.links.length:Int)) (
 bif (decide (((at' p.links i.toNat).b)=b))then
 bn ((0:Int)≤i∧i<(x.links.length:Int)) (
 some (IntKind.wrap .i64 ((IntKind.wrap .i64 (n2 - (at' x.links i.toNat)))+(at' x.links i.toNat))))
 else
 some (IntKind.wrap .i64 (n2 - (at' x.links i.toNat)))))
 else
 bn ((0:Int)≤i∧i<(p.links.length:Int)) (
 bif (decide (((at' p.links i.toNat).b)=b))then
 bn ((0:Int)≤i∧i<(x.links.length:Int)) (
 some (IntKind.wrap .i64 (n2+(at' x.links i.toNat))))
 else
 some n2))) fun n4=>
 some (.next (n4,(IntKind.wrap .i64 (i+1))))
 else
 some (.done (.brk n2))
def fw (p:ah) (x:aA) (b:Int) (r_:Int):(Int × Int)→Option (aM (Int × Int) (Ex Int (aM (Int × Int) (Ex Int Int)))):=
 fun zz=>match zz with
 |(n7,k1)=>
 bif (decide (k1<2))then
 bif (decide (k1=0))then
 bn ((0:Int)≤r_∧r_<(p.racks.length:Int)) (
 bif (decide ((((at' p.racks r_.toNat).feeds).e0)=b))then
 bn ((0:Int)≤r_∧r_<(x.racks.length:Int)) (
 some (.next ((IntKind.wrap .i64 (n7 - ((at' x.racks r_.toNat).e0))),1)))
 else
 some (.next (n7,1)))
 else
 bn (k1=1) (
 bn ((0:Int)≤r_∧r_<(p.racks.length:Int)) (
 bif (decide ((((at' p.racks r_.toNat).feeds).e1)=b))then
 bn ((0:Int)≤r_∧r_<(x.racks.length:Int)) (
 some (.next ((IntKind.wrap .i64 (n7 - ((at' x.racks r_.toNat).e1))),2)))
 else
 some (.next (n7,2))))
 else
 some (.done (.brk n7))
def qo (p:ah) (x:aA) (b:Int):(Int × Int)→Option (aM (Int × Int) (Ex Int Int)):=
 fun zz=>match zz with
 |(n5,r_)=>
 bif (decide (r_<(x.racks.length:Int)))then
 Option.bind (ay (fw p x b r_) FUEL (n5,0)) fun o=>match o with
 | .ret v=>some v
 | .brk n8=>
 some (.next (n8,(IntKind.wrap .i64 (r_+1))))
 else
 some (.done (.brk n5))
def p9 (p:ah) (x:aA) (b:Int):Option Int:=
 Option.bind (ay (qf p x b) FUEL (0,0)) fun o=>match o with
 | .ret v=>some v
 | .brk n1=>
 Option.bind (ay (ql p x b) FUEL (n1,0)) fun o=>match o with
 | .ret v=>some v
 | .brk n3=>
 Option.bind (ay (qo p x b) FUEL (n3,0)) fun o=>match o with
 | .ret v=>some v
 | .brk n6=>
 some n6
def o8 (p:ah) (s_:State) (x:aA):Int→Option (aM Int (Ex Unit Bool)):=
 fun k=>
 bif (decide (k<(x.sources.length:Int)))then
 (kz p s_ k).bind fun r_=>
 bif r_ then
 bn ((0:Int)≤k∧k<(p.sources.length:Int)) (
 bn (((0:Int)≤k∧k<(x.sources.length:Int))∧(gB [((decide ((at' x.sources k.toNat)<0)),false)]=true→(0:Int)≤k∧k<(x.sources.length:Int))) (
 bif (bif (decide ((at' x.sources k.toNat)<0))then true else(decide (((at' p.sources k.toNat).power)<(at' x.sources k.toNat))))then
 some (.done (.ret false))
 else
 some (.next (IntKind.wrap .i64 (k+1)))))
 else
 bn (((0:Int)≤k∧k<(x.sources.length:Int))∧(gB [((decide ((at' x.sources k.toNat)<0)),false)]=true→(0:Int)≤k∧k<(x.sources.length:Int))) (
 bif (bif (decide ((at' x.sources k.toNat)<0))then true else(decide (0<(at' x.sources k.toNat))))then
 some (.done (.ret false))
 else
 some (.next (IntKind.wrap .i64 (k+1))))
 else
 some (.done (.brk ()))
def pz (p:ah) (s_:State) (x:aA):Int→Option (aM Int (Ex Unit Bool)):=
 fun i=>
 bif (decide (i<(x.links.length:Int)))then
 (dJ p s_ i).bind fun r_1=>
 bif r_1 then
 bn ((0:Int)≤i∧i<(p.links.length:Int)) (
 bn (((0:Int)≤i∧i<(x.links.length:Int))∧(gB [((decide ((at' x.links i.toNat)<(IntKind.wrap .i64 (0 - ((at' p.links i.toNat).most))))),false)]=true→(0:Int)≤i∧i<(x.links.length:Int))) (
 bif (bif (decide ((at' x.links i.toNat)<(IntKind.wrap .i64 (0 - ((at' p.links i.toNat).most)))))then true else(decide (((at' p.links i.toNat).most)<(at' x.links i.toNat))))then
 some (.done (.ret false))
 else
 some (.next (IntKind.wrap .i64 (i+1)))))
 else
 bn (((0:Int)≤i∧i<(x.links.length:Int))∧(gB [((decide ((at' x.links i.toNat)<(IntKind.wrap .i64 (0 - 0)))),false)]=true→(0:Int)≤i∧i<(x.links.length:Int))) (
 bif (bif (decide ((at' x.links i.toNat)<(IntKind.wrap .i64 (0 - 0))))then true else(decide (0<(at' x.links i.toNat))))then
 some (.done (.ret false))
 else
 some (.next (IntKind.wrap .i64 (i+1))))
 else
 some (.done (.brk ()))
def bX (p:ah) (s_:State) (x:aA) (r_2:Int):(Int × Int)→Option (aM (Int × Int) (Ex Int (aM Int (Ex Unit Bool)))):=
 fun zz=>match zz with
 |(total,k1)=>
 bif (decide (k1<2))then
 bif (decide (k1=0))then
 bn ((0:Int)≤r_2∧r_2<(p.racks.length:Int)) (
 bn (gB [((decide (0≤(((at' p.racks r_2.toNat).feeds).e0))),true)]=true→(0:Int)≤(if((at' p.racks r_2.toNat).feeds).e0<0 then 0 else((at' p.racks r_2.toNat).feeds).e0)∧(if((at' p.racks r_2.toNat).feeds).e0<0 then 0 else((at' p.racks r_2.toNat).feeds).e0)<(s_.badBus.length:Int)) (
 bif (bif (decide (0≤(((at' p.racks r_2.toNat).feeds).e0)))then(!(at' s_.badBus ((if((at' p.racks r_2.toNat).feeds).e0<0 then 0 else((at' p.racks r_2.toNat).feeds).e0).toNat)))else false)then
 bn ((0:Int)≤r_2∧r_2<(p.racks.length:Int)) (
 bn (((0:Int)≤r_2∧r_2<(x.racks.length:Int))∧(gB [((decide (((at' x.racks r_2.toNat).e0)<0)),false)]=true→(0:Int)≤r_2∧r_2<(x.racks.length:Int))) (
 bif (bif (decide (((at' x.racks r_2.toNat).e0)<0))then true else(decide (((at' p.racks r_2.toNat).power)<((at' x.racks r_2.toNat).e0))))then
 some (.done (.ret (.done (.ret false))))
 else
 bn ((0:Int)≤r_2∧r_2<(x.racks.length:Int)) (
 some (.next ((IntKind.wrap .i64 (total+((at' x.racks r_2.toNat).e0))),1)))))
 else
 bn (((0:Int)≤r_2∧r_2<(x.racks.length:Int))∧(gB [((decide (((at' x.racks r_2.toNat).e0)<0)),false)]=true→(0:Int)≤r_2∧r_2<(x.racks.length:Int))) (
 bif (bif (decide (((at' x.racks r_2.toNat).e0)<0))then true else(decide (0<((at' x.racks r_2.toNat).e0))))then
 some (.done (.ret (.done (.ret false))))
 else
 bn ((0:Int)≤r_2∧r_2<(x.racks.length:Int)) (
 some (.next ((IntKind.wrap .i64 (total+((at' x.racks r_2.toNat).e0))),1))))))
 else
 bn (k1=1) (
 bn ((0:Int)≤r_2∧r_2<(p.racks.length:Int)) (
 bn (gB [((decide (0≤(((at' p.racks r_2.toNat).feeds).e1))),true)]=true→(0:Int)≤(if((at' p.racks r_2.toNat).feeds).e1<0 then 0 else((at' p.racks r_2.toNat).feeds).e1)∧(if((at' p.racks r_2.toNat).feeds).e1<0 then 0 else((at' p.racks r_2.toNat).feeds).e1)<(s_.badBus.length:Int)) (
 bif (bif (decide (0≤(((at' p.racks r_2.toNat).feeds).e1)))then(!(at' s_.badBus ((if((at' p.racks r_2.toNat).feeds).e1<0 then 0 else((at' p.racks r_2.toNat).feeds).e1).toNat)))else false)then
 bn ((0:Int)≤r_2∧r_2<(p.racks.length:Int)) (
 bn (((0:Int)≤r_2∧r_2<(x.racks.length:Int))∧(gB [((decide (((at' x.racks r_2.toNat).e1)<0)),false)]=true→(0:Int)≤r_2∧r_2<(x.racks.length:Int))) (
 bif (bif (decide (((at' x.racks r_2.toNat).e1)<0))then true else(decide (((at' p.racks r_2.toNat).power)<((at' x.racks r_2.toNat).e1))))then
 some (.done (.ret (.done (.ret false))))
 else
 bn ((0:Int)≤r_2∧r_2<(x.racks.length:Int)) (
 some (.next ((IntKind.wrap .i64 (total+((at' x.racks r_2.toNat).e1))),2)))))
 else
 bn (((0:Int)≤r_2∧r_2<(x.racks.length:Int))∧(gB [((decide (((at' x.racks r_2.toNat).e1)<0)),false)]=true→(0:Int)≤r_2∧r_2<(x.racks.length:Int))) (
 bif (bif (decide (((at' x.racks r_2.toNat).e1)<0))then true else(decide (0<((at' x.racks r_2.toNat).e1))))then
 some (.done (.ret (.done (.ret false))))
 else
 bn ((0:Int)≤r_2∧r_2<(x.racks.length:Int)) (
 some (.next ((IntKind.wrap .i64 (total+((at' x.racks r_2.toNat).e1))),2)))))))
 else
 some (.done (.brk total))
def o9 (p:ah) (s_:State) (x:aA):Int→Option (aM Int (Ex Unit Bool)):=
 fun r_2=>
 bif (decide (r_2<(x.racks.length:Int)))then
 Option.bind (ay (bX p s_ x r_2) FUEL (0,0)) fun o=>match o with
 | .ret v=>some v
 | .brk total1=>
 bn ((0:Int)≤r_2∧r_2<(p.racks.length:Int)) (
 bif (decide (((at' p.racks r_2.toNat).power)<total1))then
 some (.done (.ret false))
 else
 some (.next (IntKind.wrap .i64 (r_2+1))))
 else
 some (.done (.brk ()))
def oU (p:ah) (x:aA):Int→Option (aM Int (Ex Unit Bool)):=
 fun b=>
 bif (decide (b<p.buses))then
 (p9 p x b).bind fun r_3=>
 bif (!decide (r_3=0))then
 some (.done (.ret false))
 else
 some (.next (IntKind.wrap .i64 (b+1)))
 else
 some (.done (.brk ()))
def oF (p:ah) (s_:State) (x:aA):Option Bool:=
 bif (bif (bif (!decide ((x.sources.length:Int)=(p.sources.length:Int)))then true else(!decide ((x.links.length:Int)=(p.links.length:Int))))then true else(!decide ((x.racks.length:Int)=(p.racks.length:Int))))then
 some false
 else
 Option.bind (ay (o8 p s_ x) FUEL (0)) fun o=>match o with
 | .ret v=>some v
 | .brk _=>
 Option.bind (ay (pz p s_ x) FUEL (0)) fun o=>match o with
 | .ret v=>some v
 | .brk _=>
 Option.bind (ay (o9 p s_ x) FUEL (0)) fun o=>match o with
 | .ret v=>some v
 | .brk _=>
 Option.bind (ay (oU p x) FUEL (0)) fun o=>match o with
 | .ret v=>some v
 | .brk _=>
 some true
def iF (p:ah) (s_:State) (x:aA):Option Int:=
 (dz p s_).bind fun r_=>
 (bif gB [((decide (r_=0)),true)]then oF p s_ x else some default).bind fun r_1=>
 bif (bif (decide (r_=0))then(!r_1)else false)then
 some 20
 else
 some r_
def jy (p:ah) (s_:State):Option Bool:=
 (qF p).bind fun r_=>
 bif r_ then
 (fF).bind fun r_1=>
 some r_1
 else
 (qa p).bind fun r_2=>
 (pW s_).bind fun r_3=>
 (bN r_2 r_3).bind fun r_4=>
 (kY r_2 r_3).bind fun r_5=>
 (nT r_2 r_3).bind fun r_6=>
 (mg p s_).bind fun r_7=>
 (oD p s_).bind fun r_8=>
 (dz p s_).bind fun r_9=>
 (bif gB [((bif (bif (!decide (r_4.2.2=r_9))then true else(!decide (r_5.2=r_7.2)))then true else(!decide (r_6.2=r_8.2))),false)]then lV r_5.1 r_7.1 else some default).bind fun r_10=>
 (bif gB [((bif (bif (bif (bif (!decide (r_4.2.2=r_9))then true else(!decide (r_5.2=r_7.2)))then true else(!decide (r_6.2=r_8.2)))then true else(!r_10))then true else(!(r_6.1==r_8.1))),false)]then qc p r_2 else some default).bind fun r_11=>
 (bif gB [((bif (bif (bif (bif (bif (!decide (r_4.2.2=r_9))then true else(!decide (r_5.2=r_7.2)))then true else(!decide (r_6.2=r_8.2)))then true else(!r_10))then true else(!(r_6.1==r_8.1)))then true else(!r_11)),false)]then pY s_ r_3 else some default).bind fun r_12=>
 bif (bif (bif (bif (bif (bif (bif (!decide (r_4.2.2=r_9))then true else(!decide (r_5.2=r_7.2)))then true else(!decide (r_6.2=r_8.2)))then true else(!r_10))then true else(!(r_6.1==r_8.1)))then true else(!r_11))then true else(!r_12))then
 some false
 else
 bif (!decide (r_4.2.2=0))then
 (bif gB [((decide ((IntKind.wrap .i64 ((IntKind.wrap .i64 ((IntKind.wrap .i64 ((r_4.1.sources.length:Int)+(r_4.1.links.length:Int)))+(r_4.1.racks.length:Int)))+(r_4.2.1.length:Int)))=0)),true)]then fF else some default).bind fun r_13=>
 some (bif (decide ((IntKind.wrap .i64 ((IntKind.wrap .i64 ((IntKind.wrap .i64 ((r_4.1.sources.length:Int)+(r_4.1.links.length:Int)))+(r_4.1.racks.length:Int)))+(r_4.2.1.length:Int)))=0))then r_13 else false)
 else
 (l9 p s_).bind fun r_14=>
 (gX r_4.1).bind fun r_15=>
 (bif gB [((decide (r_15=r_14.1)),true)]then bT r_4.2.1 r_14.2 else some default).bind fun r_16=>
 (bif gB [((bif (decide (r_15=r_14.1))then r_16 else false),true)]then iF p s_ r_4.1 else some default).bind fun r_17=>
 (bif gB [((bif (bif (decide (r_15=r_14.1))then r_16 else false)then(decide (r_17=0))else false),true)]then fF else some default).bind fun r_18=>
 some (bif (bif (bif (decide (r_15=r_14.1))then r_16 else false)then(decide (r_17=0))else false)then r_18 else false)
def zD (x:Int) (n:Int):Option Int:=
 bif (decide (n<1))then
 some 0
 else
 bn (n≠(0:Int)) (
 bif (decide ((Int.tmod x n)<0))then
 some (IntKind.wrap .i64 ((Int.tmod x n)+n))
 else
 some (Int.tmod x n))
def gT (l:(List Int)) (best:(List Int)):Int→Option (aM Int (Ex Unit Bool)):=
 fun i=>
 bif (decide (i<(l.length:Int)))then
 bn (((0:Int)≤i∧i<(l.length:Int))∧((0:Int)≤i∧i<(best.length:Int))) (
 bif (!decide ((at' l i.toNat)=(at' best i.toNat)))then
 bn (((0:Int)≤i∧i<(l.length:Int))∧((0:Int)≤i∧i<(best.length:Int))) (
 some (.done (.ret (decide ((at' l i.toNat)<(at' best i.toNat))))))
 else
 some (.next (IntKind.wrap .i64 (i+1))))
 else
 some (.done (.brk ()))
def iM (bJ:Int) (l:(List Int)) (least:Int) (best:(List Int)):Option Bool:=
 bif (!decide (bJ=least))then
 some (decide (bJ<least))
 else
 bif (!decide ((l.length:Int)=(best.length:Int)))then
 some (decide ((l.length:Int)<(best.length:Int)))
 else
 Option.bind (ay (gT l best) FUEL (0)) fun o=>match o with
 | .ret v=>some v
 | .brk _=>
 some false
def nE (rec:ah→State→Int→Int→(List Bool)→Option (Int × (List Int))) (p:ah) (s_:State) (from_:Int) (to_:Int) (met:(List Bool)):(Int × (List Int) × Int)→Option (aM (Int × (List Int) × Int) (Ex (Int × (List Int)) (Int × (List Int)))):=
 fun zz=>match zz with
 |(bJ,best,i)=>
 bif (decide (i<(p.links.length:Int)))then
 Option.bind (α:=(Int × (List Int))) (
 bn ((0:Int)≤i∧i<(p.links.length:Int)) (
 bif (decide (((at' p.links i.toNat).a)=from_))then
 bif (decide (((at' p.links i.toNat).b)=from_))then
 (bif gB [((bif (decide (((at' p.links i.toNat).a)<0))then true else(at' ((([]:List Bool)++met).set from_.toNat true) (((at' p.links i.toNat).a).toNat))),false)]then dJ p s_ i else some default).bind fun r_=>
 bn (gB [((decide (((at' p.links i.toNat).a)<0)),false)]=true→(0:Int)≤(at' p.links i.toNat).a∧(at' p.links i.toNat).a<(((([]:List Bool)++met).set from_.toNat true).length:Int)) (
 bif (bif (bif (decide (((at' p.links i.toNat).a)<0))then true else(at' ((([]:List Bool)++met).set from_.toNat true) (((at' p.links i.toNat).a).toNat)))then true else(!r_))then
 some (bJ,best)
 else
 (rec p s_ ((at' p.links i.toNat).a) to_ ((([]:List Bool)++met).set from_.toNat true)).bind fun r_1=>
 bif (decide (r_1.1<0))then
 some (bJ,best)
 else
 bn ((([i].length+r_1.2.length)*8≤140737488355328)∧([i].length+r_1.2.length≤4611686018427387904)) (
 (bif gB [((decide (bJ<0)),false)]then iM (IntKind.wrap .i64 (((at' p.links i.toNat).bJ)+r_1.1)) ([i]++r_1.2) bJ best else some default).bind fun r_2=>
 bif (bif (decide (bJ<0))then true else r_2)then
 some ((IntKind.wrap .i64 (((at' p.links i.toNat).bJ)+r_1.1)),([i]++r_1.2))
 else
 some (bJ,best)))
 else
 (bif gB [((bif (decide (((at' p.links i.toNat).b)<0))then true else(at' ((([]:List Bool)++met).set from_.toNat true) (((at' p.links i.toNat).b).toNat))),false)]then dJ p s_ i else some default).bind fun r_3=>
 bn (gB [((decide (((at' p.links i.toNat).b)<0)),false)]=true→(0:Int)≤(at' p.links i.toNat).b∧(at' p.links i.toNat).b<(((([]:List Bool)++met).set from_.toNat true).length:Int)) (
 bif (bif (bif (decide (((at' p.links i.toNat).b)<0))then true else(at' ((([]:List Bool)++met).set from_.toNat true) (((at' p.links i.toNat).b).toNat)))then true else(!r_3))then
 some (bJ,best)
 else
 (rec p s_ ((at' p.links i.toNat).b) to_ ((([]:List Bool)++met).set from_.toNat true)).bind fun r_4=>
 bif (decide (r_4.1<0))then
 some (bJ,best)
 else
 bn ((([i].length+r_4.2.length)*8≤140737488355328)∧([i].length+r_4.2.length≤4611686018427387904)) (
 (bif gB [((decide (bJ<0)),false)]then iM (IntKind.wrap .i64 (((at' p.links i.toNat).bJ)+r_4.1)) ([i]++r_4.2) bJ best else some default).bind fun r_5=>
 bif (bif (decide (bJ<0))then true else r_5)then
 some ((IntKind.wrap .i64 (((at' p.links i.toNat).bJ)+r_4.1)),([i]++r_4.2))
 else
 some (bJ,best)))
 else
 bif (decide (((at' p.links i.toNat).b)=from_))then
 (bif gB [((bif (decide (((at' p.links i.toNat).a)<0))then true else(at' ((([]:List Bool)++met).set from_.toNat true) (((at' p.links i.toNat).a).toNat))),false)]then dJ p s_ i else some default).bind fun r_6=>
 bn (gB [((decide (((at' p.links i.toNat).a)<0)),false)]=true→(0:Int)≤(at' p.links i.toNat).a∧(at' p.links i.toNat).a<(((([]:List Bool)++met).set from_.toNat true).length:Int)) (
 bif (bif (bif (decide (((at' p.links i.toNat).a)<0))then true else(at' ((([]:List Bool)++met).set from_.toNat true) (((at' p.links i.toNat).a).toNat)))then true else(!r_6))then
 some (bJ,best)
 else
 (rec p s_ ((at' p.links i.toNat).a) to_ ((([]:List Bool)++met).set from_.toNat true)).bind fun r_7=>
 bif (decide (r_7.1<0))then
 some (bJ,best)
 else
 bn ((([i].length+r_7.2.length)*8≤140737488355328)∧([i].length+r_7.2.length≤4611686018427387904)) (
 (bif gB [((decide (bJ<0)),false)]then iM (IntKind.wrap .i64 (((at' p.links i.toNat).bJ)+r_7.1)) ([i]++r_7.2) bJ best else some default).bind fun r_8=>
 bif (bif (decide (bJ<0))then true else r_8)then
 some ((IntKind.wrap .i64 (((at' p.links i.toNat).bJ)+r_7.1)),([i]++r_7.2))
 else
 some (bJ,best)))
 else
 some (bJ,best))) fun(ohm2,best2)=>
 some (.next (ohm2,best2,(IntKind.wrap .i64 (i+1))))
 else
 some (.done (.brk (bJ,best)))
def oQ (rec:ah→State→Int→Int→(List Bool)→Option (Int × (List Int))) (p:ah) (s_:State) (from_:Int) (to_:Int) (met:(List Bool)):Option (Int × (List Int)):=
 bif (decide (from_=to_))then
 some (0,([]:List Int))
 else
 bn (((([]:List Bool).length+met.length)*1≤140737488355328)∧(([]:List Bool).length+met.length≤4611686018427387904)) (
 bn ((0:Int)≤from_∧from_<((([]:List Bool)++met).length:Int)) (
 Option.bind (ay (nE rec p s_ from_ to_ met) FUEL ((-1),([]:List Int),0)) fun o=>match o with
 | .ret v=>some v
 | .brk (ohm1,best1)=>
 some (ohm1,best1)))
def jh:Nat→ah→State→Int→Int→(List Bool)→Option (Int × (List Int))
 |0,_,_,_,_,_=>none
 |n+1,p,s_,from_,to_,met=>oQ (jh n) p s_ from_ to_ met
def eH (p:ah) (s_:State) (bus:Int):((List Short) × Int)→Option (aM ((List Short) × Int) (Ex (List Short) ((List Short) × Int))):=
 fun zz=>match zz with
 |(out,k)=>
 bn (gB [((decide (k<(p.sources.length:Int))),true)]=true→(0:Int)≤bus∧bus<(s_.badBus.length:Int)) (
 bif (bif (decide (k<(p.sources.length:Int)))then(!(at' s_.badBus bus.toNat))else false)then
 Option.bind (α:=(List Short)) (
 (kz p s_ k).bind fun r_1=>
 bif (!r_1)then
 some out
 else
 (jh FUEL p s_ ((at' p.sources k.toNat).bus) bus (List.replicate p.buses.toNat (false:Bool))).bind fun r_2=>
 bn (((0:Int)≤k∧k<(p.sources.length:Int))∧((0:Int)≤p.buses)∧((1:Int)*p.buses≤281474976710656)∧((p.buses:Int)≤9223372036854775807)) (
 bif (decide (r_2.1<0))then
 some out
 else
 bn ((0:Int)≤k∧k<(p.sources.length:Int)) (
 bn ((IntKind.wrap .i64 (r_2.1+((at' p.sources k.toNat).bJ)))≠(0:Int)) (
 bif (decide ((IntKind.wrap .i64 ((IntKind.wrap .i64 (Int.tdiv (400000:Int) (IntKind.wrap .i64 (r_2.1+((at' p.sources k.toNat).bJ)))))*(IntKind.wrap .i64 (r_2.1+((at' p.sources k.toNat).bJ)))))<400000))then
 bn (((out.length+[(⟨k,(IntKind.wrap .i64 (r_2.1+((at' p.sources k.toNat).bJ))),(IntKind.wrap .i64 ((IntKind.wrap .i64 (Int.tdiv (400000:Int) (IntKind.wrap .i64 (r_2.1+((at' p.sources k.toNat).bJ)))))+1)),r_2.2⟩:Short)].length)*48≤140737488355328)∧(out.length+[(⟨k,(IntKind.wrap .i64 (r_2.1+((at' p.sources k.toNat).bJ))),(IntKind.wrap .i64 ((IntKind.wrap .i64 (Int.tdiv (400000:Int) (IntKind.wrap .i64 (r_2.1+((at' p.sources k.toNat).bJ)))))+1)),r_2.2⟩:Short)].length≤4611686018427387904)) (
 some (out++[(⟨k,(IntKind.wrap .i64 (r_2.1+((at' p.sources k.toNat).bJ))),(IntKind.wrap .i64 ((IntKind.wrap .i64 (Int.tdiv (400000:Int) (IntKind.wrap .i64 (r_2.1+((at' p.sources k.toNat).bJ)))))+1)),r_2.2⟩:Short)]))
 else
 bn (((out.length+[(⟨k,(IntKind.wrap .i64 (r_2.1+((at' p.sources k.toNat).bJ))),(IntKind.wrap .i64 (Int.tdiv (400000:Int) (IntKind.wrap .i64 (r_2.1+((at' p.sources k.toNat).bJ))))),r_2.2⟩:Short)].length)*48≤140737488355328)∧(out.length+[(⟨k,(IntKind.wrap .i64 (r_2.1+((at' p.sources k.toNat).bJ))),(IntKind.wrap .i64 (Int.tdiv (400000:Int) (IntKind.wrap .i64 (r_2.1+((at' p.sources k.toNat).bJ))))),r_2.2⟩:Short)].length≤4611686018427387904)) (
 some (out++[(⟨k,(IntKind.wrap .i64 (r_2.1+((at' p.sources k.toNat).bJ))),(IntKind.wrap .i64 (Int.tdiv (400000:Int) (IntKind.wrap .i64 (r_2.1+((at' p.sources k.toNat).bJ))))),r_2.2⟩:Short)])))))) fun out2=>
 some (.next (out2,(IntKind.wrap .i64 (k+1))))
 else
 some (.done (.brk out)))
def jv (p:ah) (s_:State) (bus:Int):Option ((List Short) × Int):=
 (dz p s_).bind fun r_=>
 bif (!decide (r_=0))then
 some (([]:List Short),r_)
 else
 bif (bif (decide (bus<0))then true else(decide (p.buses≤bus)))then
 some (([]:List Short),1)
 else
 Option.bind (ay (eH p s_ bus) FUEL (([]:List Short),0)) fun o=>match o with
 | .ret v=>some v
 | .brk out1=>
 some (out1,0)
def gU (p:ah) (l:(List Short)) (n:Int):((List Bool) × Int)→Option (aM ((List Bool) × Int) (Ex (List Bool) (aM ((List Int) × Int) (Ex (List Int) ((List Int) × Int))))):=
 fun zz=>match zz with
 |(has,i)=>
 bn ((0:Int)≤n∧n<(l.length:Int)) (
 bif (decide (i<(((at' l n.toNat).links).length:Int)))then
 bn (((0:Int)≤n∧n<(l.length:Int))∧((0:Int)≤i∧i<(((at' l n.toNat).links).length:Int))) (
 bif (bif (decide ((at' ((at' l n.toNat).links) i.toNat)<0))then true else(decide ((p.links.length:Int)≤(at' ((at' l n.toNat).links) i.toNat))))then
 some (.done (.ret (.done (.ret (([]:List Int),1)))))
 else
 bn ((0:Int)≤(at' ((at' l n.toNat).links) i.toNat)∧(at' ((at' l n.toNat).links) i.toNat)<(has.length:Int)) (
 some (.next ((has.set ((at' ((at' l n.toNat).links) i.toNat).toNat) true),(IntKind.wrap .i64 (i+1))))))
 else
 some (.done (.brk has)))
def jC (l:(List Short)) (n:Int) (has1:(List Bool)):((List Int) × Int)→Option (aM ((List Int) × Int) (Ex (List Int) (aM ((List Int) × Int) (Ex (List Int) ((List Int) × Int))))):=
 fun zz=>match zz with
 |(out2,k)=>
 bif (decide (k<(out2.length:Int)))then
 bn ((0:Int)≤k∧k<(has1.length:Int)) (
 bif (at' has1 k.toNat)then
 bn (((0:Int)≤k∧k<(out2.length:Int))∧((0:Int)≤n∧n<(l.length:Int))) (
 some (.next ((out2.set k.toNat (IntKind.wrap .i64 ((at' out2 k.toNat)+((at' l n.toNat).amps)))),(IntKind.wrap .i64 (k+1)))))
 else
 some (.next (out2,(IntKind.wrap .i64 (k+1)))))
 else
 some (.done (.brk out2))
def fo (p:ah) (l:(List Short)):((List Int) × Int)→Option (aM ((List Int) × Int) (Ex (List Int) ((List Int) × Int))):=
 fun zz=>match zz with
 |(out,n)=>
 bif (decide (n<(l.length:Int)))then
 bn (((0:Int)≤n∧n<(l.length:Int))∧(gB [((decide (((at' l n.toNat).amps)<0)),false)]=true→(0:Int)≤n∧n<(l.length:Int))) (
 bif (bif (decide (((at' l n.toNat).amps)<0))then true else(decide (1000000<((at' l n.toNat).amps))))then
 some (.done (.ret (([]:List Int),1)))
 else
 bn (((0:Int)≤(p.links.length:Int))∧((1:Int)*(p.links.length:Int)≤281474976710656)∧(((p.links.length:Int):Int)≤9223372036854775807)) (
 Option.bind (ay (gU p l n) FUEL ((List.replicate ((p.links.length:Int).toNat) (false:Bool)),0)) fun o=>match o with
 | .ret v=>some v
 | .brk has1=>
 Option.bind (ay (jC l n has1) FUEL (out,0)) fun o=>match o with
 | .ret v=>some v
 | .brk out3=>
 some (.next (out3,(IntKind.wrap .i64 (n+1))))))
 else
 some (.done (.brk out))
def lU (p:ah) (l:(List Short)):Option ((List Int) × Int):=
 (ko p).bind fun r_=>
 bif (!decide (r_=0))then
 some (([]:List Int),r_)
 else
 bif (decide (8<(l.length:Int)))then
 some (([]:List Int),1)
 else
 bn (((0:Int)≤(p.links.length:Int))∧((8:Int)*(p.links.length:Int)≤281474976710656)∧(((p.links.length:Int):Int)≤9223372036854775807)) (
 Option.bind (ay (fo p l) FUEL ((List.replicate ((p.links.length:Int).toNat) (0:Int)),0)) fun o=>match o with
 | .ret v=>some v
 | .brk out1=>
 some (out1,0))
def dN (l:(List Short)):((List Short) × Int)→Option (aM ((List Short) × Int) (Ex (List Short) Bool)):=
 fun zz=>match zz with
 |(own,i)=>
 bif (decide (i<(l.length:Int)))then
 bn ((0:Int)≤i∧i<(l.length:Int)) (
 bif (decide (60<(((at' l i.toNat).links).length:Int)))then
 (fF).bind fun r_2=>
 some (.done (.ret r_2))
 else
 bn (((0:Int)≤i∧i<(l.length:Int))∧((own.length+[(at' l i.toNat)].length)*48≤140737488355328)∧(own.length+[(at' l i.toNat)].length≤4611686018427387904)) (
 some (.next ((own++[(at' l i.toNat)]),(IntKind.wrap .i64 (i+1))))))
 else
 some (.done (.brk own))
def gG (p:ah) (s_:State) (bus:Int) (r_3:Int):Int→Option (aM Int (Ex Unit Bool)):=
 fun t59=>
 bif (decide (t59<([bus,r_3].length:Int)))then
 bn ((0:Int)≤t59∧t59<([bus,r_3].length:Int)) (
 (jg p s_ (at' [bus,r_3] t59.toNat)).bind fun r_4=>
 (jv p s_ (at' [bus,r_3] t59.toNat)).bind fun r_5=>
 (bif gB [((!decide (r_4.2=r_5.2)),false)]then jD r_4.1 r_5.1 else some default).bind fun r_6=>
 bif (bif (!decide (r_4.2=r_5.2))then true else(!r_6))then
 some (.done (.ret false))
 else
 (kM p r_4.1).bind fun r_7=>
 (lU p r_5.1).bind fun r_8=>
 (bif gB [((!decide (r_7.2.2=r_8.2)),false)]then jA r_7.1 r_8.1 else some default).bind fun r_9=>
 bif (bif (!decide (r_7.2.2=r_8.2))then true else(!r_9))then
 some (.done (.ret false))
 else
 some (.next (IntKind.wrap .i64 (t59+1))))
 else
 some (.done (.brk ()))
def jw (p:ah) (s_:State) (bus:Int) (l:(List Short)):Option Bool:=
 (qF p).bind fun r_=>
 bif (bif r_ then true else(decide (20<(l.length:Int))))then
 (fF).bind fun r_1=>
 some r_1
 else
 Option.bind (ay (dN l) FUEL (([]:List Short),0)) fun o=>match o with
 | .ret v=>some v
 | .brk own1=>
 (zD bus p.buses).bind fun r_3=>
 Option.bind (ay (gG p s_ bus r_3) FUEL (0)) fun o=>match o with
 | .ret v=>some v
 | .brk _=>
 (kM p own1).bind fun r_10=>
 (lU p l).bind fun r_11=>
 (bif gB [((decide (r_10.2.2=r_11.2)),true)]then jA r_10.1 r_11.1 else some default).bind fun r_12=>
 (bif gB [((bif (decide (r_10.2.2=r_11.2))then r_12 else false),true)]then fF else some default).bind fun r_13=>
 some (bif (bif (decide (r_10.2.2=r_11.2))then r_12 else false)then r_13 else false)
def Dq (p:ah):((List Bool) × Int)→Option (aM ((List Bool) × Int) (Ex (List Bool) (State × Int))):=
 fun zz=>match zz with
 |(s0,i)=>
 bif (decide (i<(p.links.length:Int)))then
 bn ((0:Int)≤i∧i<(p.links.length:Int)) (
 bif (decide (((at' p.links i.toNat).kind)=1))then
 bn ((0:Int)≤i∧i<(s0.length:Int)) (
 some (.next ((s0.set i.toNat true),(IntKind.wrap .i64 (i+1)))))
 else
 some (.next (s0,(IntKind.wrap .i64 (i+1)))))
 else
 some (.done (.brk s0))
def qb (p:ah):Option (State × Int):=
 (ko p).bind fun r_=>
 bif (!decide (r_=0))then
 some ((⟨([]:List Bool),([]:List Bool),([]:List Bool),([]:List Bool),([]:List Bool),([]:List Bool),([]:List Bool)⟩:State),r_)
 else
 bn (((0:Int)≤(p.links.length:Int))∧((1:Int)*(p.links.length:Int)≤281474976710656)∧(((p.links.length:Int):Int)≤9223372036854775807)∧((0:Int)≤(p.sources.length:Int))∧((1:Int)*(p.sources.length:Int)≤281474976710656)∧(((p.sources.length:Int):Int)≤9223372036854775807)∧((0:Int)≤p.buses)∧((1:Int)*p.buses≤281474976710656)∧((p.buses:Int)≤9223372036854775807)) (
 Option.bind (ay (Dq p) FUEL ((List.replicate ((p.links.length:Int).toNat) (false:Bool)),0)) fun o=>match o with
 | .ret v=>some v
 | .brk s01=>
 some ((⟨s01,(List.replicate ((p.links.length:Int).toNat) (false:Bool)),(List.replicate ((p.links.length:Int).toNat) (false:Bool)),(List.replicate ((p.sources.length:Int).toNat) (false:Bool)),(List.replicate ((p.sources.length:Int).toNat) (false:Bool)),(List.replicate p.buses.toNat (false:Bool)),(List.replicate p.buses.toNat (false:Bool))⟩:State),0))
def oV (p:ah) (s_:State) (cut:(List Bool)):Int→Option (aM Int (Ex Unit (Int × Int))):=
 fun b=>
 bif (decide (b<p.buses))then
 bn (((0:Int)≤b∧b<(cut.length:Int))∧(gB [((at' cut b.toNat),true)]=true→(0:Int)≤b∧b<(s_.badBus.length:Int))) (
 bif (bif (at' cut b.toNat)then(at' s_.badBus b.toNat)else false)then
 some (.done (.ret (0,1)))
 else
 some (.next (IntKind.wrap .i64 (b+1))))
 else
 some (.done (.brk ()))
def oM (p:ah) (s_:State) (cut:(List Bool)):Option (Int × Int):=
 (dz p s_).bind fun r_=>
 bif (!decide (r_=0))then
 some (0,r_)
 else
 bif (!decide ((cut.length:Int)=p.buses))then
 some (0,1)
 else
 Option.bind (ay (oV p s_ cut) FUEL (0)) fun o=>match o with
 | .ret v=>some v
 | .brk _=>
 (jk p s_ cut).bind fun r_1=>
 some (r_1,0)
def jX (x:aA):(Int × Int)→Option (aM (Int × Int) (Ex Int Int)):=
 fun zz=>match zz with
 |(n,r_)=>
 bif (decide (r_<(x.racks.length:Int)))then
 bn ((0:Int)≤r_∧r_<(x.racks.length:Int)) (
 some (.next ((IntKind.wrap .i64 ((IntKind.wrap .i64 (n+((at' x.racks r_.toNat).e0)))+((at' x.racks r_.toNat).e1))),(IntKind.wrap .i64 (r_+1)))))
 else
 some (.done (.brk n))
def rH (x:aA):Option Int:=
 Option.bind (ay (jX x) FUEL (0,0)) fun o=>match o with
 | .ret v=>some v
 | .brk n1=>
 some n1
def lY (p:ah) (s_:State) (x:aA) (cut:(List Bool)):Option Int:=
 (iF p s_ x).bind fun r_=>
 bif (!decide (r_=0))then
 some r_
 else
 (oM p s_ cut).bind fun r_1=>
 (bif gB [((decide (r_1.2=0)),true)]then rH x else some default).bind fun r_2=>
 bif (bif (decide (r_1.2=0))then(!decide (r_1.1=r_2))else false)then
 some 7
 else
 some r_1.2
def iC  :Int→Option (aM Int (Ex Unit Bool)):=
 fun n=>
 bif (decide (n<512))then
 (lW [100,350,(IntKind.wrap .i64 ((1:Int)+(Int.tmod n 700)))]).bind fun r_=>
 bn (700≠(0:Int)) (
 bn ((0:Int)≤1∧1<(r_.1.racks.length:Int)) (
 bn (((0:Int)≤0∧0<(r_.2.closed.length:Int))∧((0:Int)≤1∧1<(r_.2.closed.length:Int))∧((0:Int)≤0∧0<(r_.2.badLink.length:Int))∧((0:Int)≤0∧0<(r_.2.on_.length:Int))∧((0:Int)≤1∧1<(r_.2.on_.length:Int))∧((0:Int)≤0∧0<(r_.2.badSource.length:Int))∧((0:Int)≤0∧0<(r_.2.badBus.length:Int))∧((0:Int)≤1∧1<(r_.2.badBus.length:Int))∧((0:Int)≤2∧2<(r_.2.badBus.length:Int))) (
 bn (((0:Int)≤0∧0<(9:Int))∧((0:Int)≤0)∧(0<r_.2.closed.length)) (
 bn (((0:Int)≤1∧1<(9:Int))∧((0:Int)≤1)∧(1<(r_.2.closed.set 0 (decide ((IntKind.wrap .i64 (((BitVec.ofInt (IntKind.bits .i64) (Int.fdiv n (2 ^ min 0 (IntKind.bits .i64))) &&& BitVec.ofInt (IntKind.bits .i64) 1).toNat:Int)))=1))).length)) (
 bn (((0:Int)≤2∧2<(9:Int))∧((0:Int)≤2)∧(0<r_.2.badLink.length)) (
 bn (((0:Int)≤3∧3<(9:Int))∧((0:Int)≤3)∧(0<r_.2.on_.length)) (
 bn (((0:Int)≤4∧4<(9:Int))∧((0:Int)≤4)∧(1<(r_.2.on_.set 0 (decide ((IntKind.wrap .i64 (((BitVec.ofInt (IntKind.bits .i64) (Int.fdiv n (2 ^ min 3 (IntKind.bits .i64))) &&& BitVec.ofInt (IntKind.bits .i64) 1).toNat:Int)))=1))).length)) (
 bn (((0:Int)≤5∧5<(9:Int))∧((0:Int)≤5)∧(0<r_.2.badSource.length)) (
 bn (((0:Int)≤6∧6<(9:Int))∧((0:Int)≤6)∧(0<r_.2.badBus.length)) (
 bn (((0:Int)≤7∧7<(9:Int))∧((0:Int)≤7)∧(1<(r_.2.badBus.set 0 (decide ((IntKind.wrap .i64 (((BitVec.ofInt (IntKind.bits .i64) (Int.fdiv n (2 ^ min 6 (IntKind.bits .i64))) &&& BitVec.ofInt (IntKind.bits .i64) 1).toNat:Int)))=1))).length)) (
 bn (((0:Int)≤8∧8<(9:Int))∧((0:Int)≤8)∧(2<((r_.2.badBus.set 0 (decide ((IntKind.wrap .i64 (((BitVec.ofInt (IntKind.bits .i64) (Int.fdiv n (2 ^ min 6 (IntKind.bits .i64))) &&& BitVec.ofInt (IntKind.bits .i64) 1).toNat:Int)))=1))).set 1 (decide ((IntKind.wrap .i64 (((BitVec.ofInt (IntKind.bits .i64) (Int.fdiv n (2 ^ min 7 (IntKind.bits .i64))) &&& BitVec.ofInt (IntKind.bits .i64) 1).toNat:Int)))=1))).length)) (
 (jy (⟨r_.1.buses,r_.1.sources,r_.1.links,(r_.1.racks.set 1 (⟨(⟨((at' r_.1.racks 1).feeds).e0,2⟩:af),(at' r_.1.racks 1).power,(at' r_.1.racks 1).paths⟩:aD))⟩:ah) (⟨((r_.2.closed.set 0 (decide ((IntKind.wrap .i64 (((BitVec.ofInt (IntKind.bits .i64) (Int.fdiv n (2 ^ min 0 (IntKind.bits .i64))) &&& BitVec.ofInt (IntKind.bits .i64) 1).toNat:Int)))=1))).set 1 (decide ((IntKind.wrap .i64 (((BitVec.ofInt (IntKind.bits .i64) (Int.fdiv n (2 ^ min 1 (IntKind.bits .i64))) &&& BitVec.ofInt (IntKind.bits .i64) 1).toNat:Int)))=1))),r_.2.locked,(r_.2.badLink.set 0 (decide ((IntKind.wrap .i64 (((BitVec.ofInt (IntKind.bits .i64) (Int.fdiv n (2 ^ min 2 (IntKind.bits .i64))) &&& BitVec.ofInt (IntKind.bits .i64) 1).toNat:Int)))=1))),((r_.2.on_.set 0 (decide ((IntKind.wrap .i64 (((BitVec.ofInt (IntKind.bits .i64) (Int.fdiv n (2 ^ min 3 (IntKind.bits .i64))) &&& BitVec.ofInt (IntKind.bits .i64) 1).toNat:Int)))=1))).set 1 (decide ((IntKind.wrap .i64 (((BitVec.ofInt (IntKind.bits .i64) (Int.fdiv n (2 ^ min 4 (IntKind.bits .i64))) &&& BitVec.ofInt (IntKind.bits .i64) 1).toNat:Int)))=1))),(r_.2.badSource.set 0 (decide ((IntKind.wrap .i64 (((BitVec.ofInt (IntKind.bits .i64) (Int.fdiv n (2 ^ min 5 (IntKind.bits .i64))) &&& BitVec.ofInt (IntKind.bits .i64) 1).toNat:Int)))=1))),r_.2.earthed,(((r_.2.badBus.set 0 (decide ((IntKind.wrap .i64 (((BitVec.ofInt (IntKind.bits .i64) (Int.fdiv n (2 ^ min 6 (IntKind.bits .i64))) &&& BitVec.ofInt (IntKind.bits .i64) 1).toNat:Int)))=1))).set 1 (decide ((IntKind.wrap .i64 (((BitVec.ofInt (IntKind.bits .i64) (Int.fdiv n (2 ^ min 7 (IntKind.bits .i64))) &&& BitVec.ofInt (IntKind.bits .i64) 1).toNat:Int)))=1))).set 2 (decide ((IntKind.wrap .i64 (((BitVec.ofInt (IntKind.bits .i64) (Int.fdiv n (2 ^ min 8 (IntKind.bits .i64))) &&& BitVec.ofInt (IntKind.bits .i64) 1).toNat:Int)))=1)))⟩:State)).bind fun r_1=>
 (bif gB [((!r_1),false)]then jw (⟨r_.1.buses,r_.1.sources,r_.1.links,(r_.1.racks.set 1 (⟨(⟨((at' r_.1.racks 1).feeds).e0,2⟩:af),(at' r_.1.racks 1).power,(at' r_.1.racks 1).paths⟩:aD))⟩:ah) (⟨((r_.2.closed.set 0 (decide ((IntKind.wrap .i64 (((BitVec.ofInt (IntKind.bits .i64) (Int.fdiv n (2 ^ min 0 (IntKind.bits .i64))) &&& BitVec.ofInt (IntKind.bits .i64) 1).toNat:Int)))=1))).set 1 (decide ((IntKind.wrap .i64 (((BitVec.ofInt (IntKind.bits .i64) (Int.fdiv n (2 ^ min 1 (IntKind.bits .i64))) &&& BitVec.ofInt (IntKind.bits .i64) 1).toNat:Int)))=1))),r_.2.locked,(r_.2.badLink.set 0 (decide ((IntKind.wrap .i64 (((BitVec.ofInt (IntKind.bits .i64) (Int.fdiv n (2 ^ min 2 (IntKind.bits .i64))) &&& BitVec.ofInt (IntKind.bits .i64) 1).toNat:Int)))=1))),((r_.2.on_.set 0 (decide ((IntKind.wrap .i64 (((BitVec.ofInt (IntKind.bits .i64) (Int.fdiv n (2 ^ min 3 (IntKind.bits .i64))) &&& BitVec.ofInt (IntKind.bits .i64) 1).toNat:Int)))=1))).set 1 (decide ((IntKind.wrap .i64 (((BitVec.ofInt (IntKind.bits .i64) (Int.fdiv n (2 ^ min 4 (IntKind.bits .i64))) &&& BitVec.ofInt (IntKind.bits .i64) 1).toNat:Int)))=1))),(r_.2.badSource.set 0 (decide ((IntKind.wrap .i64 (((BitVec.ofInt (IntKind.bits .i64) (Int.fdiv n (2 ^ min 5 (IntKind.bits .i64))) &&& BitVec.ofInt (IntKind.bits .i64) 1).toNat:Int)))=1))),r_.2.earthed,(((r_.2.badBus.set 0 (decide ((IntKind.wrap .i64 (((BitVec.ofInt (IntKind.bits .i64) (Int.fdiv n (2 ^ min 6 (IntKind.bits .i64))) &&& BitVec.ofInt (IntKind.bits .i64) 1).toNat:Int)))=1))).set 1 (decide ((IntKind.wrap .i64 (((BitVec.ofInt (IntKind.bits .i64) (Int.fdiv n (2 ^ min 7 (IntKind.bits .i64))) &&& BitVec.ofInt (IntKind.bits .i64) 1).toNat:Int)))=1))).set 2 (decide ((IntKind.wrap .i64 (((BitVec.ofInt (IntKind.bits .i64) (Int.fdiv n (2 ^ min 8 (IntKind.bits .i64))) &&& BitVec.ofInt (IntKind.bits .i64) 1).toNat:Int)))=1)))⟩:State) (IntKind.wrap .i64 ((Int.tmod n 5) - 1)) ([]:List Short)else some default).bind fun r_2=>
 bn (gB [((!r_1),false)]=true→5≠(0:Int)) (
 bif (bif (!r_1)then true else(!r_2))then
 some (.done (.ret false))
 else
 some (.next (IntKind.wrap .i64 (n+1))))))))))))))))
 else
 some (.done (.brk ()))
def nR (n1:Int):((List Source) × Int)→Option (aM ((List Source) × Int) (Ex (List Source) (aM Int (Ex Unit Bool)))):=
 fun zz=>match zz with
 |(p1,k)=>
 bif (decide (k<8))then
 bn (((p1.length+[(⟨(IntKind.wrap .i64 ((3:Int)*k)),1,(IntKind.wrap .i64 ((100000:Int) - (IntKind.wrap .i64 (n1*k)))),0,(IntKind.wrap .i64 ((10:Int)+n1))⟩:Source)].length)*40≤140737488355328)∧(p1.length+[(⟨(IntKind.wrap .i64 ((3:Int)*k)),1,(IntKind.wrap .i64 ((100000:Int) - (IntKind.wrap .i64 (n1*k)))),0,(IntKind.wrap .i64 ((10:Int)+n1))⟩:Source)].length≤4611686018427387904)) (
 some (.next ((p1++[(⟨(IntKind.wrap .i64 ((3:Int)*k)),1,(IntKind.wrap .i64 ((100000:Int) - (IntKind.wrap .i64 (n1*k)))),0,(IntKind.wrap .i64 ((10:Int)+n1))⟩:Source)]),(IntKind.wrap .i64 (k+1)))))
 else
 some (.done (.brk p1))
def nP (n1:Int):((List Link) × Int)→Option (aM ((List Link) × Int) (Ex (List Link) (aM Int (Ex Unit Bool)))):=
 fun zz=>match zz with
 |(p2,i)=>
 bif (decide (i<40))then
 bn ((24≠(0:Int))∧((p2.length+[(⟨(Int.tmod i 24),(Int.tmod (IntKind.wrap .i64 ((IntKind.wrap .i64 ((IntKind.wrap .i64 (i*(IntKind.wrap .i64 (n1+1))))+1))+(IntKind.wrap .i64 (Int.tdiv i 24)))) 24),1,(IntKind.wrap .i64 ((100000:Int) - (IntKind.wrap .i64 ((IntKind.wrap .i64 (i*n1))*100)))),(IntKind.wrap .i64 ((100000:Int) - (IntKind.wrap .i64 (i*n1)))),([]:List gD)⟩:Link)].length)*64≤140737488355328)∧(p2.length+[(⟨(Int.tmod i 24),(Int.tmod (IntKind.wrap .i64 ((IntKind.wrap .i64 ((IntKind.wrap .i64 (i*(IntKind.wrap .i64 (n1+1))))+1))+(IntKind.wrap .i64 (Int.tdiv i 24)))) 24),1,(IntKind.wrap .i64 ((100000:Int) - (IntKind.wrap .i64 ((IntKind.wrap .i64 (i*n1))*100)))),(IntKind.wrap .i64 ((100000:Int) - (IntKind.wrap .i64 (i*n1)))),([]:List gD)⟩:Link)].length≤4611686018427387904)) (
 some (.next ((p2++[(⟨(Int.tmod i 24),(Int.tmod (IntKind.wrap .i64 ((IntKind.wrap .i64 ((IntKind.wrap .i64 (i*(IntKind.wrap .i64 (n1+1))))+1))+(IntKind.wrap .i64 (Int.tdiv i 24)))) 24),1,(IntKind.wrap .i64 ((100000:Int) - (IntKind.wrap .i64 ((IntKind.wrap .i64 (i*n1))*100)))),(IntKind.wrap .i64 ((100000:Int) - (IntKind.wrap .i64 (i*n1)))),([]:List gD)⟩:Link)]),(IntKind.wrap .i64 (i+1)))))
 else
 some (.done (.brk p2))
def nk  :((List Link) × Int)→Option (aM ((List Link) × Int) (Ex (List Link) (aM Int (Ex Unit Bool)))):=
 fun zz=>match zz with
 |(p22,i1)=>
 bif (decide (i1<40))then
 bn ((0:Int)≤i1∧i1<(p22.length:Int)) (
 bif (decide (((at' p22 i1.toNat).a)=((at' p22 i1.toNat).b)))then
 bn (((0:Int)≤i1∧i1<(p22.length:Int))∧(24≠(0:Int))) (
 some (.next ((p22.set i1.toNat (⟨(at' p22 i1.toNat).a,(Int.tmod (IntKind.wrap .i64 (((at' p22 i1.toNat).a)+1)) 24),(at' p22 i1.toNat).kind,(at' p22 i1.toNat).most,(at' p22 i1.toNat).bJ,(at' p22 i1.toNat).trip⟩:Link)),(IntKind.wrap .i64 (i1+1)))))
 else
 some (.next (p22,(IntKind.wrap .i64 (i1+1)))))
 else
 some (.done (.brk p22))
def ni (n1:Int):((List aD) × Int)→Option (aM ((List aD) × Int) (Ex (List aD) (aM Int (Ex Unit Bool)))):=
 fun zz=>match zz with
 |(p3,r_3)=>
 bif (decide (r_3<24))then
 bn ((24≠(0:Int))∧((p3.length+[(⟨(⟨r_3,(Int.tmod (IntKind.wrap .i64 (r_3+7)) 24)⟩:af),(IntKind.wrap .i64 ((100000:Int) - (IntKind.wrap .i64 (r_3*n1)))),2⟩:aD)].length)*32≤140737488355328)∧(p3.length+[(⟨(⟨r_3,(Int.tmod (IntKind.wrap .i64 (r_3+7)) 24)⟩:af),(IntKind.wrap .i64 ((100000:Int) - (IntKind.wrap .i64 (r_3*n1)))),2⟩:aD)].length≤4611686018427387904)) (
 some (.next ((p3++[(⟨(⟨r_3,(Int.tmod (IntKind.wrap .i64 (r_3+7)) 24)⟩:af),(IntKind.wrap .i64 ((100000:Int) - (IntKind.wrap .i64 (r_3*n1)))),2⟩:aD)]),(IntKind.wrap .i64 (r_3+1)))))
 else
 some (.done (.brk p3))
def nC (n1:Int):((List Bool) × Int)→Option (aM ((List Bool) × Int) (Ex (List Bool) (aM Int (Ex Unit Bool)))):=
 fun zz=>match zz with
 |(s3,k1)=>
 bif (decide (k1<8))then
 bn ((0:Int)≤k1∧k1<(s3.length:Int)) (
 some (.next ((s3.set k1.toNat (!decide (k1=n1))),(IntKind.wrap .i64 (k1+1)))))
 else
 some (.done (.brk s3))
def iB  :Int→Option (aM Int (Ex Unit Bool)):=
 fun n1=>
 bif (decide (n1<6))then
 Option.bind (ay (nR n1) FUEL (([]:List Source),0)) fun o=>match o with
 | .ret v=>some v
 | .brk p11=>
 Option.bind (ay (nP n1) FUEL (([]:List Link),0)) fun o=>match o with
 | .ret v=>some v
 | .brk p21=>
 Option.bind (ay nk FUEL (p21,0)) fun o=>match o with
 | .ret v=>some v
 | .brk p23=>
 Option.bind (ay (ni n1) FUEL (([]:List aD),0)) fun o=>match o with
 | .ret v=>some v
 | .brk p31=>
 (qb (⟨24,p11,p23,p31⟩:ah)).bind fun r_4=>
 bif (!decide (r_4.2=0))then
 some (.done (.ret false))
 else
 Option.bind (ay (nC n1) FUEL (r_4.1.on_,0)) fun o=>match o with
 | .ret v=>some v
 | .brk s31=>
 (bN (⟨24,p11,p23,p31⟩:ah) (⟨r_4.1.closed,r_4.1.locked,r_4.1.badLink,s31,r_4.1.badSource,r_4.1.earthed,r_4.1.badBus⟩:State)).bind fun r_5=>
 (bif gB [((!decide (r_5.2.2=0)),false)]then lY (⟨24,p11,p23,p31⟩:ah) (⟨r_4.1.closed,r_4.1.locked,r_4.1.badLink,s31,r_4.1.badSource,r_4.1.earthed,r_4.1.badBus⟩:State) r_5.1 r_5.2.1 else some default).bind fun r_6=>
 bif (bif (!decide (r_5.2.2=0))then true else(!decide (r_6=0)))then
 some (.done (.ret false))
 else
 some (.next (IntKind.wrap .i64 (n1+1)))
 else
 some (.done (.brk ()))
def mO:Option Bool:=
 Option.bind (ay iC FUEL (0)) fun o=>match o with
 | .ret v=>some v
 | .brk _=>
 Option.bind (ay iB FUEL (0)) fun o=>match o with
 | .ret v=>some v
 | .brk _=>
 (fF).bind fun r_7=>
 some r_7
end Sg
