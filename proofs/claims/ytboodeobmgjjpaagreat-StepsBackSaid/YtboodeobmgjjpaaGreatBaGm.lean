import Derived.Test.YtboodeobmgjjpaaGreatBaLd
set_option linter.all false
namespace Sg
open Go
structure Source where
 bus:Int
 kind:Int
 power:Int
 sync:Int
 ohm:Int
instance:Inhabited Source:=⟨⟨default,default,default,default,default⟩⟩
def Source.cell (x:Source):Nat→DV
 |0=>(.int .i64 x.bus)
 |1=>(.int .i64 x.kind)
 |2=>(.int .i64 x.power)
 |3=>(.int .i64 x.sync)
 |4=>(.int .i64 x.ohm)
 |_=> .nilp
structure oZ where
 amps:Int
 millis:Int
instance:Inhabited oZ:=⟨⟨default,default⟩⟩
def oZ.cell (x:oZ):Nat→DV
 |0=>(.int .i64 x.amps)
 |1=>(.int .i64 x.millis)
 |_=> .nilp
structure Link where
 a:Int
 b:Int
 kind:Int
 most:Int
 ohm:Int
 trip:(List oZ)
instance:Inhabited Link:=⟨⟨default,default,default,default,default,default⟩⟩
def Link.cell (x:Link):Nat→DV
 |0=>(.int .i64 x.a)
 |1=>(.int .i64 x.b)
 |2=>(.int .i64 x.kind)
 |3=>(.int .i64 x.most)
 |4=>(.int .i64 x.ohm)
 |5=>(bg none 2 oZ.cell x.trip)
 |_=> .nilp
structure aC where
 e0:Int
 e1:Int
instance:Inhabited aC:=⟨⟨default,default⟩⟩
def aC.cell (x:aC):Nat→DV
 |0=>(.int .i64 x.e0)
 |1=>(.int .i64 x.e1)
 |_=> .nilp
structure aU where
 feeds:aC
 power:Int
 paths:Int
instance:Inhabited aU:=⟨⟨default,default,default⟩⟩
def aU.cell (x:aU):Nat→DV
 |0=>(.int .i64 x.feeds.e0)
 |1=>(.int .i64 x.feeds.e1)
 |2=>(.int .i64 x.power)
 |3=>(.int .i64 x.paths)
 |_=> .nilp
structure au where
 buses:Int
 sources:(List Source)
 links:(List Link)
 racks:(List aU)
instance:Inhabited au:=⟨⟨default,default,default,default⟩⟩
def au.cell (x:au):Nat→DV
 |0=>(.int .i64 x.buses)
 |1=>(bg none 5 Source.cell x.sources)
 |2=>(bg none 6 Link.cell x.links)
 |3=>(bg none 4 aU.cell x.racks)
 |_=> .nilp
structure af where
 deed:Int
 index:Int
instance:Inhabited af:=⟨⟨default,default⟩⟩
def af.cell (x:af):Nat→DV
 |0=>(.int .i64 x.deed)
 |1=>(.int .i64 x.index)
 |_=> .nilp
structure Task where
 fed:(List Int)
 crew:(List Int)
 allowed:(List af)
 goal:(List af)
instance:Inhabited Task:=⟨⟨default,default,default,default⟩⟩
def Task.cell (x:Task):Nat→DV
 |0=>(bg none 1 (bM .i64) x.fed)
 |1=>(bg none 1 (bM .i64) x.crew)
 |2=>(bg none 2 af.cell x.allowed)
 |3=>(bg none 2 af.cell x.goal)
 |_=> .nilp
structure State where
 closed:(List Bool)
 locked:(List Bool)
 badLink:(List Bool)
 on_:(List Bool)
 badSource:(List Bool)
 earthed:(List Bool)
 badBus:(List Bool)
instance:Inhabited State:=⟨⟨default,default,default,default,default,default,default⟩⟩
def State.cell (x:State):Nat→DV
 |0=>(bg none 1 ai x.closed)
 |1=>(bg none 1 ai x.locked)
 |2=>(bg none 1 ai x.badLink)
 |3=>(bg none 1 ai x.on_)
 |4=>(bg none 1 ai x.badSource)
 |5=>(bg none 1 ai x.earthed)
 |6=>(bg none 1 ai x.badBus)
 |_=> .nilp
structure cZ where
 l:(List Bool)
 n:Int
instance:Inhabited cZ:=⟨⟨default,default⟩⟩
def cZ.cell (x:cZ):Nat→DV
 |0=>(bg none 1 ai x.l)
 |1=>(.int .i64 x.n)
 |_=> .nilp
structure aS where
 head:(List (Int × Int))
instance:Inhabited aS:=⟨⟨default⟩⟩
def aS.cell (x:aS):Nat→DV
 |0=> .nilp
 |_=> .nilp
structure aI where
 buses:(List Int)
 sources:(List Int)
instance:Inhabited aI:=⟨⟨default,default⟩⟩
def aI.cell (x:aI):Nat→DV
 |0=>(bg none 1 (bM .i64) x.buses)
 |1=>(bg none 1 (bM .i64) x.sources)
 |_=> .nilp
structure aW where
 e0:Bool
 e1:Bool
instance:Inhabited aW:=⟨⟨default,default⟩⟩
def aW.cell (x:aW):Nat→DV
 |0=>(.bool x.e0)
 |1=>(.bool x.e1)
 |_=> .nilp
structure Reached where
 s_:State
 from_:Int
 by_:af
instance:Inhabited Reached:=⟨⟨default,default,default⟩⟩
def Reached.cell (x:Reached):Nat→DV
 |0=>(bg none 1 ai x.s_.closed)
 |1=>(bg none 1 ai x.s_.locked)
 |2=>(bg none 1 ai x.s_.badLink)
 |3=>(bg none 1 ai x.s_.on_)
 |4=>(bg none 1 ai x.s_.badSource)
 |5=>(bg none 1 ai x.s_.earthed)
 |6=>(bg none 1 ai x.s_.badBus)
 |7=>(.int .i64 x.from_)
 |8=>(.int .i64 x.by_.deed)
 |9=>(.int .i64 x.by_.index)
 |_=> .nilp
structure Search where
 l:(List Reached)
 known:(List ((List Bool) × Bool))
instance:Inhabited Search:=⟨⟨default,default⟩⟩
def Search.cell (x:Search):Nat→DV
 |0=>(bg none 10 Reached.cell x.l)
 |1=> .nilp
 |_=> .nilp
def aI.ev (x:aI):Nat→EV
 |0=> .row 3 1 x.buses.length (ay (bM .i64) x.buses)
 |1=> .row 3 1 x.sources.length (ay (bM .i64) x.sources)
 |_=> .d .nilp
def yO (p:au) (t:Task):Option Bool:=
 some (bif (bif (bif (bif (bif (bif (decide (60<(p.sources.length:Int)))then true else(decide (60<(p.links.length:Int))))then true else(decide (60<(p.racks.length:Int))))then true else(decide (60<(t.fed.length:Int))))then true else(decide (60<(t.crew.length:Int))))then true else(decide (60<(t.allowed.length:Int))))then true else(decide (60<(t.goal.length:Int))))
def aT (n:Int) (first:Int) (last:Int):Option Bool:=
 some (bif (decide (first≤n))then(decide (n≤last))else false)
def tK (p:au):Option (Int × (List Source) × (List Link) × (List aU)):=
 some (p.buses,p.sources,p.links,p.racks)
def xA (p:au):Option (Int × (List Source) × (List Link) × (List aU)):=
 some (p.buses,p.sources,p.links,p.racks)
def wV (p:au):Option (Int × (List Source) × (List Link) × (List aU)):=
 some (p.buses,p.sources,p.links,p.racks)
def mM (x:Source) (x1:Int) (x11:(List Source)) (x12:(List Link)) (x13:(List aU)):Option Bool:=
 (aT x.bus 0 (IntKind.wrap .i64 (x1 - 1))).bind fun r_=>
 (bif gB [(r_,true)]then aT x.kind 1 3 else some default).bind fun r_1=>
 (bif gB [((bif r_ then r_1 else false),true)]then aT x.power 1 100000 else some default).bind fun r_2=>
 (bif gB [((bif (bif r_ then r_1 else false)then r_2 else false),true)]then aT x.sync 0 8 else some default).bind fun r_3=>
 (bif gB [((bif (bif (bif r_ then r_1 else false)then r_2 else false)then r_3 else false),true)]then aT x.ohm 10 100000 else some default).bind fun r_4=>
 some (bif (bif (bif (bif r_ then r_1 else false)then r_2 else false)then r_3 else false)then r_4 else false)
def r9 (x:Source) (x1:Int) (x11:(List Source)) (x12:(List Link)) (x13:(List aU)):Option Bool:=
 (mM x x1 x11 x12 x13).bind fun r_=>
 some (!r_)
def kR (s_:(List Source)) (f_:Int) (f_1:(List Source)) (f_2:(List Link)) (f_3:(List aU)):Int→Option (bD Int (Ex Unit Int)):=
 fun t8=>
 bif (decide (t8<(s_.length:Int)))then
 (r9 (at' s_ t8.toNat) f_ f_1 f_2 f_3).bind fun r_=>
 aJ ((0:Int)≤t8∧t8<(s_.length:Int)) (
 bif r_ then
 some (.done (.ret t8))
 else
 some (.next (IntKind.wrap .i64 (t8+1))))
 else
 some (.done (.brk ()))
def nZ (s_:(List Source)) (f_:Int) (f_1:(List Source)) (f_2:(List Link)) (f_3:(List aU)):Option Int:=
 Option.bind (aB (kR s_ f_ f_1 f_2 f_3) FUEL (0)) fun o=>match o with
 | .ret v=>some v
 | .brk _=>
 some (-1)
def iF (s_:(List Source)) (f_:Int) (f_1:(List Source)) (f_2:(List Link)) (f_3:(List aU)):Option Bool:=
 (nZ s_ f_ f_1 f_2 f_3).bind fun r_=>
 some (decide (0≤r_))
def rM (l:(List Source)) (most:Int) (right:Int) (right1:(List Source)) (right2:(List Link)) (right3:(List aU)):Option Bool:=
 (bif gB [((decide ((l.length:Int)≤most)),true)]then iF l right right1 right2 right3 else some default).bind fun r_=>
 some (bif (decide ((l.length:Int)≤most))then(!r_)else false)
def lH (x:Link):Int→Option (bD Int (Ex Unit Bool)):=
 fun t50=>
 bif (decide (t50<(x.trip.length:Int)))then
 aJ ((0:Int)≤t50∧t50<(x.trip.length:Int)) (
 (aT ((at' x.trip t50.toNat).amps) 1 1000000).bind fun r_5=>
 (bif gB [((!r_5),false)]then aT ((at' x.trip t50.toNat).millis) 1 100000 else some default).bind fun r_6=>
 aJ ((gB [((decide (0<t50)),true),((bif (!r_5)then true else(!r_6)),false)]=true→(0:Int)≤(IntKind.wrap .i64 (t50 - 1))∧(IntKind.wrap .i64 (t50 - 1))<(x.trip.length:Int))∧(gB [((decide (((at' x.trip t50.toNat).amps)≤((at' x.trip ((IntKind.wrap .i64 (t50 - 1)).toNat)).amps))),false),((decide (0<t50)),true),((bif (!r_5)then true else(!r_6)),false)]=true→(0:Int)≤(IntKind.wrap .i64 (t50 - 1))∧(IntKind.wrap .i64 (t50 - 1))<(x.trip.length:Int))) (
 bif (bif (bif (!r_5)then true else(!r_6))then true else(bif (decide (0<t50))then(bif (decide (((at' x.trip t50.toNat).amps)≤((at' x.trip ((IntKind.wrap .i64 (t50 - 1)).toNat)).amps)))then true else(decide (((at' x.trip ((IntKind.wrap .i64 (t50 - 1)).toNat)).millis)≤((at' x.trip t50.toNat).millis))))else false))then
 some (.done (.ret false))
 else
 some (.next (IntKind.wrap .i64 (t50+1)))))
 else
 some (.done (.brk ()))
def oI (x:Link) (x1:Int) (x11:(List Source)) (x12:(List Link)) (x13:(List aU)):Option Bool:=
 (aT x.a 0 (IntKind.wrap .i64 (x1 - 1))).bind fun r_=>
 (bif gB [((!r_),false)]then aT x.b 0 (IntKind.wrap .i64 (x1 - 1))else some default).bind fun r_1=>
 (bif gB [((bif (bif (!r_)then true else(!r_1))then true else(decide (x.a=x.b))),false)]then aT x.kind 1 3 else some default).bind fun r_2=>
 (bif gB [((bif (bif (bif (!r_)then true else(!r_1))then true else(decide (x.a=x.b)))then true else(!r_2)),false)]then aT x.most 1 100000 else some default).bind fun r_3=>
 (bif gB [((bif (bif (bif (bif (!r_)then true else(!r_1))then true else(decide (x.a=x.b)))then true else(!r_2))then true else(!r_3)),false)]then aT x.ohm 10 100000 else some default).bind fun r_4=>
 bif (bif (bif (bif (bif (bif (!r_)then true else(!r_1))then true else(decide (x.a=x.b)))then true else(!r_2))then true else(!r_3))then true else(!r_4))then
 some false
 else
 Option.bind (aB (lH x) FUEL (0)) fun o=>match o with
 | .ret v=>some v
 | .brk _=>
 some (bif (decide ((x.trip.length:Int)≤6))then(bif (decide ((x.trip.length:Int)=0))then true else(decide (x.kind=3)))else false)
def pu (x:Link) (x1:Int) (x11:(List Source)) (x12:(List Link)) (x13:(List aU)):Option Bool:=
 (oI x x1 x11 x12 x13).bind fun r_=>
 some (!r_)
def jo (s_:(List Link)) (f_:Int) (f_1:(List Source)) (f_2:(List Link)) (f_3:(List aU)):Int→Option (bD Int (Ex Unit Int)):=
 fun t8=>
 bif (decide (t8<(s_.length:Int)))then
 (pu (at' s_ t8.toNat) f_ f_1 f_2 f_3).bind fun r_=>
 aJ ((0:Int)≤t8∧t8<(s_.length:Int)) (
 bif r_ then
 some (.done (.ret t8))
 else
 some (.next (IntKind.wrap .i64 (t8+1))))
 else
 some (.done (.brk ()))
def kT (s_:(List Link)) (f_:Int) (f_1:(List Source)) (f_2:(List Link)) (f_3:(List aU)):Option Int:=
 Option.bind (aB (jo s_ f_ f_1 f_2 f_3) FUEL (0)) fun o=>match o with
 | .ret v=>some v
 | .brk _=>
 some (-1)
def fV (s_:(List Link)) (f_:Int) (f_1:(List Source)) (f_2:(List Link)) (f_3:(List aU)):Option Bool:=
 (kT s_ f_ f_1 f_2 f_3).bind fun r_=>
 some (decide (0≤r_))
def pG (l:(List Link)) (most:Int) (right:Int) (right1:(List Source)) (right2:(List Link)) (right3:(List aU)):Option Bool:=
 (bif gB [((decide ((l.length:Int)≤most)),true)]then fV l right right1 right2 right3 else some default).bind fun r_=>
 some (bif (decide ((l.length:Int)≤most))then(!r_)else false)
def qp (x:aU):Option Int:=
 bif (decide (x.feeds.e1=(-1)))then
 some 1
 else
 some 2
def oD (x:aU) (x1:Int) (x11:(List Source)) (x12:(List Link)) (x13:(List aU)):Option Bool:=
 (aT x.feeds.e0 0 (IntKind.wrap .i64 (x1 - 1))).bind fun r_=>
 (bif gB [(r_,true)]then aT x.feeds.e1 (-1) (IntKind.wrap .i64 (x1 - 1))else some default).bind fun r_1=>
 (bif gB [((bif (bif r_ then r_1 else false)then(!decide (x.feeds.e0=x.feeds.e1))else false),true)]then aT x.power 1 100000 else some default).bind fun r_2=>
 (bif gB [((bif (bif (bif r_ then r_1 else false)then(!decide (x.feeds.e0=x.feeds.e1))else false)then r_2 else false),true)]then qp x else some default).bind fun r_3=>
 (bif gB [((bif (bif (bif r_ then r_1 else false)then(!decide (x.feeds.e0=x.feeds.e1))else false)then r_2 else false),true)]then aT x.paths 0 r_3 else some default).bind fun r_4=>
 some (bif (bif (bif (bif r_ then r_1 else false)then(!decide (x.feeds.e0=x.feeds.e1))else false)then r_2 else false)then r_4 else false)
def o9 (x:aU) (x1:Int) (x11:(List Source)) (x12:(List Link)) (x13:(List aU)):Option Bool:=
 (oD x x1 x11 x12 x13).bind fun r_=>
 some (!r_)
def jy (s_:(List aU)) (f_:Int) (f_1:(List Source)) (f_2:(List Link)) (f_3:(List aU)):Int→Option (bD Int (Ex Unit Int)):=
 fun t8=>
 bif (decide (t8<(s_.length:Int)))then
 (o9 (⟨((at' s_ t8.toNat).feeds),(at' s_ t8.toNat).power,(at' s_ t8.toNat).paths⟩:aU) f_ f_1 f_2 f_3).bind fun r_=>
 aJ ((0:Int)≤t8∧t8<(s_.length:Int)) (
 bif r_ then
 some (.done (.ret t8))
 else
 some (.next (IntKind.wrap .i64 (t8+1))))
 else
 some (.done (.brk ()))
def kU (s_:(List aU)) (f_:Int) (f_1:(List Source)) (f_2:(List Link)) (f_3:(List aU)):Option Int:=
 Option.bind (aB (jy s_ f_ f_1 f_2 f_3) FUEL (0)) fun o=>match o with
 | .ret v=>some v
 | .brk _=>
 some (-1)
def fQ (s_:(List aU)) (f_:Int) (f_1:(List Source)) (f_2:(List Link)) (f_3:(List aU)):Option Bool:=
 (kU s_ f_ f_1 f_2 f_3).bind fun r_=>
 some (decide (0≤r_))
def oC (l:(List aU)) (most:Int) (right:Int) (right1:(List Source)) (right2:(List Link)) (right3:(List aU)):Option Bool:=
 (bif gB [((decide ((l.length:Int)≤most)),true)]then fQ l right right1 right2 right3 else some default).bind fun r_=>
 some (bif (decide ((l.length:Int)≤most))then(!r_)else false)
def qi (p:au):Option Int:=
 (aT p.buses 1 24).bind fun r_=>
 bif (!r_)then
 some 10
 else
 (tK p).bind fun r_1=>
 (rM p.sources 8 r_1.1 r_1.2.1 r_1.2.2.1 r_1.2.2.2).bind fun r_2=>
 bif (!r_2)then
 some 11
 else
 (xA p).bind fun r_3=>
 (pG p.links 40 r_3.1 r_3.2.1 r_3.2.2.1 r_3.2.2.2).bind fun r_4=>
 bif (!r_4)then
 some 12
 else
 (wV p).bind fun r_5=>
 (oC p.racks 24 r_5.1 r_5.2.1 r_5.2.2.1 r_5.2.2.2).bind fun r_6=>
 bif (!r_6)then
 some 13
 else
 some 0
def iH (p:au) (s_:State):Int→Option (bD Int (Ex Unit Int)):=
 fun t55=>
 bif (decide (t55<([(⟨s_.closed,(p.links.length:Int)⟩:cZ),(⟨s_.locked,(p.links.length:Int)⟩:cZ),(⟨s_.badLink,(p.links.length:Int)⟩:cZ),(⟨s_.on_,(p.sources.length:Int)⟩:cZ),(⟨s_.badSource,(p.sources.length:Int)⟩:cZ),(⟨s_.earthed,p.buses⟩:cZ),(⟨s_.badBus,p.buses⟩:cZ)].length:Int)))then
 aJ ((0:Int)≤t55∧t55<([(⟨s_.closed,(p.links.length:Int)⟩:cZ),(⟨s_.locked,(p.links.length:Int)⟩:cZ),(⟨s_.badLink,(p.links.length:Int)⟩:cZ),(⟨s_.on_,(p.sources.length:Int)⟩:cZ),(⟨s_.badSource,(p.sources.length:Int)⟩:cZ),(⟨s_.earthed,p.buses⟩:cZ),(⟨s_.badBus,p.buses⟩:cZ)].length:Int)) (
 bif (!decide ((((at' [(⟨s_.closed,(p.links.length:Int)⟩:cZ),(⟨s_.locked,(p.links.length:Int)⟩:cZ),(⟨s_.badLink,(p.links.length:Int)⟩:cZ),(⟨s_.on_,(p.sources.length:Int)⟩:cZ),(⟨s_.badSource,(p.sources.length:Int)⟩:cZ),(⟨s_.earthed,p.buses⟩:cZ),(⟨s_.badBus,p.buses⟩:cZ)] t55.toNat).l).length:Int)=((at' [(⟨s_.closed,(p.links.length:Int)⟩:cZ),(⟨s_.locked,(p.links.length:Int)⟩:cZ),(⟨s_.badLink,(p.links.length:Int)⟩:cZ),(⟨s_.on_,(p.sources.length:Int)⟩:cZ),(⟨s_.badSource,(p.sources.length:Int)⟩:cZ),(⟨s_.earthed,p.buses⟩:cZ),(⟨s_.badBus,p.buses⟩:cZ)] t55.toNat).n)))then
 some (.done (.ret 9))
 else
 some (.next (IntKind.wrap .i64 (t55+1))))
 else
 some (.done (.brk ()))
def iG (p:au) (s_:State):Int→Option (bD Int (Ex Unit Int)):=
 fun t69=>
 bif (decide (t69<(p.links.length:Int)))then
 aJ ((0:Int)≤t69∧t69<(p.links.length:Int)) (
 aJ ((gB [((decide (((at' p.links t69.toNat).kind)=1)),true)]=true→(0:Int)≤t69∧t69<(s_.closed.length:Int))∧(gB [((!(at' s_.closed t69.toNat)),false),((decide (((at' p.links t69.toNat).kind)=1)),true)]=true→(0:Int)≤t69∧t69<(s_.locked.length:Int))) (
 bif (bif (decide (((at' p.links t69.toNat).kind)=1))then(bif (!(at' s_.closed t69.toNat))then true else(at' s_.locked t69.toNat))else false)then
 some (.done (.ret 9))
 else
 some (.next (IntKind.wrap .i64 (t69+1)))))
 else
 some (.done (.brk ()))
def dL (p:au) (s_:State):Option Int:=
 (qi p).bind fun r_=>
 bif (!decide (r_=0))then
 some r_
 else
 Option.bind (aB (iH p s_) FUEL (0)) fun o=>match o with
 | .ret v=>some v
 | .brk _=>
 Option.bind (aB (iG p s_) FUEL (0)) fun o=>match o with
 | .ret v=>some v
 | .brk _=>
 some 0
def nV (i:Int) (x1:Int):Option Bool:=
 some (bif (decide (i<0))then true else(decide (x1≤i)))
def jk (s_:(List Int)) (f_:Int):Int→Option (bD Int (Ex Unit Int)):=
 fun t8=>
 bif (decide (t8<(s_.length:Int)))then
 (nV (at' s_ t8.toNat) f_).bind fun r_=>
 aJ ((0:Int)≤t8∧t8<(s_.length:Int)) (
 bif r_ then
 some (.done (.ret t8))
 else
 some (.next (IntKind.wrap .i64 (t8+1))))
 else
 some (.done (.brk ()))
def kY (s_:(List Int)) (f_:Int):Option Int:=
 Option.bind (aB (jk s_ f_) FUEL (0)) fun o=>match o with
 | .ret v=>some v
 | .brk _=>
 some (-1)
def gG (s_:(List Int)) (f_:Int):Option Bool:=
 (kY s_ f_).bind fun r_=>
 some (decide (0≤r_))
def jM (l:(List Int)) (n:Int):Option Bool:=
 (bif gB [((decide ((l.length:Int)≤24)),true)]then gG l n else some default).bind fun r_=>
 some (bif (decide ((l.length:Int)≤24))then(!r_)else false)
def l7 (p:au) (x:af):Option Bool:=
 bif (decide (x.deed=1))then
 bif (decide (x.deed=1))then
 aJ (gB [((bif (decide (0≤x.index))then(decide (x.index<(p.links.length:Int)))else false),true)]=true→(0:Int)≤x.index∧x.index<(p.links.length:Int)) (
 some (bif (bif (decide (0≤x.index))then(decide (x.index<(p.links.length:Int)))else false)then(!decide (((at' p.links x.index.toNat).kind)=1))else false))
 else
 bif (decide (x.deed=3))then
 bif (decide (x.deed=3))then
 some (bif (decide (0≤x.index))then(decide (x.index<p.buses))else false)
 else
 bif (decide (x.deed=7))then
 bif (decide (x.deed=7))then
 some (bif (decide (0≤x.index))then(decide (x.index<(p.sources.length:Int)))else false)
 else
 aJ (gB [((bif (decide (0≤x.index))then(decide (x.index<0))else false),true)]=true→(0:Int)≤x.index∧x.index<(p.links.length:Int)) (
 some (bif (bif (decide (0≤x.index))then(decide (x.index<0))else false)then(!decide (((at' p.links x.index.toNat).kind)=1))else false))
 else
 bif (decide (x.deed=8))then
 some (bif (decide (0≤x.index))then(decide (x.index<(p.sources.length:Int)))else false)
 else
 aJ (gB [((bif (decide (0≤x.index))then(decide (x.index<0))else false),true)]=true→(0:Int)≤x.index∧x.index<(p.links.length:Int)) (
 some (bif (bif (decide (0≤x.index))then(decide (x.index<0))else false)then(!decide (((at' p.links x.index.toNat).kind)=1))else false))
 else
 bif (decide (x.deed=4))then
 some (bif (decide (0≤x.index))then(decide (x.index<p.buses))else false)
 else
 bif (decide (x.deed=7))then
 bif (decide (x.deed=7))then
 some (bif (decide (0≤x.index))then(decide (x.index<(p.sources.length:Int)))else false)
 else
 aJ (gB [((bif (decide (0≤x.index))then(decide (x.index<0))else false),true)]=true→(0:Int)≤x.index∧x.index<(p.links.length:Int)) (
 some (bif (bif (decide (0≤x.index))then(decide (x.index<0))else false)then(!decide (((at' p.links x.index.toNat).kind)=1))else false))
 else
 bif (decide (x.deed=8))then
 some (bif (decide (0≤x.index))then(decide (x.index<(p.sources.length:Int)))else false)
 else
 aJ (gB [((bif (decide (0≤x.index))then(decide (x.index<0))else false),true)]=true→(0:Int)≤x.index∧x.index<(p.links.length:Int)) (
 some (bif (bif (decide (0≤x.index))then(decide (x.index<0))else false)then(!decide (((at' p.links x.index.toNat).kind)=1))else false))
 else
 bif (decide (x.deed=2))then
 bif (decide (x.deed=2))then
 aJ (gB [((bif (decide (0≤x.index))then(decide (x.index<(p.links.length:Int)))else false),true)]=true→(0:Int)≤x.index∧x.index<(p.links.length:Int)) (
 some (bif (bif (decide (0≤x.index))then(decide (x.index<(p.links.length:Int)))else false)then(!decide (((at' p.links x.index.toNat).kind)=1))else false))
 else
 bif (decide (x.deed=3))then
 bif (decide (x.deed=3))then
 some (bif (decide (0≤x.index))then(decide (x.index<p.buses))else false)
 else
 bif (decide (x.deed=7))then
 bif (decide (x.deed=7))then
 some (bif (decide (0≤x.index))then(decide (x.index<(p.sources.length:Int)))else false)
 else
 aJ (gB [((bif (decide (0≤x.index))then(decide (x.index<0))else false),true)]=true→(0:Int)≤x.index∧x.index<(p.links.length:Int)) (
 some (bif (bif (decide (0≤x.index))then(decide (x.index<0))else false)then(!decide (((at' p.links x.index.toNat).kind)=1))else false))
 else
 bif (decide (x.deed=8))then
 some (bif (decide (0≤x.index))then(decide (x.index<(p.sources.length:Int)))else false)
 else
 aJ (gB [((bif (decide (0≤x.index))then(decide (x.index<0))else false),true)]=true→(0:Int)≤x.index∧x.index<(p.links.length:Int)) (
 some (bif (bif (decide (0≤x.index))then(decide (x.index<0))else false)then(!decide (((at' p.links x.index.toNat).kind)=1))else false))
 else
 bif (decide (x.deed=4))then
 some (bif (decide (0≤x.index))then(decide (x.index<p.buses))else false)
 else
 bif (decide (x.deed=7))then
 bif (decide (x.deed=7))then
 some (bif (decide (0≤x.index))then(decide (x.index<(p.sources.length:Int)))else false)
 else
 aJ (gB [((bif (decide (0≤x.index))then(decide (x.index<0))else false),true)]=true→(0:Int)≤x.index∧x.index<(p.links.length:Int)) (
 some (bif (bif (decide (0≤x.index))then(decide (x.index<0))else false)then(!decide (((at' p.links x.index.toNat).kind)=1))else false))
 else
 bif (decide (x.deed=8))then
 some (bif (decide (0≤x.index))then(decide (x.index<(p.sources.length:Int)))else false)
 else
 aJ (gB [((bif (decide (0≤x.index))then(decide (x.index<0))else false),true)]=true→(0:Int)≤x.index∧x.index<(p.links.length:Int)) (
 some (bif (bif (decide (0≤x.index))then(decide (x.index<0))else false)then(!decide (((at' p.links x.index.toNat).kind)=1))else false))
 else
 bif (decide (x.deed=5))then
 bif (decide (x.deed=5))then
 aJ (gB [((bif (decide (0≤x.index))then(decide (x.index<(p.links.length:Int)))else false),true)]=true→(0:Int)≤x.index∧x.index<(p.links.length:Int)) (
 some (bif (bif (decide (0≤x.index))then(decide (x.index<(p.links.length:Int)))else false)then(!decide (((at' p.links x.index.toNat).kind)=1))else false))
 else
 bif (decide (x.deed=3))then
 bif (decide (x.deed=3))then
 some (bif (decide (0≤x.index))then(decide (x.index<p.buses))else false)
 else
 bif (decide (x.deed=7))then
 bif (decide (x.deed=7))then
 some (bif (decide (0≤x.index))then(decide (x.index<(p.sources.length:Int)))else false)
 else
 aJ (gB [((bif (decide (0≤x.index))then(decide (x.index<0))else false),true)]=true→(0:Int)≤x.index∧x.index<(p.links.length:Int)) (
 some (bif (bif (decide (0≤x.index))then(decide (x.index<0))else false)then(!decide (((at' p.links x.index.toNat).kind)=1))else false))
 else
 bif (decide (x.deed=8))then
 some (bif (decide (0≤x.index))then(decide (x.index<(p.sources.length:Int)))else false)
 else
 aJ (gB [((bif (decide (0≤x.index))then(decide (x.index<0))else false),true)]=true→(0:Int)≤x.index∧x.index<(p.links.length:Int)) (
 some (bif (bif (decide (0≤x.index))then(decide (x.index<0))else false)then(!decide (((at' p.links x.index.toNat).kind)=1))else false))
 else
 bif (decide (x.deed=4))then
 some (bif (decide (0≤x.index))then(decide (x.index<p.buses))else false)
 else
 bif (decide (x.deed=7))then
 bif (decide (x.deed=7))then
 some (bif (decide (0≤x.index))then(decide (x.index<(p.sources.length:Int)))else false)
 else
 aJ (gB [((bif (decide (0≤x.index))then(decide (x.index<0))else false),true)]=true→(0:Int)≤x.index∧x.index<(p.links.length:Int)) (
 some (bif (bif (decide (0≤x.index))then(decide (x.index<0))else false)then(!decide (((at' p.links x.index.toNat).kind)=1))else false))
 else
 bif (decide (x.deed=8))then
 some (bif (decide (0≤x.index))then(decide (x.index<(p.sources.length:Int)))else false)
 else
 aJ (gB [((bif (decide (0≤x.index))then(decide (x.index<0))else false),true)]=true→(0:Int)≤x.index∧x.index<(p.links.length:Int)) (
 some (bif (bif (decide (0≤x.index))then(decide (x.index<0))else false)then(!decide (((at' p.links x.index.toNat).kind)=1))else false))
 else
 bif (decide (x.deed=6))then
 aJ (gB [((bif (decide (0≤x.index))then(decide (x.index<(p.links.length:Int)))else false),true)]=true→(0:Int)≤x.index∧x.index<(p.links.length:Int)) (
 some (bif (bif (decide (0≤x.index))then(decide (x.index<(p.links.length:Int)))else false)then(!decide (((at' p.links x.index.toNat).kind)=1))else false))
 else
 bif (decide (x.deed=3))then
 bif (decide (x.deed=3))then
 some (bif (decide (0≤x.index))then(decide (x.index<p.buses))else false)
 else
 bif (decide (x.deed=7))then
 bif (decide (x.deed=7))then
 some (bif (decide (0≤x.index))then(decide (x.index<(p.sources.length:Int)))else false)
 else
 aJ (gB [((bif (decide (0≤x.index))then(decide (x.index<0))else false),true)]=true→(0:Int)≤x.index∧x.index<(p.links.length:Int)) (
 some (bif (bif (decide (0≤x.index))then(decide (x.index<0))else false)then(!decide (((at' p.links x.index.toNat).kind)=1))else false))
 else
 bif (decide (x.deed=8))then
 some (bif (decide (0≤x.index))then(decide (x.index<(p.sources.length:Int)))else false)
 else
 aJ (gB [((bif (decide (0≤x.index))then(decide (x.index<0))else false),true)]=true→(0:Int)≤x.index∧x.index<(p.links.length:Int)) (
 some (bif (bif (decide (0≤x.index))then(decide (x.index<0))else false)then(!decide (((at' p.links x.index.toNat).kind)=1))else false))
 else
 bif (decide (x.deed=4))then
 some (bif (decide (0≤x.index))then(decide (x.index<p.buses))else false)
 else
 bif (decide (x.deed=7))then
 bif (decide (x.deed=7))then
 some (bif (decide (0≤x.index))then(decide (x.index<(p.sources.length:Int)))else false)
 else
 aJ (gB [((bif (decide (0≤x.index))then(decide (x.index<0))else false),true)]=true→(0:Int)≤x.index∧x.index<(p.links.length:Int)) (
 some (bif (bif (decide (0≤x.index))then(decide (x.index<0))else false)then(!decide (((at' p.links x.index.toNat).kind)=1))else false))
 else
 bif (decide (x.deed=8))then
 some (bif (decide (0≤x.index))then(decide (x.index<(p.sources.length:Int)))else false)
 else
 aJ (gB [((bif (decide (0≤x.index))then(decide (x.index<0))else false),true)]=true→(0:Int)≤x.index∧x.index<(p.links.length:Int)) (
 some (bif (bif (decide (0≤x.index))then(decide (x.index<0))else false)then(!decide (((at' p.links x.index.toNat).kind)=1))else false))
def nW (x:af) (x1:Int) (x11:(List Source)) (x12:(List Link)) (x13:(List aU)):Option Bool:=
 (l7 (⟨x1,x11,x12,x13⟩:au) x).bind fun r_=>
 some (!r_)
def jl (s_:(List af)) (f_:Int) (f_1:(List Source)) (f_2:(List Link)) (f_3:(List aU)):Int→Option (bD Int (Ex Unit Int)):=
 fun t8=>
 bif (decide (t8<(s_.length:Int)))then
 (nW (at' s_ t8.toNat) f_ f_1 f_2 f_3).bind fun r_=>
 aJ ((0:Int)≤t8∧t8<(s_.length:Int)) (
 bif r_ then
 some (.done (.ret t8))
 else
 some (.next (IntKind.wrap .i64 (t8+1))))
 else
 some (.done (.brk ()))
def kS (s_:(List af)) (f_:Int) (f_1:(List Source)) (f_2:(List Link)) (f_3:(List aU)):Option Int:=
 Option.bind (aB (jl s_ f_ f_1 f_2 f_3) FUEL (0)) fun o=>match o with
 | .ret v=>some v
 | .brk _=>
 some (-1)
def gI (s_:(List af)) (f_:Int) (f_1:(List Source)) (f_2:(List Link)) (f_3:(List aU)):Option Bool:=
 (kS s_ f_ f_1 f_2 f_3).bind fun r_=>
 some (decide (0≤r_))
def jO (l:(List af)) (x1:Int) (x11:(List Source)) (x12:(List Link)) (x13:(List aU)):Option Bool:=
 (bif gB [((decide ((l.length:Int)≤24)),true)]then gI l x1 x11 x12 x13 else some default).bind fun r_=>
 some (bif (decide ((l.length:Int)≤24))then(!r_)else false)
def oL (p:au) (t:Task):Option Bool:=
 (jM t.fed (p.racks.length:Int)).bind fun r_=>
 (bif gB [(r_,true)]then jM t.crew p.buses else some default).bind fun r_1=>
 (bif gB [((bif r_ then r_1 else false),true)]then jO t.allowed p.buses p.sources p.links p.racks else some default).bind fun r_2=>
 (bif gB [((bif (bif r_ then r_1 else false)then r_2 else false),true)]then jO t.goal p.buses p.sources p.links p.racks else some default).bind fun r_3=>
 some (bif (bif (bif r_ then r_1 else false)then r_2 else false)then r_3 else false)
def jW (p:au) (s_:State):Option (Int × (List Source) × (List Link) × (List aU) × (List Bool) × (List Bool) × (List Bool) × (List Bool) × (List Bool) × (List Bool) × (List Bool)):=
 some (p.buses,p.sources,p.links,p.racks,s_.closed,s_.locked,s_.badLink,s_.on_,s_.badSource,s_.earthed,s_.badBus)
def eP (g:aS):Int→Option (bD Int (Ex Unit Int)):=
 fun x1=>
 bif (!((bA aY x1 g.head).isSome))then
 some (.done (.ret x1))
 else
 some (.next ((bA aY x1 g.head).getD 0))
def dw (g:aS) (x:Int):Option Int:=
 Option.bind (aB (eP g) FUEL (x)) fun o=>match o with
 | .ret v=>some v
 | .brk _=>none
def jD (g:aS) (a:Int) (b:Int):Option (List (Int × Int)):=
 (dw g a).bind fun r_=>
 (dw g b).bind fun r_1=>
 bif (!decide (r_=r_1))then
 some (fB aY r_ r_1 g.head)
 else
 some g.head
def mg (x22:Int) (x221:Int) (x222:Int) (x223:Int) (x224:Int) (x225:(List oZ)) (o_:aS):Option aS:=
 (jD o_ x22 x221).bind fun r_=>
 some (⟨r_⟩:aS)
def dI (x12:(List Link)) (x2:(List Bool)) (x22:(List Bool)) (x26:(List Bool)):((List (Int × Int)) × Int)→Option (bD ((List (Int × Int)) × Int) (Ex (List (Int × Int)) aS)):=
 fun zz=>match zz with
 |(o50,t9)=>
 bif (decide (t9<(x12.length:Int)))then
 aJ ((0:Int)≤t9∧t9<(x12.length:Int)) (
 bif (bif (bif (bif (at' x2 t9.toNat)then(!(at' x22 t9.toNat))else false)then(!(at' x26 (((at' x12 t9.toNat).a).toNat)))else false)then(!(at' x26 (((at' x12 t9.toNat).b).toNat)))else false)then
 (mg ((at' x12 t9.toNat).a) ((at' x12 t9.toNat).b) ((at' x12 t9.toNat).kind) ((at' x12 t9.toNat).most) ((at' x12 t9.toNat).ohm) ((at' x12 t9.toNat).trip) (⟨o50⟩:aS)).bind fun r_=>
 aJ (((0:Int)≤t9∧t9<(x2.length:Int))∧(gB [((at' x2 t9.toNat),true)]=true→(0:Int)≤t9∧t9<(x22.length:Int))∧(gB [((bif (at' x2 t9.toNat)then(!(at' x22 t9.toNat))else false),true)]=true→(0:Int)≤(at' x12 t9.toNat).a∧(at' x12 t9.toNat).a<(x26.length:Int))∧(gB [((bif (bif (at' x2 t9.toNat)then(!(at' x22 t9.toNat))else false)then(!(at' x26 (((at' x12 t9.toNat).a).toNat)))else false),true)]=true→(0:Int)≤(at' x12 t9.toNat).b∧(at' x12 t9.toNat).b<(x26.length:Int))) (
 some (.next (r_.head,(IntKind.wrap .i64 (t9+1)))))
 else
 aJ (((0:Int)≤t9∧t9<(x2.length:Int))∧(gB [((at' x2 t9.toNat),true)]=true→(0:Int)≤t9∧t9<(x22.length:Int))∧(gB [((bif (at' x2 t9.toNat)then(!(at' x22 t9.toNat))else false),true)]=true→(0:Int)≤(at' x12 t9.toNat).a∧(at' x12 t9.toNat).a<(x26.length:Int))∧(gB [((bif (bif (at' x2 t9.toNat)then(!(at' x22 t9.toNat))else false)then(!(at' x26 (((at' x12 t9.toNat).a).toNat)))else false),true)]=true→(0:Int)≤(at' x12 t9.toNat).b∧(at' x12 t9.toNat).b<(x26.length:Int))) (
 some (.next (o50,(IntKind.wrap .i64 (t9+1))))))
 else
 some (.done (.brk o50))
def mh (x1:Int) (x11:(List Source)) (x12:(List Link)) (x13:(List aU)) (x2:(List Bool)) (x21:(List Bool)) (x22:(List Bool)) (x23:(List Bool)) (x24:(List Bool)) (x25:(List Bool)) (x26:(List Bool)) (o_:aS):Option aS:=
 Option.bind (aB (dI x12 x2 x22 x26) FUEL (o_.head,0)) fun o=>match o with
 | .ret v=>some v
 | .brk o501=>
 some (⟨o501⟩:aS)
def bP (p:au) (s_:State) (r_1:aS):((List aI) × (List (Int × Int)) × Int)→Option (bD ((List aI) × (List (Int × Int)) × Int) (Ex ((List aI) × (List (Int × Int))) (List aI))):=
 fun zz=>match zz with
 |(out,at_,t32)=>
 bif (decide (t32<p.buses))then
 aJ ((0:Int)≤t32∧t32<(s_.badBus.length:Int)) (
 bif (at' s_.badBus t32.toNat)then
 some (.next (out,at_,(IntKind.wrap .i64 (t32+1))))
 else
 (dw r_1 t32).bind fun r_2=>
 bif (!((bA aY r_2 at_).isSome))then
 aJ (((out.length+[(⟨([]:List Int),([]:List Int)⟩:aI)].length)*48≤140737488355328)∧(out.length+[(⟨([]:List Int),([]:List Int)⟩:aI)].length≤4611686018427387904)) (
 aJ (((0:Int)≤((bA aY r_2 (fB aY r_2 (out.length:Int) at_)).getD 0)∧((bA aY r_2 (fB aY r_2 (out.length:Int) at_)).getD 0)<((out++[(⟨([]:List Int),([]:List Int)⟩:aI)]).length:Int))∧((((at' (out++[(⟨([]:List Int),([]:List Int)⟩:aI)]) (((bA aY r_2 (fB aY r_2 (out.length:Int) at_)).getD 0).toNat)).buses).length+[t32].length)*8≤140737488355328)∧(((at' (out++[(⟨([]:List Int),([]:List Int)⟩:aI)]) (((bA aY r_2 (fB aY r_2 (out.length:Int) at_)).getD 0).toNat)).buses).length+[t32].length≤4611686018427387904)) (
 some (.next (((out++[(⟨([]:List Int),([]:List Int)⟩:aI)]).set (((bA aY r_2 (fB aY r_2 (out.length:Int) at_)).getD 0).toNat) (⟨(((at' (out++[(⟨([]:List Int),([]:List Int)⟩:aI)]) (((bA aY r_2 (fB aY r_2 (out.length:Int) at_)).getD 0).toNat)).buses)++[t32]),(at' (out++[(⟨([]:List Int),([]:List Int)⟩:aI)]) (((bA aY r_2 (fB aY r_2 (out.length:Int) at_)).getD 0).toNat)).sources⟩:aI)),(fB aY r_2 (out.length:Int) at_),(IntKind.wrap .i64 (t32+1))))))
 else
 aJ (((0:Int)≤((bA aY r_2 at_).getD 0)∧((bA aY r_2 at_).getD 0)<(out.length:Int))∧((((at' out (((bA aY r_2 at_).getD 0).toNat)).buses).length+[t32].length)*8≤140737488355328)∧(((at' out (((bA aY r_2 at_).getD 0).toNat)).buses).length+[t32].length≤4611686018427387904)) (
 some (.next ((out.set (((bA aY r_2 at_).getD 0).toNat) (⟨(((at' out (((bA aY r_2 at_).getD 0).toNat)).buses)++[t32]),(at' out (((bA aY r_2 at_).getD 0).toNat)).sources⟩:aI)),at_,(IntKind.wrap .i64 (t32+1))))))
 else
 some (.done (.brk (out,at_)))
def bQ (p:au) (s_:State) (r_1:aS) (at_1:(List (Int × Int))):((List aI) × Int)→Option (bD ((List aI) × Int) (Ex (List aI) (List aI))):=
 fun zz=>match zz with
 |(out2,t78)=>
 bif (decide (t78<(p.sources.length:Int)))then
 aJ ((0:Int)≤t78∧t78<(p.sources.length:Int)) (
 aJ (((0:Int)≤t78∧t78<(s_.on_.length:Int))∧(gB [((at' s_.on_ t78.toNat),true)]=true→(0:Int)≤t78∧t78<(s_.badSource.length:Int))∧(gB [((bif (at' s_.on_ t78.toNat)then(!(at' s_.badSource t78.toNat))else false),true)]=true→(0:Int)≤(at' p.sources t78.toNat).bus∧(at' p.sources t78.toNat).bus<(s_.badBus.length:Int))) (
 bif (bif (bif (at' s_.on_ t78.toNat)then(!(at' s_.badSource t78.toNat))else false)then(!(at' s_.badBus (((at' p.sources t78.toNat).bus).toNat)))else false)then
 (dw r_1 ((at' p.sources t78.toNat).bus)).bind fun r_3=>
 aJ (((0:Int)≤((bA aY r_3 at_1).getD 0)∧((bA aY r_3 at_1).getD 0)<(out2.length:Int))∧((((at' out2 (((bA aY r_3 at_1).getD 0).toNat)).sources).length+[t78].length)*8≤140737488355328)∧(((at' out2 (((bA aY r_3 at_1).getD 0).toNat)).sources).length+[t78].length≤4611686018427387904)) (
 some (.next ((out2.set (((bA aY r_3 at_1).getD 0).toNat) (⟨(at' out2 (((bA aY r_3 at_1).getD 0).toNat)).buses,(((at' out2 (((bA aY r_3 at_1).getD 0).toNat)).sources)++[t78])⟩:aI)),(IntKind.wrap .i64 (t78+1)))))
 else
 some (.next (out2,(IntKind.wrap .i64 (t78+1))))))
 else
 some (.done (.brk out2))
def fC (p:au) (s_:State):Option (List aI):=
 (jW p s_).bind fun r_=>
 (mh r_.1 r_.2.1 r_.2.2.1 r_.2.2.2.1 r_.2.2.2.2.1 r_.2.2.2.2.2.1 r_.2.2.2.2.2.2.1 r_.2.2.2.2.2.2.2.1 r_.2.2.2.2.2.2.2.2.1 r_.2.2.2.2.2.2.2.2.2.1 r_.2.2.2.2.2.2.2.2.2.2 (⟨([]:(List (Int × Int)))⟩:aS)).bind fun r_1=>
 Option.bind (aB (bP p s_ r_1) FUEL (([]:List aI),([]:(List (Int × Int))),0)) fun o=>match o with
 | .ret v=>some v
 | .brk (out1,at_1)=>
 Option.bind (aB (bQ p s_ r_1 at_1) FUEL (out1,0)) fun o=>match o with
 | .ret v=>some v
 | .brk out3=>
 some out3
def kL (r_1:(List aI)) (t25:Int):((List Bool) × Int)→Option (bD ((List Bool) × Int) (Ex (List Bool) (bD ((List Bool) × Int) (Ex (List Bool) ((List Bool) × Int))))):=
 fun zz=>match zz with
 |(out2,t32)=>
 bif (decide (t32<(((at' r_1 t25.toNat).buses).length:Int)))then
 aJ ((0:Int)≤t32∧t32<(((at' r_1 t25.toNat).buses).length:Int)) (
 aJ ((0:Int)≤(at' ((at' r_1 t25.toNat).buses) t32.toNat)∧(at' ((at' r_1 t25.toNat).buses) t32.toNat)<(out2.length:Int)) (
 some (.next ((out2.set ((at' ((at' r_1 t25.toNat).buses) t32.toNat).toNat) (decide (0<(((at' r_1 t25.toNat).sources).length:Int)))),(IntKind.wrap .i64 (t32+1))))))
 else
 some (.done (.brk out2))
def kQ (r_1:(List aI)):((List Bool) × Int)→Option (bD ((List Bool) × Int) (Ex (List Bool) ((List Bool) × Int))):=
 fun zz=>match zz with
 |(out,t25)=>
 bif (decide (t25<(r_1.length:Int)))then
 aJ ((0:Int)≤t25∧t25<(r_1.length:Int)) (
 Option.bind (aB (kL r_1 t25) FUEL (out,0)) fun o=>match o with
 | .ret v=>some v
 | .brk out3=>
 some (.next (out3,(IntKind.wrap .i64 (t25+1)))))
 else
 some (.done (.brk out))
def fZ (p:au) (s_:State):Option ((List Bool) × Int):=
 (dL p s_).bind fun r_=>
 bif (!decide (r_=0))then
 some (([]:List Bool),r_)
 else
 aJ (((0:Int)≤p.buses)∧((1:Int)*p.buses≤281474976710656)∧((p.buses:Int)≤9223372036854775807)) (
 (fC p s_).bind fun r_1=>
 Option.bind (aB (kQ r_1) FUEL ((List.replicate p.buses.toNat (false:Bool)),0)) fun o=>match o with
 | .ret v=>some v
 | .brk out1=>
 some (out1,0))
def jF (p:au) (r_:((List Bool) × Int)):((List aW) × Int)→Option (bD ((List aW) × Int) (Ex (List aW) ((List aW) × Int))):=
 fun zz=>match zz with
 |(out,t26)=>
 bif (decide (t26<(p.racks.length:Int)))then
 aJ ((0:Int)≤t26∧t26<(p.racks.length:Int)) (
 aJ (gB [((decide (0≤(((at' p.racks t26.toNat).feeds).e0))),true)]=true→(0:Int)≤((at' p.racks t26.toNat).feeds).e0∧((at' p.racks t26.toNat).feeds).e0<(r_.1.length:Int)) (
 aJ (gB [((decide (0≤(((at' p.racks t26.toNat).feeds).e1))),true)]=true→(0:Int)≤((at' p.racks t26.toNat).feeds).e1∧((at' p.racks t26.toNat).feeds).e1<(r_.1.length:Int)) (
 aJ (((out.length+[(⟨(bif (decide (0≤(((at' p.racks t26.toNat).feeds).e0)))then(at' r_.1 ((((at' p.racks t26.toNat).feeds).e0).toNat))else false),(bif (decide (0≤(((at' p.racks t26.toNat).feeds).e1)))then(at' r_.1 ((((at' p.racks t26.toNat).feeds).e1).toNat))else false)⟩:aW)].length)*2≤140737488355328)∧(out.length+[(⟨(bif (decide (0≤(((at' p.racks t26.toNat).feeds).e0)))then(at' r_.1 ((((at' p.racks t26.toNat).feeds).e0).toNat))else false),(bif (decide (0≤(((at' p.racks t26.toNat).feeds).e1)))then(at' r_.1 ((((at' p.racks t26.toNat).feeds).e1).toNat))else false)⟩:aW)].length≤4611686018427387904)) (
 some (.next ((out++[(⟨(bif (decide (0≤(((at' p.racks t26.toNat).feeds).e0)))then(at' r_.1 ((((at' p.racks t26.toNat).feeds).e0).toNat))else false),(bif (decide (0≤(((at' p.racks t26.toNat).feeds).e1)))then(at' r_.1 ((((at' p.racks t26.toNat).feeds).e1).toNat))else false)⟩:aW)]),(IntKind.wrap .i64 (t26+1))))))))
 else
 some (.done (.brk out))
def uD (p:au) (s_:State):Option ((List aW) × Int):=
 (fZ p s_).bind fun r_=>
 bif (!decide (r_.2=0))then
 some (([]:List aW),r_.2)
 else
 Option.bind (aB (jF p r_) FUEL (([]:List aW),0)) fun o=>match o with
 | .ret v=>some v
 | .brk out1=>
 some (out1,0)
def uN (x:Int):Option Bool:=
 some (!decide (x=x))
def qo (x:Int) (y:Int):Option Int:=
 (uN x).bind fun r_=>
 (uN y).bind fun r_1=>
 bif r_ then
 bif r_1 then
 some 0
 else
 some (-1)
 else
 bif r_1 then
 some 1
 else
 bif (decide (x<y))then
 some (-1)
 else
 bif (decide (y<x))then
 some 1
 else
 some 0
def rq (s1:(List Int)) (s2:(List Int)):Int→Option (bD Int (Ex Unit Int)):=
 fun t11=>
 bif (decide (t11<(s1.length:Int)))then
 aJ ((0:Int)≤t11∧t11<(s1.length:Int)) (
 bif (decide ((s2.length:Int)≤t11))then
 some (.done (.ret 1))
 else
 aJ ((0:Int)≤t11∧t11<(s2.length:Int)) (
 (qo (at' s1 t11.toNat) (at' s2 t11.toNat)).bind fun r_=>
 bif (!decide (r_=0))then
 some (.done (.ret r_))
 else
 some (.next (IntKind.wrap .i64 (t11+1)))))
 else
 some (.done (.brk ()))
def qf (s1:(List Int)) (s2:(List Int)):Option Int:=
 Option.bind (aB (rq s1 s2) FUEL (0)) fun o=>match o with
 | .ret v=>some v
 | .brk _=>
 bif (decide ((s1.length:Int)<(s2.length:Int)))then
 some (-1)
 else
 some 0
def je (a:aC) (b:aC):Option Int:=
 (qf [a.e0,a.e1] [b.e0,b.e1]).bind fun r_=>
 some r_
def aZ (x y:aC):Int:=(je x y).getD 0
def iZ (s:(List aC)):Option (List aC):=match s with
 |[]=>some []
 |x::xs=>bif decide ((x::xs).length<4611686018427387904)then some ((x::xs).mergeSort fun x y=> !decide (aZ y x<0))else none
def kD (p:au) (r_1:(List aI)) (t24:Int) (t31:Int):((List aC) × Int)→Option (bD ((List aC) × Int) (Ex (List aC) (bD ((List aC) × Int) (Ex (List aC) (bD ((List aC) × Int) (Ex (List aC) ((List aC) × Int))))))):=
 fun zz=>match zz with
 |(out4,t42)=>
 bif (decide (t42<(((((at' r_1 t24.toNat).sources).length - ((IntKind.wrap .i64 (t31+1)).toNat)):Nat):Int)))then
 aJ ((0:Int)≤t42∧t42<((((at' r_1 t24.toNat).sources).drop ((IntKind.wrap .i64 (t31+1)).toNat)).length:Int)) (
 aJ (((0:Int)≤(at' ((at' r_1 t24.toNat).sources) t31.toNat)∧(at' ((at' r_1 t24.toNat).sources) t31.toNat)<(p.sources.length:Int))∧(gB [((decide (((at' p.sources ((at' ((at' r_1 t24.toNat).sources) t31.toNat).toNat)).sync)=0)),false)]=true→(0:Int)≤(at' ((at' r_1 t24.toNat).sources) t31.toNat)∧(at' ((at' r_1 t24.toNat).sources) t31.toNat)<(p.sources.length:Int))∧(gB [((decide (((at' p.sources ((at' ((at' r_1 t24.toNat).sources) t31.toNat).toNat)).sync)=0)),false)]=true→(0:Int)≤(at' (((at' r_1 t24.toNat).sources).drop ((IntKind.wrap .i64 (t31+1)).toNat)) t42.toNat)∧(at' (((at' r_1 t24.toNat).sources).drop ((IntKind.wrap .i64 (t31+1)).toNat)) t42.toNat)<(p.sources.length:Int))) (
 bif (bif (decide (((at' p.sources ((at' ((at' r_1 t24.toNat).sources) t31.toNat).toNat)).sync)=0))then true else(!decide (((at' p.sources ((at' ((at' r_1 t24.toNat).sources) t31.toNat).toNat)).sync)=((at' p.sources ((at' (((at' r_1 t24.toNat).sources).drop ((IntKind.wrap .i64 (t31+1)).toNat)) t42.toNat).toNat)).sync))))then
 aJ (((out4.length+[(⟨(at' ((at' r_1 t24.toNat).sources) t31.toNat),(at' (((at' r_1 t24.toNat).sources).drop ((IntKind.wrap .i64 (t31+1)).toNat)) t42.toNat)⟩:aC)].length)*16≤140737488355328)∧(out4.length+[(⟨(at' ((at' r_1 t24.toNat).sources) t31.toNat),(at' (((at' r_1 t24.toNat).sources).drop ((IntKind.wrap .i64 (t31+1)).toNat)) t42.toNat)⟩:aC)].length≤4611686018427387904)) (
 some (.next ((out4++[(⟨(at' ((at' r_1 t24.toNat).sources) t31.toNat),(at' (((at' r_1 t24.toNat).sources).drop ((IntKind.wrap .i64 (t31+1)).toNat)) t42.toNat)⟩:aC)]),(IntKind.wrap .i64 (t42+1)))))
 else
 some (.next (out4,(IntKind.wrap .i64 (t42+1))))))
 else
 some (.done (.brk out4))
def kC (p:au) (r_1:(List aI)) (t24:Int):((List aC) × Int)→Option (bD ((List aC) × Int) (Ex (List aC) (bD ((List aC) × Int) (Ex (List aC) ((List aC) × Int))))):=
 fun zz=>match zz with
 |(out2,t31)=>
 bif (decide (t31<(((at' r_1 t24.toNat).sources).length:Int)))then
 aJ ((0:Int)≤t31∧t31<(((at' r_1 t24.toNat).sources).length:Int)) (
 aJ ((0:Int)≤(IntKind.wrap .i64 (t31+1))∧(IntKind.wrap .i64 (t31+1))≤(((at' r_1 t24.toNat).sources).length:Int)) (
 Option.bind (aB (kD p r_1 t24 t31) FUEL (out2,0)) fun o=>match o with
 | .ret v=>some v
 | .brk out5=>
 some (.next (out5,(IntKind.wrap .i64 (t31+1))))))
 else
 some (.done (.brk out2))
def iD (p:au) (r_1:(List aI)):((List aC) × Int)→Option (bD ((List aC) × Int) (Ex (List aC) ((List aC) × Int))):=
 fun zz=>match zz with
 |(out,t24)=>
 bif (decide (t24<(r_1.length:Int)))then
 aJ ((0:Int)≤t24∧t24<(r_1.length:Int)) (
 Option.bind (aB (kC p r_1 t24) FUEL (out,0)) fun o=>match o with
 | .ret v=>some v
 | .brk out3=>
 some (.next (out3,(IntKind.wrap .i64 (t24+1)))))
 else
 some (.done (.brk out))
def nI (p:au) (s_:State):Option ((List aC) × Int):=
 (dL p s_).bind fun r_=>
 bif (!decide (r_=0))then
 some (([]:List aC),r_)
 else
 (fC p s_).bind fun r_1=>
 Option.bind (aB (iD p r_1) FUEL (([]:List aC),0)) fun o=>match o with
 | .ret v=>some v
 | .brk out1=>
 (iZ out1).bind fun r_2=>
 aJ (out1.length=r_2.length) (
 some (r_2,0))
def qV (r_:Int) (x1:(List aW)):Option Bool:=
 aJ (((0:Int)≤r_∧r_<(x1.length:Int))∧(gB [((!((at' x1 r_.toNat).e0)),true)]=true→(0:Int)≤r_∧r_<(x1.length:Int))) (
 some (bif (!((at' x1 r_.toNat).e0))then(!((at' x1 r_.toNat).e1))else false))
def gW (s_:(List Int)) (f_:(List aW)):Int→Option (bD Int (Ex Unit Int)):=
 fun t8=>
 bif (decide (t8<(s_.length:Int)))then
 (qV (at' s_ t8.toNat) f_).bind fun r_=>
 aJ ((0:Int)≤t8∧t8<(s_.length:Int)) (
 bif r_ then
 some (.done (.ret t8))
 else
 some (.next (IntKind.wrap .i64 (t8+1))))
 else
 some (.done (.brk ()))
def jr (s_:(List Int)) (f_:(List aW)):Option Int:=
 Option.bind (aB (gW s_ f_) FUEL (0)) fun o=>match o with
 | .ret v=>some v
 | .brk _=>
 some (-1)
def fq (s_:(List Int)) (f_:(List aW)):Option Bool:=
 (jr s_ f_).bind fun r_=>
 some (decide (0≤r_))
def pF (s_:(List Int)) (v_:Int):Int→Option (bD Int (Ex Unit Int)):=
 fun t8=>
 bif (decide (t8<(s_.length:Int)))then
 aJ ((0:Int)≤t8∧t8<(s_.length:Int)) (
 bif (decide (v_=(at' s_ t8.toNat)))then
 some (.done (.ret t8))
 else
 some (.next (IntKind.wrap .i64 (t8+1))))
 else
 some (.done (.brk ()))
def tL (s_:(List Int)) (v_:Int):Option Int:=
 Option.bind (aB (pF s_ v_) FUEL (0)) fun o=>match o with
 | .ret v=>some v
 | .brk _=>
 some (-1)
def jg (s_:(List Int)) (v_:Int):Option Bool:=
 (tL s_ v_).bind fun r_=>
 some (decide (0≤r_))
def qP (p:au) (s_:State) (b:Int):Int→Option (bD Int (Ex Unit Bool)):=
 fun t22=>
 bif (decide (t22<(p.sources.length:Int)))then
 aJ ((0:Int)≤t22∧t22<(p.sources.length:Int)) (
 aJ (gB [((decide (((at' p.sources t22.toNat).bus)=b)),true)]=true→(0:Int)≤t22∧t22<(s_.on_.length:Int)) (
 bif (bif (decide (((at' p.sources t22.toNat).bus)=b))then(at' s_.on_ t22.toNat)else false)then
 some (.done (.ret false))
 else
 some (.next (IntKind.wrap .i64 (t22+1)))))
 else
 some (.done (.brk ()))
def qU (p:au) (s_:State) (t:Task) (b:Int):Int→Option (bD Int (Ex Unit Bool)):=
 fun t42=>
 bif (decide (t42<(p.links.length:Int)))then
 aJ ((0:Int)≤t42∧t42<(p.links.length:Int)) (
 (bif gB [((bif (!decide (((at' p.links t42.toNat).a)=b))then(!decide (((at' p.links t42.toNat).b)=b))else false),false)]then jg t.crew (IntKind.wrap .i64 ((IntKind.wrap .i64 (((at' p.links t42.toNat).a)+((at' p.links t42.toNat).b))) - b))else some default).bind fun r_=>
 bif (bif (bif (!decide (((at' p.links t42.toNat).a)=b))then(!decide (((at' p.links t42.toNat).b)=b))else false)then true else r_)then
 some (.next (IntKind.wrap .i64 (t42+1)))
 else
 aJ ((gB [((decide (((at' p.links t42.toNat).kind)=1)),false)]=true→(0:Int)≤t42∧t42<(s_.closed.length:Int))∧(gB [((bif (decide (((at' p.links t42.toNat).kind)=1))then true else(at' s_.closed t42.toNat)),false)]=true→(0:Int)≤t42∧t42<(s_.locked.length:Int))) (
 bif (bif (bif (decide (((at' p.links t42.toNat).kind)=1))then true else(at' s_.closed t42.toNat))then true else(!(at' s_.locked t42.toNat)))then
 some (.done (.ret false))
 else
 some (.next (IntKind.wrap .i64 (t42+1)))))
 else
 some (.done (.brk ()))
def rE (p:au) (s_:State) (t:Task) (b:Int):Option Bool:=
 aJ ((0:Int)≤b∧b<(s_.earthed.length:Int)) (
 bif (!(at' s_.earthed b.toNat))then
 some false
 else
 Option.bind (aB (qP p s_ b) FUEL (0)) fun o=>match o with
 | .ret v=>some v
 | .brk _=>
 Option.bind (aB (qU p s_ t b) FUEL (0)) fun o=>match o with
 | .ret v=>some v
 | .brk _=>
 some true)
def qQ (b:Int) (x1:Int) (x11:(List Source)) (x12:(List Link)) (x13:(List aU)) (x2:(List Bool)) (x21:(List Bool)) (x22:(List Bool)) (x23:(List Bool)) (x24:(List Bool)) (x25:(List Bool)) (x26:(List Bool)) (x3:(List Int)) (x31:(List Int)) (x32:(List af)) (x33:(List af)):Option Bool:=
 (rE (⟨x1,x11,x12,x13⟩:au) (⟨x2,x21,x22,x23,x24,x25,x26⟩:State) (⟨x3,x31,x32,x33⟩:Task) b).bind fun r_=>
 some (!r_)
def gU (s_:(List Int)) (f_:Int) (f_1:(List Source)) (f_2:(List Link)) (f_3:(List aU)) (f_4:(List Bool)) (f_5:(List Bool)) (f_6:(List Bool)) (f_7:(List Bool)) (f_8:(List Bool)) (f_9:(List Bool)) (f_10:(List Bool)) (f_11:(List Int)) (f_12:(List Int)) (f_13:(List af)) (f_14:(List af)):Int→Option (bD Int (Ex Unit Int)):=
 fun t8=>
 bif (decide (t8<(s_.length:Int)))then
 (qQ (at' s_ t8.toNat) f_ f_1 f_2 f_3 f_4 f_5 f_6 f_7 f_8 f_9 f_10 f_11 f_12 f_13 f_14).bind fun r_=>
 aJ ((0:Int)≤t8∧t8<(s_.length:Int)) (
 bif r_ then
 some (.done (.ret t8))
 else
 some (.next (IntKind.wrap .i64 (t8+1))))
 else
 some (.done (.brk ()))
def jA (s_:(List Int)) (f_:Int) (f_1:(List Source)) (f_2:(List Link)) (f_3:(List aU)) (f_4:(List Bool)) (f_5:(List Bool)) (f_6:(List Bool)) (f_7:(List Bool)) (f_8:(List Bool)) (f_9:(List Bool)) (f_10:(List Bool)) (f_11:(List Int)) (f_12:(List Int)) (f_13:(List af)) (f_14:(List af)):Option Int:=
 Option.bind (aB (gU s_ f_ f_1 f_2 f_3 f_4 f_5 f_6 f_7 f_8 f_9 f_10 f_11 f_12 f_13 f_14) FUEL (0)) fun o=>match o with
 | .ret v=>some v
 | .brk _=>
 some (-1)
def fo (s_:(List Int)) (f_:Int) (f_1:(List Source)) (f_2:(List Link)) (f_3:(List aU)) (f_4:(List Bool)) (f_5:(List Bool)) (f_6:(List Bool)) (f_7:(List Bool)) (f_8:(List Bool)) (f_9:(List Bool)) (f_10:(List Bool)) (f_11:(List Int)) (f_12:(List Int)) (f_13:(List af)) (f_14:(List af)):Option Bool:=
 (jA s_ f_ f_1 f_2 f_3 f_4 f_5 f_6 f_7 f_8 f_9 f_10 f_11 f_12 f_13 f_14).bind fun r_=>
 some (decide (0≤r_))
def mP (s_:State) (r_:((List Bool) × Int)):Int→Option (bD Int (Ex Unit Int)):=
 fun t23=>
 bif (decide (t23<(r_.1.length:Int)))then
 aJ ((0:Int)≤t23∧t23<(r_.1.length:Int)) (
 aJ (gB [((at' r_.1 t23.toNat),true)]=true→(0:Int)≤t23∧t23<(s_.earthed.length:Int)) (
 bif (bif (at' r_.1 t23.toNat)then(at' s_.earthed t23.toNat)else false)then
 some (.done (.ret 40))
 else
 some (.next (IntKind.wrap .i64 (t23+1)))))
 else
 some (.done (.brk ()))
def nH (p:au) (s_:State) (t:Task):Option Int:=
 (fZ p s_).bind fun r_=>
 Option.bind (aB (mP s_ r_) FUEL (0)) fun o=>match o with
 | .ret v=>some v
 | .brk _=>
 (nI p s_).bind fun r_1=>
 bif (decide (0<(r_1.1.length:Int)))then
 some 41
 else
 (uD p s_).bind fun r_2=>
 (fq t.fed r_2.1).bind fun r_3=>
 bif r_3 then
 some 42
 else
 (fo t.crew p.buses p.sources p.links p.racks s_.closed s_.locked s_.badLink s_.on_ s_.badSource s_.earthed s_.badBus t.fed t.crew t.allowed t.goal).bind fun r_4=>
 bif r_4 then
 some 45
 else
 some 0
def eG (p:au) (s_:State) (t:Task):Option Int:=
 (dL p s_).bind fun r_=>
 bif (!decide (r_=0))then
 some r_
 else
 (oL p t).bind fun r_1=>
 bif (!r_1)then
 some 1
 else
 (nH p s_ t).bind fun r_2=>
 some r_2
def nD (s_:State):Option (List Bool):=
 some (Gb 280 (Gb 280 (Gb 280 (Gb 280 (Gb 280 (Gb 280 (Gb 280 (List.replicate 280 false) 0 s_.closed (Nat.min s_.closed.length 280)) 40 s_.locked (Nat.min s_.locked.length 240)) 80 s_.badLink (Nat.min s_.badLink.length 200)) 120 s_.on_ (Nat.min s_.on_.length 160)) 160 s_.badSource (Nat.min s_.badSource.length 120)) 200 s_.earthed (Nat.min s_.earthed.length 80)) 240 s_.badBus (Nat.min s_.badBus.length 40))
def pE (s_:(List Bool)) (s_nn:Bool):Option (List Bool):=
 bif (!s_nn)then
 some ([]:List Bool)
 else
 aJ (((([]:List Bool).length+s_.length)*1≤140737488355328)∧(([]:List Bool).length+s_.length≤4611686018427387904)) (
 some (([]:List Bool)++s_))
def aj (s:(List Bool)):Option (List Bool):=pE s true
def jJ (s_:State):Option State:=
 aJ ((0:Int)≤0∧0<(7:Int)) (
 (aj s_.closed).bind fun r_=>
 aJ ((0:Int)≤1∧1<(7:Int)) (
 (aj s_.locked).bind fun r_1=>
 aJ ((0:Int)≤2∧2<(7:Int)) (
 (aj s_.badLink).bind fun r_2=>
 aJ ((0:Int)≤3∧3<(7:Int)) (
 (aj s_.on_).bind fun r_3=>
 aJ ((0:Int)≤4∧4<(7:Int)) (
 (aj s_.badSource).bind fun r_4=>
 aJ ((0:Int)≤5∧5<(7:Int)) (
 (aj s_.earthed).bind fun r_5=>
 aJ ((0:Int)≤6∧6<(7:Int)) (
 (aj s_.badBus).bind fun r_6=>
 some (⟨r_,r_1,r_2,r_3,r_4,r_5,r_6⟩:State))))))))
def nk:Option Unit:=
 some ()
def nN (s_:(List Bool)) (s_1:(List Bool)) (s_2:(List Bool)) (s_3:(List Bool)) (s_4:(List Bool)) (s_5:(List Bool)) (s_6:(List Bool)):Option ((List Bool) × (List Bool) × (List Bool) × (List Bool) × (List Bool) × (List Bool) × (List Bool)):=
 some (s_,s_1,s_2,s_3,s_4,s_5,s_6)
def nL (s_:(List Bool)) (s_1:(List Bool)) (s_2:(List Bool)) (s_3:(List Bool)) (s_4:(List Bool)) (s_5:(List Bool)) (s_6:(List Bool)):Option ((List Bool) × (List Bool) × (List Bool) × (List Bool) × (List Bool) × (List Bool) × (List Bool)):=
 some (s_,s_1,s_2,s_3,s_4,s_5,s_6)
def nT (s_:(List Bool)) (s_1:(List Bool)) (s_2:(List Bool)) (s_3:(List Bool)) (s_4:(List Bool)) (s_5:(List Bool)) (s_6:(List Bool)):Option ((List Bool) × (List Bool) × (List Bool) × (List Bool) × (List Bool) × (List Bool) × (List Bool)):=
 some (s_,s_1,s_2,s_3,s_4,s_5,s_6)
def nO (s_:(List Bool)) (s_1:(List Bool)) (s_2:(List Bool)) (s_3:(List Bool)) (s_4:(List Bool)) (s_5:(List Bool)) (s_6:(List Bool)):Option ((List Bool) × (List Bool) × (List Bool) × (List Bool) × (List Bool) × (List Bool) × (List Bool)):=
 some (s_,s_1,s_2,s_3,s_4,s_5,s_6)
def mZ (s_:State) (x:af):Option Bool:=
 (nk).bind fun r_=>
 bif (aY x.deed 1)then
 (nN s_.closed s_.locked s_.badLink s_.on_ s_.badSource s_.earthed s_.badBus).bind fun r_1=>
 aJ ((0:Int)≤x.index∧x.index<(r_1.1.length:Int)) (
 some ((at' r_1.1 x.index.toNat)==false))
 else
 bif (aY x.deed 2)then
 (nN s_.closed s_.locked s_.badLink s_.on_ s_.badSource s_.earthed s_.badBus).bind fun r_2=>
 aJ ((0:Int)≤x.index∧x.index<(r_2.1.length:Int)) (
 some ((at' r_2.1 x.index.toNat)==true))
 else
 bif (aY x.deed 3)then
 (nL s_.closed s_.locked s_.badLink s_.on_ s_.badSource s_.earthed s_.badBus).bind fun r_3=>
 aJ ((0:Int)≤x.index∧x.index<(r_3.2.2.2.2.2.1.length:Int)) (
 some ((at' r_3.2.2.2.2.2.1 x.index.toNat)==true))
 else
 bif (aY x.deed 4)then
 (nL s_.closed s_.locked s_.badLink s_.on_ s_.badSource s_.earthed s_.badBus).bind fun r_4=>
 aJ ((0:Int)≤x.index∧x.index<(r_4.2.2.2.2.2.1.length:Int)) (
 some ((at' r_4.2.2.2.2.2.1 x.index.toNat)==false))
 else
 bif (aY x.deed 5)then
 (nT s_.closed s_.locked s_.badLink s_.on_ s_.badSource s_.earthed s_.badBus).bind fun r_5=>
 aJ ((0:Int)≤x.index∧x.index<(r_5.2.1.length:Int)) (
 some ((at' r_5.2.1 x.index.toNat)==true))
 else
 bif (aY x.deed 6)then
 (nT s_.closed s_.locked s_.badLink s_.on_ s_.badSource s_.earthed s_.badBus).bind fun r_6=>
 aJ ((0:Int)≤x.index∧x.index<(r_6.2.1.length:Int)) (
 some ((at' r_6.2.1 x.index.toNat)==false))
 else
 bif (aY x.deed 7)then
 (nO s_.closed s_.locked s_.badLink s_.on_ s_.badSource s_.earthed s_.badBus).bind fun r_7=>
 aJ ((0:Int)≤x.index∧x.index<(r_7.2.2.2.1.length:Int)) (
 some ((at' r_7.2.2.2.1 x.index.toNat)==true))
 else
 bif (aY x.deed 8)then
 (nO s_.closed s_.locked s_.badLink s_.on_ s_.badSource s_.earthed s_.badBus).bind fun r_8=>
 aJ ((0:Int)≤x.index∧x.index<(r_8.2.2.2.1.length:Int)) (
 some ((at' r_8.2.2.2.1 x.index.toNat)==false))
 else
 none
def vH (x:af) (x1:(List Bool)) (x11:(List Bool)) (x12:(List Bool)) (x13:(List Bool)) (x14:(List Bool)) (x15:(List Bool)) (x16:(List Bool)):Option Bool:=
 (mZ (⟨x1,x11,x12,x13,x14,x15,x16⟩:State) x).bind fun r_=>
 some (!r_)
def gX (s_:(List af)) (f_:(List Bool)) (f_1:(List Bool)) (f_2:(List Bool)) (f_3:(List Bool)) (f_4:(List Bool)) (f_5:(List Bool)) (f_6:(List Bool)):Int→Option (bD Int (Ex Unit Int)):=
 fun t8=>
 bif (decide (t8<(s_.length:Int)))then
 (vH (at' s_ t8.toNat) f_ f_1 f_2 f_3 f_4 f_5 f_6).bind fun r_=>
 aJ ((0:Int)≤t8∧t8<(s_.length:Int)) (
 bif r_ then
 some (.done (.ret t8))
 else
 some (.next (IntKind.wrap .i64 (t8+1))))
 else
 some (.done (.brk ()))
def jv (s_:(List af)) (f_:(List Bool)) (f_1:(List Bool)) (f_2:(List Bool)) (f_3:(List Bool)) (f_4:(List Bool)) (f_5:(List Bool)) (f_6:(List Bool)):Option Int:=
 Option.bind (aB (gX s_ f_ f_1 f_2 f_3 f_4 f_5 f_6) FUEL (0)) fun o=>match o with
 | .ret v=>some v
 | .brk _=>
 some (-1)
def fw (s_:(List af)) (f_:(List Bool)) (f_1:(List Bool)) (f_2:(List Bool)) (f_3:(List Bool)) (f_4:(List Bool)) (f_5:(List Bool)) (f_6:(List Bool)):Option Bool:=
 (jv s_ f_ f_1 f_2 f_3 f_4 f_5 f_6).bind fun r_=>
 some (decide (0≤r_))
def lU (s_:State) (l:(List af)):Option Bool:=
 (fw l s_.closed s_.locked s_.badLink s_.on_ s_.badSource s_.earthed s_.badBus).bind fun r_=>
 some (!r_)
def dM (s_:State) (from_:Int) (by_:af) (search:Search):Option (Bool × Search):=
 (nD s_).bind fun r_=>
 bif ((bA (rX 280) r_ search.known).getD false)then
 some (false,search)
 else
 aJ (((search.l.length+[(⟨s_,from_,by_⟩:Reached)].length)*192≤140737488355328)∧(search.l.length+[(⟨s_,from_,by_⟩:Reached)].length≤4611686018427387904)) (
 some (true,(⟨(search.l++[(⟨s_,from_,by_⟩:Reached)]),(fB (rX 280) r_ true search.known)⟩:Search)))
def cK (search:Search):Option Unit:=
 some ()
def qK:Option Unit:=
 some ()
def oG (p:au) (s_:State) (x:af):Option Bool:=
 (l7 p x).bind fun r_=>
 some (!r_)
def pz (p:au) (s_:State) (x:af):Option Bool:=
 (mZ s_ x).bind fun r_=>
 some r_
def fJ (x:af):Option Bool:=
 some (bif (decide (x.deed=1))then true else(decide (x.deed=2)))
def wZ (x:af):Option Bool:=
 some (bif (decide (x.deed=7))then true else(decide (x.deed=8)))
def lM (p:au) (s_:State) (x:af):Option Bool:=
 (fJ x).bind fun r_=>
 (bif gB [((bif r_ then(at' s_.badLink x.index.toNat)else false),false)]then wZ x else some default).bind fun r_1=>
 aJ ((gB [(r_,true)]=true→(0:Int)≤x.index∧x.index<(s_.badLink.length:Int))∧(gB [(r_1,true),((bif r_ then(at' s_.badLink x.index.toNat)else false),false)]=true→(0:Int)≤x.index∧x.index<(s_.badSource.length:Int))) (
 some (bif (bif r_ then(at' s_.badLink x.index.toNat)else false)then true else(bif r_1 then(at' s_.badSource x.index.toNat)else false)))
def lG (p:au) (s_:State) (x:af):Option Bool:=
 (fJ x).bind fun r_=>
 aJ (gB [(r_,true)]=true→(0:Int)≤x.index∧x.index<(s_.locked.length:Int)) (
 some (bif r_ then(at' s_.locked x.index.toNat)else false))
def jY (state:State):Option Unit:=
 some ()
def jV (state:State):Option Unit:=
 some ()
def ku (state:State):Option Unit:=
 some ()
def kE (state:State):Option Unit:=
 some ()
def mH (s_:State) (x:af):Option State:=
 (nk).bind fun r_=>
 bif (aY x.deed 1)then
 aJ ((0:Int)≤0∧0<(7:Int)) (
 (aj s_.closed).bind fun r_1=>
 aJ ((0:Int)≤1∧1<(7:Int)) (
 (aj s_.locked).bind fun r_2=>
 aJ ((0:Int)≤2∧2<(7:Int)) (
 (aj s_.badLink).bind fun r_3=>
 aJ ((0:Int)≤3∧3<(7:Int)) (
 (aj s_.on_).bind fun r_4=>
 aJ ((0:Int)≤4∧4<(7:Int)) (
 (aj s_.badSource).bind fun r_5=>
 aJ ((0:Int)≤5∧5<(7:Int)) (
 (aj s_.earthed).bind fun r_6=>
 aJ ((0:Int)≤6∧6<(7:Int)) (
 (aj s_.badBus).bind fun r_7=>
 (jY (⟨r_1,r_2,r_3,r_4,r_5,r_6,r_7⟩:State)).bind fun r_8=>
 aJ ((0:Int)≤x.index∧x.index<(r_1.length:Int)) (
 some (⟨(r_1.set x.index.toNat false),r_2,r_3,r_4,r_5,r_6,r_7⟩:State)))))))))
 else
 bif (aY x.deed 2)then
 aJ ((0:Int)≤0∧0<(7:Int)) (
 (aj s_.closed).bind fun r_9=>
 aJ ((0:Int)≤1∧1<(7:Int)) (
 (aj s_.locked).bind fun r_10=>
 aJ ((0:Int)≤2∧2<(7:Int)) (
 (aj s_.badLink).bind fun r_11=>
 aJ ((0:Int)≤3∧3<(7:Int)) (
 (aj s_.on_).bind fun r_12=>
 aJ ((0:Int)≤4∧4<(7:Int)) (
 (aj s_.badSource).bind fun r_13=>
 aJ ((0:Int)≤5∧5<(7:Int)) (
 (aj s_.earthed).bind fun r_14=>
 aJ ((0:Int)≤6∧6<(7:Int)) (
 (aj s_.badBus).bind fun r_15=>
 (jY (⟨r_9,r_10,r_11,r_12,r_13,r_14,r_15⟩:State)).bind fun r_16=>
 aJ ((0:Int)≤x.index∧x.index<(r_9.length:Int)) (
 some (⟨(r_9.set x.index.toNat true),r_10,r_11,r_12,r_13,r_14,r_15⟩:State)))))))))
 else
 bif (aY x.deed 3)then
 aJ ((0:Int)≤0∧0<(7:Int)) (
 (aj s_.closed).bind fun r_17=>
 aJ ((0:Int)≤1∧1<(7:Int)) (
 (aj s_.locked).bind fun r_18=>
 aJ ((0:Int)≤2∧2<(7:Int)) (
 (aj s_.badLink).bind fun r_19=>
 aJ ((0:Int)≤3∧3<(7:Int)) (
 (aj s_.on_).bind fun r_20=>
 aJ ((0:Int)≤4∧4<(7:Int)) (
 (aj s_.badSource).bind fun r_21=>
 aJ ((0:Int)≤5∧5<(7:Int)) (
 (aj s_.earthed).bind fun r_22=>
 aJ ((0:Int)≤6∧6<(7:Int)) (
 (aj s_.badBus).bind fun r_23=>
 (jV (⟨r_17,r_18,r_19,r_20,r_21,r_22,r_23⟩:State)).bind fun r_24=>
 aJ ((0:Int)≤x.index∧x.index<(r_22.length:Int)) (
 some (⟨r_17,r_18,r_19,r_20,r_21,(r_22.set x.index.toNat true),r_23⟩:State)))))))))
 else
 bif (aY x.deed 4)then
 aJ ((0:Int)≤0∧0<(7:Int)) (
 (aj s_.closed).bind fun r_25=>
 aJ ((0:Int)≤1∧1<(7:Int)) (
 (aj s_.locked).bind fun r_26=>
 aJ ((0:Int)≤2∧2<(7:Int)) (
 (aj s_.badLink).bind fun r_27=>
 aJ ((0:Int)≤3∧3<(7:Int)) (
 (aj s_.on_).bind fun r_28=>
 aJ ((0:Int)≤4∧4<(7:Int)) (
 (aj s_.badSource).bind fun r_29=>
 aJ ((0:Int)≤5∧5<(7:Int)) (
 (aj s_.earthed).bind fun r_30=>
 aJ ((0:Int)≤6∧6<(7:Int)) (
 (aj s_.badBus).bind fun r_31=>
 (jV (⟨r_25,r_26,r_27,r_28,r_29,r_30,r_31⟩:State)).bind fun r_32=>
 aJ ((0:Int)≤x.index∧x.index<(r_30.length:Int)) (
 some (⟨r_25,r_26,r_27,r_28,r_29,(r_30.set x.index.toNat false),r_31⟩:State)))))))))
 else
 bif (aY x.deed 5)then
 aJ ((0:Int)≤0∧0<(7:Int)) (
 (aj s_.closed).bind fun r_33=>
 aJ ((0:Int)≤1∧1<(7:Int)) (
 (aj s_.locked).bind fun r_34=>
 aJ ((0:Int)≤2∧2<(7:Int)) (
 (aj s_.badLink).bind fun r_35=>
 aJ ((0:Int)≤3∧3<(7:Int)) (
 (aj s_.on_).bind fun r_36=>
 aJ ((0:Int)≤4∧4<(7:Int)) (
 (aj s_.badSource).bind fun r_37=>
 aJ ((0:Int)≤5∧5<(7:Int)) (
 (aj s_.earthed).bind fun r_38=>
 aJ ((0:Int)≤6∧6<(7:Int)) (
 (aj s_.badBus).bind fun r_39=>
 (ku (⟨r_33,r_34,r_35,r_36,r_37,r_38,r_39⟩:State)).bind fun r_40=>
 aJ ((0:Int)≤x.index∧x.index<(r_34.length:Int)) (
 some (⟨r_33,(r_34.set x.index.toNat true),r_35,r_36,r_37,r_38,r_39⟩:State)))))))))
 else
 bif (aY x.deed 6)then
 aJ ((0:Int)≤0∧0<(7:Int)) (
 (aj s_.closed).bind fun r_41=>
 aJ ((0:Int)≤1∧1<(7:Int)) (
 (aj s_.locked).bind fun r_42=>
 aJ ((0:Int)≤2∧2<(7:Int)) (
 (aj s_.badLink).bind fun r_43=>
 aJ ((0:Int)≤3∧3<(7:Int)) (
 (aj s_.on_).bind fun r_44=>
 aJ ((0:Int)≤4∧4<(7:Int)) (
 (aj s_.badSource).bind fun r_45=>
 aJ ((0:Int)≤5∧5<(7:Int)) (
 (aj s_.earthed).bind fun r_46=>
 aJ ((0:Int)≤6∧6<(7:Int)) (
 (aj s_.badBus).bind fun r_47=>
 (ku (⟨r_41,r_42,r_43,r_44,r_45,r_46,r_47⟩:State)).bind fun r_48=>
 aJ ((0:Int)≤x.index∧x.index<(r_42.length:Int)) (
 some (⟨r_41,(r_42.set x.index.toNat false),r_43,r_44,r_45,r_46,r_47⟩:State)))))))))
 else
 bif (aY x.deed 7)then
 aJ ((0:Int)≤0∧0<(7:Int)) (
 (aj s_.closed).bind fun r_49=>
 aJ ((0:Int)≤1∧1<(7:Int)) (
 (aj s_.locked).bind fun r_50=>
 aJ ((0:Int)≤2∧2<(7:Int)) (
 (aj s_.badLink).bind fun r_51=>
 aJ ((0:Int)≤3∧3<(7:Int)) (
 (aj s_.on_).bind fun r_52=>
 aJ ((0:Int)≤4∧4<(7:Int)) (
 (aj s_.badSource).bind fun r_53=>
 aJ ((0:Int)≤5∧5<(7:Int)) (
 (aj s_.earthed).bind fun r_54=>
 aJ ((0:Int)≤6∧6<(7:Int)) (
 (aj s_.badBus).bind fun r_55=>
 (kE (⟨r_49,r_50,r_51,r_52,r_53,r_54,r_55⟩:State)).bind fun r_56=>
 aJ ((0:Int)≤x.index∧x.index<(r_52.length:Int)) (
 some (⟨r_49,r_50,r_51,(r_52.set x.index.toNat true),r_53,r_54,r_55⟩:State)))))))))
 else
 bif (aY x.deed 8)then
 aJ ((0:Int)≤0∧0<(7:Int)) (
 (aj s_.closed).bind fun r_57=>
 aJ ((0:Int)≤1∧1<(7:Int)) (
 (aj s_.locked).bind fun r_58=>
 aJ ((0:Int)≤2∧2<(7:Int)) (
 (aj s_.badLink).bind fun r_59=>
 aJ ((0:Int)≤3∧3<(7:Int)) (
 (aj s_.on_).bind fun r_60=>
 aJ ((0:Int)≤4∧4<(7:Int)) (
 (aj s_.badSource).bind fun r_61=>
 aJ ((0:Int)≤5∧5<(7:Int)) (
 (aj s_.earthed).bind fun r_62=>
 aJ ((0:Int)≤6∧6<(7:Int)) (
 (aj s_.badBus).bind fun r_63=>
 (kE (⟨r_57,r_58,r_59,r_60,r_61,r_62,r_63⟩:State)).bind fun r_64=>
 aJ ((0:Int)≤x.index∧x.index<(r_60.length:Int)) (
 some (⟨r_57,r_58,r_59,(r_60.set x.index.toNat false),r_61,r_62,r_63⟩:State)))))))))
 else
 aJ ((0:Int)≤0∧0<(7:Int)) (
 (aj s_.closed).bind fun r_65=>
 aJ ((0:Int)≤1∧1<(7:Int)) (
 (aj s_.locked).bind fun r_66=>
 aJ ((0:Int)≤2∧2<(7:Int)) (
 (aj s_.badLink).bind fun r_67=>
 aJ ((0:Int)≤3∧3<(7:Int)) (
 (aj s_.on_).bind fun r_68=>
 aJ ((0:Int)≤4∧4<(7:Int)) (
 (aj s_.badSource).bind fun r_69=>
 aJ ((0:Int)≤5∧5<(7:Int)) (
 (aj s_.earthed).bind fun r_70=>
 aJ ((0:Int)≤6∧6<(7:Int)) (
 (aj s_.badBus).bind fun r_71=>
 none)))))))
def kP (p:au) (s_:State):Option ((List aI) × Int):=
 (dL p s_).bind fun r_=>
 bif (!decide (r_=0))then
 some (([]:List aI),r_)
 else
 (fC p s_).bind fun r_1=>
 some (r_1,0)
def qg (x:aI) (x1:Int):Option Bool:=
 (jg x.buses x1).bind fun r_=>
 some r_
def fU (s_:(List aI)) (f_:Int):Int→Option (bD Int (Ex Unit Int)):=
 fun t8=>
 bif (decide (t8<(s_.length:Int)))then
 (qg (at' s_ t8.toNat) f_).bind fun r_=>
 aJ ((0:Int)≤t8∧t8<(s_.length:Int)) (
 bif r_ then
 some (.done (.ret t8))
 else
 some (.next (IntKind.wrap .i64 (t8+1))))
 else
 some (.done (.brk ()))
def d9 (s_:(List aI)) (f_:Int):Option Int:=
 Option.bind (aB (fU s_ f_) FUEL (0)) fun o=>match o with
 | .ret v=>some v
 | .brk _=>
 some (-1)
def iC (b:Int) (x1:(List aI)):Option Int:=
 (d9 x1 b).bind fun r_=>
 some r_
def rJ (p:au) (s_:State) (i:Int):Option Bool:=
 aJ ((0:Int)≤i∧i<(s_.closed.length:Int)) (
 bif (at' s_.closed i.toNat)then
 (mH s_ (⟨1,i⟩:af)).bind fun r_=>
 (kP p r_).bind fun r_1=>
 (iC ((at' p.links i.toNat).a) r_1.1).bind fun r_2=>
 (iC ((at' p.links i.toNat).b) r_1.1).bind fun r_3=>
 aJ ((0:Int)≤i∧i<(p.links.length:Int)) (
 aJ ((gB [((bif (bif (decide (0≤r_2))then(decide (0≤r_3))else false)then(!decide (r_2=r_3))else false),true)]=true→(0:Int)≤r_2∧r_2<(r_1.1.length:Int))∧(gB [((bif (bif (decide (0≤r_2))then(decide (0≤r_3))else false)then(!decide (r_2=r_3))else false),true)]=true→(0:Int)≤r_3∧r_3<(r_1.1.length:Int))) (
 some (bif (bif (bif (decide (0≤r_2))then(decide (0≤r_3))else false)then(!decide (r_2=r_3))else false)then(decide (0<(IntKind.wrap .i64 ((((at' r_1.1 r_2.toNat).sources).length:Int)+(((at' r_1.1 r_3.toNat).sources).length:Int)))))else false)))
 else
 (kP p s_).bind fun r_4=>
 (iC ((at' p.links i.toNat).a) r_4.1).bind fun r_5=>
 (iC ((at' p.links i.toNat).b) r_4.1).bind fun r_6=>
 aJ ((0:Int)≤i∧i<(p.links.length:Int)) (
 aJ ((gB [((bif (bif (decide (0≤r_5))then(decide (0≤r_6))else false)then(!decide (r_5=r_6))else false),true)]=true→(0:Int)≤r_5∧r_5<(r_4.1.length:Int))∧(gB [((bif (bif (decide (0≤r_5))then(decide (0≤r_6))else false)then(!decide (r_5=r_6))else false),true)]=true→(0:Int)≤r_6∧r_6<(r_4.1.length:Int))) (
 some (bif (bif (bif (decide (0≤r_5))then(decide (0≤r_6))else false)then(!decide (r_5=r_6))else false)then(decide (0<(IntKind.wrap .i64 ((((at' r_4.1 r_5.toNat).sources).length:Int)+(((at' r_4.1 r_6.toNat).sources).length:Int)))))else false))))
def lS (p:au) (s_:State) (x:af):Option Bool:=
 (fJ x).bind fun r_=>
 (bif gB [((bif r_ then(decide (((at' p.links x.index.toNat).kind)=2))else false),true)]then rJ p s_ x.index else some default).bind fun r_1=>
 aJ (gB [(r_,true)]=true→(0:Int)≤x.index∧x.index<(p.links.length:Int)) (
 some (bif (bif r_ then(decide (((at' p.links x.index.toNat).kind)=2))else false)then r_1 else false))
def sQ (p:au) (s_:State) (x:af):Option (State × Int):=
 (qK).bind fun r_=>
 (oG p s_ x).bind fun r_1=>
 bif r_1 then
 some ((⟨([]:List Bool),([]:List Bool),([]:List Bool),([]:List Bool),([]:List Bool),([]:List Bool),([]:List Bool)⟩:State),1)
 else
 (pz p s_ x).bind fun r_2=>
 bif r_2 then
 some ((⟨([]:List Bool),([]:List Bool),([]:List Bool),([]:List Bool),([]:List Bool),([]:List Bool),([]:List Bool)⟩:State),46)
 else
 (lM p s_ x).bind fun r_3=>
 bif r_3 then
 some ((⟨([]:List Bool),([]:List Bool),([]:List Bool),([]:List Bool),([]:List Bool),([]:List Bool),([]:List Bool)⟩:State),47)
 else
 (lG p s_ x).bind fun r_4=>
 bif r_4 then
 some ((⟨([]:List Bool),([]:List Bool),([]:List Bool),([]:List Bool),([]:List Bool),([]:List Bool),([]:List Bool)⟩:State),43)
 else
 (lS p s_ x).bind fun r_5=>
 bif r_5 then
 some ((⟨([]:List Bool),([]:List Bool),([]:List Bool),([]:List Bool),([]:List Bool),([]:List Bool),([]:List Bool)⟩:State),44)
 else
 (mH s_ x).bind fun r_6=>
 some (r_6,0)
def mI (p:au) (s_:State) (t:Task) (x:af):Option (State × Int):=
 (sQ p s_ x).bind fun r_=>
 bif (decide (r_.2=0))then
 (nH p r_.1 t).bind fun r_1=>
 some (r_.1,r_1)
 else
 some (r_.1,r_.2)
def bN (x50:Int) (x51:(List Bool)) (x511:(List Bool)) (x512:(List Bool)) (x513:(List Bool)) (x514:(List Bool)) (x515:(List Bool)) (x516:(List Bool)) (plant:au) (task:Task) (int:Int) (step:(List af)) (state:(List State)) (errno:Int):((List Reached) × (List ((List Bool) × Bool)) × Int × Int)→Option (bD ((List Reached) × (List ((List Bool) × Bool)) × Int × Int) (Ex ((List Reached) × (List ((List Bool) × Bool)) × Int) (Nat × (List af) × (List State) × Int × Int × Search))):=
 fun zz=>match zz with
 |(o1200,o1201,o130,t55)=>
 bif (decide (t55<(task.allowed.length:Int)))then
 aJ ((0:Int)≤t55∧t55<(task.allowed.length:Int)) (
 bif (decide (0≤o130))then
 some (.done (.ret (2,step,state,errno,o130,(⟨o1200,o1201⟩:Search))))
 else
 (mI plant (⟨x51,x511,x512,x513,x514,x515,x516⟩:State) task (at' task.allowed t55.toNat)).bind fun r_=>
 bif (!decide (r_.2=0))then
 some (.next (o1200,o1201,o130,(IntKind.wrap .i64 (t55+1))))
 else
 (dM r_.1 x50 (at' task.allowed t55.toNat) (⟨o1200,o1201⟩:Search)).bind fun r_1=>
 bif (!r_1.1)then
 some (.next (r_1.2.l,r_1.2.known,o130,(IntKind.wrap .i64 (t55+1))))
 else
 bif (decide (int<(r_1.2.l.length:Int)))then
 some (.done (.ret (3,([]:List af),([]:List State),8,o130,r_1.2)))
 else
 (lU r_.1 task.goal).bind fun r_2=>
 bif r_2 then
 some (.next (r_1.2.l,r_1.2.known,(IntKind.wrap .i64 ((r_1.2.l.length:Int) - 1)),(IntKind.wrap .i64 (t55+1))))
 else
 some (.next (r_1.2.l,r_1.2.known,o130,(IntKind.wrap .i64 (t55+1)))))
 else
 some (.done (.brk (o1200,o1201,o130)))
def dm (x50:Int) (x51:(List Bool)) (x511:(List Bool)) (x512:(List Bool)) (x513:(List Bool)) (x514:(List Bool)) (x515:(List Bool)) (x516:(List Bool)) (plant:au) (task:Task) (int:Int) (step:(List af)) (state:(List State)) (errno:Int) (int1:Int) (search:Search):Option (Nat × (List af) × (List State) × Int × Int × Search):=
 Option.bind (aB (bN x50 x51 x511 x512 x513 x514 x515 x516 plant task int step state errno) FUEL (search.l,search.known,int1,0)) fun o=>match o with
 | .ret v=>some v
 | .brk (o12001,o12011,o1301)=>
 some (0,step,state,errno,o1301,(⟨o12001,o12011⟩:Search))
def aX (plant:au) (task:Task) (int:Int):((List af) × (List State) × Int × (List Reached) × (List ((List Bool) × Bool)) × Int × Int)→Option (bD ((List af) × (List State) × Int × (List Reached) × (List ((List Bool) × Bool)) × Int × Int) (Ex ((List af) × (List State) × Int × (List Reached) × (List ((List Bool) × Bool)) × Int) (Nat × (List af) × (List State) × Int × Int × Search))):=
 fun zz=>match zz with
 |(o80,o90,o100,o1200,o1201,o130,i)=>
 bif (decide (i<(o1200.length:Int)))then
 (dm i (((at' o1200 i.toNat).s_).closed) (((at' o1200 i.toNat).s_).locked) (((at' o1200 i.toNat).s_).badLink) (((at' o1200 i.toNat).s_).on_) (((at' o1200 i.toNat).s_).badSource) (((at' o1200 i.toNat).s_).earthed) (((at' o1200 i.toNat).s_).badBus) plant task int o80 o90 o100 o130 (⟨o1200,o1201⟩:Search)).bind fun r_=>
 bif (Nat.beq r_.1 0)then
 aJ ((0:Int)≤i∧i<(o1200.length:Int)) (
 some (.next (r_.2.1,r_.2.2.1,r_.2.2.2.1,r_.2.2.2.2.2.l,r_.2.2.2.2.2.known,r_.2.2.2.2.1,(IntKind.wrap .i64 (i+1)))))
 else
 aJ ((0:Int)≤i∧i<(o1200.length:Int)) (
 some (.done (.ret (r_.1,r_.2.1,r_.2.2.1,r_.2.2.2.1,r_.2.2.2.2.1,r_.2.2.2.2.2))))
 else
 some (.done (.brk (o80,o90,o100,o1200,o1201,o130)))
def bR (plant:au) (task:Task) (int:Int) (step:(List af)) (state:(List State)) (errno:Int) (int1:Int) (search:Search):Option (Nat × (List af) × (List State) × Int × Int × Search):=
 Option.bind (aB (aX plant task int) FUEL (step,state,errno,search.l,search.known,int1,0)) fun o=>match o with
 | .ret v=>some v
 | .brk (o801,o901,o1001,o12001,o12011,o1301)=>
 some (0,o801,o901,o1001,o1301,(⟨o12001,o12011⟩:Search))
def dU  :((List af) × Int × Int)→Option (bD ((List af) × Int × Int) (Ex (List af) (List af))):=
 fun zz=>match zz with
 |(o_,i,j)=>
 bif (decide (i<j))then
 aJ (((0:Int)≤j∧j<(o_.length:Int))∧((0:Int)≤i∧i<(o_.length:Int))) (
 some (.next (((o_.set i.toNat (at' o_ j.toNat)).set j.toNat (at' o_ i.toNat)),(IntKind.wrap .i64 (i+1)),(IntKind.wrap .i64 (j - 1)))))
 else
 some (.done (.brk o_))
def jC (s_:(List af)):Option (List af):=
 Option.bind (aB dU FUEL (s_,0,(IntKind.wrap .i64 ((s_.length:Int) - 1)))) fun o=>match o with
 | .ret v=>some v
 | .brk o_1=>
 some o_1
def dW (search:Search):(Int × (List af))→Option (bD (Int × (List af)) (Ex (List af) (List af))):=
 fun zz=>match zz with
 |(i1,out)=>
 bif (decide (0<i1))then
 aJ (((0:Int)≤i1∧i1<(search.l.length:Int))∧((out.length+[((at' search.l i1.toNat).by_)].length)*16≤140737488355328)∧(out.length+[((at' search.l i1.toNat).by_)].length≤4611686018427387904)) (
 aJ ((0:Int)≤i1∧i1<(search.l.length:Int)) (
 some (.next ((at' search.l i1.toNat).from_,(out++[((at' search.l i1.toNat).by_)])))))
 else
 some (.done (.brk out))
def bW (i:Int) (search:Search):Option (List af):=
 Option.bind (aB (dW search) FUEL (i,([]:List af))) fun o=>match o with
 | .ret v=>some v
 | .brk out1=>
 (jC out1).bind fun r_=>
 aJ (out1.length=r_.length) (
 some r_)
def o5 (x104:Int) (x105:(List Bool)) (x1051:(List Bool)) (x1052:(List Bool)) (x1053:(List Bool)) (x1054:(List Bool)) (x1055:(List Bool)) (x1056:(List Bool)) (state:(List State)):Option (List State):=
 aJ (((state.length+[(⟨x105,x1051,x1052,x1053,x1054,x1055,x1056⟩:State)].length)*168≤140737488355328)∧(state.length+[(⟨x105,x1051,x1052,x1053,x1054,x1055,x1056⟩:State)].length≤4611686018427387904)) (
 some (state++[(⟨x105,x1051,x1052,x1053,x1054,x1055,x1056⟩:State)]))
def bZ (search:Search):((List State) × Int)→Option (bD ((List State) × Int) (Ex (List State) (List State))):=
 fun zz=>match zz with
 |(o200,i)=>
 bif (decide (i<(search.l.length:Int)))then
 (o5 i (((at' search.l i.toNat).s_).closed) (((at' search.l i.toNat).s_).locked) (((at' search.l i.toNat).s_).badLink) (((at' search.l i.toNat).s_).on_) (((at' search.l i.toNat).s_).badSource) (((at' search.l i.toNat).s_).earthed) (((at' search.l i.toNat).s_).badBus) o200).bind fun r_=>
 aJ ((0:Int)≤i∧i<(search.l.length:Int)) (
 some (.next (r_,(IntKind.wrap .i64 (i+1)))))
 else
 some (.done (.brk o200))
def bY (state:(List State)) (search:Search):Option (List State):=
 Option.bind (aB (bZ search) FUEL (state,0)) fun o=>match o with
 | .ret v=>some v
 | .brk o2001=>
 some o2001
def fT (p:au) (s_:State) (t:Task) (most:Int):Option ((List af) × (List State) × Int):=
 (eG p s_ t).bind fun r_=>
 bif (!decide (r_=0))then
 some (([]:List af),([]:List State),r_)
 else
 bif (bif (decide (most<1))then true else(decide (20000<most)))then
 some (([]:List af),([]:List State),1)
 else
 (jJ s_).bind fun r_1=>
 (dM r_1 (-1) (⟨0,0⟩:af) (⟨([]:List Reached),([]:(List ((List Bool) × Bool)))⟩:Search)).bind fun r_2=>
 (lU s_ t.goal).bind fun r_3=>
 bif r_3 then
 (cK r_2.2).bind fun r_4=>
 (bR p t most ([]:List af) ([]:List State) 0 0 r_2.2).bind fun r_5=>
 bif Nat.beq r_5.1 0 then
 bif (decide (0≤r_5.2.2.2.2.1))then
 (bW r_5.2.2.2.2.1 r_5.2.2.2.2.2).bind fun r_6=>
 some (r_6,([]:List State),0)
 else
 (cK r_5.2.2.2.2.2).bind fun r_7=>
 (bY ([]:List State) r_5.2.2.2.2.2).bind fun r_8=>
 some (([]:List af),r_8,4)
 else
 bif Nat.beq r_5.1 2 then
 bif (decide (0≤r_5.2.2.2.2.1))then
 (bW r_5.2.2.2.2.1 r_5.2.2.2.2.2).bind fun r_9=>
 some (r_9,([]:List State),0)
 else
 (cK r_5.2.2.2.2.2).bind fun r_10=>
 (bY ([]:List State) r_5.2.2.2.2.2).bind fun r_11=>
 some (([]:List af),r_11,4)
 else
 aJ (r_5.1=3) (
 some (r_5.2.1,r_5.2.2.1,r_5.2.2.2.1))
 else
 (cK r_2.2).bind fun r_12=>
 (bR p t most ([]:List af) ([]:List State) 0 (-1) r_2.2).bind fun r_13=>
 bif Nat.beq r_13.1 0 then
 bif (decide (0≤r_13.2.2.2.2.1))then
 (bW r_13.2.2.2.2.1 r_13.2.2.2.2.2).bind fun r_14=>
 some (r_14,([]:List State),0)
 else
 (cK r_13.2.2.2.2.2).bind fun r_15=>
 (bY ([]:List State) r_13.2.2.2.2.2).bind fun r_16=>
 some (([]:List af),r_16,4)
 else
 bif Nat.beq r_13.1 2 then
 bif (decide (0≤r_13.2.2.2.2.1))then
 (bW r_13.2.2.2.2.1 r_13.2.2.2.2.2).bind fun r_17=>
 some (r_17,([]:List State),0)
 else
 (cK r_13.2.2.2.2.2).bind fun r_18=>
 (bY ([]:List State) r_13.2.2.2.2.2).bind fun r_19=>
 some (([]:List af),r_19,4)
 else
 aJ (r_13.1=3) (
 some (r_13.2.1,r_13.2.2.1,r_13.2.2.2.1))
def ko (a:(List af)) (b:(List af)):Int→Option (bD Int (Ex Unit Bool)):=
 fun i=>
 bif (decide (i<(a.length:Int)))then
 aJ (((0:Int)≤i∧i<(a.length:Int))∧((0:Int)≤i∧i<(b.length:Int))) (
 bif (!((decide (((at' a i.toNat).deed)=((at' b i.toNat).deed))) && ((decide (((at' a i.toNat).index)=((at' b i.toNat).index))) && true)))then
 some (.done (.ret false))
 else
 some (.next (IntKind.wrap .i64 (i+1))))
 else
 some (.done (.brk ()))
def iN (a:(List af)) (b:(List af)):Option Bool:=
 bif (!decide ((a.length:Int)=(b.length:Int)))then
 some false
 else
 Option.bind (aB (ko a b) FUEL (0)) fun o=>match o with
 | .ret v=>some v
 | .brk _=>
 some true
def dh (p:au) (t:Task) (l:(List State)):((List Reached) × (List ((List Bool) × Bool)) × Int)→Option (bD ((List Reached) × (List ((List Bool) × Bool)) × Int) (Ex ((List Reached) × (List ((List Bool) × Bool))) Int)):=
 fun zz=>match zz with
 |(x0,x1,t34)=>
 bif (decide (t34<(l.length:Int)))then
 aJ ((0:Int)≤t34∧t34<(l.length:Int)) (
 (eG p (at' l t34.toNat) t).bind fun r_1=>
 (bif gB [((!decide (r_1=0)),false)]then lU (at' l t34.toNat) t.goal else some default).bind fun r_2=>
 bif (bif (!decide (r_1=0))then true else r_2)then
 some (.done (.ret 7))
 else
 (dM (at' l t34.toNat) (-1) (⟨0,0⟩:af) (⟨x0,x1⟩:Search)).bind fun r_3=>
 some (.next (r_3.2.l,r_3.2.known,(IntKind.wrap .i64 (t34+1)))))
 else
 some (.done (.brk (x0,x1)))
def kZ (p:au) (t:Task) (l:(List State)) (x11:(List ((List Bool) × Bool))) (t64:Int):Int→Option (bD Int (Ex Unit (bD Int (Ex Unit Int)))):=
 fun t71=>
 bif (decide (t71<(t.allowed.length:Int)))then
 aJ ((0:Int)≤t71∧t71<(t.allowed.length:Int)) (
 (mI p (at' l t64.toNat) t (at' t.allowed t71.toNat)).bind fun r_5=>
 (bif gB [((decide (r_5.2=0)),true)]then nD r_5.1 else some default).bind fun r_6=>
 bif (bif (decide (r_5.2=0))then(!((bA (rX 280) r_6 x11).getD false))else false)then
 some (.done (.ret (.done (.ret 7))))
 else
 some (.next (IntKind.wrap .i64 (t71+1))))
 else
 some (.done (.brk ()))
def lg (p:au) (t:Task) (l:(List State)) (x11:(List ((List Bool) × Bool))):Int→Option (bD Int (Ex Unit Int)):=
 fun t64=>
 bif (decide (t64<(l.length:Int)))then
 aJ ((0:Int)≤t64∧t64<(l.length:Int)) (
 Option.bind (aB (kZ p t l x11 t64) FUEL (0)) fun o=>match o with
 | .ret v=>some v
 | .brk _=>
 some (.next (IntKind.wrap .i64 (t64+1))))
 else
 some (.done (.brk ()))
def jG (p:au) (s_:State) (t:Task) (l:(List State)):Option Int:=
 (eG p s_ t).bind fun r_=>
 bif (!decide (r_=0))then
 some r_
 else
 bif (decide (20000<(l.length:Int)))then
 some 2
 else
 Option.bind (aB (dh p t l) FUEL (([]:List Reached),([]:(List ((List Bool) × Bool))),0)) fun o=>match o with
 | .ret v=>some v
 | .brk (x01,x11)=>
 (nD s_).bind fun r_4=>
 bif (!((bA (rX 280) r_4 x11).getD false))then
 some 7
 else
 Option.bind (aB (lg p t l x11) FUEL (0)) fun o=>match o with
 | .ret v=>some v
 | .brk _=>
 some 0
def qY:Option (au × State):=
 aJ (((0:Int)≤2)∧((1:Int)*2≤281474976710656)∧((2:Int)≤9223372036854775807)∧((0:Int)≤1)∧((1:Int)*1≤281474976710656)∧((1:Int)≤9223372036854775807)∧((0:Int)≤3)∧((1:Int)*3≤281474976710656)∧((3:Int)≤9223372036854775807)) (
 some ((⟨3,[(⟨0,1,500,0,20⟩:Source)],[(⟨0,1,3,400,10,([]:List oZ)⟩:Link),(⟨1,2,2,400,10,([]:List oZ)⟩:Link)],[(⟨(⟨2,(-1)⟩:aC),100,1⟩:aU)]⟩:au),(⟨[true,true],(List.replicate 2 (false:Bool)),(List.replicate 2 (false:Bool)),[true],(List.replicate 1 (false:Bool)),(List.replicate 3 (false:Bool)),(List.replicate 3 (false:Bool))⟩:State)))
def jX (p:au) (s_:State) (x:af):Option (State × Int):=
 (dL p s_).bind fun r_=>
 bif (!decide (r_=0))then
 some ((⟨([]:List Bool),([]:List Bool),([]:List Bool),([]:List Bool),([]:List Bool),([]:List Bool),([]:List Bool)⟩:State),r_)
 else
 (sQ p s_ x).bind fun r_1=>
 some (r_1.1,r_1.2)
def iX (p:au) (t:Task) (l:(List af)):((List Bool) × (List Bool) × (List Bool) × (List Bool) × (List Bool) × (List Bool) × (List Bool) × Int)→Option (bD ((List Bool) × (List Bool) × (List Bool) × (List Bool) × (List Bool) × (List Bool) × (List Bool) × Int) (Ex ((List Bool) × (List Bool) × (List Bool) × (List Bool) × (List Bool) × (List Bool) × (List Bool)) (Int × State × Int))):=
 fun zz=>match zz with
 |(s0,s1,s2,s3,s4,s5,s6,t31)=>
 bif (decide (t31<(l.length:Int)))then
 aJ ((0:Int)≤t31∧t31<(l.length:Int)) (
 (mI p (⟨s0,s1,s2,s3,s4,s5,s6⟩:State) t (at' l t31.toNat)).bind fun r_2=>
 bif (!decide (r_2.2=0))then
 some (.done (.ret (t31,(⟨([]:List Bool),([]:List Bool),([]:List Bool),([]:List Bool),([]:List Bool),([]:List Bool),([]:List Bool)⟩:State),r_2.2)))
 else
 some (.next (r_2.1.closed,r_2.1.locked,r_2.1.badLink,r_2.1.on_,r_2.1.badSource,r_2.1.earthed,r_2.1.badBus,(IntKind.wrap .i64 (t31+1)))))
 else
 some (.done (.brk (s0,s1,s2,s3,s4,s5,s6)))
def cO (p:au) (s_:State) (t:Task) (l:(List af)):Option (Int × State × Int):=
 (eG p s_ t).bind fun r_=>
 bif (!decide (r_=0))then
 some (0,(⟨([]:List Bool),([]:List Bool),([]:List Bool),([]:List Bool),([]:List Bool),([]:List Bool),([]:List Bool)⟩:State),r_)
 else
 bif (decide (256<(l.length:Int)))then
 some (0,(⟨([]:List Bool),([]:List Bool),([]:List Bool),([]:List Bool),([]:List Bool),([]:List Bool),([]:List Bool)⟩:State),2)
 else
 (jJ s_).bind fun r_1=>
 Option.bind (aB (iX p t l) FUEL (r_1.closed,r_1.locked,r_1.badLink,r_1.on_,r_1.badSource,r_1.earthed,r_1.badBus,0)) fun o=>match o with
 | .ret v=>some v
 | .brk (s01,s11,s21,s31,s41,s51,s61)=>
 some ((l.length:Int),(⟨s01,s11,s21,s31,s41,s51,s61⟩:State),0)
def jE (a:(List Bool)) (b:(List Bool)):Int→Option (bD Int (Ex Unit Bool)):=
 fun i=>
 bif (decide (i<(a.length:Int)))then
 aJ (((0:Int)≤i∧i<(a.length:Int))∧((0:Int)≤i∧i<(b.length:Int))) (
 bif (!((at' a i.toNat)==(at' b i.toNat)))then
 some (.done (.ret false))
 else
 some (.next (IntKind.wrap .i64 (i+1))))
 else
 some (.done (.brk ()))
def bT (a:(List Bool)) (b:(List Bool)):Option Bool:=
 bif (!decide ((a.length:Int)=(b.length:Int)))then
 some false
 else
 Option.bind (aB (jE a b) FUEL (0)) fun o=>match o with
 | .ret v=>some v
 | .brk _=>
 some true
def nC:Option Bool:=
 (qY).bind fun r_=>
 (fT r_.1 r_.2 (⟨([]:List Int),([]:List Int),[(⟨1,0⟩:af),(⟨2,0⟩:af),(⟨1,1⟩:af),(⟨2,1⟩:af)],[(⟨1,1⟩:af)]⟩:Task) 100).bind fun r_1=>
 (jX r_.1 r_.2 (⟨1,1⟩:af)).bind fun r_2=>
 bif (bif (bif (!decide (r_1.2.2=0))then true else(!decide (r_2.2=44)))then true else(!decide ((r_1.2.1.length:Int)=0)))then
 some false
 else
 (iN r_1.1 [(⟨1,0⟩:af),(⟨1,1⟩:af)]).bind fun r_3=>
 bif (!r_3)then
 some false
 else
 (cO r_.1 r_.2 (⟨([]:List Int),([]:List Int),([]:List af),([]:List af)⟩:Task) r_1.1).bind fun r_4=>
 bif (bif (!decide (r_4.2.2=0))then true else(!decide (r_4.1=2)))then
 some false
 else
 (bT r_4.2.1.closed [false,false]).bind fun r_5=>
 bif (bif (bif (!r_5)then true else(!decide ((r_4.2.1.locked.length:Int)=2)))then true else(!decide ((r_4.2.1.earthed.length:Int)=3)))then
 some false
 else
 (fT r_.1 r_.2 (⟨[0],([]:List Int),[(⟨1,0⟩:af),(⟨2,0⟩:af),(⟨1,1⟩:af),(⟨2,1⟩:af)],[(⟨1,1⟩:af)]⟩:Task) 100).bind fun r_6=>
 bif (bif (!decide (r_6.2.2=4))then true else(!decide ((r_6.2.1.length:Int)=1)))then
 some false
 else
 (jG r_.1 r_.2 (⟨[0],([]:List Int),[(⟨1,0⟩:af),(⟨2,0⟩:af),(⟨1,1⟩:af),(⟨2,1⟩:af)],[(⟨1,1⟩:af)]⟩:Task) r_6.2.1).bind fun r_7=>
 bif (!decide (r_7=0))then
 some false
 else
 aJ (((0:Int)≤1∧1<(r_4.2.1.locked.length:Int))∧((0:Int)≤2∧2<(r_4.2.1.earthed.length:Int))) (
 (jX r_.1 (⟨r_4.2.1.closed,(r_4.2.1.locked.set 1 true),r_4.2.1.badLink,r_4.2.1.on_,r_4.2.1.badSource,(r_4.2.1.earthed.set 2 true),r_4.2.1.badBus⟩:State) (⟨2,1⟩:af)).bind fun r_8=>
 (cO r_.1 (⟨r_4.2.1.closed,(r_4.2.1.locked.set 1 true),r_4.2.1.badLink,r_4.2.1.on_,r_4.2.1.badSource,(r_4.2.1.earthed.set 2 true),r_4.2.1.badBus⟩:State) (⟨([]:List Int),[2],([]:List af),([]:List af)⟩:Task) [(⟨6,1⟩:af)]).bind fun r_9=>
 bif (bif (bif (decide (r_8.2=43))then(decide (r_9.1=0))else false)then(decide (r_9.2.2=45))else false)then
 (eG r_.1 (⟨r_4.2.1.closed,(r_4.2.1.locked.set 1 true),r_4.2.1.badLink,r_4.2.1.on_,r_4.2.1.badSource,(r_4.2.1.earthed.set 2 true),r_4.2.1.badBus⟩:State) (⟨([]:List Int),[2],([]:List af),([]:List af)⟩:Task)).bind fun r_10=>
 some (decide (r_10=0))
 else
 some false)
def gM (l:(List af)):Option (List af):=
 aJ ((l.length*16≤140737488355328)∧(l.length≤4611686018427387904)) (
 some l)
def oN (l:(List Int)):Option (List Int):=
 aJ ((l.length*8≤140737488355328)∧(l.length≤4611686018427387904)) (
 some l)
def uG (t:Task):Option Task:=
 (oN t.fed).bind fun r_=>
 (oN t.crew).bind fun r_1=>
 (gM t.allowed).bind fun r_2=>
 (gM t.goal).bind fun r_3=>
 some (⟨r_,r_1,r_2,r_3⟩:Task)
def nP (x:Link):Int→Option (bD Int (Ex Unit Bool)):=
 fun i=>
 bif (decide (i<(x.trip.length:Int)))then
 aJ ((0:Int)≤i∧i<(x.trip.length:Int)) (
 bif (bif (bif (bif (decide (((at' x.trip i.toNat).amps)<1))then true else(decide (1000000<((at' x.trip i.toNat).amps))))then true else(decide (((at' x.trip i.toNat).millis)<1)))then true else(decide (100000<((at' x.trip i.toNat).millis))))then
 some (.done (.ret false))
 else
 aJ ((gB [((decide (0<i)),true)]=true→(0:Int)≤(IntKind.wrap .i64 (i - 1))∧(IntKind.wrap .i64 (i - 1))<(x.trip.length:Int))∧(gB [((decide (((at' x.trip i.toNat).amps)≤((at' x.trip ((IntKind.wrap .i64 (i - 1)).toNat)).amps))),false),((decide (0<i)),true)]=true→(0:Int)≤(IntKind.wrap .i64 (i - 1))∧(IntKind.wrap .i64 (i - 1))<(x.trip.length:Int))) (
 bif (bif (decide (0<i))then(bif (decide (((at' x.trip i.toNat).amps)≤((at' x.trip ((IntKind.wrap .i64 (i - 1)).toNat)).amps)))then true else(decide (((at' x.trip ((IntKind.wrap .i64 (i - 1)).toNat)).millis)≤((at' x.trip i.toNat).millis))))else false)then
 some (.done (.ret false))
 else
 some (.next (IntKind.wrap .i64 (i+1)))))
 else
 some (.done (.brk ()))
def wT (p:au) (x:Link):Option Bool:=
 bif (bif (bif (bif (bif (bif (bif (bif (bif (bif (bif (decide (x.a<0))then true else(decide (p.buses≤x.a)))then true else(decide (x.b<0)))then true else(decide (p.buses≤x.b)))then true else(decide (x.a=x.b)))then true else(decide (x.kind<1)))then true else(decide (3<x.kind)))then true else(decide (x.most<1)))then true else(decide (100000<x.most)))then true else(decide (x.ohm<10)))then true else(decide (100000<x.ohm)))then
 some false
 else
 bif (bif (decide (6<(x.trip.length:Int)))then true else(bif (decide (0<(x.trip.length:Int)))then(!decide (x.kind=3))else false))then
 some false
 else
 Option.bind (aB (nP x) FUEL (0)) fun o=>match o with
 | .ret v=>some v
 | .brk _=>
 some true
def mQ (p:au):Int→Option (bD Int (Ex Unit Int)):=
 fun i=>
 bif (decide (i<(p.sources.length:Int)))then
 aJ ((0:Int)≤i∧i<(p.sources.length:Int)) (
 bif (bif (bif (bif (bif (bif (bif (bif (bif (bif (decide (((at' p.sources i.toNat).bus)<0))then true else(decide (p.buses≤((at' p.sources i.toNat).bus))))then true else(decide (((at' p.sources i.toNat).kind)<1)))then true else(decide (3<((at' p.sources i.toNat).kind))))then true else(decide (((at' p.sources i.toNat).power)<1)))then true else(decide (100000<((at' p.sources i.toNat).power))))then true else(decide (((at' p.sources i.toNat).sync)<0)))then true else(decide (8<((at' p.sources i.toNat).sync))))then true else(decide (((at' p.sources i.toNat).ohm)<10)))then true else(decide (100000<((at' p.sources i.toNat).ohm))))then
 some (.done (.ret 11))
 else
 some (.next (IntKind.wrap .i64 (i+1))))
 else
 some (.done (.brk ()))
def mF (p:au):Int→Option (bD Int (Ex Unit Int)):=
 fun i1=>
 bif (decide (i1<(p.links.length:Int)))then
 (wT p (at' p.links i1.toNat)).bind fun r_=>
 aJ ((0:Int)≤i1∧i1<(p.links.length:Int)) (
 bif (!r_)then
 some (.done (.ret 12))
 else
 some (.next (IntKind.wrap .i64 (i1+1))))
 else
 some (.done (.brk ()))
def mU (p:au):Int→Option (bD Int (Ex Unit Int)):=
 fun i2=>
 bif (decide (i2<(p.racks.length:Int)))then
 aJ ((0:Int)≤i2∧i2<(p.racks.length:Int)) (
 bif (decide ((((at' p.racks i2.toNat).feeds).e1)=(-1)))then
 bif (bif (bif (bif (bif (bif (bif (bif (bif (decide ((((at' p.racks i2.toNat).feeds).e0)<0))then true else(decide (p.buses≤(((at' p.racks i2.toNat).feeds).e0))))then true else(decide ((((at' p.racks i2.toNat).feeds).e1)<(-1))))then true else(decide (p.buses≤(((at' p.racks i2.toNat).feeds).e1))))then true else(decide ((((at' p.racks i2.toNat).feeds).e0)=(((at' p.racks i2.toNat).feeds).e1))))then true else(decide (((at' p.racks i2.toNat).power)<1)))then true else(decide (100000<((at' p.racks i2.toNat).power))))then true else(decide (((at' p.racks i2.toNat).paths)<0)))then true else(decide (1<((at' p.racks i2.toNat).paths))))then
 some (.done (.ret 13))
 else
 some (.next (IntKind.wrap .i64 (i2+1)))
 else
 bif (bif (bif (bif (bif (bif (bif (bif (bif (decide ((((at' p.racks i2.toNat).feeds).e0)<0))then true else(decide (p.buses≤(((at' p.racks i2.toNat).feeds).e0))))then true else(decide ((((at' p.racks i2.toNat).feeds).e1)<(-1))))then true else(decide (p.buses≤(((at' p.racks i2.toNat).feeds).e1))))then true else(decide ((((at' p.racks i2.toNat).feeds).e0)=(((at' p.racks i2.toNat).feeds).e1))))then true else(decide (((at' p.racks i2.toNat).power)<1)))then true else(decide (100000<((at' p.racks i2.toNat).power))))then true else(decide (((at' p.racks i2.toNat).paths)<0)))then true else(decide (2<((at' p.racks i2.toNat).paths))))then
 some (.done (.ret 13))
 else
 some (.next (IntKind.wrap .i64 (i2+1))))
 else
 some (.done (.brk ()))
def vv (p:au):Option Int:=
 bif (bif (decide (p.buses<1))then true else(decide (24<p.buses)))then
 some 10
 else
 bif (decide (8<(p.sources.length:Int)))then
 some 11
 else
 Option.bind (aB (mQ p) FUEL (0)) fun o=>match o with
 | .ret v=>some v
 | .brk _=>
 bif (decide (40<(p.links.length:Int)))then
 some 12
 else
 Option.bind (aB (mF p) FUEL (0)) fun o=>match o with
 | .ret v=>some v
 | .brk _=>
 bif (decide (24<(p.racks.length:Int)))then
 some 13
 else
 Option.bind (aB (mU p) FUEL (0)) fun o=>match o with
 | .ret v=>some v
 | .brk _=>
 some 0
def mE (p:au) (s_:State):Int→Option (bD Int (Ex Unit Bool)):=
 fun i=>
 bif (decide (i<(p.links.length:Int)))then
 aJ (((0:Int)≤i∧i<(p.links.length:Int))∧(gB [((decide (((at' p.links i.toNat).kind)=1)),true)]=true→(0:Int)≤i∧i<(s_.closed.length:Int))∧(gB [((!(at' s_.closed i.toNat)),false),((decide (((at' p.links i.toNat).kind)=1)),true)]=true→(0:Int)≤i∧i<(s_.locked.length:Int))) (
 bif (bif (decide (((at' p.links i.toNat).kind)=1))then(bif (!(at' s_.closed i.toNat))then true else(at' s_.locked i.toNat))else false)then
 some (.done (.ret false))
 else
 some (.next (IntKind.wrap .i64 (i+1))))
 else
 some (.done (.brk ()))
def uR (p:au) (s_:State):Option Bool:=
 bif (bif (bif (bif (bif (bif (bif (!decide ((s_.closed.length:Int)=(p.links.length:Int)))then true else(!decide ((s_.locked.length:Int)=(p.links.length:Int))))then true else(!decide ((s_.badLink.length:Int)=(p.links.length:Int))))then true else(!decide ((s_.on_.length:Int)=(p.sources.length:Int))))then true else(!decide ((s_.badSource.length:Int)=(p.sources.length:Int))))then true else(!decide ((s_.earthed.length:Int)=p.buses)))then true else(!decide ((s_.badBus.length:Int)=p.buses)))then
 some false
 else
 Option.bind (aB (mE p s_) FUEL (0)) fun o=>match o with
 | .ret v=>some v
 | .brk _=>
 some true
def fK (p:au) (s_:State):Option Int:=
 (vv p).bind fun r_=>
 (bif gB [((decide (r_=0)),true)]then uR p s_ else some default).bind fun r_1=>
 bif (bif (decide (r_=0))then(!r_1)else false)then
 some 9
 else
 some r_
def nY (l:(List Int)) (n:Int):Int→Option (bD Int (Ex Unit Bool)):=
 fun i=>
 bif (decide (i<(l.length:Int)))then
 aJ (((0:Int)≤i∧i<(l.length:Int))∧(gB [((decide ((at' l i.toNat)<0)),false)]=true→(0:Int)≤i∧i<(l.length:Int))) (
 bif (bif (decide ((at' l i.toNat)<0))then true else(decide (n≤(at' l i.toNat))))then
 some (.done (.ret false))
 else
 some (.next (IntKind.wrap .i64 (i+1))))
 else
 some (.done (.brk ()))
def nR (l:(List Int)) (n:Int):Option Bool:=
 Option.bind (aB (nY l n) FUEL (0)) fun o=>match o with
 | .ret v=>some v
 | .brk _=>
 some (decide ((l.length:Int)≤24))
def oK (p:au) (x:af):Option Bool:=
 bif (decide (x.index<0))then
 some false
 else
 bif (decide (x.deed=1))then
 bif (decide (x.deed=1))then
 aJ (gB [((decide (x.index<(p.links.length:Int))),true)]=true→(0:Int)≤x.index∧x.index<(p.links.length:Int)) (
 some (bif (decide (x.index<(p.links.length:Int)))then(!decide (((at' p.links x.index.toNat).kind)=1))else false))
 else
 bif (decide (x.deed=3))then
 bif (decide (x.deed=3))then
 some (decide (x.index<p.buses))
 else
 bif (decide (x.deed=7))then
 bif (decide (x.deed=7))then
 some (decide (x.index<(p.sources.length:Int)))
 else
 some false
 else
 bif (decide (x.deed=8))then
 some (decide (x.index<(p.sources.length:Int)))
 else
 some false
 else
 bif (decide (x.deed=4))then
 some (decide (x.index<p.buses))
 else
 bif (decide (x.deed=7))then
 bif (decide (x.deed=7))then
 some (decide (x.index<(p.sources.length:Int)))
 else
 some false
 else
 bif (decide (x.deed=8))then
 some (decide (x.index<(p.sources.length:Int)))
 else
 some false
 else
 bif (decide (x.deed=2))then
 bif (decide (x.deed=2))then
 aJ (gB [((decide (x.index<(p.links.length:Int))),true)]=true→(0:Int)≤x.index∧x.index<(p.links.length:Int)) (
 some (bif (decide (x.index<(p.links.length:Int)))then(!decide (((at' p.links x.index.toNat).kind)=1))else false))
 else
 bif (decide (x.deed=3))then
 bif (decide (x.deed=3))then
 some (decide (x.index<p.buses))
 else
 bif (decide (x.deed=7))then
 bif (decide (x.deed=7))then
 some (decide (x.index<(p.sources.length:Int)))
 else
 some false
 else
 bif (decide (x.deed=8))then
 some (decide (x.index<(p.sources.length:Int)))
 else
 some false
 else
 bif (decide (x.deed=4))then
 some (decide (x.index<p.buses))
 else
 bif (decide (x.deed=7))then
 bif (decide (x.deed=7))then
 some (decide (x.index<(p.sources.length:Int)))
 else
 some false
 else
 bif (decide (x.deed=8))then
 some (decide (x.index<(p.sources.length:Int)))
 else
 some false
 else
 bif (decide (x.deed=5))then
 bif (decide (x.deed=5))then
 aJ (gB [((decide (x.index<(p.links.length:Int))),true)]=true→(0:Int)≤x.index∧x.index<(p.links.length:Int)) (
 some (bif (decide (x.index<(p.links.length:Int)))then(!decide (((at' p.links x.index.toNat).kind)=1))else false))
 else
 bif (decide (x.deed=3))then
 bif (decide (x.deed=3))then
 some (decide (x.index<p.buses))
 else
 bif (decide (x.deed=7))then
 bif (decide (x.deed=7))then
 some (decide (x.index<(p.sources.length:Int)))
 else
 some false
 else
 bif (decide (x.deed=8))then
 some (decide (x.index<(p.sources.length:Int)))
 else
 some false
 else
 bif (decide (x.deed=4))then
 some (decide (x.index<p.buses))
 else
 bif (decide (x.deed=7))then
 bif (decide (x.deed=7))then
 some (decide (x.index<(p.sources.length:Int)))
 else
 some false
 else
 bif (decide (x.deed=8))then
 some (decide (x.index<(p.sources.length:Int)))
 else
 some false
 else
 bif (decide (x.deed=6))then
 aJ (gB [((decide (x.index<(p.links.length:Int))),true)]=true→(0:Int)≤x.index∧x.index<(p.links.length:Int)) (
 some (bif (decide (x.index<(p.links.length:Int)))then(!decide (((at' p.links x.index.toNat).kind)=1))else false))
 else
 bif (decide (x.deed=3))then
 bif (decide (x.deed=3))then
 some (decide (x.index<p.buses))
 else
 bif (decide (x.deed=7))then
 bif (decide (x.deed=7))then
 some (decide (x.index<(p.sources.length:Int)))
 else
 some false
 else
 bif (decide (x.deed=8))then
 some (decide (x.index<(p.sources.length:Int)))
 else
 some false
 else
 bif (decide (x.deed=4))then
 some (decide (x.index<p.buses))
 else
 bif (decide (x.deed=7))then
 bif (decide (x.deed=7))then
 some (decide (x.index<(p.sources.length:Int)))
 else
 some false
 else
 bif (decide (x.deed=8))then
 some (decide (x.index<(p.sources.length:Int)))
 else
 some false
def pU (p:au) (l:(List af)):Int→Option (bD Int (Ex Unit Bool)):=
 fun i=>
 bif (decide (i<(l.length:Int)))then
 (oK p (at' l i.toNat)).bind fun r_=>
 aJ ((0:Int)≤i∧i<(l.length:Int)) (
 bif (!r_)then
 some (.done (.ret false))
 else
 some (.next (IntKind.wrap .i64 (i+1))))
 else
 some (.done (.brk ()))
def qm (p:au) (l:(List af)):Option Bool:=
 Option.bind (aB (pU p l) FUEL (0)) fun o=>match o with
 | .ret v=>some v
 | .brk _=>
 some (decide ((l.length:Int)≤24))
def tQ (p:au) (t:Task):Option Bool:=
 (nR t.fed (p.racks.length:Int)).bind fun r_=>
 (bif gB [(r_,true)]then nR t.crew p.buses else some default).bind fun r_1=>
 (bif gB [((bif r_ then r_1 else false),true)]then qm p t.allowed else some default).bind fun r_2=>
 (bif gB [((bif (bif r_ then r_1 else false)then r_2 else false),true)]then qm p t.goal else some default).bind fun r_3=>
 some (bif (bif (bif r_ then r_1 else false)then r_2 else false)then r_3 else false)
def mY (p:au) (s_:State) (kz:Int):Option Bool:=
 aJ (((0:Int)≤kz∧kz<(s_.on_.length:Int))∧(gB [((at' s_.on_ kz.toNat),true)]=true→(0:Int)≤kz∧kz<(s_.badSource.length:Int))∧(gB [((bif (at' s_.on_ kz.toNat)then(!(at' s_.badSource kz.toNat))else false),true)]=true→(0:Int)≤kz∧kz<(p.sources.length:Int))∧(gB [((bif (at' s_.on_ kz.toNat)then(!(at' s_.badSource kz.toNat))else false),true)]=true→(0:Int)≤(at' p.sources kz.toNat).bus∧(at' p.sources kz.toNat).bus<(s_.badBus.length:Int))) (
 some (bif (bif (at' s_.on_ kz.toNat)then(!(at' s_.badSource kz.toNat))else false)then(!(at' s_.badBus (((at' p.sources kz.toNat).bus).toNat)))else false))
def qc (p:au) (s_:State) (i:Int):Option Bool:=
 aJ (((0:Int)≤i∧i<(s_.closed.length:Int))∧(gB [((at' s_.closed i.toNat),true)]=true→(0:Int)≤i∧i<(s_.badLink.length:Int))∧(gB [((bif (at' s_.closed i.toNat)then(!(at' s_.badLink i.toNat))else false),true)]=true→(0:Int)≤i∧i<(p.links.length:Int))∧(gB [((bif (at' s_.closed i.toNat)then(!(at' s_.badLink i.toNat))else false),true)]=true→(0:Int)≤(at' p.links i.toNat).a∧(at' p.links i.toNat).a<(s_.badBus.length:Int))∧(gB [((bif (bif (at' s_.closed i.toNat)then(!(at' s_.badLink i.toNat))else false)then(!(at' s_.badBus (((at' p.links i.toNat).a).toNat)))else false),true)]=true→(0:Int)≤i∧i<(p.links.length:Int))∧(gB [((bif (bif (at' s_.closed i.toNat)then(!(at' s_.badLink i.toNat))else false)then(!(at' s_.badBus (((at' p.links i.toNat).a).toNat)))else false),true)]=true→(0:Int)≤(at' p.links i.toNat).b∧(at' p.links i.toNat).b<(s_.badBus.length:Int))) (
 some (bif (bif (bif (at' s_.closed i.toNat)then(!(at' s_.badLink i.toNat))else false)then(!(at' s_.badBus (((at' p.links i.toNat).a).toNat)))else false)then(!(at' s_.badBus (((at' p.links i.toNat).b).toNat)))else false))
def jH (p:au) (s_:State) (b:Int):((List Bool) × Int)→Option (bD ((List Bool) × Int) (Ex (List Bool) (bD ((List Bool) × Int) (Ex (List Bool) (List Bool))))):=
 fun zz=>match zz with
 |(out2,i)=>
 bif (decide (i<(p.links.length:Int)))then
 aJ ((0:Int)≤i∧i<(p.links.length:Int)) (
 (qc p s_ i).bind fun r_=>
 aJ ((gB [(r_,true)]=true→(0:Int)≤(at' p.links i.toNat).a∧(at' p.links i.toNat).a<(out2.length:Int))∧(gB [((at' out2 (((at' p.links i.toNat).a).toNat)),false),(r_,true)]=true→(0:Int)≤(at' p.links i.toNat).b∧(at' p.links i.toNat).b<(out2.length:Int))) (
 bif (bif r_ then(bif (at' out2 (((at' p.links i.toNat).a).toNat))then true else(at' out2 (((at' p.links i.toNat).b).toNat)))else false)then
 aJ ((0:Int)≤(at' p.links i.toNat).a∧(at' p.links i.toNat).a<(out2.length:Int)) (
 aJ ((0:Int)≤(at' p.links i.toNat).b∧(at' p.links i.toNat).b<((out2.set (((at' p.links i.toNat).a).toNat) true).length:Int)) (
 some (.next (((out2.set (((at' p.links i.toNat).a).toNat) true).set (((at' p.links i.toNat).b).toNat) true),(IntKind.wrap .i64 (i+1))))))
 else
 some (.next (out2,(IntKind.wrap .i64 (i+1))))))
 else
 some (.done (.brk out2))
def jP (p:au) (s_:State) (b:Int):((List Bool) × Int)→Option (bD ((List Bool) × Int) (Ex (List Bool) (List Bool))):=
 fun zz=>match zz with
 |(out,n)=>
 bif (decide (n<p.buses))then
 Option.bind (aB (jH p s_ b) FUEL (out,0)) fun o=>match o with
 | .ret v=>some v
 | .brk out3=>
 some (.next (out3,(IntKind.wrap .i64 (n+1))))
 else
 some (.done (.brk out))
def dO (p:au) (s_:State) (b:Int):Option (List Bool):=
 aJ (((0:Int)≤p.buses)∧((1:Int)*p.buses≤281474976710656)∧((p.buses:Int)≤9223372036854775807)) (
 aJ ((0:Int)≤b∧b<((List.replicate p.buses.toNat (false:Bool)).length:Int)) (
 Option.bind (aB (jP p s_ b) FUEL (((List.replicate p.buses.toNat (false:Bool)).set b.toNat true),0)) fun o=>match o with
 | .ret v=>some v
 | .brk out1=>
 some out1))
def iR (p:au) (r_2:(List Bool)):((List Bool) × Int)→Option (bD ((List Bool) × Int) (Ex (List Bool) (bD ((List Bool) × Int) (Ex (List Bool) ((List Bool) × Int))))):=
 fun zz=>match zz with
 |(out2,b)=>
 bif (decide (b<p.buses))then
 aJ (((0:Int)≤b∧b<(out2.length:Int))∧(gB [((at' out2 b.toNat),false)]=true→(0:Int)≤b∧b<(r_2.length:Int))) (
 some (.next ((out2.set b.toNat (bif (at' out2 b.toNat)then true else(at' r_2 b.toNat))),(IntKind.wrap .i64 (b+1)))))
 else
 some (.done (.brk out2))
def iP (p:au) (s_:State):((List Bool) × Int)→Option (bD ((List Bool) × Int) (Ex (List Bool) ((List Bool) × Int))):=
 fun zz=>match zz with
 |(out,kz)=>
 bif (decide (kz<(p.sources.length:Int)))then
 (mY p s_ kz).bind fun r_1=>
 bif (!r_1)then
 some (.next (out,(IntKind.wrap .i64 (kz+1))))
 else
 (dO p s_ ((at' p.sources kz.toNat).bus)).bind fun r_2=>
 aJ ((0:Int)≤kz∧kz<(p.sources.length:Int)) (
 Option.bind (aB (iR p r_2) FUEL (out,0)) fun o=>match o with
 | .ret v=>some v
 | .brk out3=>
 some (.next (out3,(IntKind.wrap .i64 (kz+1)))))
 else
 some (.done (.brk out))
def kF (p:au) (s_:State):Option ((List Bool) × Int):=
 (fK p s_).bind fun r_=>
 bif (!decide (r_=0))then
 some (([]:List Bool),r_)
 else
 aJ (((0:Int)≤p.buses)∧((1:Int)*p.buses≤281474976710656)∧((p.buses:Int)≤9223372036854775807)) (
 Option.bind (aB (iP p s_) FUEL ((List.replicate p.buses.toNat (false:Bool)),0)) fun o=>match o with
 | .ret v=>some v
 | .brk out1=>
 some (out1,0))
def uZ (a:Source) (b:Source):Option Bool:=
 some (bif (!decide (a.sync=b.sync))then true else(decide (a.sync=0)))
def j5 (p:au) (s_:State) (i:Int):((List aC) × Int)→Option (bD ((List aC) × Int) (Ex (List aC) (bD ((List aC) × Int) (Ex (List aC) ((List aC) × Int))))):=
 fun zz=>match zz with
 |(out2,kz)=>
 bif (decide (kz<(p.sources.length:Int)))then
 (mY p s_ i).bind fun r_1=>
 (bif gB [(r_1,true)]then mY p s_ kz else some default).bind fun r_2=>
 (bif gB [((bif r_1 then r_2 else false),true)]then dO p s_ ((at' p.sources i.toNat).bus)else some default).bind fun r_3=>
 (bif gB [((bif (bif r_1 then r_2 else false)then(at' r_3 (((at' p.sources kz.toNat).bus).toNat))else false),true)]then uZ (at' p.sources i.toNat) (at' p.sources kz.toNat)else some default).bind fun r_4=>
 aJ ((gB [((bif r_1 then r_2 else false),true)]=true→(0:Int)≤i∧i<(p.sources.length:Int))∧(gB [((bif r_1 then r_2 else false),true)]=true→(0:Int)≤kz∧kz<(p.sources.length:Int))∧(gB [((bif r_1 then r_2 else false),true)]=true→(0:Int)≤(at' p.sources kz.toNat).bus∧(at' p.sources kz.toNat).bus<(r_3.length:Int))∧(gB [((bif (bif r_1 then r_2 else false)then(at' r_3 (((at' p.sources kz.toNat).bus).toNat))else false),true)]=true→(0:Int)≤i∧i<(p.sources.length:Int))∧(gB [((bif (bif r_1 then r_2 else false)then(at' r_3 (((at' p.sources kz.toNat).bus).toNat))else false),true)]=true→(0:Int)≤kz∧kz<(p.sources.length:Int))) (
 bif (bif (bif (bif r_1 then r_2 else false)then(at' r_3 (((at' p.sources kz.toNat).bus).toNat))else false)then r_4 else false)then
 aJ (((out2.length+[(⟨i,kz⟩:aC)].length)*16≤140737488355328)∧(out2.length+[(⟨i,kz⟩:aC)].length≤4611686018427387904)) (
 some (.next ((out2++[(⟨i,kz⟩:aC)]),(IntKind.wrap .i64 (kz+1)))))
 else
 some (.next (out2,(IntKind.wrap .i64 (kz+1)))))
 else
 some (.done (.brk out2))
def iB (p:au) (s_:State):((List aC) × Int)→Option (bD ((List aC) × Int) (Ex (List aC) ((List aC) × Int))):=
 fun zz=>match zz with
 |(out,i)=>
 bif (decide (i<(p.sources.length:Int)))then
 Option.bind (aB (j5 p s_ i) FUEL (out,(IntKind.wrap .i64 (i+1)))) fun o=>match o with
 | .ret v=>some v
 | .brk out3=>
 some (.next (out3,(IntKind.wrap .i64 (i+1))))
 else
 some (.done (.brk out))
def qM (p:au) (s_:State):Option ((List aC) × Int):=
 (fK p s_).bind fun r_=>
 bif (!decide (r_=0))then
 some (([]:List aC),r_)
 else
 Option.bind (aB (iB p s_) FUEL (([]:List aC),0)) fun o=>match o with
 | .ret v=>some v
 | .brk out1=>
 some (out1,0)
def uV (l:(List Int)) (n:Int):Int→Option (bD Int (Ex Unit Bool)):=
 fun i=>
 bif (decide (i<(l.length:Int)))then
 aJ ((0:Int)≤i∧i<(l.length:Int)) (
 bif (decide ((at' l i.toNat)=n))then
 some (.done (.ret true))
 else
 some (.next (IntKind.wrap .i64 (i+1))))
 else
 some (.done (.brk ()))
def sK (l:(List Int)) (n:Int):Option Bool:=
 Option.bind (aB (uV l n) FUEL (0)) fun o=>match o with
 | .ret v=>some v
 | .brk _=>
 some false
def o8 (p:au) (s_:State) (b:Int):Int→Option (bD Int (Ex Unit Bool)):=
 fun kz=>
 bif (decide (kz<(p.sources.length:Int)))then
 aJ (((0:Int)≤kz∧kz<(p.sources.length:Int))∧(gB [((decide (((at' p.sources kz.toNat).bus)=b)),true)]=true→(0:Int)≤kz∧kz<(s_.on_.length:Int))) (
 bif (bif (decide (((at' p.sources kz.toNat).bus)=b))then(at' s_.on_ kz.toNat)else false)then
 some (.done (.ret true))
 else
 some (.next (IntKind.wrap .i64 (kz+1))))
 else
 some (.done (.brk ()))
def oU (p:au) (s_:State) (crew:(List Int)) (b:Int):Int→Option (bD Int (Ex Unit Bool)):=
 fun i=>
 bif (decide (i<(p.links.length:Int)))then
 Option.bind (α:=(Ex Unit (bD Int (Ex Unit Bool)))) (
 aJ ((0:Int)≤i∧i<(p.links.length:Int)) (
 bif (decide (((at' p.links i.toNat).a)=b))then
 bif (decide (((at' p.links i.toNat).b)=b))then
 (bif gB [((decide (0≤((at' p.links i.toNat).a))),true)]then sK crew ((at' p.links i.toNat).a)else some default).bind fun r_=>
 aJ ((gB [((decide (((at' p.links i.toNat).kind)=1)),false),((bif (decide (0≤((at' p.links i.toNat).a)))then(!r_)else false),true)]=true→(0:Int)≤i∧i<(s_.closed.length:Int))∧(gB [((bif (decide (((at' p.links i.toNat).kind)=1))then true else(at' s_.closed i.toNat)),false),((bif (decide (0≤((at' p.links i.toNat).a)))then(!r_)else false),true)]=true→(0:Int)≤i∧i<(s_.locked.length:Int))) (
 bif (bif (bif (decide (0≤((at' p.links i.toNat).a)))then(!r_)else false)then(bif (bif (decide (((at' p.links i.toNat).kind)=1))then true else(at' s_.closed i.toNat))then true else(!(at' s_.locked i.toNat)))else false)then
 some (.ret (.done (.ret true)))
 else
 some (.brk ()))
 else
 (bif gB [((decide (0≤((at' p.links i.toNat).b))),true)]then sK crew ((at' p.links i.toNat).b)else some default).bind fun r_1=>
 aJ ((gB [((decide (((at' p.links i.toNat).kind)=1)),false),((bif (decide (0≤((at' p.links i.toNat).b)))then(!r_1)else false),true)]=true→(0:Int)≤i∧i<(s_.closed.length:Int))∧(gB [((bif (decide (((at' p.links i.toNat).kind)=1))then true else(at' s_.closed i.toNat)),false),((bif (decide (0≤((at' p.links i.toNat).b)))then(!r_1)else false),true)]=true→(0:Int)≤i∧i<(s_.locked.length:Int))) (
 bif (bif (bif (decide (0≤((at' p.links i.toNat).b)))then(!r_1)else false)then(bif (bif (decide (((at' p.links i.toNat).kind)=1))then true else(at' s_.closed i.toNat))then true else(!(at' s_.locked i.toNat)))else false)then
 some (.ret (.done (.ret true)))
 else
 some (.brk ()))
 else
 bif (decide (((at' p.links i.toNat).b)=b))then
 (bif gB [((decide (0≤((at' p.links i.toNat).a))),true)]then sK crew ((at' p.links i.toNat).a)else some default).bind fun r_2=>
 aJ ((gB [((decide (((at' p.links i.toNat).kind)=1)),false),((bif (decide (0≤((at' p.links i.toNat).a)))then(!r_2)else false),true)]=true→(0:Int)≤i∧i<(s_.closed.length:Int))∧(gB [((bif (decide (((at' p.links i.toNat).kind)=1))then true else(at' s_.closed i.toNat)),false),((bif (decide (0≤((at' p.links i.toNat).a)))then(!r_2)else false),true)]=true→(0:Int)≤i∧i<(s_.locked.length:Int))) (
 bif (bif (bif (decide (0≤((at' p.links i.toNat).a)))then(!r_2)else false)then(bif (bif (decide (((at' p.links i.toNat).kind)=1))then true else(at' s_.closed i.toNat))then true else(!(at' s_.locked i.toNat)))else false)then
 some (.ret (.done (.ret true)))
 else
 some (.brk ()))
 else
 some (.brk ()))) fun o=>match o with
 | .ret v=>some v
 | .brk _=>
 some (.next (IntKind.wrap .i64 (i+1)))
 else
 some (.done (.brk ()))
def sH (p:au) (s_:State) (crew:(List Int)) (b:Int):Option Bool:=
 aJ ((0:Int)≤b∧b<(s_.earthed.length:Int)) (
 bif (!(at' s_.earthed b.toNat))then
 some true
 else
 Option.bind (aB (o8 p s_ b) FUEL (0)) fun o=>match o with
 | .ret v=>some v
 | .brk _=>
 Option.bind (aB (oU p s_ crew b) FUEL (0)) fun o=>match o with
 | .ret v=>some v
 | .brk _=>
 some false)
def mr (p:au) (s_:State) (r_2:((List Bool) × Int)):Int→Option (bD Int (Ex Unit Int)):=
 fun b=>
 bif (decide (b<p.buses))then
 aJ (((0:Int)≤b∧b<(r_2.1.length:Int))∧(gB [((at' r_2.1 b.toNat),true)]=true→(0:Int)≤b∧b<(s_.earthed.length:Int))) (
 bif (bif (at' r_2.1 b.toNat)then(at' s_.earthed b.toNat)else false)then
 some (.done (.ret 40))
 else
 some (.next (IntKind.wrap .i64 (b+1))))
 else
 some (.done (.brk ()))
def qd (p:au) (t:Task) (r_2:((List Bool) × Int)):Int→Option (bD Int (Ex Unit Int)):=
 fun i=>
 bif (decide (i<(t.fed.length:Int)))then
 aJ (((0:Int)≤i∧i<(t.fed.length:Int))∧((0:Int)≤(at' t.fed i.toNat)∧(at' t.fed i.toNat)<(p.racks.length:Int))) (
 aJ (((0:Int)≤((at' p.racks ((at' t.fed i.toNat).toNat)).feeds).e0∧((at' p.racks ((at' t.fed i.toNat).toNat)).feeds).e0<(r_2.1.length:Int))∧(gB [((decide (0≤(((at' p.racks ((at' t.fed i.toNat).toNat)).feeds).e1))),true),((!(at' r_2.1 ((((at' p.racks ((at' t.fed i.toNat).toNat)).feeds).e0).toNat))),true)]=true→(0:Int)≤(if((at' p.racks ((at' t.fed i.toNat).toNat)).feeds).e1<0 then 0 else((at' p.racks ((at' t.fed i.toNat).toNat)).feeds).e1)∧(if((at' p.racks ((at' t.fed i.toNat).toNat)).feeds).e1<0 then 0 else((at' p.racks ((at' t.fed i.toNat).toNat)).feeds).e1)<(r_2.1.length:Int))) (
 bif (bif (!(at' r_2.1 ((((at' p.racks ((at' t.fed i.toNat).toNat)).feeds).e0).toNat)))then(!(bif (decide (0≤(((at' p.racks ((at' t.fed i.toNat).toNat)).feeds).e1)))then(at' r_2.1 ((if((at' p.racks ((at' t.fed i.toNat).toNat)).feeds).e1<0 then 0 else((at' p.racks ((at' t.fed i.toNat).toNat)).feeds).e1).toNat))else false))else false)then
 some (.done (.ret 42))
 else
 some (.next (IntKind.wrap .i64 (i+1)))))
 else
 some (.done (.brk ()))
def pW (p:au) (s_:State) (t:Task):Int→Option (bD Int (Ex Unit Int)):=
 fun i1=>
 bif (decide (i1<(t.crew.length:Int)))then
 (sH p s_ t.crew (at' t.crew i1.toNat)).bind fun r_4=>
 aJ ((0:Int)≤i1∧i1<(t.crew.length:Int)) (
 bif r_4 then
 some (.done (.ret 45))
 else
 some (.next (IntKind.wrap .i64 (i1+1))))
 else
 some (.done (.brk ()))
def dA (p:au) (s_:State) (t:Task):Option Int:=
 (fK p s_).bind fun r_=>
 bif (!decide (r_=0))then
 some r_
 else
 (tQ p t).bind fun r_1=>
 bif (!r_1)then
 some 1
 else
 (kF p s_).bind fun r_2=>
 Option.bind (aB (mr p s_ r_2) FUEL (0)) fun o=>match o with
 | .ret v=>some v
 | .brk _=>
 (qM p s_).bind fun r_3=>
 bif (decide (0<(r_3.1.length:Int)))then
 some 41
 else
 Option.bind (aB (qd p t r_2) FUEL (0)) fun o=>match o with
 | .ret v=>some v
 | .brk _=>
 Option.bind (aB (pW p s_ t) FUEL (0)) fun o=>match o with
 | .ret v=>some v
 | .brk _=>
 some 0
def qj (s_:State) (x:af):Option Bool:=
 bif (decide (x.deed=1))then
 aJ ((0:Int)≤x.index∧x.index<(s_.closed.length:Int)) (
 some (!(at' s_.closed x.index.toNat)))
 else
 bif (decide (x.deed=2))then
 aJ ((0:Int)≤x.index∧x.index<(s_.closed.length:Int)) (
 some (at' s_.closed x.index.toNat))
 else
 bif (decide (x.deed=3))then
 aJ ((0:Int)≤x.index∧x.index<(s_.earthed.length:Int)) (
 some (at' s_.earthed x.index.toNat))
 else
 bif (decide (x.deed=4))then
 aJ ((0:Int)≤x.index∧x.index<(s_.earthed.length:Int)) (
 some (!(at' s_.earthed x.index.toNat)))
 else
 bif (decide (x.deed=5))then
 aJ ((0:Int)≤x.index∧x.index<(s_.locked.length:Int)) (
 some (at' s_.locked x.index.toNat))
 else
 bif (decide (x.deed=6))then
 aJ ((0:Int)≤x.index∧x.index<(s_.locked.length:Int)) (
 some (!(at' s_.locked x.index.toNat)))
 else
 bif (decide (x.deed=7))then
 aJ ((0:Int)≤x.index∧x.index<(s_.on_.length:Int)) (
 some (at' s_.on_ x.index.toNat))
 else
 aJ ((0:Int)≤x.index∧x.index<(s_.on_.length:Int)) (
 some (!(at' s_.on_ x.index.toNat)))
def dS (l:(List Bool)):Option (List Bool):=
 aJ ((l.length*1≤140737488355328)∧(l.length≤4611686018427387904)) (
 some l)
def nQ (x:State):Option State:=
 (dS x.closed).bind fun r_=>
 (dS x.locked).bind fun r_1=>
 (dS x.badLink).bind fun r_2=>
 (dS x.on_).bind fun r_3=>
 (dS x.badSource).bind fun r_4=>
 (dS x.earthed).bind fun r_5=>
 (dS x.badBus).bind fun r_6=>
 some (⟨r_,r_1,r_2,r_3,r_4,r_5,r_6⟩:State)
def yY (p:au) (s_:State) (i:Int):Option Bool:=
 (nQ s_).bind fun r_=>
 aJ ((0:Int)≤i∧i<(r_.closed.length:Int)) (
 aJ ((0:Int)≤i∧i<(p.links.length:Int)) (
 aJ (((0:Int)≤(at' p.links i.toNat).a∧(at' p.links i.toNat).a<(r_.badBus.length:Int))∧(gB [((at' r_.badBus (((at' p.links i.toNat).a).toNat)),false)]=true→(0:Int)≤(at' p.links i.toNat).b∧(at' p.links i.toNat).b<(r_.badBus.length:Int))) (
 bif (bif (at' r_.badBus (((at' p.links i.toNat).a).toNat))then true else(at' r_.badBus (((at' p.links i.toNat).b).toNat)))then
 some false
 else
 (kF p (⟨(r_.closed.set i.toNat false),r_.locked,r_.badLink,r_.on_,r_.badSource,r_.earthed,r_.badBus⟩:State)).bind fun r_1=>
 (dO p (⟨(r_.closed.set i.toNat false),r_.locked,r_.badLink,r_.on_,r_.badSource,r_.earthed,r_.badBus⟩:State) ((at' p.links i.toNat).a)).bind fun r_2=>
 aJ (((0:Int)≤(at' p.links i.toNat).b∧(at' p.links i.toNat).b<(r_2.length:Int))∧(gB [((!(at' r_2 (((at' p.links i.toNat).b).toNat))),true)]=true→(0:Int)≤(at' p.links i.toNat).a∧(at' p.links i.toNat).a<(r_1.1.length:Int))∧(gB [((at' r_1.1 (((at' p.links i.toNat).a).toNat)),false),((!(at' r_2 (((at' p.links i.toNat).b).toNat))),true)]=true→(0:Int)≤(at' p.links i.toNat).b∧(at' p.links i.toNat).b<(r_1.1.length:Int))) (
 some (bif (!(at' r_2 (((at' p.links i.toNat).b).toNat)))then(bif (at' r_1.1 (((at' p.links i.toNat).a).toNat))then true else(at' r_1.1 (((at' p.links i.toNat).b).toNat)))else false)))))
def uX (s_:State) (x:af):Option State:=
 (nQ s_).bind fun r_=>
 bif (decide (x.deed=1))then
 bif (decide (x.deed=1))then
 aJ ((0:Int)≤x.index∧x.index<(r_.closed.length:Int)) (
 some (⟨(r_.closed.set x.index.toNat (decide (x.deed=2))),r_.locked,r_.badLink,r_.on_,r_.badSource,r_.earthed,r_.badBus⟩:State))
 else
 bif (decide (x.deed=3))then
 bif (decide (x.deed=3))then
 aJ ((0:Int)≤x.index∧x.index<(r_.earthed.length:Int)) (
 some (⟨r_.closed,r_.locked,r_.badLink,r_.on_,r_.badSource,(r_.earthed.set x.index.toNat (decide (x.deed=3))),r_.badBus⟩:State))
 else
 bif (decide (x.deed=5))then
 bif (decide (x.deed=5))then
 aJ ((0:Int)≤x.index∧x.index<(r_.locked.length:Int)) (
 some (⟨r_.closed,(r_.locked.set x.index.toNat (decide (x.deed=5))),r_.badLink,r_.on_,r_.badSource,r_.earthed,r_.badBus⟩:State))
 else
 bif (decide (x.deed=7))then
 bif (decide (x.deed=7))then
 aJ ((0:Int)≤x.index∧x.index<(r_.on_.length:Int)) (
 some (⟨r_.closed,r_.locked,r_.badLink,(r_.on_.set x.index.toNat (decide (x.deed=7))),r_.badSource,r_.earthed,r_.badBus⟩:State))
 else
 some r_
 else
 bif (decide (x.deed=8))then
 aJ ((0:Int)≤x.index∧x.index<(r_.on_.length:Int)) (
 some (⟨r_.closed,r_.locked,r_.badLink,(r_.on_.set x.index.toNat (decide (x.deed=7))),r_.badSource,r_.earthed,r_.badBus⟩:State))
 else
 some r_
 else
 bif (decide (x.deed=6))then
 aJ ((0:Int)≤x.index∧x.index<(r_.locked.length:Int)) (
 some (⟨r_.closed,(r_.locked.set x.index.toNat (decide (x.deed=5))),r_.badLink,r_.on_,r_.badSource,r_.earthed,r_.badBus⟩:State))
 else
 bif (decide (x.deed=7))then
 bif (decide (x.deed=7))then
 aJ ((0:Int)≤x.index∧x.index<(r_.on_.length:Int)) (
 some (⟨r_.closed,r_.locked,r_.badLink,(r_.on_.set x.index.toNat (decide (x.deed=7))),r_.badSource,r_.earthed,r_.badBus⟩:State))
 else
 some r_
 else
 bif (decide (x.deed=8))then
 aJ ((0:Int)≤x.index∧x.index<(r_.on_.length:Int)) (
 some (⟨r_.closed,r_.locked,r_.badLink,(r_.on_.set x.index.toNat (decide (x.deed=7))),r_.badSource,r_.earthed,r_.badBus⟩:State))
 else
 some r_
 else
 bif (decide (x.deed=4))then
 aJ ((0:Int)≤x.index∧x.index<(r_.earthed.length:Int)) (
 some (⟨r_.closed,r_.locked,r_.badLink,r_.on_,r_.badSource,(r_.earthed.set x.index.toNat (decide (x.deed=3))),r_.badBus⟩:State))
 else
 bif (decide (x.deed=5))then
 bif (decide (x.deed=5))then
 aJ ((0:Int)≤x.index∧x.index<(r_.locked.length:Int)) (
 some (⟨r_.closed,(r_.locked.set x.index.toNat (decide (x.deed=5))),r_.badLink,r_.on_,r_.badSource,r_.earthed,r_.badBus⟩:State))
 else
 bif (decide (x.deed=7))then
 bif (decide (x.deed=7))then
 aJ ((0:Int)≤x.index∧x.index<(r_.on_.length:Int)) (
 some (⟨r_.closed,r_.locked,r_.badLink,(r_.on_.set x.index.toNat (decide (x.deed=7))),r_.badSource,r_.earthed,r_.badBus⟩:State))
 else
 some r_
 else
 bif (decide (x.deed=8))then
 aJ ((0:Int)≤x.index∧x.index<(r_.on_.length:Int)) (
 some (⟨r_.closed,r_.locked,r_.badLink,(r_.on_.set x.index.toNat (decide (x.deed=7))),r_.badSource,r_.earthed,r_.badBus⟩:State))
 else
 some r_
 else
 bif (decide (x.deed=6))then
 aJ ((0:Int)≤x.index∧x.index<(r_.locked.length:Int)) (
 some (⟨r_.closed,(r_.locked.set x.index.toNat (decide (x.deed=5))),r_.badLink,r_.on_,r_.badSource,r_.earthed,r_.badBus⟩:State))
 else
 bif (decide (x.deed=7))then
 bif (decide (x.deed=7))then
 aJ ((0:Int)≤x.index∧x.index<(r_.on_.length:Int)) (
 some (⟨r_.closed,r_.locked,r_.badLink,(r_.on_.set x.index.toNat (decide (x.deed=7))),r_.badSource,r_.earthed,r_.badBus⟩:State))
 else
 some r_
 else
 bif (decide (x.deed=8))then
 aJ ((0:Int)≤x.index∧x.index<(r_.on_.length:Int)) (
 some (⟨r_.closed,r_.locked,r_.badLink,(r_.on_.set x.index.toNat (decide (x.deed=7))),r_.badSource,r_.earthed,r_.badBus⟩:State))
 else
 some r_
 else
 bif (decide (x.deed=2))then
 aJ ((0:Int)≤x.index∧x.index<(r_.closed.length:Int)) (
 some (⟨(r_.closed.set x.index.toNat (decide (x.deed=2))),r_.locked,r_.badLink,r_.on_,r_.badSource,r_.earthed,r_.badBus⟩:State))
 else
 bif (decide (x.deed=3))then
 bif (decide (x.deed=3))then
 aJ ((0:Int)≤x.index∧x.index<(r_.earthed.length:Int)) (
 some (⟨r_.closed,r_.locked,r_.badLink,r_.on_,r_.badSource,(r_.earthed.set x.index.toNat (decide (x.deed=3))),r_.badBus⟩:State))
 else
 bif (decide (x.deed=5))then
 bif (decide (x.deed=5))then
 aJ ((0:Int)≤x.index∧x.index<(r_.locked.length:Int)) (
 some (⟨r_.closed,(r_.locked.set x.index.toNat (decide (x.deed=5))),r_.badLink,r_.on_,r_.badSource,r_.earthed,r_.badBus⟩:State))
 else
 bif (decide (x.deed=7))then
 bif (decide (x.deed=7))then
 aJ ((0:Int)≤x.index∧x.index<(r_.on_.length:Int)) (
 some (⟨r_.closed,r_.locked,r_.badLink,(r_.on_.set x.index.toNat (decide (x.deed=7))),r_.badSource,r_.earthed,r_.badBus⟩:State))
 else
 some r_
 else
 bif (decide (x.deed=8))then
 aJ ((0:Int)≤x.index∧x.index<(r_.on_.length:Int)) (
 some (⟨r_.closed,r_.locked,r_.badLink,(r_.on_.set x.index.toNat (decide (x.deed=7))),r_.badSource,r_.earthed,r_.badBus⟩:State))
 else
 some r_
 else
 bif (decide (x.deed=6))then
 aJ ((0:Int)≤x.index∧x.index<(r_.locked.length:Int)) (
 some (⟨r_.closed,(r_.locked.set x.index.toNat (decide (x.deed=5))),r_.badLink,r_.on_,r_.badSource,r_.earthed,r_.badBus⟩:State))
 else
 bif (decide (x.deed=7))then
 bif (decide (x.deed=7))then
 aJ ((0:Int)≤x.index∧x.index<(r_.on_.length:Int)) (
 some (⟨r_.closed,r_.locked,r_.badLink,(r_.on_.set x.index.toNat (decide (x.deed=7))),r_.badSource,r_.earthed,r_.badBus⟩:State))
 else
 some r_
 else
 bif (decide (x.deed=8))then
 aJ ((0:Int)≤x.index∧x.index<(r_.on_.length:Int)) (
 some (⟨r_.closed,r_.locked,r_.badLink,(r_.on_.set x.index.toNat (decide (x.deed=7))),r_.badSource,r_.earthed,r_.badBus⟩:State))
 else
 some r_
 else
 bif (decide (x.deed=4))then
 aJ ((0:Int)≤x.index∧x.index<(r_.earthed.length:Int)) (
 some (⟨r_.closed,r_.locked,r_.badLink,r_.on_,r_.badSource,(r_.earthed.set x.index.toNat (decide (x.deed=3))),r_.badBus⟩:State))
 else
 bif (decide (x.deed=5))then
 bif (decide (x.deed=5))then
 aJ ((0:Int)≤x.index∧x.index<(r_.locked.length:Int)) (
 some (⟨r_.closed,(r_.locked.set x.index.toNat (decide (x.deed=5))),r_.badLink,r_.on_,r_.badSource,r_.earthed,r_.badBus⟩:State))
 else
 bif (decide (x.deed=7))then
 bif (decide (x.deed=7))then
 aJ ((0:Int)≤x.index∧x.index<(r_.on_.length:Int)) (
 some (⟨r_.closed,r_.locked,r_.badLink,(r_.on_.set x.index.toNat (decide (x.deed=7))),r_.badSource,r_.earthed,r_.badBus⟩:State))
 else
 some r_
 else
 bif (decide (x.deed=8))then
 aJ ((0:Int)≤x.index∧x.index<(r_.on_.length:Int)) (
 some (⟨r_.closed,r_.locked,r_.badLink,(r_.on_.set x.index.toNat (decide (x.deed=7))),r_.badSource,r_.earthed,r_.badBus⟩:State))
 else
 some r_
 else
 bif (decide (x.deed=6))then
 aJ ((0:Int)≤x.index∧x.index<(r_.locked.length:Int)) (
 some (⟨r_.closed,(r_.locked.set x.index.toNat (decide (x.deed=5))),r_.badLink,r_.on_,r_.badSource,r_.earthed,r_.badBus⟩:State))
 else
 bif (decide (x.deed=7))then
 bif (decide (x.deed=7))then
 aJ ((0:Int)≤x.index∧x.index<(r_.on_.length:Int)) (
 some (⟨r_.closed,r_.locked,r_.badLink,(r_.on_.set x.index.toNat (decide (x.deed=7))),r_.badSource,r_.earthed,r_.badBus⟩:State))
 else
 some r_
 else
 bif (decide (x.deed=8))then
 aJ ((0:Int)≤x.index∧x.index<(r_.on_.length:Int)) (
 some (⟨r_.closed,r_.locked,r_.badLink,(r_.on_.set x.index.toNat (decide (x.deed=7))),r_.badSource,r_.earthed,r_.badBus⟩:State))
 else
 some r_
def kr (p:au) (s_:State) (x:af):Option (State × Int):=
 (fK p s_).bind fun r_=>
 bif (!decide (r_=0))then
 some ((⟨([]:List Bool),([]:List Bool),([]:List Bool),([]:List Bool),([]:List Bool),([]:List Bool),([]:List Bool)⟩:State),r_)
 else
 Option.bind (α:=Int) (
 (oK p x).bind fun r_1=>
 bif (!r_1)then
 some 1
 else
 (qj s_ x).bind fun r_2=>
 bif r_2 then
 some 46
 else
 aJ ((gB [((bif (decide (x.deed=1))then true else(decide (x.deed=2))),true)]=true→(0:Int)≤x.index∧x.index<(s_.badLink.length:Int))∧(gB [((decide (7≤x.deed)),true),((bif (bif (decide (x.deed=1))then true else(decide (x.deed=2)))then(at' s_.badLink x.index.toNat)else false),false)]=true→(0:Int)≤x.index∧x.index<(s_.badSource.length:Int))) (
 bif (bif (bif (bif (decide (x.deed=1))then true else(decide (x.deed=2)))then(at' s_.badLink x.index.toNat)else false)then true else(bif (decide (7≤x.deed))then(at' s_.badSource x.index.toNat)else false))then
 some 47
 else
 aJ (gB [((bif (decide (x.deed=1))then true else(decide (x.deed=2))),true)]=true→(0:Int)≤x.index∧x.index<(s_.locked.length:Int)) (
 bif (bif (bif (decide (x.deed=1))then true else(decide (x.deed=2)))then(at' s_.locked x.index.toNat)else false)then
 some 43
 else
 (bif gB [((bif (bif (decide (x.deed=1))then true else(decide (x.deed=2)))then(decide (((at' p.links x.index.toNat).kind)=2))else false),true)]then yY p s_ x.index else some default).bind fun r_3=>
 aJ (gB [((bif (decide (x.deed=1))then true else(decide (x.deed=2))),true)]=true→(0:Int)≤x.index∧x.index<(p.links.length:Int)) (
 bif (bif (bif (bif (decide (x.deed=1))then true else(decide (x.deed=2)))then(decide (((at' p.links x.index.toNat).kind)=2))else false)then r_3 else false)then
 some 44
 else
 some r_)))) fun e_=>
 bif (!decide (e_=0))then
 some ((⟨([]:List Bool),([]:List Bool),([]:List Bool),([]:List Bool),([]:List Bool),([]:List Bool),([]:List Bool)⟩:State),e_)
 else
 (uX s_ x).bind fun r_4=>
 some (r_4,0)
def tH (s_:State) (l:(List af)):Int→Option (bD Int (Ex Unit Bool)):=
 fun i=>
 bif (decide (i<(l.length:Int)))then
 (qj s_ (at' l i.toNat)).bind fun r_=>
 aJ ((0:Int)≤i∧i<(l.length:Int)) (
 bif (!r_)then
 some (.done (.ret false))
 else
 some (.next (IntKind.wrap .i64 (i+1))))
 else
 some (.done (.brk ()))
def qw (s_:State) (l:(List af)):Option Bool:=
 Option.bind (aB (tH s_ l) FUEL (0)) fun o=>match o with
 | .ret v=>some v
 | .brk _=>
 some true
def fD (a:State) (b:State):Option Bool:=
 (bT a.closed b.closed).bind fun r_=>
 (bif gB [(r_,true)]then bT a.locked b.locked else some default).bind fun r_1=>
 (bif gB [((bif r_ then r_1 else false),true)]then bT a.badLink b.badLink else some default).bind fun r_2=>
 (bif gB [((bif (bif r_ then r_1 else false)then r_2 else false),true)]then bT a.on_ b.on_ else some default).bind fun r_3=>
 (bif gB [((bif (bif (bif r_ then r_1 else false)then r_2 else false)then r_3 else false),true)]then bT a.badSource b.badSource else some default).bind fun r_4=>
 (bif gB [((bif (bif (bif (bif r_ then r_1 else false)then r_2 else false)then r_3 else false)then r_4 else false),true)]then bT a.earthed b.earthed else some default).bind fun r_5=>
 (bif gB [((bif (bif (bif (bif (bif r_ then r_1 else false)then r_2 else false)then r_3 else false)then r_4 else false)then r_5 else false),true)]then bT a.badBus b.badBus else some default).bind fun r_6=>
 some (bif (bif (bif (bif (bif (bif r_ then r_1 else false)then r_2 else false)then r_3 else false)then r_4 else false)then r_5 else false)then r_6 else false)
def pQ (l:(List State)) (s_:State):Int→Option (bD Int (Ex Unit Int)):=
 fun i=>
 bif (decide (i<(l.length:Int)))then
 (fD (at' l i.toNat) s_).bind fun r_=>
 aJ ((0:Int)≤i∧i<(l.length:Int)) (
 bif r_ then
 some (.done (.ret i))
 else
 some (.next (IntKind.wrap .i64 (i+1))))
 else
 some (.done (.brk ()))
def mW (l:(List State)) (s_:State):Option Int:=
 Option.bind (aB (pQ l s_) FUEL (0)) fun o=>match o with
 | .ret v=>some v
 | .brk _=>
 some (-1)
def gL (p:au) (t:Task) (most:Int) (i:Int):((List State) × (List (List af)) × Int)→Option (bD ((List State) × (List (List af)) × Int) (Ex ((List State) × (List (List af))) (bD ((List State) × (List (List af)) × Int) (Ex (List State) ((List af) × (List State) × Int))))):=
 fun zz=>match zz with
 |(l2,programs1,kz)=>
 bif (decide (kz<(t.allowed.length:Int)))then
 (kr p (at' l2 i.toNat) (at' t.allowed kz.toNat)).bind fun r_2=>
 aJ (((0:Int)≤i∧i<(l2.length:Int))∧((0:Int)≤kz∧kz<(t.allowed.length:Int))) (
 (bif gB [((!decide (r_2.2=0)),false)]then dA p r_2.1 t else some default).bind fun r_3=>
 (bif gB [((bif (!decide (r_2.2=0))then true else(!decide (r_3=0))),false)]then mW l2 r_2.1 else some default).bind fun r_4=>
 bif (bif (bif (!decide (r_2.2=0))then true else(!decide (r_3=0)))then true else(decide (0≤r_4)))then
 some (.next (l2,programs1,(IntKind.wrap .i64 (kz+1))))
 else
 aJ (((l2.length+[r_2.1].length)*168≤140737488355328)∧(l2.length+[r_2.1].length≤4611686018427387904)) (
 (gM (at' programs1 i.toNat)).bind fun r_5=>
 aJ (((0:Int)≤i∧i<(programs1.length:Int))∧((0:Int)≤kz∧kz<(t.allowed.length:Int))∧((r_5.length+[(at' t.allowed kz.toNat)].length)*16≤140737488355328)∧(r_5.length+[(at' t.allowed kz.toNat)].length≤4611686018427387904)) (
 aJ (((programs1.length+[(r_5++[(at' t.allowed kz.toNat)])].length)*24≤140737488355328)∧(programs1.length+[(r_5++[(at' t.allowed kz.toNat)])].length≤4611686018427387904)) (
 bif (decide (most<((l2++[r_2.1]).length:Int)))then
 some (.done (.ret (.done (.ret (([]:List af),([]:List State),8)))))
 else
 (qw r_2.1 t.goal).bind fun r_6=>
 bif r_6 then
 some (.done (.ret (.done (.ret ((r_5++[(at' t.allowed kz.toNat)]),([]:List State),0)))))
 else
 some (.next ((l2++[r_2.1]),(programs1++[(r_5++[(at' t.allowed kz.toNat)])]),(IntKind.wrap .i64 (kz+1))))))))
 else
 some (.done (.brk (l2,programs1)))
def fE (p:au) (t:Task) (most:Int):((List State) × (List (List af)) × Int)→Option (bD ((List State) × (List (List af)) × Int) (Ex (List State) ((List af) × (List State) × Int))):=
 fun zz=>match zz with
 |(l,programs,i)=>
 bif (decide (i<(l.length:Int)))then
 Option.bind (aB (gL p t most i) FUEL (l,programs,0)) fun o=>match o with
 | .ret v=>some v
 | .brk (l3,programs2)=>
 some (.next (l3,programs2,(IntKind.wrap .i64 (i+1))))
 else
 some (.done (.brk l))
def rO (p:au) (s_:State) (t:Task) (most:Int):Option ((List af) × (List State) × Int):=
 (dA p s_ t).bind fun r_=>
 bif (!decide (r_=0))then
 some (([]:List af),([]:List State),r_)
 else
 bif (bif (decide (most<1))then true else(decide (20000<most)))then
 some (([]:List af),([]:List State),1)
 else
 (qw s_ t.goal).bind fun r_1=>
 bif r_1 then
 some (([]:List af),([]:List State),0)
 else
 Option.bind (aB (fE p t most) FUEL ([s_],[([]:List af)],0)) fun o=>match o with
 | .ret v=>some v
 | .brk l1=>
 some (([]:List af),l1,4)
def lq (p:au) (t:Task) (l:(List State)):Int→Option (bD Int (Ex Unit Int)):=
 fun i=>
 bif (decide (i<(l.length:Int)))then
 (dA p (at' l i.toNat) t).bind fun r_1=>
 (bif gB [((!decide (r_1=0)),false)]then qw (at' l i.toNat) t.goal else some default).bind fun r_2=>
 aJ (((0:Int)≤i∧i<(l.length:Int))∧(gB [((!decide (r_1=0)),false)]=true→(0:Int)≤i∧i<(l.length:Int))) (
 bif (bif (!decide (r_1=0))then true else r_2)then
 some (.done (.ret 7))
 else
 some (.next (IntKind.wrap .i64 (i+1))))
 else
 some (.done (.brk ()))
def lC (p:au) (t:Task) (l:(List State)) (i1:Int):Int→Option (bD Int (Ex Unit (bD Int (Ex Unit Int)))):=
 fun kz=>
 bif (decide (kz<(t.allowed.length:Int)))then
 (kr p (at' l i1.toNat) (at' t.allowed kz.toNat)).bind fun r_4=>
 aJ (((0:Int)≤i1∧i1<(l.length:Int))∧((0:Int)≤kz∧kz<(t.allowed.length:Int))) (
 (bif gB [((decide (r_4.2=0)),true)]then dA p r_4.1 t else some default).bind fun r_5=>
 (bif gB [((bif (decide (r_4.2=0))then(decide (r_5=0))else false),true)]then mW l r_4.1 else some default).bind fun r_6=>
 bif (bif (bif (decide (r_4.2=0))then(decide (r_5=0))else false)then(decide (r_6<0))else false)then
 some (.done (.ret (.done (.ret 7))))
 else
 some (.next (IntKind.wrap .i64 (kz+1))))
 else
 some (.done (.brk ()))
def lJ (p:au) (t:Task) (l:(List State)):Int→Option (bD Int (Ex Unit Int)):=
 fun i1=>
 bif (decide (i1<(l.length:Int)))then
 Option.bind (aB (lC p t l i1) FUEL (0)) fun o=>match o with
 | .ret v=>some v
 | .brk _=>
 some (.next (IntKind.wrap .i64 (i1+1)))
 else
 some (.done (.brk ()))
def tN (p:au) (s_:State) (t:Task) (l:(List State)):Option Int:=
 (dA p s_ t).bind fun r_=>
 bif (!decide (r_=0))then
 some r_
 else
 bif (decide (20000<(l.length:Int)))then
 some 2
 else
 Option.bind (aB (lq p t l) FUEL (0)) fun o=>match o with
 | .ret v=>some v
 | .brk _=>
 (mW l s_).bind fun r_3=>
 bif (decide (r_3<0))then
 some 7
 else
 Option.bind (aB (lJ p t l) FUEL (0)) fun o=>match o with
 | .ret v=>some v
 | .brk _=>
 some 0
def lQ (p:au) (t:Task):Int→Option (bD Int (Ex Unit Bool)):=
 fun i=>
 bif (decide (i<(t.fed.length:Int)))then
 aJ (((0:Int)≤i∧i<(t.fed.length:Int))∧(gB [((decide ((at' t.fed i.toNat)<0)),false)]=true→(0:Int)≤i∧i<(t.fed.length:Int))) (
 bif (bif (decide ((at' t.fed i.toNat)<0))then true else(decide ((p.racks.length:Int)≤(at' t.fed i.toNat))))then
 some (.done (.ret false))
 else
 some (.next (IntKind.wrap .i64 (i+1))))
 else
 some (.done (.brk ()))
def lI (p:au) (t:Task):Int→Option (bD Int (Ex Unit Bool)):=
 fun i1=>
 bif (decide (i1<(t.crew.length:Int)))then
 aJ (((0:Int)≤i1∧i1<(t.crew.length:Int))∧(gB [((decide ((at' t.crew i1.toNat)<0)),false)]=true→(0:Int)≤i1∧i1<(t.crew.length:Int))) (
 bif (bif (decide ((at' t.crew i1.toNat)<0))then true else(decide (p.buses≤(at' t.crew i1.toNat))))then
 some (.done (.ret false))
 else
 some (.next (IntKind.wrap .i64 (i1+1))))
 else
 some (.done (.brk ()))
def oO (p:au) (t:Task):Option Bool:=
 Option.bind (aB (lQ p t) FUEL (0)) fun o=>match o with
 | .ret v=>some v
 | .brk _=>
 Option.bind (aB (lI p t) FUEL (0)) fun o=>match o with
 | .ret v=>some v
 | .brk _=>
 some true
def ji (p:au) (t:Task) (l:(List af)):((List Bool) × (List Bool) × (List Bool) × (List Bool) × (List Bool) × (List Bool) × (List Bool) × Int)→Option (bD ((List Bool) × (List Bool) × (List Bool) × (List Bool) × (List Bool) × (List Bool) × (List Bool) × Int) (Ex ((List Bool) × (List Bool) × (List Bool) × (List Bool) × (List Bool) × (List Bool) × (List Bool)) (Int × State × Int))):=
 fun zz=>match zz with
 |(now0,now1,now2,now3,now4,now5,now6,i)=>
 bif (decide (i<(l.length:Int)))then
 (kr p (⟨now0,now1,now2,now3,now4,now5,now6⟩:State) (at' l i.toNat)).bind fun r_1=>
 aJ ((0:Int)≤i∧i<(l.length:Int)) (
 bif (decide (r_1.2=0))then
 (dA p r_1.1 t).bind fun r_2=>
 bif (!decide (r_2=0))then
 some (.done (.ret (i,(⟨([]:List Bool),([]:List Bool),([]:List Bool),([]:List Bool),([]:List Bool),([]:List Bool),([]:List Bool)⟩:State),r_2)))
 else
 some (.next (r_1.1.closed,r_1.1.locked,r_1.1.badLink,r_1.1.on_,r_1.1.badSource,r_1.1.earthed,r_1.1.badBus,(IntKind.wrap .i64 (i+1))))
 else
 bif (!decide (r_1.2=0))then
 some (.done (.ret (i,(⟨([]:List Bool),([]:List Bool),([]:List Bool),([]:List Bool),([]:List Bool),([]:List Bool),([]:List Bool)⟩:State),r_1.2)))
 else
 some (.next (r_1.1.closed,r_1.1.locked,r_1.1.badLink,r_1.1.on_,r_1.1.badSource,r_1.1.earthed,r_1.1.badBus,(IntKind.wrap .i64 (i+1)))))
 else
 some (.done (.brk (now0,now1,now2,now3,now4,now5,now6)))
def oz (p:au) (s_:State) (t:Task) (l:(List af)):Option (Int × State × Int):=
 (dA p s_ t).bind fun r_=>
 bif (!decide (r_=0))then
 some (0,(⟨([]:List Bool),([]:List Bool),([]:List Bool),([]:List Bool),([]:List Bool),([]:List Bool),([]:List Bool)⟩:State),r_)
 else
 bif (decide (256<(l.length:Int)))then
 some (0,(⟨([]:List Bool),([]:List Bool),([]:List Bool),([]:List Bool),([]:List Bool),([]:List Bool),([]:List Bool)⟩:State),2)
 else
 Option.bind (aB (ji p t l) FUEL (s_.closed,s_.locked,s_.badLink,s_.on_,s_.badSource,s_.earthed,s_.badBus,0)) fun o=>match o with
 | .ret v=>some v
 | .brk (now01,now11,now21,now31,now41,now51,now61)=>
 some ((l.length:Int),(⟨now01,now11,now21,now31,now41,now51,now61⟩:State),0)
def gJ (s_:(List af)):Option (List af):=
 some s_
def nJ (x:af):Option af:=
 bif (bif (decide (1≤x.deed))then(decide (x.deed≤8))else false)then
 some (⟨(IntKind.wrap .i64 ((IntKind.wrap .i64 (((BitVec.ofInt (IntKind.bits .i64) (IntKind.wrap .i64 (x.deed - 1)) ^^^ BitVec.ofInt (IntKind.bits .i64) 1).toNat:Int)))+1)),x.index⟩:af)
 else
 some x
def l8 (x8:Int) (x9:Int) (x91:Int) (step:(List af)):Option (List af):=
 (nJ (⟨x9,x91⟩:af)).bind fun r_=>
 aJ (((step.length+[r_].length)*16≤140737488355328)∧(step.length+[r_].length≤4611686018427387904)) (
 some (step++[r_]))
def dQ (x1:(List af)):((List af) × Int)→Option (bD ((List af) × Int) (Ex (List af) (List af))):=
 fun zz=>match zz with
 |(o30,i)=>
 bif (decide (0≤i))then
 (l8 i ((at' x1 i.toNat).deed) ((at' x1 i.toNat).index) o30).bind fun r_=>
 aJ ((0:Int)≤i∧i<(x1.length:Int)) (
 some (.next (r_,(IntKind.wrap .i64 (i - 1)))))
 else
 some (.done (.brk o30))
def gQ (x1:(List af)) (step:(List af)):Option (List af):=
 Option.bind (aB (dQ x1) FUEL (step,(IntKind.wrap .i64 ((x1.length:Int) - 1)))) fun o=>match o with
 | .ret v=>some v
 | .brk o301=>
 some o301
def iO (l:(List af)):Option (List af):=
 (gJ l).bind fun r_=>
 (gQ r_ ([]:List af)).bind fun r_1=>
 some r_1
def iT (x:af):Option af:=
 bif (bif (decide (x.deed<1))then true else(decide (8<x.deed)))then
 some x
 else
 aJ ((0:Int)≤x.deed∧x.deed<([0,2,1,4,3,6,5,8,7].length:Int)) (
 some (⟨(at' [0,2,1,4,3,6,5,8,7] x.deed.toNat),x.index⟩:af))
def j3 (l:(List af)):Option (List af):=
 (gJ l).bind fun r_=>
 (gQ l ([]:List af)).bind fun r_1=>
 some r_1
def bU (p:au) (s_:State) (l:(List af)) (r_:Task):((List af) × (List Bool) × (List Bool) × (List Bool) × (List Bool) × (List Bool) × (List Bool) × (List Bool) × Int)→Option (bD ((List af) × (List Bool) × (List Bool) × (List Bool) × (List Bool) × (List Bool) × (List Bool) × (List Bool) × Int) (Ex Unit Bool)):=
 fun zz=>match zz with
 |(program,now0,now1,now2,now3,now4,now5,now6,i)=>
 bif (decide (i<(l.length:Int)))then
 (cO p (⟨now0,now1,now2,now3,now4,now5,now6⟩:State) r_ (FV l i.toNat (((IntKind.wrap .i64 (i+1)).toNat) - i.toNat))).bind fun r_5=>
 aJ ((0:Int)≤i∧i≤(IntKind.wrap .i64 (i+1))∧(IntKind.wrap .i64 (i+1))≤(l.length:Int)) (
 bif (!decide (r_5.2.2=0))then
 bif (!decide (r_5.1=0))then
 some (.done (.ret false))
 else
 some (.next (program,now0,now1,now2,now3,now4,now5,now6,(IntKind.wrap .i64 (i+1))))
 else
 aJ (((0:Int)≤i∧i<(l.length:Int))∧((program.length+[(at' l i.toNat)].length)*16≤140737488355328)∧(program.length+[(at' l i.toNat)].length≤4611686018427387904)) (
 (cO p s_ r_ (program++[(at' l i.toNat)])).bind fun r_6=>
 (bif gB [((bif (!decide (r_6.2.2=0))then true else(!decide (r_6.1=((program++[(at' l i.toNat)]).length:Int)))),false)]then fD r_6.2.1 r_5.2.1 else some default).bind fun r_7=>
 bif (bif (bif (!decide (r_6.2.2=0))then true else(!decide (r_6.1=((program++[(at' l i.toNat)]).length:Int))))then true else(!r_7))then
 some (.done (.ret false))
 else
 (j3 (program++[(at' l i.toNat)])).bind fun r_8=>
 (cO p r_5.2.1 r_ r_8).bind fun r_9=>
 (bif gB [((bif (!decide (r_9.2.2=0))then true else(!decide (r_9.1=((program++[(at' l i.toNat)]).length:Int)))),false)]then fD r_9.2.1 s_ else some default).bind fun r_10=>
 (bif gB [((bif (bif (!decide (r_9.2.2=0))then true else(!decide (r_9.1=((program++[(at' l i.toNat)]).length:Int))))then true else(!r_10)),false)]then iO r_8 else some default).bind fun r_11=>
 (bif gB [((bif (bif (!decide (r_9.2.2=0))then true else(!decide (r_9.1=((program++[(at' l i.toNat)]).length:Int))))then true else(!r_10)),false)]then iN r_11 (program++[(at' l i.toNat)])else some default).bind fun r_12=>
 bif (bif (bif (bif (!decide (r_9.2.2=0))then true else(!decide (r_9.1=((program++[(at' l i.toNat)]).length:Int))))then true else(!r_10))then true else(!r_12))then
 some (.done (.ret false))
 else
 some (.next ((program++[(at' l i.toNat)]),r_5.2.1.closed,r_5.2.1.locked,r_5.2.1.badLink,r_5.2.1.on_,r_5.2.1.badSource,r_5.2.1.earthed,r_5.2.1.badBus,(IntKind.wrap .i64 (i+1))))))
 else
 some (.done (.brk ()))
def lm (p:au) (s_:State) (t:Task) (l:(List af)):Option Bool:=
 (uG t).bind fun r_=>
 (yO p t).bind fun r_1=>
 (bif gB [(r_1,false)]then oO p t else some default).bind fun r_2=>
 (bif gB [((bif (bif r_1 then true else(!r_2))then true else(decide (40<(l.length:Int)))),false)]then eG p s_ r_ else some default).bind fun r_3=>
 bif (bif (bif (bif r_1 then true else(!r_2))then true else(decide (40<(l.length:Int))))then true else(!decide (r_3=0)))then
 (nC).bind fun r_4=>
 some r_4
 else
 Option.bind (aB (bU p s_ l r_) FUEL (([]:List af),s_.closed,s_.locked,s_.badLink,s_.on_,s_.badSource,s_.earthed,s_.badBus,0)) fun o=>match o with
 | .ret v=>some v
 | .brk _=>
 (nC).bind fun r_13=>
 some r_13
end Sg
