import Derived.Test.YtklofnlffikpgaaGreatTwLd
set_option linter.all false
namespace Sg
open Go
structure Source where
 bus:Int
 kind:Int
 power:Int
 sync:Int
 ohm:Int
instance:Inhabited Source:=⟨⟨default,default,default,default,default⟩⟩
def Source.cell (x:Source):Nat→DV
 |0=>(.int .i64 x.bus)
 |1=>(.int .i64 x.kind)
 |2=>(.int .i64 x.power)
 |3=>(.int .i64 x.sync)
 |4=>(.int .i64 x.ohm)
 |_=> .nilp
structure sP where
 amps:Int
 millis:Int
instance:Inhabited sP:=⟨⟨default,default⟩⟩
def sP.cell (x:sP):Nat→DV
 |0=>(.int .i64 x.amps)
 |1=>(.int .i64 x.millis)
 |_=> .nilp
structure Link where
 a:Int
 b:Int
 kind:Int
 most:Int
 ohm:Int
 trip:(List sP)
instance:Inhabited Link:=⟨⟨default,default,default,default,default,default⟩⟩
def Link.cell (x:Link):Nat→DV
 |0=>(.int .i64 x.a)
 |1=>(.int .i64 x.b)
 |2=>(.int .i64 x.kind)
 |3=>(.int .i64 x.most)
 |4=>(.int .i64 x.ohm)
 |5=>(aZ none 2 sP.cell x.trip)
 |_=> .nilp
structure ay where
 e0:Int
 e1:Int
instance:Inhabited ay:=⟨⟨default,default⟩⟩
def ay.cell (x:ay):Nat→DV
 |0=>(.int .i64 x.e0)
 |1=>(.int .i64 x.e1)
 |_=> .nilp
structure aN where
 feeds:ay
 power:Int
 paths:Int
instance:Inhabited aN:=⟨⟨default,default,default⟩⟩
def aN.cell (x:aN):Nat→DV
 |0=>(.int .i64 x.feeds.e0)
 |1=>(.int .i64 x.feeds.e1)
 |2=>(.int .i64 x.power)
 |3=>(.int .i64 x.paths)
 |_=> .nilp
structure ah where
 buses:Int
 sources:(List Source)
 links:(List Link)
 racks:(List aN)
instance:Inhabited ah:=⟨⟨default,default,default,default⟩⟩
def ah.cell (x:ah):Nat→DV
 |0=>(.int .i64 x.buses)
 |1=>(aZ none 5 Source.cell x.sources)
 |2=>(aZ none 6 Link.cell x.links)
 |3=>(aZ none 4 aN.cell x.racks)
 |_=> .nilp
structure State where
 closed:(List Bool)
 locked:(List Bool)
 badLink:(List Bool)
 on_:(List Bool)
 badSource:(List Bool)
 earthed:(List Bool)
 badBus:(List Bool)
instance:Inhabited State:=⟨⟨default,default,default,default,default,default,default⟩⟩
def State.cell (x:State):Nat→DV
 |0=>(aZ none 1 af x.closed)
 |1=>(aZ none 1 af x.locked)
 |2=>(aZ none 1 af x.badLink)
 |3=>(aZ none 1 af x.on_)
 |4=>(aZ none 1 af x.badSource)
 |5=>(aZ none 1 af x.earthed)
 |6=>(aZ none 1 af x.badBus)
 |_=> .nilp
structure bY where
 l:(List Bool)
 n:Int
instance:Inhabited bY:=⟨⟨default,default⟩⟩
def bY.cell (x:bY):Nat→DV
 |0=>(aZ none 1 af x.l)
 |1=>(.int .i64 x.n)
 |_=> .nilp
structure Transfer where
 watch:Int
 open_:Int
 close:Int
instance:Inhabited Transfer:=⟨⟨default,default,default⟩⟩
def Transfer.cell (x:Transfer):Nat→DV
 |0=>(.int .i64 x.watch)
 |1=>(.int .i64 x.open_)
 |2=>(.int .i64 x.close)
 |_=> .nilp
structure aW where
 head:(List (Int × Int))
instance:Inhabited aW:=⟨⟨default⟩⟩
def aW.cell (x:aW):Nat→DV
 |0=> .nilp
 |_=> .nilp
structure aI where
 buses:(List Int)
 sources:(List Int)
instance:Inhabited aI:=⟨⟨default,default⟩⟩
def aI.cell (x:aI):Nat→DV
 |0=>(aZ none 1 (aF .i64) x.buses)
 |1=>(aZ none 1 (aF .i64) x.sources)
 |_=> .nilp
structure Part where
 kind:Int
 index:Int
instance:Inhabited Part:=⟨⟨default,default⟩⟩
def Part.cell (x:Part):Nat→DV
 |0=>(.int .i64 x.kind)
 |1=>(.int .i64 x.index)
 |_=> .nilp
structure aC where
 e0:(List (Int × (List Int)))
 e1:(List (Int × (List Int)))
instance:Inhabited aC:=⟨⟨default,default⟩⟩
def aC.cell (x:aC):Nat→DV
 |0=> .nilp
 |1=> .nilp
 |_=> .nilp
structure Graph where
 parts:(List Part)
 aD:aC
instance:Inhabited Graph:=⟨⟨default,default⟩⟩
def Graph.cell (x:Graph):Nat→DV
 |0=>(aZ none 2 Part.cell x.parts)
 |1=> .nilp
 |2=> .nilp
 |_=> .nilp
structure bR where
 e0:Bool
 e1:Bool
instance:Inhabited bR:=⟨⟨default,default⟩⟩
def bR.cell (x:bR):Nat→DV
 |0=>(.bool x.e0)
 |1=>(.bool x.e1)
 |_=> .nilp
def aI.ev (x:aI):Nat→EV
 |0=> .row 3 1 x.buses.length (av (aF .i64) x.buses)
 |1=> .row 3 1 x.sources.length (av (aF .i64) x.sources)
 |_=> .d .nilp
def aO (n:Int) (first:Int) (last:Int):Option Bool:=
 some (bif (decide (first≤n))then(decide (n≤last))else false)
def qE (p:ah):Option (Int × (List Source) × (List Link) × (List aN)):=
 some (p.buses,p.sources,p.links,p.racks)
def uM (p:ah):Option (Int × (List Source) × (List Link) × (List aN)):=
 some (p.buses,p.sources,p.links,p.racks)
def uS (p:ah):Option (Int × (List Source) × (List Link) × (List aN)):=
 some (p.buses,p.sources,p.links,p.racks)
def lN (x:Source) (x1:Int) (x11:(List Source)) (x12:(List Link)) (x13:(List aN)):Option Bool:=
 (aO x.bus 0 (IntKind.wrap .i64 (x1 - 1))).bind fun r_=>
 (bif gB [(r_,true)]then aO x.kind 1 3 else some default).bind fun r_1=>
 (bif gB [((bif r_ then r_1 else false),true)]then aO x.power 1 100000 else some default).bind fun r_2=>
 (bif gB [((bif (bif r_ then r_1 else false)then r_2 else false),true)]then aO x.sync 0 8 else some default).bind fun r_3=>
 (bif gB [((bif (bif (bif r_ then r_1 else false)then r_2 else false)then r_3 else false),true)]then aO x.ohm 10 100000 else some default).bind fun r_4=>
 some (bif (bif (bif (bif r_ then r_1 else false)then r_2 else false)then r_3 else false)then r_4 else false)
def qG (x:Source) (x1:Int) (x11:(List Source)) (x12:(List Link)) (x13:(List aN)):Option Bool:=
 (lN x x1 x11 x12 x13).bind fun r_=>
 some (!r_)
def kF (s_:(List Source)) (f_:Int) (f_1:(List Source)) (f_2:(List Link)) (f_3:(List aN)):Int→Option (bC Int (Ex Unit Int)):=
 fun t8=>
 bif (decide (t8<(s_.length:Int)))then
 (qG (at' s_ t8.toNat) f_ f_1 f_2 f_3).bind fun r_=>
 cZ ((0:Int)≤t8∧t8<(s_.length:Int)) (
 bif r_ then
 some (.done (.ret t8))
 else
 some (.next (IntKind.wrap .i64 (t8+1))))
 else
 some (.done (.brk ()))
def mY (s_:(List Source)) (f_:Int) (f_1:(List Source)) (f_2:(List Link)) (f_3:(List aN)):Option Int:=
 Option.bind (aG (kF s_ f_ f_1 f_2 f_3) FUEL (0)) fun o=>match o with
 | .ret v=>some v
 | .brk _=>
 some (-1)
def iP (s_:(List Source)) (f_:Int) (f_1:(List Source)) (f_2:(List Link)) (f_3:(List aN)):Option Bool:=
 (mY s_ f_ f_1 f_2 f_3).bind fun r_=>
 some (decide (0≤r_))
def qc (l:(List Source)) (most:Int) (right:Int) (right1:(List Source)) (right2:(List Link)) (right3:(List aN)):Option Bool:=
 (bif gB [((decide ((l.length:Int)≤most)),true)]then iP l right right1 right2 right3 else some default).bind fun r_=>
 some (bif (decide ((l.length:Int)≤most))then(!r_)else false)
def kN (x:Link):Int→Option (bC Int (Ex Unit Bool)):=
 fun t50=>
 bif (decide (t50<(x.trip.length:Int)))then
 cZ ((0:Int)≤t50∧t50<(x.trip.length:Int)) (
 (aO ((at' x.trip t50.toNat).amps) 1 1000000).bind fun r_5=>
 (bif gB [((!r_5),false)]then aO ((at' x.trip t50.toNat).millis) 1 100000 else some default).bind fun r_6=>
 cZ ((gB [((decide (0<t50)),true),((bif (!r_5)then true else(!r_6)),false)]=true→(0:Int)≤(IntKind.wrap .i64 (t50 - 1))∧(IntKind.wrap .i64 (t50 - 1))<(x.trip.length:Int))∧(gB [((decide (((at' x.trip t50.toNat).amps)≤((at' x.trip ((IntKind.wrap .i64 (t50 - 1)).toNat)).amps))),false),((decide (0<t50)),true),((bif (!r_5)then true else(!r_6)),false)]=true→(0:Int)≤(IntKind.wrap .i64 (t50 - 1))∧(IntKind.wrap .i64 (t50 - 1))<(x.trip.length:Int))) (
 bif (bif (bif (!r_5)then true else(!r_6))then true else(bif (decide (0<t50))then(bif (decide (((at' x.trip t50.toNat).amps)≤((at' x.trip ((IntKind.wrap .i64 (t50 - 1)).toNat)).amps)))then true else(decide (((at' x.trip ((IntKind.wrap .i64 (t50 - 1)).toNat)).millis)≤((at' x.trip t50.toNat).millis))))else false))then
 some (.done (.ret false))
 else
 some (.next (IntKind.wrap .i64 (t50+1)))))
 else
 some (.done (.brk ()))
def nV (x:Link) (x1:Int) (x11:(List Source)) (x12:(List Link)) (x13:(List aN)):Option Bool:=
 (aO x.a 0 (IntKind.wrap .i64 (x1 - 1))).bind fun r_=>
 (bif gB [((!r_),false)]then aO x.b 0 (IntKind.wrap .i64 (x1 - 1))else some default).bind fun r_1=>
 (bif gB [((bif (bif (!r_)then true else(!r_1))then true else(decide (x.a=x.b))),false)]then aO x.kind 1 3 else some default).bind fun r_2=>
 (bif gB [((bif (bif (bif (!r_)then true else(!r_1))then true else(decide (x.a=x.b)))then true else(!r_2)),false)]then aO x.most 1 100000 else some default).bind fun r_3=>
 (bif gB [((bif (bif (bif (bif (!r_)then true else(!r_1))then true else(decide (x.a=x.b)))then true else(!r_2))then true else(!r_3)),false)]then aO x.ohm 10 100000 else some default).bind fun r_4=>
 bif (bif (bif (bif (bif (bif (!r_)then true else(!r_1))then true else(decide (x.a=x.b)))then true else(!r_2))then true else(!r_3))then true else(!r_4))then
 some false
 else
 Option.bind (aG (kN x) FUEL (0)) fun o=>match o with
 | .ret v=>some v
 | .brk _=>
 some (bif (decide ((x.trip.length:Int)≤6))then(bif (decide ((x.trip.length:Int)=0))then true else(decide (x.kind=3)))else false)
def oq (x:Link) (x1:Int) (x11:(List Source)) (x12:(List Link)) (x13:(List aN)):Option Bool:=
 (nV x x1 x11 x12 x13).bind fun r_=>
 some (!r_)
def jm (s_:(List Link)) (f_:Int) (f_1:(List Source)) (f_2:(List Link)) (f_3:(List aN)):Int→Option (bC Int (Ex Unit Int)):=
 fun t8=>
 bif (decide (t8<(s_.length:Int)))then
 (oq (at' s_ t8.toNat) f_ f_1 f_2 f_3).bind fun r_=>
 cZ ((0:Int)≤t8∧t8<(s_.length:Int)) (
 bif r_ then
 some (.done (.ret t8))
 else
 some (.next (IntKind.wrap .i64 (t8+1))))
 else
 some (.done (.brk ()))
def kH (s_:(List Link)) (f_:Int) (f_1:(List Source)) (f_2:(List Link)) (f_3:(List aN)):Option Int:=
 Option.bind (aG (jm s_ f_ f_1 f_2 f_3) FUEL (0)) fun o=>match o with
 | .ret v=>some v
 | .brk _=>
 some (-1)
def fT (s_:(List Link)) (f_:Int) (f_1:(List Source)) (f_2:(List Link)) (f_3:(List aN)):Option Bool:=
 (kH s_ f_ f_1 f_2 f_3).bind fun r_=>
 some (decide (0≤r_))
def nT (l:(List Link)) (most:Int) (right:Int) (right1:(List Source)) (right2:(List Link)) (right3:(List aN)):Option Bool:=
 (bif gB [((decide ((l.length:Int)≤most)),true)]then fT l right right1 right2 right3 else some default).bind fun r_=>
 some (bif (decide ((l.length:Int)≤most))then(!r_)else false)
def oU (x:aN):Option Int:=
 bif (decide (x.feeds.e1=(-1)))then
 some 1
 else
 some 2
def nQ (x:aN) (x1:Int) (x11:(List Source)) (x12:(List Link)) (x13:(List aN)):Option Bool:=
 (aO x.feeds.e0 0 (IntKind.wrap .i64 (x1 - 1))).bind fun r_=>
 (bif gB [(r_,true)]then aO x.feeds.e1 (-1) (IntKind.wrap .i64 (x1 - 1))else some default).bind fun r_1=>
 (bif gB [((bif (bif r_ then r_1 else false)then(!decide (x.feeds.e0=x.feeds.e1))else false),true)]then aO x.power 1 100000 else some default).bind fun r_2=>
 (bif gB [((bif (bif (bif r_ then r_1 else false)then(!decide (x.feeds.e0=x.feeds.e1))else false)then r_2 else false),true)]then oU x else some default).bind fun r_3=>
 (bif gB [((bif (bif (bif r_ then r_1 else false)then(!decide (x.feeds.e0=x.feeds.e1))else false)then r_2 else false),true)]then aO x.paths 0 r_3 else some default).bind fun r_4=>
 some (bif (bif (bif (bif r_ then r_1 else false)then(!decide (x.feeds.e0=x.feeds.e1))else false)then r_2 else false)then r_4 else false)
def nU (x:aN) (x1:Int) (x11:(List Source)) (x12:(List Link)) (x13:(List aN)):Option Bool:=
 (nQ x x1 x11 x12 x13).bind fun r_=>
 some (!r_)
def jr (s_:(List aN)) (f_:Int) (f_1:(List Source)) (f_2:(List Link)) (f_3:(List aN)):Int→Option (bC Int (Ex Unit Int)):=
 fun t8=>
 bif (decide (t8<(s_.length:Int)))then
 (nU (⟨((at' s_ t8.toNat).feeds),(at' s_ t8.toNat).power,(at' s_ t8.toNat).paths⟩:aN) f_ f_1 f_2 f_3).bind fun r_=>
 cZ ((0:Int)≤t8∧t8<(s_.length:Int)) (
 bif r_ then
 some (.done (.ret t8))
 else
 some (.next (IntKind.wrap .i64 (t8+1))))
 else
 some (.done (.brk ()))
def kI (s_:(List aN)) (f_:Int) (f_1:(List Source)) (f_2:(List Link)) (f_3:(List aN)):Option Int:=
 Option.bind (aG (jr s_ f_ f_1 f_2 f_3) FUEL (0)) fun o=>match o with
 | .ret v=>some v
 | .brk _=>
 some (-1)
def fV (s_:(List aN)) (f_:Int) (f_1:(List Source)) (f_2:(List Link)) (f_3:(List aN)):Option Bool:=
 (kI s_ f_ f_1 f_2 f_3).bind fun r_=>
 some (decide (0≤r_))
def ow (l:(List aN)) (most:Int) (right:Int) (right1:(List Source)) (right2:(List Link)) (right3:(List aN)):Option Bool:=
 (bif gB [((decide ((l.length:Int)≤most)),true)]then fV l right right1 right2 right3 else some default).bind fun r_=>
 some (bif (decide ((l.length:Int)≤most))then(!r_)else false)
def mO (p:ah):Option Int:=
 (aO p.buses 1 24).bind fun r_=>
 bif (!r_)then
 some 10
 else
 (qE p).bind fun r_1=>
 (qc p.sources 8 r_1.1 r_1.2.1 r_1.2.2.1 r_1.2.2.2).bind fun r_2=>
 bif (!r_2)then
 some 11
 else
 (uM p).bind fun r_3=>
 (nT p.links 40 r_3.1 r_3.2.1 r_3.2.2.1 r_3.2.2.2).bind fun r_4=>
 bif (!r_4)then
 some 12
 else
 (uS p).bind fun r_5=>
 (ow p.racks 24 r_5.1 r_5.2.1 r_5.2.2.1 r_5.2.2.2).bind fun r_6=>
 bif (!r_6)then
 some 13
 else
 some 0
def iL (p:ah) (s_:State):Int→Option (bC Int (Ex Unit Int)):=
 fun t55=>
 bif (decide (t55<([(⟨s_.closed,(p.links.length:Int)⟩:bY),(⟨s_.locked,(p.links.length:Int)⟩:bY),(⟨s_.badLink,(p.links.length:Int)⟩:bY),(⟨s_.on_,(p.sources.length:Int)⟩:bY),(⟨s_.badSource,(p.sources.length:Int)⟩:bY),(⟨s_.earthed,p.buses⟩:bY),(⟨s_.badBus,p.buses⟩:bY)].length:Int)))then
 cZ ((0:Int)≤t55∧t55<([(⟨s_.closed,(p.links.length:Int)⟩:bY),(⟨s_.locked,(p.links.length:Int)⟩:bY),(⟨s_.badLink,(p.links.length:Int)⟩:bY),(⟨s_.on_,(p.sources.length:Int)⟩:bY),(⟨s_.badSource,(p.sources.length:Int)⟩:bY),(⟨s_.earthed,p.buses⟩:bY),(⟨s_.badBus,p.buses⟩:bY)].length:Int)) (
 bif (!decide ((((at' [(⟨s_.closed,(p.links.length:Int)⟩:bY),(⟨s_.locked,(p.links.length:Int)⟩:bY),(⟨s_.badLink,(p.links.length:Int)⟩:bY),(⟨s_.on_,(p.sources.length:Int)⟩:bY),(⟨s_.badSource,(p.sources.length:Int)⟩:bY),(⟨s_.earthed,p.buses⟩:bY),(⟨s_.badBus,p.buses⟩:bY)] t55.toNat).l).length:Int)=((at' [(⟨s_.closed,(p.links.length:Int)⟩:bY),(⟨s_.locked,(p.links.length:Int)⟩:bY),(⟨s_.badLink,(p.links.length:Int)⟩:bY),(⟨s_.on_,(p.sources.length:Int)⟩:bY),(⟨s_.badSource,(p.sources.length:Int)⟩:bY),(⟨s_.earthed,p.buses⟩:bY),(⟨s_.badBus,p.buses⟩:bY)] t55.toNat).n)))then
 some (.done (.ret 9))
 else
 some (.next (IntKind.wrap .i64 (t55+1))))
 else
 some (.done (.brk ()))
def iM (p:ah) (s_:State):Int→Option (bC Int (Ex Unit Int)):=
 fun t69=>
 bif (decide (t69<(p.links.length:Int)))then
 cZ ((0:Int)≤t69∧t69<(p.links.length:Int)) (
 cZ ((gB [((decide (((at' p.links t69.toNat).kind)=1)),true)]=true→(0:Int)≤t69∧t69<(s_.closed.length:Int))∧(gB [((!(at' s_.closed t69.toNat)),false),((decide (((at' p.links t69.toNat).kind)=1)),true)]=true→(0:Int)≤t69∧t69<(s_.locked.length:Int))) (
 bif (bif (decide (((at' p.links t69.toNat).kind)=1))then(bif (!(at' s_.closed t69.toNat))then true else(at' s_.locked t69.toNat))else false)then
 some (.done (.ret 9))
 else
 some (.next (IntKind.wrap .i64 (t69+1)))))
 else
 some (.done (.brk ()))
def cO (p:ah) (s_:State):Option Int:=
 (mO p).bind fun r_=>
 bif (!decide (r_=0))then
 some r_
 else
 Option.bind (aG (iL p s_) FUEL (0)) fun o=>match o with
 | .ret v=>some v
 | .brk _=>
 Option.bind (aG (iM p s_) FUEL (0)) fun o=>match o with
 | .ret v=>some v
 | .brk _=>
 some 0
def eT (i:Int) (x1:Int) (x11:(List Source)) (x12:(List Link)) (x13:(List aN)):Option Bool:=
 cZ (gB [((bif (decide (0≤i))then(decide (i<(x12.length:Int)))else false),true)]=true→(0:Int)≤i∧i<(x12.length:Int)) (
 some (bif (bif (decide (0≤i))then(decide (i<(x12.length:Int)))else false)then(!decide (((at' x12 i.toNat).kind)=1))else false))
def gK (x:Transfer) (x1:Int) (x11:(List Source)) (x12:(List Link)) (x13:(List aN)) (x2:Int) (x21:(List Source)) (x22:(List Link)) (x23:(List aN)):Option Bool:=
 (bif gB [((bif (decide (x.watch<0))then true else(decide (x1≤x.watch))),false)]then eT x.close x2 x21 x22 x23 else some default).bind fun r_=>
 (bif gB [((!decide (x.open_=(-1))),true),((bif (bif (decide (x.watch<0))then true else(decide (x1≤x.watch)))then true else(!r_)),false)]then eT x.open_ x2 x21 x22 x23 else some default).bind fun r_1=>
 some (bif (bif (bif (decide (x.watch<0))then true else(decide (x1≤x.watch)))then true else(!r_))then true else(bif (!decide (x.open_=(-1)))then(bif (!r_1)then true else(decide (x.open_=x.close)))else false))
def jv (s_:(List Transfer)) (f_:Int) (f_1:(List Source)) (f_2:(List Link)) (f_3:(List aN)) (f_4:Int) (f_5:(List Source)) (f_6:(List Link)) (f_7:(List aN)):Int→Option (bC Int (Ex Unit Int)):=
 fun t8=>
 bif (decide (t8<(s_.length:Int)))then
 (gK (at' s_ t8.toNat) f_ f_1 f_2 f_3 f_4 f_5 f_6 f_7).bind fun r_=>
 cZ ((0:Int)≤t8∧t8<(s_.length:Int)) (
 bif r_ then
 some (.done (.ret t8))
 else
 some (.next (IntKind.wrap .i64 (t8+1))))
 else
 some (.done (.brk ()))
def kJ (s_:(List Transfer)) (f_:Int) (f_1:(List Source)) (f_2:(List Link)) (f_3:(List aN)) (f_4:Int) (f_5:(List Source)) (f_6:(List Link)) (f_7:(List aN)):Option Int:=
 Option.bind (aG (jv s_ f_ f_1 f_2 f_3 f_4 f_5 f_6 f_7) FUEL (0)) fun o=>match o with
 | .ret v=>some v
 | .brk _=>
 some (-1)
def gJ (s_:(List Transfer)) (f_:Int) (f_1:(List Source)) (f_2:(List Link)) (f_3:(List aN)) (f_4:Int) (f_5:(List Source)) (f_6:(List Link)) (f_7:(List aN)):Option Bool:=
 (kJ s_ f_ f_1 f_2 f_3 f_4 f_5 f_6 f_7).bind fun r_=>
 some (decide (0≤r_))
def fM (p:ah) (s_:State) (l:(List Transfer)):Option Int:=
 (cO p s_).bind fun r_=>
 bif (!decide (r_=0))then
 some r_
 else
 (bif gB [((decide (16<(l.length:Int))),false)]then gJ l p.buses p.sources p.links p.racks p.buses p.sources p.links p.racks else some default).bind fun r_1=>
 bif (bif (decide (16<(l.length:Int)))then true else r_1)then
 some 1
 else
 some 0
def qD (s_:(List Bool)) (s_nn:Bool):Option (List Bool):=
 bif (!s_nn)then
 some ([]:List Bool)
 else
 cZ (((([]:List Bool).length+s_.length)*1≤140737488355328)∧(([]:List Bool).length+s_.length≤4611686018427387904)) (
 some (([]:List Bool)++s_))
def aU (s:(List Bool)):Option (List Bool):=qD s true
def og (s_:State):Option State:=
 cZ ((0:Int)≤0∧0<(7:Int)) (
 (aU s_.closed).bind fun r_=>
 cZ ((0:Int)≤1∧1<(7:Int)) (
 (aU s_.locked).bind fun r_1=>
 cZ ((0:Int)≤2∧2<(7:Int)) (
 (aU s_.badLink).bind fun r_2=>
 cZ ((0:Int)≤3∧3<(7:Int)) (
 (aU s_.on_).bind fun r_3=>
 cZ ((0:Int)≤4∧4<(7:Int)) (
 (aU s_.badSource).bind fun r_4=>
 cZ ((0:Int)≤5∧5<(7:Int)) (
 (aU s_.earthed).bind fun r_5=>
 cZ ((0:Int)≤6∧6<(7:Int)) (
 (aU s_.badBus).bind fun r_6=>
 some (⟨r_,r_1,r_2,r_3,r_4,r_5,r_6⟩:State))))))))
def nY (p:ah) (s_:State) (l:(List Transfer)):Option ((List Transfer) × Int × (List Source) × (List Link) × (List aN) × State):=
 some (l,p.buses,p.sources,p.links,p.racks,s_)
def jV (p:ah) (s_:State):Option (Int × (List Source) × (List Link) × (List aN) × (List Bool) × (List Bool) × (List Bool) × (List Bool) × (List Bool) × (List Bool) × (List Bool)):=
 some (p.buses,p.sources,p.links,p.racks,s_.closed,s_.locked,s_.badLink,s_.on_,s_.badSource,s_.earthed,s_.badBus)
def eH (g:aW):Int→Option (bC Int (Ex Unit Int)):=
 fun x1=>
 bif (!((aT bU x1 g.head).isSome))then
 some (.done (.ret x1))
 else
 some (.next ((aT bU x1 g.head).getD 0))
def cu (g:aW) (x:Int):Option Int:=
 Option.bind (aG (eH g) FUEL (x)) fun o=>match o with
 | .ret v=>some v
 | .brk _=>none
def jE (g:aW) (a:Int) (b:Int):Option (List (Int × Int)):=
 (cu g a).bind fun r_=>
 (cu g b).bind fun r_1=>
 bif (!decide (r_=r_1))then
 some (fA bU r_ r_1 g.head)
 else
 some g.head
def lH (x22:Int) (x221:Int) (x222:Int) (x223:Int) (x224:Int) (x225:(List sP)) (o_:aW):Option aW:=
 (jE o_ x22 x221).bind fun r_=>
 some (⟨r_⟩:aW)
def dD (x12:(List Link)) (x2:(List Bool)) (x22:(List Bool)) (x26:(List Bool)):((List (Int × Int)) × Int)→Option (bC ((List (Int × Int)) × Int) (Ex (List (Int × Int)) aW)):=
 fun zz=>match zz with
 |(o50,t9)=>
 bif (decide (t9<(x12.length:Int)))then
 cZ ((0:Int)≤t9∧t9<(x12.length:Int)) (
 bif (bif (bif (bif (at' x2 t9.toNat)then(!(at' x22 t9.toNat))else false)then(!(at' x26 (((at' x12 t9.toNat).a).toNat)))else false)then(!(at' x26 (((at' x12 t9.toNat).b).toNat)))else false)then
 (lH ((at' x12 t9.toNat).a) ((at' x12 t9.toNat).b) ((at' x12 t9.toNat).kind) ((at' x12 t9.toNat).most) ((at' x12 t9.toNat).ohm) ((at' x12 t9.toNat).trip) (⟨o50⟩:aW)).bind fun r_=>
 cZ (((0:Int)≤t9∧t9<(x2.length:Int))∧(gB [((at' x2 t9.toNat),true)]=true→(0:Int)≤t9∧t9<(x22.length:Int))∧(gB [((bif (at' x2 t9.toNat)then(!(at' x22 t9.toNat))else false),true)]=true→(0:Int)≤(at' x12 t9.toNat).a∧(at' x12 t9.toNat).a<(x26.length:Int))∧(gB [((bif (bif (at' x2 t9.toNat)then(!(at' x22 t9.toNat))else false)then(!(at' x26 (((at' x12 t9.toNat).a).toNat)))else false),true)]=true→(0:Int)≤(at' x12 t9.toNat).b∧(at' x12 t9.toNat).b<(x26.length:Int))) (
 some (.next (r_.head,(IntKind.wrap .i64 (t9+1)))))
 else
 cZ (((0:Int)≤t9∧t9<(x2.length:Int))∧(gB [((at' x2 t9.toNat),true)]=true→(0:Int)≤t9∧t9<(x22.length:Int))∧(gB [((bif (at' x2 t9.toNat)then(!(at' x22 t9.toNat))else false),true)]=true→(0:Int)≤(at' x12 t9.toNat).a∧(at' x12 t9.toNat).a<(x26.length:Int))∧(gB [((bif (bif (at' x2 t9.toNat)then(!(at' x22 t9.toNat))else false)then(!(at' x26 (((at' x12 t9.toNat).a).toNat)))else false),true)]=true→(0:Int)≤(at' x12 t9.toNat).b∧(at' x12 t9.toNat).b<(x26.length:Int))) (
 some (.next (o50,(IntKind.wrap .i64 (t9+1))))))
 else
 some (.done (.brk o50))
def lu (x1:Int) (x11:(List Source)) (x12:(List Link)) (x13:(List aN)) (x2:(List Bool)) (x21:(List Bool)) (x22:(List Bool)) (x23:(List Bool)) (x24:(List Bool)) (x25:(List Bool)) (x26:(List Bool)) (o_:aW):Option aW:=
 Option.bind (aG (dD x12 x2 x22 x26) FUEL (o_.head,0)) fun o=>match o with
 | .ret v=>some v
 | .brk o501=>
 some (⟨o501⟩:aW)
def bJ (p:ah) (s_:State) (r_1:aW):((List aI) × (List (Int × Int)) × Int)→Option (bC ((List aI) × (List (Int × Int)) × Int) (Ex ((List aI) × (List (Int × Int))) (List aI))):=
 fun zz=>match zz with
 |(out,at_,t32)=>
 bif (decide (t32<p.buses))then
 cZ ((0:Int)≤t32∧t32<(s_.badBus.length:Int)) (
 bif (at' s_.badBus t32.toNat)then
 some (.next (out,at_,(IntKind.wrap .i64 (t32+1))))
 else
 (cu r_1 t32).bind fun r_2=>
 bif (!((aT bU r_2 at_).isSome))then
 cZ (((out.length+[(⟨([]:List Int),([]:List Int)⟩:aI)].length)*48≤140737488355328)∧(out.length+[(⟨([]:List Int),([]:List Int)⟩:aI)].length≤4611686018427387904)) (
 cZ (((0:Int)≤((aT bU r_2 (fA bU r_2 (out.length:Int) at_)).getD 0)∧((aT bU r_2 (fA bU r_2 (out.length:Int) at_)).getD 0)<((out++[(⟨([]:List Int),([]:List Int)⟩:aI)]).length:Int))∧((((at' (out++[(⟨([]:List Int),([]:List Int)⟩:aI)]) (((aT bU r_2 (fA bU r_2 (out.length:Int) at_)).getD 0).toNat)).buses).length+[t32].length)*8≤140737488355328)∧(((at' (out++[(⟨([]:List Int),([]:List Int)⟩:aI)]) (((aT bU r_2 (fA bU r_2 (out.length:Int) at_)).getD 0).toNat)).buses).length+[t32].length≤4611686018427387904)) (
 some (.next (((out++[(⟨([]:List Int),([]:List Int)⟩:aI)]).set (((aT bU r_2 (fA bU r_2 (out.length:Int) at_)).getD 0).toNat) (⟨(((at' (out++[(⟨([]:List Int),([]:List Int)⟩:aI)]) (((aT bU r_2 (fA bU r_2 (out.length:Int) at_)).getD 0).toNat)).buses)++[t32]),(at' (out++[(⟨([]:List Int),([]:List Int)⟩:aI)]) (((aT bU r_2 (fA bU r_2 (out.length:Int) at_)).getD 0).toNat)).sources⟩:aI)),(fA bU r_2 (out.length:Int) at_),(IntKind.wrap .i64 (t32+1))))))
 else
 cZ (((0:Int)≤((aT bU r_2 at_).getD 0)∧((aT bU r_2 at_).getD 0)<(out.length:Int))∧((((at' out (((aT bU r_2 at_).getD 0).toNat)).buses).length+[t32].length)*8≤140737488355328)∧(((at' out (((aT bU r_2 at_).getD 0).toNat)).buses).length+[t32].length≤4611686018427387904)) (
 some (.next ((out.set (((aT bU r_2 at_).getD 0).toNat) (⟨(((at' out (((aT bU r_2 at_).getD 0).toNat)).buses)++[t32]),(at' out (((aT bU r_2 at_).getD 0).toNat)).sources⟩:aI)),at_,(IntKind.wrap .i64 (t32+1))))))
 else
 some (.done (.brk (out,at_)))
def bI (p:ah) (s_:State) (r_1:aW) (at_1:(List (Int × Int))):((List aI) × Int)→Option (bC ((List aI) × Int) (Ex (List aI) (List aI))):=
 fun zz=>match zz with
 |(out2,t78)=>
 bif (decide (t78<(p.sources.length:Int)))then
 cZ ((0:Int)≤t78∧t78<(p.sources.length:Int)) (
 cZ (((0:Int)≤t78∧t78<(s_.on_.length:Int))∧(gB [((at' s_.on_ t78.toNat),true)]=true→(0:Int)≤t78∧t78<(s_.badSource.length:Int))∧(gB [((bif (at' s_.on_ t78.toNat)then(!(at' s_.badSource t78.toNat))else false),true)]=true→(0:Int)≤(at' p.sources t78.toNat).bus∧(at' p.sources t78.toNat).bus<(s_.badBus.length:Int))) (
 bif (bif (bif (at' s_.on_ t78.toNat)then(!(at' s_.badSource t78.toNat))else false)then(!(at' s_.badBus (((at' p.sources t78.toNat).bus).toNat)))else false)then
 (cu r_1 ((at' p.sources t78.toNat).bus)).bind fun r_3=>
 cZ (((0:Int)≤((aT bU r_3 at_1).getD 0)∧((aT bU r_3 at_1).getD 0)<(out2.length:Int))∧((((at' out2 (((aT bU r_3 at_1).getD 0).toNat)).sources).length+[t78].length)*8≤140737488355328)∧(((at' out2 (((aT bU r_3 at_1).getD 0).toNat)).sources).length+[t78].length≤4611686018427387904)) (
 some (.next ((out2.set (((aT bU r_3 at_1).getD 0).toNat) (⟨(at' out2 (((aT bU r_3 at_1).getD 0).toNat)).buses,(((at' out2 (((aT bU r_3 at_1).getD 0).toNat)).sources)++[t78])⟩:aI)),(IntKind.wrap .i64 (t78+1)))))
 else
 some (.next (out2,(IntKind.wrap .i64 (t78+1))))))
 else
 some (.done (.brk out2))
def gU (p:ah) (s_:State):Option (List aI):=
 (jV p s_).bind fun r_=>
 (lu r_.1 r_.2.1 r_.2.2.1 r_.2.2.2.1 r_.2.2.2.2.1 r_.2.2.2.2.2.1 r_.2.2.2.2.2.2.1 r_.2.2.2.2.2.2.2.1 r_.2.2.2.2.2.2.2.2.1 r_.2.2.2.2.2.2.2.2.2.1 r_.2.2.2.2.2.2.2.2.2.2 (⟨([]:(List (Int × Int)))⟩:aW)).bind fun r_1=>
 Option.bind (aG (bJ p s_ r_1) FUEL (([]:List aI),([]:(List (Int × Int))),0)) fun o=>match o with
 | .ret v=>some v
 | .brk (out1,at_1)=>
 Option.bind (aG (bI p s_ r_1 at_1) FUEL (out1,0)) fun o=>match o with
 | .ret v=>some v
 | .brk out3=>
 some out3
def j6 (r_1:(List aI)) (t25:Int):((List Bool) × Int)→Option (bC ((List Bool) × Int) (Ex (List Bool) (bC ((List Bool) × Int) (Ex (List Bool) ((List Bool) × Int))))):=
 fun zz=>match zz with
 |(out2,t32)=>
 bif (decide (t32<(((at' r_1 t25.toNat).buses).length:Int)))then
 cZ ((0:Int)≤t32∧t32<(((at' r_1 t25.toNat).buses).length:Int)) (
 cZ ((0:Int)≤(at' ((at' r_1 t25.toNat).buses) t32.toNat)∧(at' ((at' r_1 t25.toNat).buses) t32.toNat)<(out2.length:Int)) (
 some (.next ((out2.set ((at' ((at' r_1 t25.toNat).buses) t32.toNat).toNat) (decide (0<(((at' r_1 t25.toNat).sources).length:Int)))),(IntKind.wrap .i64 (t32+1))))))
 else
 some (.done (.brk out2))
def kg (r_1:(List aI)):((List Bool) × Int)→Option (bC ((List Bool) × Int) (Ex (List Bool) ((List Bool) × Int))):=
 fun zz=>match zz with
 |(out,t25)=>
 bif (decide (t25<(r_1.length:Int)))then
 cZ ((0:Int)≤t25∧t25<(r_1.length:Int)) (
 Option.bind (aG (j6 r_1 t25) FUEL (out,0)) fun o=>match o with
 | .ret v=>some v
 | .brk out3=>
 some (.next (out3,(IntKind.wrap .i64 (t25+1)))))
 else
 some (.done (.brk out))
def eD (p:ah) (s_:State):Option ((List Bool) × Int):=
 (cO p s_).bind fun r_=>
 bif (!decide (r_=0))then
 some (([]:List Bool),r_)
 else
 cZ (((0:Int)≤p.buses)∧((1:Int)*p.buses≤281474976710656)∧((p.buses:Int)≤9223372036854775807)) (
 (gU p s_).bind fun r_1=>
 Option.bind (aG (kg r_1) FUEL ((List.replicate p.buses.toNat (false:Bool)),0)) fun o=>match o with
 | .ret v=>some v
 | .brk out1=>
 some (out1,0))
def bN (x y:ay):Int:=if x.e0<y.e0 then -1 else if y.e0<x.e0 then 1 else if x.e1<y.e1 then -1 else if y.e1<x.e1 then 1 else 0
def jb (s:(List ay)):Option (List ay):=match s with
 |[]=>some []
 |x::xs=>bif decide ((x::xs).length<4611686018427387904)then some ((x::xs).mergeSort fun x y=> !decide (bN y x<0))else none
def jZ (p:ah) (r_1:(List aI)) (t24:Int) (t31:Int):((List ay) × Int)→Option (bC ((List ay) × Int) (Ex (List ay) (bC ((List ay) × Int) (Ex (List ay) (bC ((List ay) × Int) (Ex (List ay) ((List ay) × Int))))))):=
 fun zz=>match zz with
 |(out4,t42)=>
 bif (decide (t42<(((((at' r_1 t24.toNat).sources).length - ((IntKind.wrap .i64 (t31+1)).toNat)):Nat):Int)))then
 cZ ((0:Int)≤t42∧t42<((((at' r_1 t24.toNat).sources).drop ((IntKind.wrap .i64 (t31+1)).toNat)).length:Int)) (
 cZ (((0:Int)≤(at' ((at' r_1 t24.toNat).sources) t31.toNat)∧(at' ((at' r_1 t24.toNat).sources) t31.toNat)<(p.sources.length:Int))∧(gB [((decide (((at' p.sources ((at' ((at' r_1 t24.toNat).sources) t31.toNat).toNat)).sync)=0)),false)]=true→(0:Int)≤(at' ((at' r_1 t24.toNat).sources) t31.toNat)∧(at' ((at' r_1 t24.toNat).sources) t31.toNat)<(p.sources.length:Int))∧(gB [((decide (((at' p.sources ((at' ((at' r_1 t24.toNat).sources) t31.toNat).toNat)).sync)=0)),false)]=true→(0:Int)≤(at' (((at' r_1 t24.toNat).sources).drop ((IntKind.wrap .i64 (t31+1)).toNat)) t42.toNat)∧(at' (((at' r_1 t24.toNat).sources).drop ((IntKind.wrap .i64 (t31+1)).toNat)) t42.toNat)<(p.sources.length:Int))) (
 bif (bif (decide (((at' p.sources ((at' ((at' r_1 t24.toNat).sources) t31.toNat).toNat)).sync)=0))then true else(!decide (((at' p.sources ((at' ((at' r_1 t24.toNat).sources) t31.toNat).toNat)).sync)=((at' p.sources ((at' (((at' r_1 t24.toNat).sources).drop ((IntKind.wrap .i64 (t31+1)).toNat)) t42.toNat).toNat)).sync))))then
 cZ (((out4.length+[(⟨(at' ((at' r_1 t24.toNat).sources) t31.toNat),(at' (((at' r_1 t24.toNat).sources).drop ((IntKind.wrap .i64 (t31+1)).toNat)) t42.toNat)⟩:ay)].length)*16≤140737488355328)∧(out4.length+[(⟨(at' ((at' r_1 t24.toNat).sources) t31.toNat),(at' (((at' r_1 t24.toNat).sources).drop ((IntKind.wrap .i64 (t31+1)).toNat)) t42.toNat)⟩:ay)].length≤4611686018427387904)) (
 some (.next ((out4++[(⟨(at' ((at' r_1 t24.toNat).sources) t31.toNat),(at' (((at' r_1 t24.toNat).sources).drop ((IntKind.wrap .i64 (t31+1)).toNat)) t42.toNat)⟩:ay)]),(IntKind.wrap .i64 (t42+1)))))
 else
 some (.next (out4,(IntKind.wrap .i64 (t42+1))))))
 else
 some (.done (.brk out4))
def jY (p:ah) (r_1:(List aI)) (t24:Int):((List ay) × Int)→Option (bC ((List ay) × Int) (Ex (List ay) (bC ((List ay) × Int) (Ex (List ay) ((List ay) × Int))))):=
 fun zz=>match zz with
 |(out2,t31)=>
 bif (decide (t31<(((at' r_1 t24.toNat).sources).length:Int)))then
 cZ ((0:Int)≤t31∧t31<(((at' r_1 t24.toNat).sources).length:Int)) (
 cZ ((0:Int)≤(IntKind.wrap .i64 (t31+1))∧(IntKind.wrap .i64 (t31+1))≤(((at' r_1 t24.toNat).sources).length:Int)) (
 Option.bind (aG (jZ p r_1 t24 t31) FUEL (out2,0)) fun o=>match o with
 | .ret v=>some v
 | .brk out5=>
 some (.next (out5,(IntKind.wrap .i64 (t31+1))))))
 else
 some (.done (.brk out2))
def iG (p:ah) (r_1:(List aI)):((List ay) × Int)→Option (bC ((List ay) × Int) (Ex (List ay) ((List ay) × Int))):=
 fun zz=>match zz with
 |(out,t24)=>
 bif (decide (t24<(r_1.length:Int)))then
 cZ ((0:Int)≤t24∧t24<(r_1.length:Int)) (
 Option.bind (aG (jY p r_1 t24) FUEL (out,0)) fun o=>match o with
 | .ret v=>some v
 | .brk out3=>
 some (.next (out3,(IntKind.wrap .i64 (t24+1)))))
 else
 some (.done (.brk out))
def dM (p:ah) (s_:State):Option ((List ay) × Int):=
 (cO p s_).bind fun r_=>
 bif (!decide (r_=0))then
 some (([]:List ay),r_)
 else
 (gU p s_).bind fun r_1=>
 Option.bind (aG (iG p r_1) FUEL (([]:List ay),0)) fun o=>match o with
 | .ret v=>some v
 | .brk out1=>
 (jb out1).bind fun r_2=>
 cZ (out1.length=r_2.length) (
 some (r_2,0))
def nW (s_:(List ay)) (v_:ay):Int→Option (bC Int (Ex Unit Int)):=
 fun t8=>
 bif (decide (t8<(s_.length:Int)))then
 cZ ((0:Int)≤t8∧t8<(s_.length:Int)) (
 bif ((decide (v_.e0=((at' s_ t8.toNat).e0))) && ((decide (v_.e1=((at' s_ t8.toNat).e1))) && true))then
 some (.done (.ret t8))
 else
 some (.next (IntKind.wrap .i64 (t8+1))))
 else
 some (.done (.brk ()))
def qI (s_:(List ay)) (v_:ay):Option Int:=
 Option.bind (aG (nW s_ v_) FUEL (0)) fun o=>match o with
 | .ret v=>some v
 | .brk _=>
 some (-1)
def kK (s_:(List ay)) (v_:ay):Option Bool:=
 (qI s_ v_).bind fun r_=>
 some (decide (0≤r_))
def pO (c:ay) (x1:(List ay)):Option Bool:=
 (kK x1 c).bind fun r_=>
 some (!r_)
def jg (s_:(List ay)) (f_:(List ay)):Int→Option (bC Int (Ex Unit Int)):=
 fun t8=>
 bif (decide (t8<(s_.length:Int)))then
 (pO (at' s_ t8.toNat) f_).bind fun r_=>
 cZ ((0:Int)≤t8∧t8<(s_.length:Int)) (
 bif r_ then
 some (.done (.ret t8))
 else
 some (.next (IntKind.wrap .i64 (t8+1))))
 else
 some (.done (.brk ()))
def kE (s_:(List ay)) (f_:(List ay)):Option Int:=
 Option.bind (aG (jg s_ f_) FUEL (0)) fun o=>match o with
 | .ret v=>some v
 | .brk _=>
 some (-1)
def di (s_:(List ay)) (f_:(List ay)):Option Bool:=
 (kE s_ f_).bind fun r_=>
 some (decide (0≤r_))
def iE (s_:State) (r_:((List Bool) × Int)) (r_2:((List Bool) × Int)):Int→Option (bC Int (Ex Unit (State × Bool))):=
 fun t103=>
 bif (decide (t103<(r_2.1.length:Int)))then
 cZ (((0:Int)≤t103∧t103<(r_.1.length:Int))∧(gB [((at' r_.1 t103.toNat),true)]=true→(0:Int)≤t103∧t103<(r_2.1.length:Int))∧(gB [((bif (at' r_.1 t103.toNat)then(!(at' r_2.1 t103.toNat))else false),false)]=true→(0:Int)≤t103∧t103<(r_2.1.length:Int))∧(gB [((at' r_2.1 t103.toNat),true),((bif (at' r_.1 t103.toNat)then(!(at' r_2.1 t103.toNat))else false),false)]=true→(0:Int)≤t103∧t103<(s_.earthed.length:Int))∧(gB [((bif (at' r_2.1 t103.toNat)then(at' s_.earthed t103.toNat)else false),true),((bif (at' r_.1 t103.toNat)then(!(at' r_2.1 t103.toNat))else false),false)]=true→(0:Int)≤t103∧t103<(r_.1.length:Int))) (
 bif (bif (bif (at' r_.1 t103.toNat)then(!(at' r_2.1 t103.toNat))else false)then true else(bif (bif (at' r_2.1 t103.toNat)then(at' s_.earthed t103.toNat)else false)then(!(at' r_.1 t103.toNat))else false))then
 some (.done (.ret (s_,false)))
 else
 some (.next (IntKind.wrap .i64 (t103+1))))
 else
 some (.done (.brk ()))
def tK (s_:State) (r_:((List Bool) × Int)) (r_6:((List Bool) × Int)):Int→Option (bC Int (Ex Unit (State × Bool))):=
 fun t1031=>
 bif (decide (t1031<(r_6.1.length:Int)))then
 cZ (((0:Int)≤t1031∧t1031<(r_.1.length:Int))∧(gB [((at' r_.1 t1031.toNat),true)]=true→(0:Int)≤t1031∧t1031<(r_6.1.length:Int))∧(gB [((bif (at' r_.1 t1031.toNat)then(!(at' r_6.1 t1031.toNat))else false),false)]=true→(0:Int)≤t1031∧t1031<(r_6.1.length:Int))∧(gB [((at' r_6.1 t1031.toNat),true),((bif (at' r_.1 t1031.toNat)then(!(at' r_6.1 t1031.toNat))else false),false)]=true→(0:Int)≤t1031∧t1031<(s_.earthed.length:Int))∧(gB [((bif (at' r_6.1 t1031.toNat)then(at' s_.earthed t1031.toNat)else false),true),((bif (at' r_.1 t1031.toNat)then(!(at' r_6.1 t1031.toNat))else false),false)]=true→(0:Int)≤t1031∧t1031<(r_.1.length:Int))) (
 bif (bif (bif (at' r_.1 t1031.toNat)then(!(at' r_6.1 t1031.toNat))else false)then true else(bif (bif (at' r_6.1 t1031.toNat)then(at' s_.earthed t1031.toNat)else false)then(!(at' r_.1 t1031.toNat))else false))then
 some (.done (.ret (s_,false)))
 else
 some (.next (IntKind.wrap .i64 (t1031+1))))
 else
 some (.done (.brk ()))
def mJ (p:ah) (s_:State) (x:Transfer):Option (State × Bool):=
 (eD p s_).bind fun r_=>
 cZ (((0:Int)≤x.watch∧x.watch<(s_.badBus.length:Int))∧(gB [((at' s_.badBus x.watch.toNat),false)]=true→(0:Int)≤x.watch∧x.watch<(r_.1.length:Int))∧(gB [((bif (at' s_.badBus x.watch.toNat)then true else(at' r_.1 x.watch.toNat)),false)]=true→(0:Int)≤x.close∧x.close<(s_.closed.length:Int))∧(gB [((bif (bif (at' s_.badBus x.watch.toNat)then true else(at' r_.1 x.watch.toNat))then true else(at' s_.closed x.close.toNat)),false)]=true→(0:Int)≤x.close∧x.close<(s_.badLink.length:Int))∧(gB [((bif (bif (bif (at' s_.badBus x.watch.toNat)then true else(at' r_.1 x.watch.toNat))then true else(at' s_.closed x.close.toNat))then true else(at' s_.badLink x.close.toNat)),false)]=true→(0:Int)≤x.close∧x.close<(s_.locked.length:Int))) (
 bif (bif (bif (bif (bif (at' s_.badBus x.watch.toNat)then true else(at' r_.1 x.watch.toNat))then true else(at' s_.closed x.close.toNat))then true else(at' s_.badLink x.close.toNat))then true else(at' s_.locked x.close.toNat))then
 some (s_,false)
 else
 (aU s_.closed).bind fun r_1=>
 cZ ((0:Int)≤x.close∧x.close<(r_1.length:Int)) (
 bif (decide (0≤x.open_))then
 cZ (((0:Int)≤x.open_∧x.open_<(s_.badLink.length:Int))∧(gB [((at' s_.badLink x.open_.toNat),false)]=true→(0:Int)≤x.open_∧x.open_<(s_.locked.length:Int))) (
 bif (bif (at' s_.badLink x.open_.toNat)then true else(at' s_.locked x.open_.toNat))then
 some (s_,false)
 else
 cZ ((0:Int)≤x.open_∧x.open_<((r_1.set x.close.toNat true).length:Int)) (
 (eD p (⟨((r_1.set x.close.toNat true).set x.open_.toNat false),s_.locked,s_.badLink,s_.on_,s_.badSource,s_.earthed,s_.badBus⟩:State)).bind fun r_2=>
 Option.bind (aG (iE s_ r_ r_2) FUEL (0)) fun o=>match o with
 | .ret v=>some v
 | .brk _=>
 (dM p s_).bind fun r_3=>
 (dM p (⟨((r_1.set x.close.toNat true).set x.open_.toNat false),s_.locked,s_.badLink,s_.on_,s_.badSource,s_.earthed,s_.badBus⟩:State)).bind fun r_4=>
 (bif gB [((!(at' r_2.1 x.watch.toNat)),false)]then di r_4.1 r_3.1 else some default).bind fun r_5=>
 cZ ((0:Int)≤x.watch∧x.watch<(r_2.1.length:Int)) (
 bif (bif (!(at' r_2.1 x.watch.toNat))then true else r_5)then
 some (s_,false)
 else
 some ((⟨((r_1.set x.close.toNat true).set x.open_.toNat false),s_.locked,s_.badLink,s_.on_,s_.badSource,s_.earthed,s_.badBus⟩:State),true))))
 else
 (eD p (⟨(r_1.set x.close.toNat true),s_.locked,s_.badLink,s_.on_,s_.badSource,s_.earthed,s_.badBus⟩:State)).bind fun r_6=>
 Option.bind (aG (tK s_ r_ r_6) FUEL (0)) fun o=>match o with
 | .ret v=>some v
 | .brk _=>
 (dM p s_).bind fun r_7=>
 (dM p (⟨(r_1.set x.close.toNat true),s_.locked,s_.badLink,s_.on_,s_.badSource,s_.earthed,s_.badBus⟩:State)).bind fun r_8=>
 (bif gB [((!(at' r_6.1 x.watch.toNat)),false)]then di r_8.1 r_7.1 else some default).bind fun r_9=>
 cZ ((0:Int)≤x.watch∧x.watch<(r_6.1.length:Int)) (
 bif (bif (!(at' r_6.1 x.watch.toNat))then true else r_9)then
 some (s_,false)
 else
 some ((⟨(r_1.set x.close.toNat true),s_.locked,s_.badLink,s_.on_,s_.badSource,s_.earthed,s_.badBus⟩:State),true))))
def mr (x28:Int) (x29:(List Bool)) (x291:(List Bool)) (x292:(List Bool)) (x293:(List Bool)) (x294:(List Bool)) (x295:(List Bool)) (x296:(List Bool)) (state:State) (o_:(List Int)):Option (State × (List Int)):=
 cZ (((o_.length+[x28].length)*8≤140737488355328)∧(o_.length+[x28].length≤4611686018427387904)) (
 some ((⟨x29,x291,x292,x293,x294,x295,x296⟩:State),(o_++[x28])))
def jF (x1:(List Transfer)) (x2:Int) (x21:(List Source)) (x22:(List Link)) (x23:(List aN)) (state:State) (o100:(List Bool)) (o110:(List Int)) (done:(List Bool)):Int→Option (bC Int (Ex Unit (bC ((List Bool) × (List Int) × (List Bool)) (Ex ((List Bool) × (List Int)) (State × State × (List Int)))))):=
 fun t15=>
 bif (decide (t15<(x1.length:Int)))then
 cZ ((0:Int)≤t15∧t15<(x1.length:Int)) (
 cZ ((0:Int)≤t15∧t15<(done.length:Int)) (
 bif (at' done t15.toNat)then
 some (.next (IntKind.wrap .i64 (t15+1)))
 else
 (mJ (⟨x2,x21,x22,x23⟩:ah) (⟨o100,state.locked,state.badLink,state.on_,state.badSource,state.earthed,state.badBus⟩:State) (at' x1 t15.toNat)).bind fun r_=>
 bif r_.2 then
 cZ ((0:Int)≤t15∧t15<(done.length:Int)) (
 (mr t15 r_.1.closed state.locked state.badLink state.on_ state.badSource state.earthed state.badBus (⟨o100,state.locked,state.badLink,state.on_,state.badSource,state.earthed,state.badBus⟩:State) o110).bind fun r_1=>
 some (.done (.ret (.next (r_.1.closed,r_1.2,(done.set t15.toNat true))))))
 else
 some (.next (IntKind.wrap .i64 (t15+1)))))
 else
 some (.done (.brk ()))
def jD (x1:(List Transfer)) (x2:Int) (x21:(List Source)) (x22:(List Link)) (x23:(List aN)) (state:State):((List Bool) × (List Int) × (List Bool))→Option (bC ((List Bool) × (List Int) × (List Bool)) (Ex ((List Bool) × (List Int)) (State × State × (List Int)))):=
 fun zz=>match zz with
 |(o100,o110,done)=>
 Option.bind (aG (jF x1 x2 x21 x22 x23 state o100 o110 done) FUEL (0)) fun o=>match o with
 | .ret v=>some v
 | .brk _=>
 some (.done (.brk (o100,o110)))
def oN (x1:(List Transfer)) (x2:Int) (x21:(List Source)) (x22:(List Link)) (x23:(List aN)) (state:State) (state1:State) (o_:(List Int)):Option (State × State × (List Int)):=
 Option.bind (α:=Unit) (
 cZ (((0:Int)≤(x1.length:Int))∧((1:Int)*(x1.length:Int)≤281474976710656)∧(((x1.length:Int):Int)≤9223372036854775807)) (
 some ())) fun _=>
 Option.bind (aG (jD x1 x2 x21 x22 x23 state) FUEL (state.closed,o_,(List.replicate ((x1.length:Int).toNat) (false:Bool)))) fun o=>match o with
 | .ret v=>some v
 | .brk (o1001,o1101)=>
 some ((⟨o1001,state.locked,state.badLink,state.on_,state.badSource,state.earthed,state.badBus⟩:State),(⟨o1001,state.locked,state.badLink,state.on_,state.badSource,state.earthed,state.badBus⟩:State),o1101)
def dX (p:ah) (s_:State) (l:(List Transfer)):Option (State × (List Int) × Int):=
 (fM p s_ l).bind fun r_=>
 bif (!decide (r_=0))then
 some ((⟨([]:List Bool),([]:List Bool),([]:List Bool),([]:List Bool),([]:List Bool),([]:List Bool),([]:List Bool)⟩:State),([]:List Int),r_)
 else
 (og s_).bind fun r_1=>
 (nY p r_1 l).bind fun r_2=>
 (oN r_2.1 r_2.2.1 r_2.2.2.1 r_2.2.2.2.1 r_2.2.2.2.2.1 r_1 r_1 ([]:List Int)).bind fun r_3=>
 some ((⟨r_3.1.closed,r_1.locked,r_1.badLink,r_1.on_,r_1.badSource,r_1.earthed,r_1.badBus⟩:State),r_3.2.2,0)
def Aj (a:(List Int)) (b:(List Int)):Int→Option (bC Int (Ex Unit Bool)):=
 fun i=>
 bif (decide (i<(a.length:Int)))then
 cZ (((0:Int)≤i∧i<(a.length:Int))∧((0:Int)≤i∧i<(b.length:Int))) (
 bif (!decide ((at' a i.toNat)=(at' b i.toNat)))then
 some (.done (.ret false))
 else
 some (.next (IntKind.wrap .i64 (i+1))))
 else
 some (.done (.brk ()))
def ol (a:(List Int)) (b:(List Int)):Option Bool:=
 bif (!decide ((a.length:Int)=(b.length:Int)))then
 some false
 else
 Option.bind (aG (Aj a b) FUEL (0)) fun o=>match o with
 | .ret v=>some v
 | .brk _=>
 some true
def oh (s_:State):Option State:=
 cZ ((0:Int)≤0∧0<(7:Int)) (
 (aU s_.closed).bind fun r_=>
 cZ ((0:Int)≤1∧1<(7:Int)) (
 (aU s_.locked).bind fun r_1=>
 cZ ((0:Int)≤2∧2<(7:Int)) (
 (aU s_.badLink).bind fun r_2=>
 cZ ((0:Int)≤3∧3<(7:Int)) (
 (aU s_.on_).bind fun r_3=>
 cZ ((0:Int)≤4∧4<(7:Int)) (
 (aU s_.badSource).bind fun r_4=>
 cZ ((0:Int)≤5∧5<(7:Int)) (
 (aU s_.earthed).bind fun r_5=>
 cZ ((0:Int)≤6∧6<(7:Int)) (
 (aU s_.badBus).bind fun r_6=>
 some (⟨r_,r_1,r_2,r_3,r_4,r_5,r_6⟩:State))))))))
def jK (p:ah) (s_:State) (x:Part) (is:Bool):Option (State × Int):=
 (cO p s_).bind fun r_=>
 bif (!decide (r_=0))then
 some ((⟨([]:List Bool),([]:List Bool),([]:List Bool),([]:List Bool),([]:List Bool),([]:List Bool),([]:List Bool)⟩:State),r_)
 else
 (oh s_).bind fun r_1=>
 bif (bU x.kind 1)then
 (aO x.index 0 (IntKind.wrap .i64 ((r_1.badBus.length:Int) - 1))).bind fun r_2=>
 bif (!r_2)then
 some ((⟨([]:List Bool),([]:List Bool),([]:List Bool),([]:List Bool),([]:List Bool),([]:List Bool),([]:List Bool)⟩:State),14)
 else
 cZ ((0:Int)≤x.index∧x.index<(r_1.badBus.length:Int)) (
 some ((⟨r_1.closed,r_1.locked,r_1.badLink,r_1.on_,r_1.badSource,r_1.earthed,(r_1.badBus.set x.index.toNat is)⟩:State),0))
 else
 bif (bU x.kind 2)then
 (aO x.index 0 (IntKind.wrap .i64 ((r_1.badSource.length:Int) - 1))).bind fun r_3=>
 bif (!r_3)then
 some ((⟨([]:List Bool),([]:List Bool),([]:List Bool),([]:List Bool),([]:List Bool),([]:List Bool),([]:List Bool)⟩:State),14)
 else
 cZ ((0:Int)≤x.index∧x.index<(r_1.badSource.length:Int)) (
 some ((⟨r_1.closed,r_1.locked,r_1.badLink,r_1.on_,(r_1.badSource.set x.index.toNat is),r_1.earthed,r_1.badBus⟩:State),0))
 else
 bif (bU x.kind 3)then
 (aO x.index 0 (IntKind.wrap .i64 ((r_1.badLink.length:Int) - 1))).bind fun r_4=>
 bif (!r_4)then
 some ((⟨([]:List Bool),([]:List Bool),([]:List Bool),([]:List Bool),([]:List Bool),([]:List Bool),([]:List Bool)⟩:State),14)
 else
 cZ ((0:Int)≤x.index∧x.index<(r_1.badLink.length:Int)) (
 some ((⟨r_1.closed,r_1.locked,(r_1.badLink.set x.index.toNat is),r_1.on_,r_1.badSource,r_1.earthed,r_1.badBus⟩:State),0))
 else
 (aO x.index 0 (-1)).bind fun r_5=>
 bif (!r_5)then
 some ((⟨([]:List Bool),([]:List Bool),([]:List Bool),([]:List Bool),([]:List Bool),([]:List Bool),([]:List Bool)⟩:State),14)
 else
 none
def mQ (p:ah) (s_:State) (x:Part):Option (State × Int):=
 (jK p s_ x true).bind fun r_=>
 some (r_.1,r_.2)
def jO (p:ah) (parts:(List Part)):((List Bool) × (List Bool) × (List Bool) × (List Bool) × (List Bool) × (List Bool) × (List Bool) × Int)→Option (bC ((List Bool) × (List Bool) × (List Bool) × (List Bool) × (List Bool) × (List Bool) × (List Bool) × Int) (Ex ((List Bool) × (List Bool) × (List Bool) × (List Bool) × (List Bool) × (List Bool) × (List Bool)) (State × Int))):=
 fun zz=>match zz with
 |(s0,s1,s2,s3,s4,s5,s6,t26)=>
 bif (decide (t26<(parts.length:Int)))then
 cZ ((0:Int)≤t26∧t26<(parts.length:Int)) (
 (mQ p (⟨s0,s1,s2,s3,s4,s5,s6⟩:State) (at' parts t26.toNat)).bind fun r_1=>
 bif (!decide (r_1.2=0))then
 some (.done (.ret ((⟨([]:List Bool),([]:List Bool),([]:List Bool),([]:List Bool),([]:List Bool),([]:List Bool),([]:List Bool)⟩:State),r_1.2)))
 else
 some (.next (r_1.1.closed,r_1.1.locked,r_1.1.badLink,r_1.1.on_,r_1.1.badSource,r_1.1.earthed,r_1.1.badBus,(IntKind.wrap .i64 (t26+1)))))
 else
 some (.done (.brk (s0,s1,s2,s3,s4,s5,s6)))
def mU (p:ah) (s_:State) (l:(List Transfer)) (parts:(List Part)):Option (State × Int):=
 (fM p s_ l).bind fun r_=>
 bif (!decide (r_=0))then
 some ((⟨([]:List Bool),([]:List Bool),([]:List Bool),([]:List Bool),([]:List Bool),([]:List Bool),([]:List Bool)⟩:State),r_)
 else
 Option.bind (aG (jO p parts) FUEL (s_.closed,s_.locked,s_.badLink,s_.on_,s_.badSource,s_.earthed,s_.badBus,0)) fun o=>match o with
 | .ret v=>some v
 | .brk (s01,s11,s21,s31,s41,s51,s61)=>
 (dX p (⟨s01,s11,s21,s31,s41,s51,s61⟩:State) l).bind fun r_2=>
 some (r_2.1,r_2.2.2)
def gH (p:ah) (s_:State) (rack:Int):Option Int:=
 (cO p s_).bind fun r_=>
 bif (!decide (r_=0))then
 some r_
 else
 bif (bif (decide (rack<0))then true else(decide ((p.racks.length:Int)≤rack)))then
 some 13
 else
 some 0
def jP (p:ah) (t24:Int):((List Part) × Int)→Option (bC ((List Part) × Int) (Ex (List Part) (bC ((List Part) × Int) (Ex (List Part) ((List Part) × Int))))):=
 fun zz=>match zz with
 |(out2,t30)=>
 bif (decide (t30<(at' [p.buses,(p.sources.length:Int),(p.links.length:Int)] t24.toNat)))then
 cZ (((out2.length+[(⟨(IntKind.wrap .i64 (t24+1)),t30⟩:Part)].length)*16≤140737488355328)∧(out2.length+[(⟨(IntKind.wrap .i64 (t24+1)),t30⟩:Part)].length≤4611686018427387904)) (
 some (.next ((out2++[(⟨(IntKind.wrap .i64 (t24+1)),t30⟩:Part)]),(IntKind.wrap .i64 (t30+1)))))
 else
 some (.done (.brk out2))
def iB (p:ah):((List Part) × Int)→Option (bC ((List Part) × Int) (Ex (List Part) ((List Part) × Int))):=
 fun zz=>match zz with
 |(out,t24)=>
 bif (decide (t24<([p.buses,(p.sources.length:Int),(p.links.length:Int)].length:Int)))then
 cZ ((0:Int)≤t24∧t24<([p.buses,(p.sources.length:Int),(p.links.length:Int)].length:Int)) (
 Option.bind (aG (jP p t24) FUEL (out,0)) fun o=>match o with
 | .ret v=>some v
 | .brk out3=>
 some (.next (out3,(IntKind.wrap .i64 (t24+1)))))
 else
 some (.done (.brk out))
def jo (p:ah):Option ((List Part) × Int):=
 (mO p).bind fun r_=>
 bif (!decide (r_=0))then
 some (([]:List Part),r_)
 else
 Option.bind (aG (iB p) FUEL (([]:List Part),0)) fun o=>match o with
 | .ret v=>some v
 | .brk out1=>
 some (out1,0)
def dA (a:Int) (b:Int) (graph:Graph):Option Graph:=
 cZ ((((aB a graph.aD.e0).length+[b].length)*8≤140737488355328)∧((aB a graph.aD.e0).length+[b].length≤4611686018427387904)) (
 some (⟨graph.parts,(⟨(dW a ((aB a graph.aD.e0)++[b]) graph.aD.e0),graph.aD.e1⟩:aC)⟩:Graph))
def gu (s_:(List Part)) (v_:Part):Int→Option (bC Int (Ex Unit Int)):=
 fun t8=>
 bif (decide (t8<(s_.length:Int)))then
 cZ ((0:Int)≤t8∧t8<(s_.length:Int)) (
 bif ((decide (v_.kind=((at' s_ t8.toNat).kind))) && ((decide (v_.index=((at' s_ t8.toNat).index))) && true))then
 some (.done (.ret t8))
 else
 some (.next (IntKind.wrap .i64 (t8+1))))
 else
 some (.done (.brk ()))
def bZ (s_:(List Part)) (v_:Part):Option Int:=
 Option.bind (aG (gu s_ v_) FUEL (0)) fun o=>match o with
 | .ret v=>some v
 | .brk _=>
 some (-1)
def bE (kz:Int) (i:Int) (graph:Graph):Option Int:=
 (bZ graph.parts (⟨kz,i⟩:Part)).bind fun r_=>
 some r_
def fI (r_:((List Part) × Int)):((List (Int × (List Int))) × Int)→Option (bC ((List (Int × (List Int))) × Int) (Ex (List (Int × (List Int))) Graph)):=
 fun zz=>match zz with
 |(g01,t41)=>
 bif (decide (t41<(r_.1.length:Int)))then
 (dA (IntKind.wrap .i64 ((2:Int)*t41)) (IntKind.wrap .i64 ((IntKind.wrap .i64 ((2:Int)*t41))+1)) (⟨r_.1,(⟨g01,([]:(List (Int × (List Int))))⟩:aC)⟩:Graph)).bind fun r_1=>
 some (.next (r_1.aD.e0,(IntKind.wrap .i64 (t41+1))))
 else
 some (.done (.brk g01))
def fH (p:ah) (s_:State) (r_:((List Part) × Int)):((List (Int × (List Int))) × Int)→Option (bC ((List (Int × (List Int))) × Int) (Ex (List (Int × (List Int))) Graph)):=
 fun zz=>match zz with
 |(g012,t55)=>
 bif (decide (t55<(p.sources.length:Int)))then
 cZ ((0:Int)≤t55∧t55<(p.sources.length:Int)) (
 cZ (((0:Int)≤t55∧t55<(s_.on_.length:Int))∧(gB [((at' s_.on_ t55.toNat),true)]=true→(0:Int)≤t55∧t55<(s_.badSource.length:Int))∧(gB [((bif (at' s_.on_ t55.toNat)then(!(at' s_.badSource t55.toNat))else false),true)]=true→(0:Int)≤(at' p.sources t55.toNat).bus∧(at' p.sources t55.toNat).bus<(s_.badBus.length:Int))) (
 bif (bif (bif (at' s_.on_ t55.toNat)then(!(at' s_.badSource t55.toNat))else false)then(!(at' s_.badBus (((at' p.sources t55.toNat).bus).toNat)))else false)then
 (bE 2 t55 (⟨r_.1,(⟨g012,([]:(List (Int × (List Int))))⟩:aC)⟩:Graph)).bind fun r_2=>
 (dA (-1) (IntKind.wrap .i64 ((2:Int)*r_2)) (⟨r_.1,(⟨g012,([]:(List (Int × (List Int))))⟩:aC)⟩:Graph)).bind fun r_3=>
 (bE 1 ((at' p.sources t55.toNat).bus) (⟨r_.1,(⟨r_3.aD.e0,([]:(List (Int × (List Int))))⟩:aC)⟩:Graph)).bind fun r_4=>
 (dA (IntKind.wrap .i64 ((IntKind.wrap .i64 ((2:Int)*r_2))+1)) (IntKind.wrap .i64 ((2:Int)*r_4)) (⟨r_.1,(⟨r_3.aD.e0,([]:(List (Int × (List Int))))⟩:aC)⟩:Graph)).bind fun r_5=>
 some (.next (r_5.aD.e0,(IntKind.wrap .i64 (t55+1))))
 else
 some (.next (g012,(IntKind.wrap .i64 (t55+1))))))
 else
 some (.done (.brk g012))
def dw (p:ah) (r_:((List Part) × Int)) (t103:Int) (r_6:Int):((List (Int × (List Int))) × Int)→Option (bC ((List (Int × (List Int))) × Int) (Ex (List (Int × (List Int))) (bC ((List (Int × (List Int))) × Int) (Ex (List (Int × (List Int))) Graph)))):=
 fun zz=>match zz with
 |(g016,t145)=>
 bif (decide (t145<2))then
 cZ ((0:Int)≤t145∧t145<((2:Nat):Int)) (
 (bE 1 (at' [(at' p.links t103.toNat).a,(at' p.links t103.toNat).b] t145.toNat) (⟨r_.1,(⟨g016,([]:(List (Int × (List Int))))⟩:aC)⟩:Graph)).bind fun r_7=>
 (dA (IntKind.wrap .i64 ((IntKind.wrap .i64 ((2:Int)*r_7))+1)) (IntKind.wrap .i64 ((2:Int)*r_6)) (⟨r_.1,(⟨g016,([]:(List (Int × (List Int))))⟩:aC)⟩:Graph)).bind fun r_8=>
 (bE 1 (at' [(at' p.links t103.toNat).a,(at' p.links t103.toNat).b] t145.toNat) (⟨r_.1,(⟨r_8.aD.e0,([]:(List (Int × (List Int))))⟩:aC)⟩:Graph)).bind fun r_9=>
 (dA (IntKind.wrap .i64 ((IntKind.wrap .i64 ((2:Int)*r_6))+1)) (IntKind.wrap .i64 ((2:Int)*r_9)) (⟨r_.1,(⟨r_8.aD.e0,([]:(List (Int × (List Int))))⟩:aC)⟩:Graph)).bind fun r_10=>
 some (.next (r_10.aD.e0,(IntKind.wrap .i64 (t145+1)))))
 else
 some (.done (.brk g016))
def fJ (p:ah) (s_:State) (r_:((List Part) × Int)):((List (Int × (List Int))) × Int)→Option (bC ((List (Int × (List Int))) × Int) (Ex (List (Int × (List Int))) Graph)):=
 fun zz=>match zz with
 |(g014,t103)=>
 bif (decide (t103<(p.links.length:Int)))then
 cZ ((0:Int)≤t103∧t103<(p.links.length:Int)) (
 cZ (((0:Int)≤t103∧t103<(s_.closed.length:Int))∧(gB [((!(at' s_.closed t103.toNat)),false)]=true→(0:Int)≤t103∧t103<(s_.badLink.length:Int))∧(gB [((bif (!(at' s_.closed t103.toNat))then true else(at' s_.badLink t103.toNat)),false)]=true→(0:Int)≤(at' p.links t103.toNat).a∧(at' p.links t103.toNat).a<(s_.badBus.length:Int))∧(gB [((bif (bif (!(at' s_.closed t103.toNat))then true else(at' s_.badLink t103.toNat))then true else(at' s_.badBus (((at' p.links t103.toNat).a).toNat))),false)]=true→(0:Int)≤(at' p.links t103.toNat).b∧(at' p.links t103.toNat).b<(s_.badBus.length:Int))) (
 bif (bif (bif (bif (!(at' s_.closed t103.toNat))then true else(at' s_.badLink t103.toNat))then true else(at' s_.badBus (((at' p.links t103.toNat).a).toNat)))then true else(at' s_.badBus (((at' p.links t103.toNat).b).toNat)))then
 some (.next (g014,(IntKind.wrap .i64 (t103+1))))
 else
 (bE 3 t103 (⟨r_.1,(⟨g014,([]:(List (Int × (List Int))))⟩:aC)⟩:Graph)).bind fun r_6=>
 Option.bind (aG (dw p r_ t103 r_6) FUEL (g014,0)) fun o=>match o with
 | .ret v=>some v
 | .brk g017=>
 some (.next (g017,(IntKind.wrap .i64 (t103+1))))))
 else
 some (.done (.brk g014))
def fK (p:ah) (s_:State) (rack:Int) (r_:((List Part) × Int)):((List (Int × (List Int))) × Int)→Option (bC ((List (Int × (List Int))) × Int) (Ex (List (Int × (List Int))) Graph)):=
 fun zz=>match zz with
 |(g018,t174)=>
 bif (decide (t174<2))then
 cZ ((0:Int)≤t174∧t174<((2:Nat):Int)) (
 cZ (gB [((decide (0≤(at' [((at' p.racks rack.toNat).feeds).e0,((at' p.racks rack.toNat).feeds).e1] t174.toNat))),true)]=true→(0:Int)≤(at' [((at' p.racks rack.toNat).feeds).e0,((at' p.racks rack.toNat).feeds).e1] t174.toNat)∧(at' [((at' p.racks rack.toNat).feeds).e0,((at' p.racks rack.toNat).feeds).e1] t174.toNat)<(s_.badBus.length:Int)) (
 bif (bif (decide (0≤(at' [((at' p.racks rack.toNat).feeds).e0,((at' p.racks rack.toNat).feeds).e1] t174.toNat)))then(!(at' s_.badBus ((at' [((at' p.racks rack.toNat).feeds).e0,((at' p.racks rack.toNat).feeds).e1] t174.toNat).toNat)))else false)then
 (bE 1 (at' [((at' p.racks rack.toNat).feeds).e0,((at' p.racks rack.toNat).feeds).e1] t174.toNat) (⟨r_.1,(⟨g018,([]:(List (Int × (List Int))))⟩:aC)⟩:Graph)).bind fun r_11=>
 (dA (IntKind.wrap .i64 ((IntKind.wrap .i64 ((2:Int)*r_11))+1)) (-2) (⟨r_.1,(⟨g018,([]:(List (Int × (List Int))))⟩:aC)⟩:Graph)).bind fun r_12=>
 some (.next (r_12.aD.e0,(IntKind.wrap .i64 (t174+1))))
 else
 some (.next (g018,(IntKind.wrap .i64 (t174+1))))))
 else
 some (.done (.brk g018))
def jU (p:ah) (s_:State) (rack:Int):Option Graph:=
 (jo p).bind fun r_=>
 Option.bind (aG (fI r_) FUEL (([]:(List (Int × (List Int)))),0)) fun o=>match o with
 | .ret v=>some v
 | .brk g011=>
 Option.bind (aG (fH p s_ r_) FUEL (g011,0)) fun o=>match o with
 | .ret v=>some v
 | .brk g013=>
 Option.bind (aG (fJ p s_ r_) FUEL (g013,0)) fun o=>match o with
 | .ret v=>some v
 | .brk g015=>
 cZ ((0:Int)≤rack∧rack<(p.racks.length:Int)) (
 Option.bind (aG (fK p s_ rack r_) FUEL (g015,0)) fun o=>match o with
 | .ret v=>some v
 | .brk g019=>
 some (⟨r_.1,(⟨g019,([]:(List (Int × (List Int))))⟩:aC)⟩:Graph))
def ou (s_:(List Int)) (s_nn:Bool):Option (List Int):=
 bif (!s_nn)then
 some ([]:List Int)
 else
 cZ (((([]:List Int).length+s_.length)*8≤140737488355328)∧(([]:List Int).length+s_.length≤4611686018427387904)) (
 some (([]:List Int)++s_))
def jC (s:(List Int)):Option (List Int):=ou s true
def lg (s_:(List Int)) (v_:Int):Int→Option (bC Int (Ex Unit Int)):=
 fun t8=>
 bif (decide (t8<(s_.length:Int)))then
 cZ ((0:Int)≤t8∧t8<(s_.length:Int)) (
 bif (decide (v_=(at' s_ t8.toNat)))then
 some (.done (.ret t8))
 else
 some (.next (IntKind.wrap .i64 (t8+1))))
 else
 some (.done (.brk ()))
def eZ (s_:(List Int)) (v_:Int):Option Int:=
 Option.bind (aG (lg s_ v_) FUEL (0)) fun o=>match o with
 | .ret v=>some v
 | .brk _=>
 some (-1)
def kr (s:List Int) (i j:Int):Option (List Int):=Qu s i j
def eG (a:Int) (b:Int) (from_:Int) (graph:Graph):Option Graph:=
 bif (decide (from_=0))then
 (eZ (aB a graph.aD.e0) b).bind fun r_=>
 (kr (aB a graph.aD.e0) r_ (IntKind.wrap .i64 (r_+1))).bind fun r_1=>
 cZ ((((aB a graph.aD.e1).length+[b].length)*8≤140737488355328)∧((aB a graph.aD.e1).length+[b].length≤4611686018427387904)) (
 some (⟨graph.parts,(⟨(dW a r_1 graph.aD.e0),(dW a ((aB a graph.aD.e1)++[b]) graph.aD.e1)⟩:aC)⟩:Graph))
 else
 cZ (from_=1) (
 (eZ (aB a graph.aD.e1) b).bind fun r_2=>
 (kr (aB a graph.aD.e1) r_2 (IntKind.wrap .i64 (r_2+1))).bind fun r_3=>
 cZ ((((aB a graph.aD.e0).length+[b].length)*8≤140737488355328)∧((aB a graph.aD.e0).length+[b].length≤4611686018427387904)) (
 some (⟨graph.parts,(⟨(dW a ((aB a graph.aD.e0)++[b]) graph.aD.e0),(dW a r_3 graph.aD.e1)⟩:aC)⟩:Graph)))
def dJ (s_:(List Int)) (v_:Int):Option Bool:=
 (eZ s_ v_).bind fun r_=>
 some (decide (0≤r_))
def fo (rec:Int→(List (Int × Bool))→Graph→Option (Bool × (List (Int × Bool)) × Graph)) (at_:Int) (graph:Graph) (r_:(List Int)):((List (Int × Bool)) × (List (Int × (List Int))) × (List (Int × (List Int))) × Int)→Option (bC ((List (Int × Bool)) × (List (Int × (List Int))) × (List (Int × (List Int))) × Int) (Ex ((List (Int × Bool)) × (List (Int × (List Int))) × (List (Int × (List Int)))) (Bool × (List (Int × Bool)) × Graph))):=
 fun zz=>match zz with
 |(o0,o01,o02,t23)=>
 bif (decide (t23<(r_.length:Int)))then
 cZ ((0:Int)≤t23∧t23<(r_.length:Int)) (
 bif (!((aT bU (at' r_ t23.toNat) o0).getD false))then
 (rec (at' r_ t23.toNat) o0 (⟨graph.parts,(⟨o01,o02⟩:aC)⟩:Graph)).bind fun r_1=>
 bif r_1.1 then
 (eG at_ (at' r_ t23.toNat) 0 (⟨graph.parts,r_1.2.2.aD⟩:Graph)).bind fun r_2=>
 some (.done (.ret (true,r_1.2.1,(⟨graph.parts,r_2.aD⟩:Graph))))
 else
 some (.next (r_1.2.1,r_1.2.2.aD.e0,r_1.2.2.aD.e1,(IntKind.wrap .i64 (t23+1))))
 else
 some (.next (o0,o01,o02,(IntKind.wrap .i64 (t23+1)))))
 else
 some (.done (.brk (o0,o01,o02)))
def fq (rec:Int→(List (Int × Bool))→Graph→Option (Bool × (List (Int × Bool)) × Graph)) (at_:Int) (graph:Graph) (o021:(List (Int × (List Int)))):Int × List Int→((List (Int × Bool)) × (List (Int × (List Int))))→Option (bC ((List (Int × Bool)) × (List (Int × (List Int)))) (Ex Empty (Bool × (List (Int × Bool)) × Graph))):=
 fun x=>fun zz=>match zz with
 |(o04,o012)=>
 bif (bif (!((aT bU x.1 o04).getD false))then(!decide (x.1=(-1)))else false)then
 (dJ x.2 at_).bind fun r_3=>
 bif r_3 then
 (rec x.1 o04 (⟨graph.parts,(⟨o012,o021⟩:aC)⟩:Graph)).bind fun r_4=>
 bif r_4.1 then
 (eG x.1 at_ 1 (⟨graph.parts,r_4.2.2.aD⟩:Graph)).bind fun r_5=>
 some (.done (.ret (true,r_4.2.1,(⟨graph.parts,r_5.aD⟩:Graph))))
 else
 cZ (r_4.2.2.aD.e1=o021) (
 some (.next (r_4.2.1,r_4.2.2.aD.e0)))
 else
 some (.next (o04,o012))
 else
 some (.next (o04,o012))
def bB (at_:Int):Int × List Int→Bool:=
 fun x=> !(decide (x.1= -1)) && YJ (dJ x.2 at_)
def eu (rec:Int→(List (Int × Bool))→Graph→Option (Bool × (List (Int × Bool)) × Graph)) (at_:Int) (o_:(List (Int × Bool))) (graph:Graph):Option (Bool × (List (Int × Bool)) × Graph):=
 bif (decide (at_=(-2)))then
 some (true,o_,graph)
 else
 (jC (aB at_ graph.aD.e0)).bind fun r_=>
 Option.bind (aG (fo rec at_ graph r_) FUEL ((fA bU at_ true o_),graph.aD.e0,graph.aD.e1,0)) fun o=>match o with
 | .ret v=>some v
 | .brk (o03,o011,o021)=>
 Option.bind (YG o021 (bB at_) (fq rec at_ graph o021) (o03,o011)) fun o=>match o with
 | .ret v=>some v
 | .brk (o05,o013)=>
 some (false,o05,(⟨graph.parts,(⟨o013,o021⟩:aC)⟩:Graph))
def bD:Nat→Int→(List (Int × Bool))→Graph→Option (Bool × (List (Int × Bool)) × Graph)
 |0,_,_,_=>none
 |n+1,at_,o_,graph=>eu (bD n) at_ o_ graph
def dz (graph:Graph):Option (Bool × Graph):=
 (bD FUEL (-1) ([]:(List (Int × Bool))) graph).bind fun r_=>
 some (r_.1,(⟨graph.parts,r_.2.2.aD⟩:Graph))
def bL (graph:Graph):(Int × (List Part))→Option (bC (Int × (List Part)) (Ex (List Part) (bC ((List (List Part)) × Int) (Ex (List (List Part)) (List (List Part)))))):=
 fun zz=>match zz with
 |(at_,way)=>
 bif (!decide (at_=(-2)))then
 cZ ((2≠(0:Int))∧((0:Int)≤(IntKind.wrap .i64 (Int.tdiv at_ 2))∧(IntKind.wrap .i64 (Int.tdiv at_ 2))<(graph.parts.length:Int))∧((way.length+[(at' graph.parts ((IntKind.wrap .i64 (Int.tdiv at_ 2)).toNat))].length)*16≤140737488355328)∧(way.length+[(at' graph.parts ((IntKind.wrap .i64 (Int.tdiv at_ 2)).toNat))].length≤4611686018427387904)) (
 cZ ((0:Int)≤0∧0<(((aT bU (IntKind.wrap .i64 (at_+1)) graph.aD.e1).getD ([]:List Int)).length:Int)) (
 some (.next ((at' ((aT bU (IntKind.wrap .i64 (at_+1)) graph.aD.e1).getD ([]:List Int)) 0),(way++[(at' graph.parts ((IntKind.wrap .i64 (Int.tdiv at_ 2)).toNat))])))))
 else
 some (.done (.brk way))
def fO (graph:Graph):((List (List Part)) × Int)→Option (bC ((List (List Part)) × Int) (Ex (List (List Part)) (List (List Part)))):=
 fun zz=>match zz with
 |(out,t14)=>
 bif (decide (t14<(((aT bU (-1) graph.aD.e1).getD ([]:List Int)).length:Int)))then
 cZ ((0:Int)≤t14∧t14<(((aT bU (-1) graph.aD.e1).getD ([]:List Int)).length:Int)) (
 Option.bind (aG (bL graph) FUEL ((at' ((aT bU (-1) graph.aD.e1).getD ([]:List Int)) t14.toNat),([]:List Part))) fun o=>match o with
 | .ret v=>some v
 | .brk way1=>
 cZ (((out.length+[way1].length)*24≤140737488355328)∧(out.length+[way1].length≤4611686018427387904)) (
 some (.next ((out++[way1]),(IntKind.wrap .i64 (t14+1))))))
 else
 some (.done (.brk out))
def dI (graph:Graph):Option (List (List Part)):=
 Option.bind (aG (fO graph) FUEL (([]:List (List Part)),0)) fun o=>match o with
 | .ret v=>some v
 | .brk out1=>
 some out1
def fE (r_1:Graph):((List (Int × (List Int))) × (List (Int × (List Int))) × Int)→Option (bC ((List (Int × (List Int))) × (List (Int × (List Int))) × Int) (Ex ((List (Int × (List Int))) × (List (Int × (List Int)))) ((List (List Part)) × Int))):=
 fun zz=>match zz with
 |(g1,g2,t21)=>
 bif (decide (t21<2))then
 (dz (⟨r_1.parts,(⟨g1,g2⟩:aC)⟩:Graph)).bind fun r_2=>
 bif (!r_2.1)then
 some (.done (.brk (r_2.2.aD.e0,r_2.2.aD.e1)))
 else
 some (.next (r_2.2.aD.e0,r_2.2.aD.e1,(IntKind.wrap .i64 (t21+1))))
 else
 some (.done (.brk (g1,g2)))
def oF (p:ah) (s_:State) (rack:Int):Option ((List (List Part)) × Int):=
 (gH p s_ rack).bind fun r_=>
 bif (!decide (r_=0))then
 some (([]:List (List Part)),r_)
 else
 (jU p s_ rack).bind fun r_1=>
 Option.bind (aG (fE r_1) FUEL (r_1.aD.e0,r_1.aD.e1,0)) fun o=>match o with
 | .ret v=>some v
 | .brk (g11,g21)=>
 (dI (⟨r_1.parts,(⟨g11,g21⟩:aC)⟩:Graph)).bind fun r_3=>
 some (r_3,0)
def iC (p:ah) (s_:State) (rack:Int):Option (Int × Int):=
 (oF p s_ rack).bind fun r_=>
 some ((r_.1.length:Int),r_.2)
def jR (p:ah) (r_:((List Bool) × Int)):((List bR) × Int)→Option (bC ((List bR) × Int) (Ex (List bR) ((List bR) × Int))):=
 fun zz=>match zz with
 |(out,t26)=>
 bif (decide (t26<(p.racks.length:Int)))then
 cZ ((0:Int)≤t26∧t26<(p.racks.length:Int)) (
 cZ (gB [((decide (0≤(((at' p.racks t26.toNat).feeds).e0))),true)]=true→(0:Int)≤((at' p.racks t26.toNat).feeds).e0∧((at' p.racks t26.toNat).feeds).e0<(r_.1.length:Int)) (
 cZ (gB [((decide (0≤(((at' p.racks t26.toNat).feeds).e1))),true)]=true→(0:Int)≤((at' p.racks t26.toNat).feeds).e1∧((at' p.racks t26.toNat).feeds).e1<(r_.1.length:Int)) (
 cZ (((out.length+[(⟨(bif (decide (0≤(((at' p.racks t26.toNat).feeds).e0)))then(at' r_.1 ((((at' p.racks t26.toNat).feeds).e0).toNat))else false),(bif (decide (0≤(((at' p.racks t26.toNat).feeds).e1)))then(at' r_.1 ((((at' p.racks t26.toNat).feeds).e1).toNat))else false)⟩:bR)].length)*2≤140737488355328)∧(out.length+[(⟨(bif (decide (0≤(((at' p.racks t26.toNat).feeds).e0)))then(at' r_.1 ((((at' p.racks t26.toNat).feeds).e0).toNat))else false),(bif (decide (0≤(((at' p.racks t26.toNat).feeds).e1)))then(at' r_.1 ((((at' p.racks t26.toNat).feeds).e1).toNat))else false)⟩:bR)].length≤4611686018427387904)) (
 some (.next ((out++[(⟨(bif (decide (0≤(((at' p.racks t26.toNat).feeds).e0)))then(at' r_.1 ((((at' p.racks t26.toNat).feeds).e0).toNat))else false),(bif (decide (0≤(((at' p.racks t26.toNat).feeds).e1)))then(at' r_.1 ((((at' p.racks t26.toNat).feeds).e1).toNat))else false)⟩:bR)]),(IntKind.wrap .i64 (t26+1))))))))
 else
 some (.done (.brk out))
def kX (p:ah) (s_:State):Option ((List bR) × Int):=
 (eD p s_).bind fun r_=>
 bif (!decide (r_.2=0))then
 some (([]:List bR),r_.2)
 else
 Option.bind (aG (jR p r_) FUEL (([]:List bR),0)) fun o=>match o with
 | .ret v=>some v
 | .brk out1=>
 some (out1,0)
def nH (p:ah) (s_:State) (rack:Int):Option Bool:=
 (kX p s_).bind fun r_=>
 cZ (((0:Int)≤rack∧rack<(r_.1.length:Int))∧(gB [((at' r_.1 rack.toNat).e0,false)]=true→(0:Int)≤rack∧rack<(r_.1.length:Int))) (
 some (bif (at' r_.1 rack.toNat).e0 then true else(at' r_.1 rack.toNat).e1))
def lD (s_:State) (x:Part):Option Bool:=
 cZ (((0:Int)≤x.kind∧x.kind<([([]:List Bool),s_.badBus,s_.badSource,s_.badLink].length:Int))∧((0:Int)≤x.index∧x.index<((at' [([]:List Bool),s_.badBus,s_.badSource,s_.badLink] x.kind.toNat).length:Int))) (
 some (at' (at' [([]:List Bool),s_.badBus,s_.badSource,s_.badLink] x.kind.toNat) x.index.toNat))
def j5 (x:Part) (x1:(List Bool)) (x11:(List Bool)) (x12:(List Bool)) (x13:(List Bool)) (x14:(List Bool)) (x15:(List Bool)) (x16:(List Bool)):Option Bool:=
 (lD (⟨x1,x11,x12,x13,x14,x15,x16⟩:State) x).bind fun r_=>
 some r_
def jl (s_:(List Part)) (f_:(List Bool)) (f_1:(List Bool)) (f_2:(List Bool)) (f_3:(List Bool)) (f_4:(List Bool)) (f_5:(List Bool)) (f_6:(List Bool)):Int→Option (bC Int (Ex Unit Int)):=
 fun t8=>
 bif (decide (t8<(s_.length:Int)))then
 (j5 (at' s_ t8.toNat) f_ f_1 f_2 f_3 f_4 f_5 f_6).bind fun r_=>
 cZ ((0:Int)≤t8∧t8<(s_.length:Int)) (
 bif r_ then
 some (.done (.ret t8))
 else
 some (.next (IntKind.wrap .i64 (t8+1))))
 else
 some (.done (.brk ()))
def iQ (s_:(List Part)) (f_:(List Bool)) (f_1:(List Bool)) (f_2:(List Bool)) (f_3:(List Bool)) (f_4:(List Bool)) (f_5:(List Bool)) (f_6:(List Bool)):Option Int:=
 Option.bind (aG (jl s_ f_ f_1 f_2 f_3 f_4 f_5 f_6) FUEL (0)) fun o=>match o with
 | .ret v=>some v
 | .brk _=>
 some (-1)
def fG (del:(List Bool)) (del1:(List Bool)) (del2:(List Bool)) (del3:(List Bool)) (del4:(List Bool)) (del5:(List Bool)) (del6:(List Bool)):((List Part) × Int × Int)→Option (bC ((List Part) × Int × Int) (Ex ((List Part) × Int) (List Part))):=
 fun zz=>match zz with
 |(o_,i,j)=>
 bif (decide (j<(o_.length:Int)))then
 cZ ((0:Int)≤j∧j<(o_.length:Int)) (
 (j5 (at' o_ j.toNat) del del1 del2 del3 del4 del5 del6).bind fun r_1=>
 bif (!r_1)then
 cZ ((0:Int)≤i∧i<(o_.length:Int)) (
 some (.next ((o_.set i.toNat (at' o_ j.toNat)),(IntKind.wrap .i64 (i+1)),(IntKind.wrap .i64 (j+1)))))
 else
 some (.next (o_,i,(IntKind.wrap .i64 (j+1)))))
 else
 some (.done (.brk (o_,i)))
def ig (s_:(List Part)) (del:(List Bool)) (del1:(List Bool)) (del2:(List Bool)) (del3:(List Bool)) (del4:(List Bool)) (del5:(List Bool)) (del6:(List Bool)):Option (List Part):=
 (iQ s_ del del1 del2 del3 del4 del5 del6).bind fun r_=>
 bif (decide (r_=(-1)))then
 some s_
 else
 Option.bind (aG (fG del del1 del2 del3 del4 del5 del6) FUEL (s_,r_,(IntKind.wrap .i64 (r_+1)))) fun o=>match o with
 | .ret v=>some v
 | .brk (o_1,i1)=>
 cZ ((0:Int)≤i1∧i1≤(o_1.length:Int)) (
 cZ ((0:Int)≤i1∧i1≤((xJ o_1 i1.toNat (⟨0,0⟩:Part)).length:Int)) (
 some ((xJ o_1 i1.toNat (⟨0,0⟩:Part)).take i1.toNat)))
def lV (p:ah) (s_:State):Option (List Part):=
 (jo p).bind fun r_=>
 (ig r_.1 s_.closed s_.locked s_.badLink s_.on_ s_.badSource s_.earthed s_.badBus).bind fun r_1=>
 some r_1
def iJ (x:Part) (x1:Int) (x11:(List Source)) (x12:(List Link)) (x13:(List aN)) (x2:(List Bool)) (x21:(List Bool)) (x22:(List Bool)) (x23:(List Bool)) (x24:(List Bool)) (x25:(List Bool)) (x26:(List Bool)) (x3:Int):Option Bool:=
 (mQ (⟨x1,x11,x12,x13⟩:ah) (⟨x2,x21,x22,x23,x24,x25,x26⟩:State) x).bind fun r_=>
 (nH (⟨x1,x11,x12,x13⟩:ah) r_.1 x3).bind fun r_1=>
 some r_1
def gZ (s_:(List Part)) (f_:Int) (f_1:(List Source)) (f_2:(List Link)) (f_3:(List aN)) (f_4:(List Bool)) (f_5:(List Bool)) (f_6:(List Bool)) (f_7:(List Bool)) (f_8:(List Bool)) (f_9:(List Bool)) (f_10:(List Bool)) (f_11:Int):Int→Option (bC Int (Ex Unit Int)):=
 fun t8=>
 bif (decide (t8<(s_.length:Int)))then
 (iJ (at' s_ t8.toNat) f_ f_1 f_2 f_3 f_4 f_5 f_6 f_7 f_8 f_9 f_10 f_11).bind fun r_=>
 cZ ((0:Int)≤t8∧t8<(s_.length:Int)) (
 bif r_ then
 some (.done (.ret t8))
 else
 some (.next (IntKind.wrap .i64 (t8+1))))
 else
 some (.done (.brk ()))
def fU (s_:(List Part)) (f_:Int) (f_1:(List Source)) (f_2:(List Link)) (f_3:(List aN)) (f_4:(List Bool)) (f_5:(List Bool)) (f_6:(List Bool)) (f_7:(List Bool)) (f_8:(List Bool)) (f_9:(List Bool)) (f_10:(List Bool)) (f_11:Int):Option Int:=
 Option.bind (aG (gZ s_ f_ f_1 f_2 f_3 f_4 f_5 f_6 f_7 f_8 f_9 f_10 f_11) FUEL (0)) fun o=>match o with
 | .ret v=>some v
 | .brk _=>
 some (-1)
def yG (a:(List Part)) (b:(List Part)):Int→Option (bC Int (Ex Unit Bool)):=
 fun i=>
 bif (decide (i<(a.length:Int)))then
 cZ (((0:Int)≤i∧i<(a.length:Int))∧((0:Int)≤i∧i<(b.length:Int))) (
 bif (!((decide (((at' a i.toNat).kind)=((at' b i.toNat).kind))) && ((decide (((at' a i.toNat).index)=((at' b i.toNat).index))) && true)))then
 some (.done (.ret false))
 else
 some (.next (IntKind.wrap .i64 (i+1))))
 else
 some (.done (.brk ()))
def ve (a:(List Part)) (b:(List Part)):Option Bool:=
 bif (!decide ((a.length:Int)=(b.length:Int)))then
 some false
 else
 Option.bind (aG (yG a b) FUEL (0)) fun o=>match o with
 | .ret v=>some v
 | .brk _=>
 some true
def kM (a:Int) (b:Int):Option Link:=
 some (⟨a,b,3,500,10,([]:List sP)⟩:Link)
def pR (sync:Int):Option (ah × State):=
 (kM 0 2).bind fun r_=>
 (kM 1 3).bind fun r_1=>
 (kM 2 3).bind fun r_2=>
 cZ (((0:Int)≤3)∧((1:Int)*3≤281474976710656)∧((3:Int)≤9223372036854775807)∧((0:Int)≤2)∧((1:Int)*2≤281474976710656)∧((2:Int)≤9223372036854775807)∧((0:Int)≤4)∧((1:Int)*4≤281474976710656)∧((4:Int)≤9223372036854775807)) (
 some ((⟨4,[(⟨0,1,500,sync,20⟩:Source),(⟨1,1,500,sync,20⟩:Source)],[r_,r_1,r_2],[(⟨(⟨2,3⟩:ay),100,2⟩:aN)]⟩:ah),(⟨[true,true,false],(List.replicate 3 (false:Bool)),(List.replicate 3 (false:Bool)),[true,true],(List.replicate 2 (false:Bool)),(List.replicate 4 (false:Bool)),(List.replicate 4 (false:Bool))⟩:State)))
def xK (a:(List Bool)) (b:(List Bool)):Int→Option (bC Int (Ex Unit Bool)):=
 fun i=>
 bif (decide (i<(a.length:Int)))then
 cZ (((0:Int)≤i∧i<(a.length:Int))∧((0:Int)≤i∧i<(b.length:Int))) (
 bif (!((at' a i.toNat)==(at' b i.toNat)))then
 some (.done (.ret false))
 else
 some (.next (IntKind.wrap .i64 (i+1))))
 else
 some (.done (.brk ()))
def lS (a:(List Bool)) (b:(List Bool)):Option Bool:=
 bif (!decide ((a.length:Int)=(b.length:Int)))then
 some false
 else
 Option.bind (aG (xK a b) FUEL (0)) fun o=>match o with
 | .ret v=>some v
 | .brk _=>
 some true
def fF (del:Int) (del1:(List Source)) (del2:(List Link)) (del3:(List aN)) (del4:(List Bool)) (del5:(List Bool)) (del6:(List Bool)) (del7:(List Bool)) (del8:(List Bool)) (del9:(List Bool)) (del10:(List Bool)) (del11:Int):((List Part) × Int × Int)→Option (bC ((List Part) × Int × Int) (Ex ((List Part) × Int) (List Part))):=
 fun zz=>match zz with
 |(o_,i,j)=>
 bif (decide (j<(o_.length:Int)))then
 cZ ((0:Int)≤j∧j<(o_.length:Int)) (
 (iJ (at' o_ j.toNat) del del1 del2 del3 del4 del5 del6 del7 del8 del9 del10 del11).bind fun r_1=>
 bif (!r_1)then
 cZ ((0:Int)≤i∧i<(o_.length:Int)) (
 some (.next ((o_.set i.toNat (at' o_ j.toNat)),(IntKind.wrap .i64 (i+1)),(IntKind.wrap .i64 (j+1)))))
 else
 some (.next (o_,i,(IntKind.wrap .i64 (j+1)))))
 else
 some (.done (.brk (o_,i)))
def gY (s_:(List Part)) (del:Int) (del1:(List Source)) (del2:(List Link)) (del3:(List aN)) (del4:(List Bool)) (del5:(List Bool)) (del6:(List Bool)) (del7:(List Bool)) (del8:(List Bool)) (del9:(List Bool)) (del10:(List Bool)) (del11:Int):Option (List Part):=
 (fU s_ del del1 del2 del3 del4 del5 del6 del7 del8 del9 del10 del11).bind fun r_=>
 bif (decide (r_=(-1)))then
 some s_
 else
 Option.bind (aG (fF del del1 del2 del3 del4 del5 del6 del7 del8 del9 del10 del11) FUEL (s_,r_,(IntKind.wrap .i64 (r_+1)))) fun o=>match o with
 | .ret v=>some v
 | .brk (o_1,i1)=>
 cZ ((0:Int)≤i1∧i1≤(o_1.length:Int)) (
 cZ ((0:Int)≤i1∧i1≤((xJ o_1 i1.toNat (⟨0,0⟩:Part)).length:Int)) (
 some ((xJ o_1 i1.toNat (⟨0,0⟩:Part)).take i1.toNat)))
def fw (p:ah) (s_:State) (rack:Int):Option ((List Part) × Int):=
 (gH p s_ rack).bind fun r_=>
 bif (!decide (r_=0))then
 some (([]:List Part),r_)
 else
 (nH p s_ rack).bind fun r_1=>
 bif (!r_1)then
 some (([]:List Part),0)
 else
 (lV p s_).bind fun r_2=>
 (gY r_2 p.buses p.sources p.links p.racks s_.closed s_.locked s_.badLink s_.on_ s_.badSource s_.earthed s_.badBus rack).bind fun r_3=>
 some (r_3,0)
def mH:Option Bool:=
 (pR 1).bind fun r_=>
 (iC r_.1 r_.2 0).bind fun r_1=>
 (fw r_.1 r_.2 0).bind fun r_2=>
 bif (bif (bif (bif (!decide (r_1.2=0))then true else(!decide (r_2.2=0)))then true else(!decide (r_1.1=2)))then true else(!decide ((r_2.1.length:Int)=0)))then
 some false
 else
 cZ ((0:Int)≤1∧1<(r_.2.closed.length:Int)) (
 (iC r_.1 (⟨(r_.2.closed.set 1 false),r_.2.locked,r_.2.badLink,r_.2.on_,r_.2.badSource,r_.2.earthed,r_.2.badBus⟩:State) 0).bind fun r_3=>
 (fw r_.1 (⟨(r_.2.closed.set 1 false),r_.2.locked,r_.2.badLink,r_.2.on_,r_.2.badSource,r_.2.earthed,r_.2.badBus⟩:State) 0).bind fun r_4=>
 bif (bif (bif (!decide (r_3.2=0))then true else(!decide (r_4.2=0)))then true else(!decide (r_3.1=1)))then
 some false
 else
 (ve r_4.1 [(⟨1,0⟩:Part),(⟨1,2⟩:Part),(⟨2,0⟩:Part),(⟨3,0⟩:Part)]).bind fun r_5=>
 bif (!r_5)then
 some false
 else
 cZ ((0:Int)≤1∧1<((r_.2.closed.set 1 false).length:Int)) (
 (mU r_.1 (⟨((r_.2.closed.set 1 false).set 1 true),r_.2.locked,r_.2.badLink,r_.2.on_,r_.2.badSource,r_.2.earthed,r_.2.badBus⟩:State) [(⟨3,1,2⟩:Transfer)] [(⟨2,1⟩:Part)]).bind fun r_6=>
 bif (!decide (r_6.2=0))then
 some false
 else
 (lS r_6.1.closed [true,false,true]).bind fun r_7=>
 bif (!r_7)then
 some false
 else
 (pR 0).bind fun r_8=>
 cZ ((0:Int)≤1∧1<(r_8.2.closed.length:Int)) (
 (dX r_8.1 (⟨(r_8.2.closed.set 1 false),r_8.2.locked,r_8.2.badLink,r_8.2.on_,r_8.2.badSource,r_8.2.earthed,r_8.2.badBus⟩:State) [(⟨3,(-1),2⟩:Transfer)]).bind fun r_9=>
 (dX r_8.1 (⟨[false,false,true],r_8.2.locked,r_8.2.badLink,r_8.2.on_,r_8.2.badSource,r_8.2.earthed,r_8.2.badBus⟩:State) [(⟨3,2,1⟩:Transfer),(⟨2,(-1),0⟩:Transfer)]).bind fun r_10=>
 cZ ((0:Int)≤0∧0<(r_8.2.badLink.length:Int)) (
 (dX r_8.1 (⟨[true,false,false],r_8.2.locked,(r_8.2.badLink.set 0 true),r_8.2.on_,r_8.2.badSource,r_8.2.earthed,r_8.2.badBus⟩:State) [(⟨2,(-1),2⟩:Transfer),(⟨3,(-1),1⟩:Transfer)]).bind fun r_11=>
 bif (bif (bif (decide (r_9.2.2=0))then(decide (r_10.2.2=0))else false)then(decide (r_11.2.2=0))else false)then
 (ol r_9.2.1 [0]).bind fun r_12=>
 bif (bif (bif r_12 then(decide ((r_9.1.closed.length:Int)=3))else false)then(at' r_9.1.closed 2)else false)then
 (ol r_10.2.1 [0,1]).bind fun r_13=>
 bif r_13 then
 (lS r_10.1.closed [true,true,false]).bind fun r_14=>
 bif r_14 then
 (ol r_11.2.1 [1,0]).bind fun r_15=>
 bif r_15 then
 (lS r_11.1.closed [true,true,true]).bind fun r_16=>
 cZ (gB [((bif r_12 then(decide ((r_9.1.closed.length:Int)=3))else false),true)]=true→(0:Int)≤2∧2<(r_9.1.closed.length:Int)) (
 some r_16)
 else
 cZ (gB [((bif r_12 then(decide ((r_9.1.closed.length:Int)=3))else false),true)]=true→(0:Int)≤2∧2<(r_9.1.closed.length:Int)) (
 some false)
 else
 cZ (gB [((bif r_12 then(decide ((r_9.1.closed.length:Int)=3))else false),true)]=true→(0:Int)≤2∧2<(r_9.1.closed.length:Int)) (
 some false)
 else
 cZ (gB [((bif r_12 then(decide ((r_9.1.closed.length:Int)=3))else false),true)]=true→(0:Int)≤2∧2<(r_9.1.closed.length:Int)) (
 some false)
 else
 cZ (gB [((bif r_12 then(decide ((r_9.1.closed.length:Int)=3))else false),true)]=true→(0:Int)≤2∧2<(r_9.1.closed.length:Int)) (
 some false)
 else
 some false))))
def lT (p:ah) (s_:State) (l:(List Transfer)):((List Transfer) × Int)→Option (bC ((List Transfer) × Int) (Ex (List Transfer) (List Transfer))):=
 fun zz=>match zz with
 |(out,i)=>
 bif (bif (decide (i<(l.length:Int)))then(decide ((out.length:Int)<16))else false)then
 cZ ((0:Int)≤i∧i<(l.length:Int)) (
 (dX p s_ [(at' l i.toNat)]).bind fun r_=>
 bif (decide (r_.2.2=0))then
 cZ (((out.length+[(at' l i.toNat)].length)*24≤140737488355328)∧(out.length+[(at' l i.toNat)].length≤4611686018427387904)) (
 some (.next ((out++[(at' l i.toNat)]),(IntKind.wrap .i64 (i+1)))))
 else
 some (.next (out,(IntKind.wrap .i64 (i+1)))))
 else
 some (.done (.brk out))
def oV (p:ah) (s_:State) (l:(List Transfer)):Option (List Transfer):=
 Option.bind (aG (lT p s_ l) FUEL (([]:List Transfer),0)) fun o=>match o with
 | .ret v=>some v
 | .brk out1=>
 some out1
def uU (x:Int) (n:Int):Option Int:=
 bif (decide (n<1))then
 some 0
 else
 cZ (n≠(0:Int)) (
 bif (decide ((Int.tmod x n)<0))then
 some (IntKind.wrap .i64 ((Int.tmod x n)+n))
 else
 some (Int.tmod x n))
def lW (n:Int):Option (List Part):=
 bif (decide (n<0))then
 none
 else
 bif (decide (0<(IntKind.wrap .i64 (n - (IntKind.wrap .i64 ((0:Int) - (([]:List Part).length:Int)))))))then
 cZ (((0:Int)≤(0:Int)∧(0:Int)≤(([]:List Part).length:Int))∧((0:Int)<(IntKind.wrap .i64 (n - (IntKind.wrap .i64 ((0:Int) - (([]:List Part).length:Int))))))∧((16:Int)*(IntKind.wrap .i64 (n - (IntKind.wrap .i64 ((0:Int) - (([]:List Part).length:Int)))))≤140737488355328)∧(((IntKind.wrap .i64 (n - (IntKind.wrap .i64 ((0:Int) - (([]:List Part).length:Int))))):Int)≤4611686018427387904)∧((0:Int)≤(([]:List Part).length:Int)∧(([]:List Part).length:Int)≤((List.replicate ((IntKind.wrap .i64 (n - (IntKind.wrap .i64 ((0:Int) - (([]:List Part).length:Int))))).toNat) ((⟨0,0⟩:Part):Part)).length:Int))) (
 some ((List.replicate ((IntKind.wrap .i64 (n - (IntKind.wrap .i64 ((0:Int) - (([]:List Part).length:Int))))).toNat) ((⟨0,0⟩:Part):Part)).take ((([]:List Part).length:Int).toNat)))
 else
 some ([]:List Part)
def iK (slices:(List (List Part))):(Int × Int)→Option (bC (Int × Int) (Ex Int (List Part))):=
 fun zz=>match zz with
 |(size_,t11)=>
 bif (decide (t11<(slices.length:Int)))then
 cZ ((0:Int)≤t11∧t11<(slices.length:Int)) (
 bif (decide ((IntKind.wrap .i64 (size_+((at' slices t11.toNat).length:Int)))<0))then
 none
 else
 some (.next ((IntKind.wrap .i64 (size_+((at' slices t11.toNat).length:Int))),(IntKind.wrap .i64 (t11+1)))))
 else
 some (.done (.brk size_))
def iH (slices:(List (List Part))):((List Part) × Int)→Option (bC ((List Part) × Int) (Ex (List Part) (List Part))):=
 fun zz=>match zz with
 |(newslice,t27)=>
 bif (decide (t27<(slices.length:Int)))then
 cZ ((0:Int)≤t27∧t27<(slices.length:Int)) (
 cZ (((newslice.length+(at' slices t27.toNat).length)*16≤140737488355328)∧(newslice.length+(at' slices t27.toNat).length≤4611686018427387904)) (
 some (.next ((newslice++(at' slices t27.toNat)),(IntKind.wrap .i64 (t27+1))))))
 else
 some (.done (.brk newslice))
def mV (slices:(List (List Part))):Option (List Part):=
 Option.bind (aG (iK slices) FUEL (0,0)) fun o=>match o with
 | .ret v=>some v
 | .brk size_1=>
 (lW size_1).bind fun r_=>
 Option.bind (aG (iH slices) FUEL (r_,0)) fun o=>match o with
 | .ret v=>some v
 | .brk newslice1=>
 some newslice1
def jB (s_:(List Part)) (v_:Part):Option Bool:=
 (bZ s_ v_).bind fun r_=>
 some (decide (0≤r_))
def fP (p:ah) (s_:State) (l:(List Part)):(Int × (List Int) × Int)→Option (bC (Int × (List Int) × Int) (Ex Int Bool)):=
 fun zz=>match zz with
 |(at_,met,i)=>
 bif (decide (i<(l.length:Int)))then
 cZ ((0:Int)≤i∧i<(l.length:Int)) (
 bif (bif (bif (!decide (((at' l i.toNat).kind)=3))then true else(decide (((at' l i.toNat).index)<0)))then true else(decide ((p.links.length:Int)≤((at' l i.toNat).index))))then
 some (.done (.ret false))
 else
 cZ ((0:Int)≤(at' l i.toNat).index∧(at' l i.toNat).index<(p.links.length:Int)) (
 cZ (((0:Int)≤(at' l i.toNat).index∧(at' l i.toNat).index<(s_.closed.length:Int))∧(gB [((!(at' s_.closed (((at' l i.toNat).index).toNat))),false)]=true→(0:Int)≤(at' l i.toNat).index∧(at' l i.toNat).index<(s_.badLink.length:Int))∧(gB [((bif (!(at' s_.closed (((at' l i.toNat).index).toNat)))then true else(at' s_.badLink (((at' l i.toNat).index).toNat))),false)]=true→(0:Int)≤(at' p.links (((at' l i.toNat).index).toNat)).a∧(at' p.links (((at' l i.toNat).index).toNat)).a<(s_.badBus.length:Int))∧(gB [((bif (bif (!(at' s_.closed (((at' l i.toNat).index).toNat)))then true else(at' s_.badLink (((at' l i.toNat).index).toNat)))then true else(at' s_.badBus (((at' p.links (((at' l i.toNat).index).toNat)).a).toNat))),false)]=true→(0:Int)≤(at' p.links (((at' l i.toNat).index).toNat)).b∧(at' p.links (((at' l i.toNat).index).toNat)).b<(s_.badBus.length:Int))) (
 bif (bif (bif (bif (bif (!(at' s_.closed (((at' l i.toNat).index).toNat)))then true else(at' s_.badLink (((at' l i.toNat).index).toNat)))then true else(at' s_.badBus (((at' p.links (((at' l i.toNat).index).toNat)).a).toNat)))then true else(at' s_.badBus (((at' p.links (((at' l i.toNat).index).toNat)).b).toNat)))then true else(bif (!decide (((at' p.links (((at' l i.toNat).index).toNat)).a)=at_))then(!decide (((at' p.links (((at' l i.toNat).index).toNat)).b)=at_))else false))then
 some (.done (.ret false))
 else
 (bif gB [((!((decide (((at' l ((IntKind.wrap .i64 (i+1)).toNat)).kind)=1)) && ((decide (((at' l ((IntKind.wrap .i64 (i+1)).toNat)).index)=(IntKind.wrap .i64 ((IntKind.wrap .i64 (((at' p.links (((at' l i.toNat).index).toNat)).a)+((at' p.links (((at' l i.toNat).index).toNat)).b))) - at_)))) && true))),false)]then dJ met (IntKind.wrap .i64 ((IntKind.wrap .i64 (((at' p.links (((at' l i.toNat).index).toNat)).a)+((at' p.links (((at' l i.toNat).index).toNat)).b))) - at_))else some default).bind fun r_=>
 cZ ((0:Int)≤(IntKind.wrap .i64 (i+1))∧(IntKind.wrap .i64 (i+1))<(l.length:Int)) (
 bif (bif (!((decide (((at' l ((IntKind.wrap .i64 (i+1)).toNat)).kind)=1)) && ((decide (((at' l ((IntKind.wrap .i64 (i+1)).toNat)).index)=(IntKind.wrap .i64 ((IntKind.wrap .i64 (((at' p.links (((at' l i.toNat).index).toNat)).a)+((at' p.links (((at' l i.toNat).index).toNat)).b))) - at_)))) && true)))then true else r_)then
 some (.done (.ret false))
 else
 cZ (((met.length+[(IntKind.wrap .i64 ((IntKind.wrap .i64 (((at' p.links (((at' l i.toNat).index).toNat)).a)+((at' p.links (((at' l i.toNat).index).toNat)).b))) - at_))].length)*8≤140737488355328)∧(met.length+[(IntKind.wrap .i64 ((IntKind.wrap .i64 (((at' p.links (((at' l i.toNat).index).toNat)).a)+((at' p.links (((at' l i.toNat).index).toNat)).b))) - at_))].length≤4611686018427387904)) (
 some (.next ((IntKind.wrap .i64 ((IntKind.wrap .i64 (((at' p.links (((at' l i.toNat).index).toNat)).a)+((at' p.links (((at' l i.toNat).index).toNat)).b))) - at_)),(met++[(IntKind.wrap .i64 ((IntKind.wrap .i64 (((at' p.links (((at' l i.toNat).index).toNat)).a)+((at' p.links (((at' l i.toNat).index).toNat)).b))) - at_))]),(IntKind.wrap .i64 (i+2)))))))))
 else
 some (.done (.brk at_))
def mI (p:ah) (s_:State) (rack:Int) (l:(List Part)):Option Bool:=
 cZ ((gB [((decide ((l.length:Int)<2)),false)]=true→2≠(0:Int))∧(gB [((bif (decide ((l.length:Int)<2))then true else(!decide ((Int.tmod (l.length:Int) 2)=0))),false)]=true→(0:Int)≤0∧0<(l.length:Int))∧(gB [((bif (bif (decide ((l.length:Int)<2))then true else(!decide ((Int.tmod (l.length:Int) 2)=0)))then true else(!decide (((at' l 0).kind)=2))),false)]=true→(0:Int)≤0∧0<(l.length:Int))∧(gB [((bif (bif (bif (decide ((l.length:Int)<2))then true else(!decide ((Int.tmod (l.length:Int) 2)=0)))then true else(!decide (((at' l 0).kind)=2)))then true else(decide (((at' l 0).index)<0))),false)]=true→(0:Int)≤0∧0<(l.length:Int))) (
 bif (bif (bif (bif (bif (decide ((l.length:Int)<2))then true else(!decide ((Int.tmod (l.length:Int) 2)=0)))then true else(!decide (((at' l 0).kind)=2)))then true else(decide (((at' l 0).index)<0)))then true else(decide ((p.sources.length:Int)≤((at' l 0).index))))then
 some false
 else
 cZ ((0:Int)≤0∧0<(l.length:Int)) (
 cZ ((0:Int)≤(at' l 0).index∧(at' l 0).index<(p.sources.length:Int)) (
 cZ (((0:Int)≤(at' l 0).index∧(at' l 0).index<(s_.on_.length:Int))∧(gB [((!(at' s_.on_ (((at' l 0).index).toNat))),false)]=true→(0:Int)≤(at' l 0).index∧(at' l 0).index<(s_.badSource.length:Int))∧(gB [((bif (!(at' s_.on_ (((at' l 0).index).toNat)))then true else(at' s_.badSource (((at' l 0).index).toNat))),false)]=true→(0:Int)≤(at' p.sources (((at' l 0).index).toNat)).bus∧(at' p.sources (((at' l 0).index).toNat)).bus<(s_.badBus.length:Int))∧(gB [((bif (bif (!(at' s_.on_ (((at' l 0).index).toNat)))then true else(at' s_.badSource (((at' l 0).index).toNat)))then true else(at' s_.badBus (((at' p.sources (((at' l 0).index).toNat)).bus).toNat))),false)]=true→(0:Int)≤1∧1<(l.length:Int))) (
 bif (bif (bif (bif (!(at' s_.on_ (((at' l 0).index).toNat)))then true else(at' s_.badSource (((at' l 0).index).toNat)))then true else(at' s_.badBus (((at' p.sources (((at' l 0).index).toNat)).bus).toNat)))then true else(!((decide (((at' l 1).kind)=1)) && ((decide (((at' l 1).index)=((at' p.sources (((at' l 0).index).toNat)).bus))) && true))))then
 some false
 else
 Option.bind (aG (fP p s_ l) FUEL ((at' p.sources (((at' l 0).index).toNat)).bus,[(at' p.sources (((at' l 0).index).toNat)).bus],2)) fun o=>match o with
 | .ret v=>some v
 | .brk at_1=>
 (dJ [((at' p.racks rack.toNat).feeds).e0,((at' p.racks rack.toNat).feeds).e1] at_1).bind fun r_1=>
 cZ ((0:Int)≤rack∧rack<(p.racks.length:Int)) (
 some r_1)))))
def mo (x:(List Part)) (x1:Int) (x11:(List Source)) (x12:(List Link)) (x13:(List aN)) (x2:(List Bool)) (x21:(List Bool)) (x22:(List Bool)) (x23:(List Bool)) (x24:(List Bool)) (x25:(List Bool)) (x26:(List Bool)) (x3:Int):Option Bool:=
 (mI (⟨x1,x11,x12,x13⟩:ah) (⟨x2,x21,x22,x23,x24,x25,x26⟩:State) x3 x).bind fun r_=>
 some (!r_)
def jw (s_:(List (List Part))) (f_:Int) (f_1:(List Source)) (f_2:(List Link)) (f_3:(List aN)) (f_4:(List Bool)) (f_5:(List Bool)) (f_6:(List Bool)) (f_7:(List Bool)) (f_8:(List Bool)) (f_9:(List Bool)) (f_10:(List Bool)) (f_11:Int):Int→Option (bC Int (Ex Unit Int)):=
 fun t8=>
 bif (decide (t8<(s_.length:Int)))then
 (mo (at' s_ t8.toNat) f_ f_1 f_2 f_3 f_4 f_5 f_6 f_7 f_8 f_9 f_10 f_11).bind fun r_=>
 cZ ((0:Int)≤t8∧t8<(s_.length:Int)) (
 bif r_ then
 some (.done (.ret t8))
 else
 some (.next (IntKind.wrap .i64 (t8+1))))
 else
 some (.done (.brk ()))
def kG (s_:(List (List Part))) (f_:Int) (f_1:(List Source)) (f_2:(List Link)) (f_3:(List aN)) (f_4:(List Bool)) (f_5:(List Bool)) (f_6:(List Bool)) (f_7:(List Bool)) (f_8:(List Bool)) (f_9:(List Bool)) (f_10:(List Bool)) (f_11:Int):Option Int:=
 Option.bind (aG (jw s_ f_ f_1 f_2 f_3 f_4 f_5 f_6 f_7 f_8 f_9 f_10 f_11) FUEL (0)) fun o=>match o with
 | .ret v=>some v
 | .brk _=>
 some (-1)
def gL (s_:(List (List Part))) (f_:Int) (f_1:(List Source)) (f_2:(List Link)) (f_3:(List aN)) (f_4:(List Bool)) (f_5:(List Bool)) (f_6:(List Bool)) (f_7:(List Bool)) (f_8:(List Bool)) (f_9:(List Bool)) (f_10:(List Bool)) (f_11:Int):Option Bool:=
 (kG s_ f_ f_1 f_2 f_3 f_4 f_5 f_6 f_7 f_8 f_9 f_10 f_11).bind fun r_=>
 some (decide (0≤r_))
def gF (r_2:(List Part)):Int→Option (bC Int (Ex Unit Int)):=
 fun t27=>
 bif (decide (t27<(r_2.length:Int)))then
 cZ ((0:Int)≤t27∧t27<(r_2.length:Int)) (
 (jB (vJ r_2 0 t27.toNat) (at' r_2 t27.toNat)).bind fun r_3=>
 cZ ((0:Int)≤t27∧t27≤(r_2.length:Int)) (
 bif r_3 then
 some (.done (.ret 7))
 else
 some (.next (IntKind.wrap .i64 (t27+1)))))
 else
 some (.done (.brk ()))
def kL (p:ah) (s_:State) (rack:Int) (l:(List (List Part))):Option Int:=
 (gH p s_ rack).bind fun r_=>
 bif (!decide (r_=0))then
 some r_
 else
 (gL l p.buses p.sources p.links p.racks s_.closed s_.locked s_.badLink s_.on_ s_.badSource s_.earthed s_.badBus rack).bind fun r_1=>
 bif r_1 then
 some 7
 else
 (mV l).bind fun r_2=>
 Option.bind (aG (gF r_2) FUEL (0)) fun o=>match o with
 | .ret v=>some v
 | .brk _=>
 some 0
def gV (r_5:((List (List Part)) × Int)) (r_6:((List Part) × Int)) (i:Int) (kz:Int):(Bool × Int)→Option (bC (Bool × Int) (Ex Bool (bC Int (Ex Unit (bC Int (Ex Unit Bool)))))):=
 fun zz=>match zz with
 |(there,m)=>
 cZ ((0:Int)≤i∧i<(r_5.1.length:Int)) (
 bif (decide (m<((at' r_5.1 i.toNat).length:Int)))then
 cZ ((gB [(there,false)]=true→(0:Int)≤i∧i<(r_5.1.length:Int))∧(gB [(there,false)]=true→(0:Int)≤m∧m<((at' r_5.1 i.toNat).length:Int))∧(gB [(there,false)]=true→(0:Int)≤kz∧kz<(r_6.1.length:Int))) (
 some (.next ((bif there then true else((decide (((at' (at' r_5.1 i.toNat) m.toNat).kind)=((at' r_6.1 kz.toNat).kind))) && ((decide (((at' (at' r_5.1 i.toNat) m.toNat).index)=((at' r_6.1 kz.toNat).index))) && true))),(IntKind.wrap .i64 (m+1)))))
 else
 some (.done (.brk there)))
def jG (r_5:((List (List Part)) × Int)) (r_6:((List Part) × Int)) (i:Int):Int→Option (bC Int (Ex Unit (bC Int (Ex Unit Bool)))):=
 fun kz=>
 bif (decide (kz<(r_6.1.length:Int)))then
 Option.bind (aG (gV r_5 r_6 i kz) FUEL (false,0)) fun o=>match o with
 | .ret v=>some v
 | .brk there1=>
 bif (!there1)then
 some (.done (.ret (.done (.ret false))))
 else
 some (.next (IntKind.wrap .i64 (kz+1)))
 else
 some (.done (.brk ()))
def jH (r_5:((List (List Part)) × Int)) (r_6:((List Part) × Int)):Int→Option (bC Int (Ex Unit Bool)):=
 fun i=>
 bif (decide (i<(r_5.1.length:Int)))then
 Option.bind (aG (jG r_5 r_6 i) FUEL (0)) fun o=>match o with
 | .ret v=>some v
 | .brk _=>
 some (.next (IntKind.wrap .i64 (i+1)))
 else
 some (.done (.brk ()))
def dQ (p:ah) (s_:State) (r_2:(List Transfer)) (r_3:Int) (r_10:((List Part) × Int)) (i1:Int):Int→Option (bC Int (Ex Unit (bC Int (Ex Unit Bool)))):=
 fun t239=>
 bif (decide (t239<([([]:List Transfer),r_2].length:Int)))then
 cZ ((0:Int)≤t239∧t239<([([]:List Transfer),r_2].length:Int)) (
 (mU p s_ (at' [([]:List Transfer),r_2] t239.toNat) (vJ r_10.1 i1.toNat (((IntKind.wrap .i64 (i1+1)).toNat) - i1.toNat))).bind fun r_11=>
 cZ ((0:Int)≤i1∧i1≤(IntKind.wrap .i64 (i1+1))∧(IntKind.wrap .i64 (i1+1))≤(r_10.1.length:Int)) (
 (kX p r_11.1).bind fun r_12=>
 cZ ((gB [((bif (bif (!decide (r_11.2=0))then true else(!decide (r_12.2=0)))then true else(!decide ((r_12.1.length:Int)=(p.racks.length:Int)))),false)]=true→(0:Int)≤r_3∧r_3<(r_12.1.length:Int))∧(gB [((!((at' r_12.1 r_3.toNat).e0)),true),((bif (bif (!decide (r_11.2=0))then true else(!decide (r_12.2=0)))then true else(!decide ((r_12.1.length:Int)=(p.racks.length:Int)))),false)]=true→(0:Int)≤r_3∧r_3<(r_12.1.length:Int))) (
 bif (bif (bif (bif (!decide (r_11.2=0))then true else(!decide (r_12.2=0)))then true else(!decide ((r_12.1.length:Int)=(p.racks.length:Int))))then true else(bif (!((at' r_12.1 r_3.toNat).e0))then(!((at' r_12.1 r_3.toNat).e1))else false))then
 some (.done (.ret (.done (.ret false))))
 else
 some (.next (IntKind.wrap .i64 (t239+1))))))
 else
 some (.done (.brk ()))
def jI (p:ah) (s_:State) (r_2:(List Transfer)) (r_3:Int) (r_10:((List Part) × Int)):Int→Option (bC Int (Ex Unit Bool)):=
 fun i1=>
 bif (decide (i1<(r_10.1.length:Int)))then
 Option.bind (aG (dQ p s_ r_2 r_3 r_10 i1) FUEL (0)) fun o=>match o with
 | .ret v=>some v
 | .brk _=>
 some (.next (IntKind.wrap .i64 (i1+1)))
 else
 some (.done (.brk ()))
def lX (p:ah) (s_:State) (rack:Int) (l:(List Transfer)):Option Bool:=
 (bif gB [((bif (bif (bif (bif (decide (60<(p.sources.length:Int)))then true else(decide (60<(p.links.length:Int))))then true else(decide (60<(p.racks.length:Int))))then true else(decide ((p.racks.length:Int)=0)))then true else(decide (60<(l.length:Int)))),false)]then cO p s_ else some default).bind fun r_=>
 bif (bif (bif (bif (bif (bif (decide (60<(p.sources.length:Int)))then true else(decide (60<(p.links.length:Int))))then true else(decide (60<(p.racks.length:Int))))then true else(decide ((p.racks.length:Int)=0)))then true else(decide (60<(l.length:Int))))then true else(!decide (r_=0)))then
 (mH).bind fun r_1=>
 some r_1
 else
 (oV p s_ l).bind fun r_2=>
 (uU rack (p.racks.length:Int)).bind fun r_3=>
 (iC p s_ r_3).bind fun r_4=>
 (oF p s_ r_3).bind fun r_5=>
 (fw p s_ r_3).bind fun r_6=>
 (kX p s_).bind fun r_7=>
 (bif gB [((bif (bif (bif (bif (bif (bif (bif (!decide (r_4.2=0))then true else(!decide (r_5.2=0)))then true else(!decide (r_6.2=0)))then true else(!decide (r_7.2=0)))then true else(!decide ((r_7.1.length:Int)=(p.racks.length:Int))))then true else(!decide ((r_5.1.length:Int)=r_4.1)))then true else(decide (r_4.1<0)))then true else(decide (2<r_4.1))),false)]then kL p s_ r_3 r_5.1 else some default).bind fun r_8=>
 bif (bif (bif (bif (bif (bif (bif (bif (bif (!decide (r_4.2=0))then true else(!decide (r_5.2=0)))then true else(!decide (r_6.2=0)))then true else(!decide (r_7.2=0)))then true else(!decide ((r_7.1.length:Int)=(p.racks.length:Int))))then true else(!decide ((r_5.1.length:Int)=r_4.1)))then true else(decide (r_4.1<0)))then true else(decide (2<r_4.1)))then true else(!decide (r_8=0)))then
 some false
 else
 cZ (((0:Int)≤r_3∧r_3<(r_7.1.length:Int))∧(gB [((at' r_7.1 r_3.toNat).e0,false)]=true→(0:Int)≤r_3∧r_3<(r_7.1.length:Int))) (
 bif (bif (bif (!((bif (at' r_7.1 r_3.toNat).e0 then true else(at' r_7.1 r_3.toNat).e1)==(decide (0<r_4.1))))then true else(bif (bif (at' r_7.1 r_3.toNat).e0 then true else(at' r_7.1 r_3.toNat).e1)then(!((decide ((r_6.1.length:Int)=0))==(decide (r_4.1=2))))else false))then true else(bif (!(bif (at' r_7.1 r_3.toNat).e0 then true else(at' r_7.1 r_3.toNat).e1))then(decide (0<(r_6.1.length:Int)))else false))then
 some false
 else
 Option.bind (aG (jH r_5 r_6) FUEL (0)) fun o=>match o with
 | .ret v=>some v
 | .brk _=>
 bif (decide (r_4.1<2))then
 (mH).bind fun r_9=>
 some r_9
 else
 (jo p).bind fun r_10=>
 bif (!decide (r_10.2=0))then
 some false
 else
 Option.bind (aG (jI p s_ r_2 r_3 r_10) FUEL (0)) fun o=>match o with
 | .ret v=>some v
 | .brk _=>
 (mH).bind fun r_13=>
 some r_13)
end Sg
