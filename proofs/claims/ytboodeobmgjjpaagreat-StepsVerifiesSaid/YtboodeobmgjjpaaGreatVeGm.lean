import Derived.Test.YtboodeobmgjjpaaGreatVeLd
set_option linter.all false
namespace Sg
open Go
structure Source where
 bus:Int
 kind:Int
 power:Int
 sync:Int
 ohm:Int
instance:Inhabited Source:=⟨⟨default,default,default,default,default⟩⟩
def Source.cell (x:Source):Nat→DV
 |0=>(.int .i64 x.bus)
 |1=>(.int .i64 x.kind)
 |2=>(.int .i64 x.power)
 |3=>(.int .i64 x.sync)
 |4=>(.int .i64 x.ohm)
 |_=> .nilp
structure iC where
 amps:Int
 millis:Int
instance:Inhabited iC:=⟨⟨default,default⟩⟩
def iC.cell (x:iC):Nat→DV
 |0=>(.int .i64 x.amps)
 |1=>(.int .i64 x.millis)
 |_=> .nilp
structure Link where
 a:Int
 b:Int
 kind:Int
 most:Int
 ohm:Int
 trip:(List iC)
instance:Inhabited Link:=⟨⟨default,default,default,default,default,default⟩⟩
def Link.cell (x:Link):Nat→DV
 |0=>(.int .i64 x.a)
 |1=>(.int .i64 x.b)
 |2=>(.int .i64 x.kind)
 |3=>(.int .i64 x.most)
 |4=>(.int .i64 x.ohm)
 |5=>(aR none 2 iC.cell x.trip)
 |_=> .nilp
structure aA where
 e0:Int
 e1:Int
instance:Inhabited aA:=⟨⟨default,default⟩⟩
def aA.cell (x:aA):Nat→DV
 |0=>(.int .i64 x.e0)
 |1=>(.int .i64 x.e1)
 |_=> .nilp
structure aN where
 feeds:aA
 power:Int
 paths:Int
instance:Inhabited aN:=⟨⟨default,default,default⟩⟩
def aN.cell (x:aN):Nat→DV
 |0=>(.int .i64 x.feeds.e0)
 |1=>(.int .i64 x.feeds.e1)
 |2=>(.int .i64 x.power)
 |3=>(.int .i64 x.paths)
 |_=> .nilp
structure aj where
 buses:Int
 sources:(List Source)
 links:(List Link)
 racks:(List aN)
instance:Inhabited aj:=⟨⟨default,default,default,default⟩⟩
def aj.cell (x:aj):Nat→DV
 |0=>(.int .i64 x.buses)
 |1=>(aR none 5 Source.cell x.sources)
 |2=>(aR none 6 Link.cell x.links)
 |3=>(aR none 4 aN.cell x.racks)
 |_=> .nilp
structure af where
 deed:Int
 index:Int
instance:Inhabited af:=⟨⟨default,default⟩⟩
def af.cell (x:af):Nat→DV
 |0=>(.int .i64 x.deed)
 |1=>(.int .i64 x.index)
 |_=> .nilp
structure Task where
 fed:(List Int)
 crew:(List Int)
 allowed:(List af)
 goal:(List af)
instance:Inhabited Task:=⟨⟨default,default,default,default⟩⟩
def Task.cell (x:Task):Nat→DV
 |0=>(aR none 1 (bL .i64) x.fed)
 |1=>(aR none 1 (bL .i64) x.crew)
 |2=>(aR none 2 af.cell x.allowed)
 |3=>(aR none 2 af.cell x.goal)
 |_=> .nilp
structure State where
 closed:(List Bool)
 locked:(List Bool)
 badLink:(List Bool)
 on_:(List Bool)
 badSource:(List Bool)
 earthed:(List Bool)
 badBus:(List Bool)
instance:Inhabited State:=⟨⟨default,default,default,default,default,default,default⟩⟩
def State.cell (x:State):Nat→DV
 |0=>(aR none 1 ah x.closed)
 |1=>(aR none 1 ah x.locked)
 |2=>(aR none 1 ah x.badLink)
 |3=>(aR none 1 ah x.on_)
 |4=>(aR none 1 ah x.badSource)
 |5=>(aR none 1 ah x.earthed)
 |6=>(aR none 1 ah x.badBus)
 |_=> .nilp
structure dh where
 l:(List Bool)
 n:Int
instance:Inhabited dh:=⟨⟨default,default⟩⟩
def dh.cell (x:dh):Nat→DV
 |0=>(aR none 1 ah x.l)
 |1=>(.int .i64 x.n)
 |_=> .nilp
structure aV where
 head:(List (Int × Int))
instance:Inhabited aV:=⟨⟨default⟩⟩
def aV.cell (x:aV):Nat→DV
 |0=> .nilp
 |_=> .nilp
structure aI where
 buses:(List Int)
 sources:(List Int)
instance:Inhabited aI:=⟨⟨default,default⟩⟩
def aI.cell (x:aI):Nat→DV
 |0=>(aR none 1 (bL .i64) x.buses)
 |1=>(aR none 1 (bL .i64) x.sources)
 |_=> .nilp
structure aX where
 e0:Bool
 e1:Bool
instance:Inhabited aX:=⟨⟨default,default⟩⟩
def aX.cell (x:aX):Nat→DV
 |0=>(.bool x.e0)
 |1=>(.bool x.e1)
 |_=> .nilp
structure Reached where
 s_:State
 from_:Int
 by_:af
instance:Inhabited Reached:=⟨⟨default,default,default⟩⟩
def Reached.cell (x:Reached):Nat→DV
 |0=>(aR none 1 ah x.s_.closed)
 |1=>(aR none 1 ah x.s_.locked)
 |2=>(aR none 1 ah x.s_.badLink)
 |3=>(aR none 1 ah x.s_.on_)
 |4=>(aR none 1 ah x.s_.badSource)
 |5=>(aR none 1 ah x.s_.earthed)
 |6=>(aR none 1 ah x.s_.badBus)
 |7=>(.int .i64 x.from_)
 |8=>(.int .i64 x.by_.deed)
 |9=>(.int .i64 x.by_.index)
 |_=> .nilp
structure Search where
 l:(List Reached)
 known:(List ((List Bool) × Bool))
instance:Inhabited Search:=⟨⟨default,default⟩⟩
def Search.cell (x:Search):Nat→DV
 |0=>(aR none 10 Reached.cell x.l)
 |1=> .nilp
 |_=> .nilp
def aI.ev (x:aI):Nat→EV
 |0=> .row 3 1 x.buses.length (ay (bL .i64) x.buses)
 |1=> .row 3 1 x.sources.length (ay (bL .i64) x.sources)
 |_=> .d .nilp
def zy (p:aj) (t:Task):Option Bool:=
 some (bif (bif (bif (bif (bif (bif (decide (60<(p.sources.length:Int)))then true else(decide (60<(p.links.length:Int))))then true else(decide (60<(p.racks.length:Int))))then true else(decide (60<(t.fed.length:Int))))then true else(decide (60<(t.crew.length:Int))))then true else(decide (60<(t.allowed.length:Int))))then true else(decide (60<(t.goal.length:Int))))
def aW (n:Int) (first:Int) (last:Int):Option Bool:=
 some (bif (decide (first≤n))then(decide (n≤last))else false)
def uQ (p:aj):Option (Int × (List Source) × (List Link) × (List aN)):=
 some (p.buses,p.sources,p.links,p.racks)
def xO (p:aj):Option (Int × (List Source) × (List Link) × (List aN)):=
 some (p.buses,p.sources,p.links,p.racks)
def yj (p:aj):Option (Int × (List Source) × (List Link) × (List aN)):=
 some (p.buses,p.sources,p.links,p.racks)
def mU (x:Source) (x1:Int) (x11:(List Source)) (x12:(List Link)) (x13:(List aN)):Option Bool:=
 (aW x.bus 0 (IntKind.wrap .i64 (x1 - 1))).bind fun r_=>
 (bif gB [(r_,true)]then aW x.kind 1 3 else some default).bind fun r_1=>
 (bif gB [((bif r_ then r_1 else false),true)]then aW x.power 1 100000 else some default).bind fun r_2=>
 (bif gB [((bif (bif r_ then r_1 else false)then r_2 else false),true)]then aW x.sync 0 8 else some default).bind fun r_3=>
 (bif gB [((bif (bif (bif r_ then r_1 else false)then r_2 else false)then r_3 else false),true)]then aW x.ohm 10 100000 else some default).bind fun r_4=>
 some (bif (bif (bif (bif r_ then r_1 else false)then r_2 else false)then r_3 else false)then r_4 else false)
def uR (x:Source) (x1:Int) (x11:(List Source)) (x12:(List Link)) (x13:(List aN)):Option Bool:=
 (mU x x1 x11 x12 x13).bind fun r_=>
 some (!r_)
def lu (s_:(List Source)) (f_:Int) (f_1:(List Source)) (f_2:(List Link)) (f_3:(List aN)):Int→Option (bC Int (Ex Unit Int)):=
 fun t8=>
 bif (decide (t8<(s_.length:Int)))then
 (uR (at' s_ t8.toNat) f_ f_1 f_2 f_3).bind fun r_=>
 aL ((0:Int)≤t8∧t8<(s_.length:Int)) (
 bif r_ then
 some (.done (.ret t8))
 else
 some (.next (IntKind.wrap .i64 (t8+1))))
 else
 some (.done (.brk ()))
def oQ (s_:(List Source)) (f_:Int) (f_1:(List Source)) (f_2:(List Link)) (f_3:(List aN)):Option Int:=
 Option.bind (aC (lu s_ f_ f_1 f_2 f_3) FUEL (0)) fun o=>match o with
 | .ret v=>some v
 | .brk _=>
 some (-1)
def iO (s_:(List Source)) (f_:Int) (f_1:(List Source)) (f_2:(List Link)) (f_3:(List aN)):Option Bool:=
 (oQ s_ f_ f_1 f_2 f_3).bind fun r_=>
 some (decide (0≤r_))
def sJ (l:(List Source)) (most:Int) (right:Int) (right1:(List Source)) (right2:(List Link)) (right3:(List aN)):Option Bool:=
 (bif gB [((decide ((l.length:Int)≤most)),true)]then iO l right right1 right2 right3 else some default).bind fun r_=>
 some (bif (decide ((l.length:Int)≤most))then(!r_)else false)
def lT (x:Link):Int→Option (bC Int (Ex Unit Bool)):=
 fun t50=>
 bif (decide (t50<(x.trip.length:Int)))then
 aL ((0:Int)≤t50∧t50<(x.trip.length:Int)) (
 (aW ((at' x.trip t50.toNat).amps) 1 1000000).bind fun r_5=>
 (bif gB [((!r_5),false)]then aW ((at' x.trip t50.toNat).millis) 1 100000 else some default).bind fun r_6=>
 aL ((gB [((decide (0<t50)),true),((bif (!r_5)then true else(!r_6)),false)]=true→(0:Int)≤(IntKind.wrap .i64 (t50 - 1))∧(IntKind.wrap .i64 (t50 - 1))<(x.trip.length:Int))∧(gB [((decide (((at' x.trip t50.toNat).amps)≤((at' x.trip ((IntKind.wrap .i64 (t50 - 1)).toNat)).amps))),false),((decide (0<t50)),true),((bif (!r_5)then true else(!r_6)),false)]=true→(0:Int)≤(IntKind.wrap .i64 (t50 - 1))∧(IntKind.wrap .i64 (t50 - 1))<(x.trip.length:Int))) (
 bif (bif (bif (!r_5)then true else(!r_6))then true else(bif (decide (0<t50))then(bif (decide (((at' x.trip t50.toNat).amps)≤((at' x.trip ((IntKind.wrap .i64 (t50 - 1)).toNat)).amps)))then true else(decide (((at' x.trip ((IntKind.wrap .i64 (t50 - 1)).toNat)).millis)≤((at' x.trip t50.toNat).millis))))else false))then
 some (.done (.ret false))
 else
 some (.next (IntKind.wrap .i64 (t50+1)))))
 else
 some (.done (.brk ()))
def pF (x:Link) (x1:Int) (x11:(List Source)) (x12:(List Link)) (x13:(List aN)):Option Bool:=
 (aW x.a 0 (IntKind.wrap .i64 (x1 - 1))).bind fun r_=>
 (bif gB [((!r_),false)]then aW x.b 0 (IntKind.wrap .i64 (x1 - 1))else some default).bind fun r_1=>
 (bif gB [((bif (bif (!r_)then true else(!r_1))then true else(decide (x.a=x.b))),false)]then aW x.kind 1 3 else some default).bind fun r_2=>
 (bif gB [((bif (bif (bif (!r_)then true else(!r_1))then true else(decide (x.a=x.b)))then true else(!r_2)),false)]then aW x.most 1 100000 else some default).bind fun r_3=>
 (bif gB [((bif (bif (bif (bif (!r_)then true else(!r_1))then true else(decide (x.a=x.b)))then true else(!r_2))then true else(!r_3)),false)]then aW x.ohm 10 100000 else some default).bind fun r_4=>
 bif (bif (bif (bif (bif (bif (!r_)then true else(!r_1))then true else(decide (x.a=x.b)))then true else(!r_2))then true else(!r_3))then true else(!r_4))then
 some false
 else
 Option.bind (aC (lT x) FUEL (0)) fun o=>match o with
 | .ret v=>some v
 | .brk _=>
 some (bif (decide ((x.trip.length:Int)≤6))then(bif (decide ((x.trip.length:Int)=0))then true else(decide (x.kind=3)))else false)
def qo (x:Link) (x1:Int) (x11:(List Source)) (x12:(List Link)) (x13:(List aN)):Option Bool:=
 (pF x x1 x11 x12 x13).bind fun r_=>
 some (!r_)
def jC (s_:(List Link)) (f_:Int) (f_1:(List Source)) (f_2:(List Link)) (f_3:(List aN)):Int→Option (bC Int (Ex Unit Int)):=
 fun t8=>
 bif (decide (t8<(s_.length:Int)))then
 (qo (at' s_ t8.toNat) f_ f_1 f_2 f_3).bind fun r_=>
 aL ((0:Int)≤t8∧t8<(s_.length:Int)) (
 bif r_ then
 some (.done (.ret t8))
 else
 some (.next (IntKind.wrap .i64 (t8+1))))
 else
 some (.done (.brk ()))
def lG (s_:(List Link)) (f_:Int) (f_1:(List Source)) (f_2:(List Link)) (f_3:(List aN)):Option Int:=
 Option.bind (aC (jC s_ f_ f_1 f_2 f_3) FUEL (0)) fun o=>match o with
 | .ret v=>some v
 | .brk _=>
 some (-1)
def gu (s_:(List Link)) (f_:Int) (f_1:(List Source)) (f_2:(List Link)) (f_3:(List aN)):Option Bool:=
 (lG s_ f_ f_1 f_2 f_3).bind fun r_=>
 some (decide (0≤r_))
def qm (l:(List Link)) (most:Int) (right:Int) (right1:(List Source)) (right2:(List Link)) (right3:(List aN)):Option Bool:=
 (bif gB [((decide ((l.length:Int)≤most)),true)]then gu l right right1 right2 right3 else some default).bind fun r_=>
 some (bif (decide ((l.length:Int)≤most))then(!r_)else false)
def qQ (x:aN):Option Int:=
 bif (decide (x.feeds.e1=(-1)))then
 some 1
 else
 some 2
def pG (x:aN) (x1:Int) (x11:(List Source)) (x12:(List Link)) (x13:(List aN)):Option Bool:=
 (aW x.feeds.e0 0 (IntKind.wrap .i64 (x1 - 1))).bind fun r_=>
 (bif gB [(r_,true)]then aW x.feeds.e1 (-1) (IntKind.wrap .i64 (x1 - 1))else some default).bind fun r_1=>
 (bif gB [((bif (bif r_ then r_1 else false)then(!decide (x.feeds.e0=x.feeds.e1))else false),true)]then aW x.power 1 100000 else some default).bind fun r_2=>
 (bif gB [((bif (bif (bif r_ then r_1 else false)then(!decide (x.feeds.e0=x.feeds.e1))else false)then r_2 else false),true)]then qQ x else some default).bind fun r_3=>
 (bif gB [((bif (bif (bif r_ then r_1 else false)then(!decide (x.feeds.e0=x.feeds.e1))else false)then r_2 else false),true)]then aW x.paths 0 r_3 else some default).bind fun r_4=>
 some (bif (bif (bif (bif r_ then r_1 else false)then(!decide (x.feeds.e0=x.feeds.e1))else false)then r_2 else false)then r_4 else false)
def pM (x:aN) (x1:Int) (x11:(List Source)) (x12:(List Link)) (x13:(List aN)):Option Bool:=
 (pG x x1 x11 x12 x13).bind fun r_=>
 some (!r_)
def jG (s_:(List aN)) (f_:Int) (f_1:(List Source)) (f_2:(List Link)) (f_3:(List aN)):Int→Option (bC Int (Ex Unit Int)):=
 fun t8=>
 bif (decide (t8<(s_.length:Int)))then
 (pM (⟨((at' s_ t8.toNat).feeds),(at' s_ t8.toNat).power,(at' s_ t8.toNat).paths⟩:aN) f_ f_1 f_2 f_3).bind fun r_=>
 aL ((0:Int)≤t8∧t8<(s_.length:Int)) (
 bif r_ then
 some (.done (.ret t8))
 else
 some (.next (IntKind.wrap .i64 (t8+1))))
 else
 some (.done (.brk ()))
def lm (s_:(List aN)) (f_:Int) (f_1:(List Source)) (f_2:(List Link)) (f_3:(List aN)):Option Int:=
 Option.bind (aC (jG s_ f_ f_1 f_2 f_3) FUEL (0)) fun o=>match o with
 | .ret v=>some v
 | .brk _=>
 some (-1)
def gF (s_:(List aN)) (f_:Int) (f_1:(List Source)) (f_2:(List Link)) (f_3:(List aN)):Option Bool:=
 (lm s_ f_ f_1 f_2 f_3).bind fun r_=>
 some (decide (0≤r_))
def qb (l:(List aN)) (most:Int) (right:Int) (right1:(List Source)) (right2:(List Link)) (right3:(List aN)):Option Bool:=
 (bif gB [((decide ((l.length:Int)≤most)),true)]then gF l right right1 right2 right3 else some default).bind fun r_=>
 some (bif (decide ((l.length:Int)≤most))then(!r_)else false)
def qR (p:aj):Option Int:=
 (aW p.buses 1 24).bind fun r_=>
 bif (!r_)then
 some 10
 else
 (uQ p).bind fun r_1=>
 (sJ p.sources 8 r_1.1 r_1.2.1 r_1.2.2.1 r_1.2.2.2).bind fun r_2=>
 bif (!r_2)then
 some 11
 else
 (xO p).bind fun r_3=>
 (qm p.links 40 r_3.1 r_3.2.1 r_3.2.2.1 r_3.2.2.2).bind fun r_4=>
 bif (!r_4)then
 some 12
 else
 (yj p).bind fun r_5=>
 (qb p.racks 24 r_5.1 r_5.2.1 r_5.2.2.1 r_5.2.2.2).bind fun r_6=>
 bif (!r_6)then
 some 13
 else
 some 0
def iQ (p:aj) (s_:State):Int→Option (bC Int (Ex Unit Int)):=
 fun t55=>
 bif (decide (t55<([(⟨s_.closed,(p.links.length:Int)⟩:dh),(⟨s_.locked,(p.links.length:Int)⟩:dh),(⟨s_.badLink,(p.links.length:Int)⟩:dh),(⟨s_.on_,(p.sources.length:Int)⟩:dh),(⟨s_.badSource,(p.sources.length:Int)⟩:dh),(⟨s_.earthed,p.buses⟩:dh),(⟨s_.badBus,p.buses⟩:dh)].length:Int)))then
 aL ((0:Int)≤t55∧t55<([(⟨s_.closed,(p.links.length:Int)⟩:dh),(⟨s_.locked,(p.links.length:Int)⟩:dh),(⟨s_.badLink,(p.links.length:Int)⟩:dh),(⟨s_.on_,(p.sources.length:Int)⟩:dh),(⟨s_.badSource,(p.sources.length:Int)⟩:dh),(⟨s_.earthed,p.buses⟩:dh),(⟨s_.badBus,p.buses⟩:dh)].length:Int)) (
 bif (!decide ((((at' [(⟨s_.closed,(p.links.length:Int)⟩:dh),(⟨s_.locked,(p.links.length:Int)⟩:dh),(⟨s_.badLink,(p.links.length:Int)⟩:dh),(⟨s_.on_,(p.sources.length:Int)⟩:dh),(⟨s_.badSource,(p.sources.length:Int)⟩:dh),(⟨s_.earthed,p.buses⟩:dh),(⟨s_.badBus,p.buses⟩:dh)] t55.toNat).l).length:Int)=((at' [(⟨s_.closed,(p.links.length:Int)⟩:dh),(⟨s_.locked,(p.links.length:Int)⟩:dh),(⟨s_.badLink,(p.links.length:Int)⟩:dh),(⟨s_.on_,(p.sources.length:Int)⟩:dh),(⟨s_.badSource,(p.sources.length:Int)⟩:dh),(⟨s_.earthed,p.buses⟩:dh),(⟨s_.badBus,p.buses⟩:dh)] t55.toNat).n)))then
 some (.done (.ret 9))
 else
 some (.next (IntKind.wrap .i64 (t55+1))))
 else
 some (.done (.brk ()))
def iP (p:aj) (s_:State):Int→Option (bC Int (Ex Unit Int)):=
 fun t69=>
 bif (decide (t69<(p.links.length:Int)))then
 aL ((0:Int)≤t69∧t69<(p.links.length:Int)) (
 aL ((gB [((decide (((at' p.links t69.toNat).kind)=1)),true)]=true→(0:Int)≤t69∧t69<(s_.closed.length:Int))∧(gB [((!(at' s_.closed t69.toNat)),false),((decide (((at' p.links t69.toNat).kind)=1)),true)]=true→(0:Int)≤t69∧t69<(s_.locked.length:Int))) (
 bif (bif (decide (((at' p.links t69.toNat).kind)=1))then(bif (!(at' s_.closed t69.toNat))then true else(at' s_.locked t69.toNat))else false)then
 some (.done (.ret 9))
 else
 some (.next (IntKind.wrap .i64 (t69+1)))))
 else
 some (.done (.brk ()))
def dU (p:aj) (s_:State):Option Int:=
 (qR p).bind fun r_=>
 bif (!decide (r_=0))then
 some r_
 else
 Option.bind (aC (iQ p s_) FUEL (0)) fun o=>match o with
 | .ret v=>some v
 | .brk _=>
 Option.bind (aC (iP p s_) FUEL (0)) fun o=>match o with
 | .ret v=>some v
 | .brk _=>
 some 0
def oM (i:Int) (x1:Int):Option Bool:=
 some (bif (decide (i<0))then true else(decide (x1≤i)))
def jE (s_:(List Int)) (f_:Int):Int→Option (bC Int (Ex Unit Int)):=
 fun t8=>
 bif (decide (t8<(s_.length:Int)))then
 (oM (at' s_ t8.toNat) f_).bind fun r_=>
 aL ((0:Int)≤t8∧t8<(s_.length:Int)) (
 bif r_ then
 some (.done (.ret t8))
 else
 some (.next (IntKind.wrap .i64 (t8+1))))
 else
 some (.done (.brk ()))
def lH (s_:(List Int)) (f_:Int):Option Int:=
 Option.bind (aC (jE s_ f_) FUEL (0)) fun o=>match o with
 | .ret v=>some v
 | .brk _=>
 some (-1)
def gJ (s_:(List Int)) (f_:Int):Option Bool:=
 (lH s_ f_).bind fun r_=>
 some (decide (0≤r_))
def jY (l:(List Int)) (n:Int):Option Bool:=
 (bif gB [((decide ((l.length:Int)≤24)),true)]then gJ l n else some default).bind fun r_=>
 some (bif (decide ((l.length:Int)≤24))then(!r_)else false)
def mM (p:aj) (x:af):Option Bool:=
 bif (decide (x.deed=1))then
 bif (decide (x.deed=1))then
 aL (gB [((bif (decide (0≤x.index))then(decide (x.index<(p.links.length:Int)))else false),true)]=true→(0:Int)≤x.index∧x.index<(p.links.length:Int)) (
 some (bif (bif (decide (0≤x.index))then(decide (x.index<(p.links.length:Int)))else false)then(!decide (((at' p.links x.index.toNat).kind)=1))else false))
 else
 bif (decide (x.deed=3))then
 bif (decide (x.deed=3))then
 some (bif (decide (0≤x.index))then(decide (x.index<p.buses))else false)
 else
 bif (decide (x.deed=7))then
 bif (decide (x.deed=7))then
 some (bif (decide (0≤x.index))then(decide (x.index<(p.sources.length:Int)))else false)
 else
 aL (gB [((bif (decide (0≤x.index))then(decide (x.index<0))else false),true)]=true→(0:Int)≤x.index∧x.index<(p.links.length:Int)) (
 some (bif (bif (decide (0≤x.index))then(decide (x.index<0))else false)then(!decide (((at' p.links x.index.toNat).kind)=1))else false))
 else
 bif (decide (x.deed=8))then
 some (bif (decide (0≤x.index))then(decide (x.index<(p.sources.length:Int)))else false)
 else
 aL (gB [((bif (decide (0≤x.index))then(decide (x.index<0))else false),true)]=true→(0:Int)≤x.index∧x.index<(p.links.length:Int)) (
 some (bif (bif (decide (0≤x.index))then(decide (x.index<0))else false)then(!decide (((at' p.links x.index.toNat).kind)=1))else false))
 else
 bif (decide (x.deed=4))then
 some (bif (decide (0≤x.index))then(decide (x.index<p.buses))else false)
 else
 bif (decide (x.deed=7))then
 bif (decide (x.deed=7))then
 some (bif (decide (0≤x.index))then(decide (x.index<(p.sources.length:Int)))else false)
 else
 aL (gB [((bif (decide (0≤x.index))then(decide (x.index<0))else false),true)]=true→(0:Int)≤x.index∧x.index<(p.links.length:Int)) (
 some (bif (bif (decide (0≤x.index))then(decide (x.index<0))else false)then(!decide (((at' p.links x.index.toNat).kind)=1))else false))
 else
 bif (decide (x.deed=8))then
 some (bif (decide (0≤x.index))then(decide (x.index<(p.sources.length:Int)))else false)
 else
 aL (gB [((bif (decide (0≤x.index))then(decide (x.index<0))else false),true)]=true→(0:Int)≤x.index∧x.index<(p.links.length:Int)) (
 some (bif (bif (decide (0≤x.index))then(decide (x.index<0))else false)then(!decide (((at' p.links x.index.toNat).kind)=1))else false))
 else
 bif (decide (x.deed=2))then
 bif (decide (x.deed=2))then
 aL (gB [((bif (decide (0≤x.index))then(decide (x.index<(p.links.length:Int)))else false),true)]=true→(0:Int)≤x.index∧x.index<(p.links.length:Int)) (
 some (bif (bif (decide (0≤x.index))then(decide (x.index<(p.links.length:Int)))else false)then(!decide (((at' p.links x.index.toNat).kind)=1))else false))
 else
 bif (decide (x.deed=3))then
 bif (decide (x.deed=3))then
 some (bif (decide (0≤x.index))then(decide (x.index<p.buses))else false)
 else
 bif (decide (x.deed=7))then
 bif (decide (x.deed=7))then
 some (bif (decide (0≤x.index))then(decide (x.index<(p.sources.length:Int)))else false)
 else
 aL (gB [((bif (decide (0≤x.index))then(decide (x.index<0))else false),true)]=true→(0:Int)≤x.index∧x.index<(p.links.length:Int)) (
 some (bif (bif (decide (0≤x.index))then(decide (x.index<0))else false)then(!decide (((at' p.links x.index.toNat).kind)=1))else false))
 else
 bif (decide (x.deed=8))then
 some (bif (decide (0≤x.index))then(decide (x.index<(p.sources.length:Int)))else false)
 else
 aL (gB [((bif (decide (0≤x.index))then(decide (x.index<0))else false),true)]=true→(0:Int)≤x.index∧x.index<(p.links.length:Int)) (
 some (bif (bif (decide (0≤x.index))then(decide (x.index<0))else false)then(!decide (((at' p.links x.index.toNat).kind)=1))else false))
 else
 bif (decide (x.deed=4))then
 some (bif (decide (0≤x.index))then(decide (x.index<p.buses))else false)
 else
 bif (decide (x.deed=7))then
 bif (decide (x.deed=7))then
 some (bif (decide (0≤x.index))then(decide (x.index<(p.sources.length:Int)))else false)
 else
 aL (gB [((bif (decide (0≤x.index))then(decide (x.index<0))else false),true)]=true→(0:Int)≤x.index∧x.index<(p.links.length:Int)) (
 some (bif (bif (decide (0≤x.index))then(decide (x.index<0))else false)then(!decide (((at' p.links x.index.toNat).kind)=1))else false))
 else
 bif (decide (x.deed=8))then
 some (bif (decide (0≤x.index))then(decide (x.index<(p.sources.length:Int)))else false)
 else
 aL (gB [((bif (decide (0≤x.index))then(decide (x.index<0))else false),true)]=true→(0:Int)≤x.index∧x.index<(p.links.length:Int)) (
 some (bif (bif (decide (0≤x.index))then(decide (x.index<0))else false)then(!decide (((at' p.links x.index.toNat).kind)=1))else false))
 else
 bif (decide (x.deed=5))then
 bif (decide (x.deed=5))then
 aL (gB [((bif (decide (0≤x.index))then(decide (x.index<(p.links.length:Int)))else false),true)]=true→(0:Int)≤x.index∧x.index<(p.links.length:Int)) (
 some (bif (bif (decide (0≤x.index))then(decide (x.index<(p.links.length:Int)))else false)then(!decide (((at' p.links x.index.toNat).kind)=1))else false))
 else
 bif (decide (x.deed=3))then
 bif (decide (x.deed=3))then
 some (bif (decide (0≤x.index))then(decide (x.index<p.buses))else false)
 else
 bif (decide (x.deed=7))then
 bif (decide (x.deed=7))then
 some (bif (decide (0≤x.index))then(decide (x.index<(p.sources.length:Int)))else false)
 else
 aL (gB [((bif (decide (0≤x.index))then(decide (x.index<0))else false),true)]=true→(0:Int)≤x.index∧x.index<(p.links.length:Int)) (
 some (bif (bif (decide (0≤x.index))then(decide (x.index<0))else false)then(!decide (((at' p.links x.index.toNat).kind)=1))else false))
 else
 bif (decide (x.deed=8))then
 some (bif (decide (0≤x.index))then(decide (x.index<(p.sources.length:Int)))else false)
 else
 aL (gB [((bif (decide (0≤x.index))then(decide (x.index<0))else false),true)]=true→(0:Int)≤x.index∧x.index<(p.links.length:Int)) (
 some (bif (bif (decide (0≤x.index))then(decide (x.index<0))else false)then(!decide (((at' p.links x.index.toNat).kind)=1))else false))
 else
 bif (decide (x.deed=4))then
 some (bif (decide (0≤x.index))then(decide (x.index<p.buses))else false)
 else
 bif (decide (x.deed=7))then
 bif (decide (x.deed=7))then
 some (bif (decide (0≤x.index))then(decide (x.index<(p.sources.length:Int)))else false)
 else
 aL (gB [((bif (decide (0≤x.index))then(decide (x.index<0))else false),true)]=true→(0:Int)≤x.index∧x.index<(p.links.length:Int)) (
 some (bif (bif (decide (0≤x.index))then(decide (x.index<0))else false)then(!decide (((at' p.links x.index.toNat).kind)=1))else false))
 else
 bif (decide (x.deed=8))then
 some (bif (decide (0≤x.index))then(decide (x.index<(p.sources.length:Int)))else false)
 else
 aL (gB [((bif (decide (0≤x.index))then(decide (x.index<0))else false),true)]=true→(0:Int)≤x.index∧x.index<(p.links.length:Int)) (
 some (bif (bif (decide (0≤x.index))then(decide (x.index<0))else false)then(!decide (((at' p.links x.index.toNat).kind)=1))else false))
 else
 bif (decide (x.deed=6))then
 aL (gB [((bif (decide (0≤x.index))then(decide (x.index<(p.links.length:Int)))else false),true)]=true→(0:Int)≤x.index∧x.index<(p.links.length:Int)) (
 some (bif (bif (decide (0≤x.index))then(decide (x.index<(p.links.length:Int)))else false)then(!decide (((at' p.links x.index.toNat).kind)=1))else false))
 else
 bif (decide (x.deed=3))then
 bif (decide (x.deed=3))then
 some (bif (decide (0≤x.index))then(decide (x.index<p.buses))else false)
 else
 bif (decide (x.deed=7))then
 bif (decide (x.deed=7))then
 some (bif (decide (0≤x.index))then(decide (x.index<(p.sources.length:Int)))else false)
 else
 aL (gB [((bif (decide (0≤x.index))then(decide (x.index<0))else false),true)]=true→(0:Int)≤x.index∧x.index<(p.links.length:Int)) (
 some (bif (bif (decide (0≤x.index))then(decide (x.index<0))else false)then(!decide (((at' p.links x.index.toNat).kind)=1))else false))
 else
 bif (decide (x.deed=8))then
 some (bif (decide (0≤x.index))then(decide (x.index<(p.sources.length:Int)))else false)
 else
 aL (gB [((bif (decide (0≤x.index))then(decide (x.index<0))else false),true)]=true→(0:Int)≤x.index∧x.index<(p.links.length:Int)) (
 some (bif (bif (decide (0≤x.index))then(decide (x.index<0))else false)then(!decide (((at' p.links x.index.toNat).kind)=1))else false))
 else
 bif (decide (x.deed=4))then
 some (bif (decide (0≤x.index))then(decide (x.index<p.buses))else false)
 else
 bif (decide (x.deed=7))then
 bif (decide (x.deed=7))then
 some (bif (decide (0≤x.index))then(decide (x.index<(p.sources.length:Int)))else false)
 else
 aL (gB [((bif (decide (0≤x.index))then(decide (x.index<0))else false),true)]=true→(0:Int)≤x.index∧x.index<(p.links.length:Int)) (
 some (bif (bif (decide (0≤x.index))then(decide (x.index<0))else false)then(!decide (((at' p.links x.index.toNat).kind)=1))else false))
 else
 bif (decide (x.deed=8))then
 some (bif (decide (0≤x.index))then(decide (x.index<(p.sources.length:Int)))else false)
 else
 aL (gB [((bif (decide (0≤x.index))then(decide (x.index<0))else false),true)]=true→(0:Int)≤x.index∧x.index<(p.links.length:Int)) (
 some (bif (bif (decide (0≤x.index))then(decide (x.index<0))else false)then(!decide (((at' p.links x.index.toNat).kind)=1))else false))
def oN (x:af) (x1:Int) (x11:(List Source)) (x12:(List Link)) (x13:(List aN)):Option Bool:=
 (mM (⟨x1,x11,x12,x13⟩:aj) x).bind fun r_=>
 some (!r_)
def jD (s_:(List af)) (f_:Int) (f_1:(List Source)) (f_2:(List Link)) (f_3:(List aN)):Int→Option (bC Int (Ex Unit Int)):=
 fun t8=>
 bif (decide (t8<(s_.length:Int)))then
 (oN (at' s_ t8.toNat) f_ f_1 f_2 f_3).bind fun r_=>
 aL ((0:Int)≤t8∧t8<(s_.length:Int)) (
 bif r_ then
 some (.done (.ret t8))
 else
 some (.next (IntKind.wrap .i64 (t8+1))))
 else
 some (.done (.brk ()))
def lq (s_:(List af)) (f_:Int) (f_1:(List Source)) (f_2:(List Link)) (f_3:(List aN)):Option Int:=
 Option.bind (aC (jD s_ f_ f_1 f_2 f_3) FUEL (0)) fun o=>match o with
 | .ret v=>some v
 | .brk _=>
 some (-1)
def gM (s_:(List af)) (f_:Int) (f_1:(List Source)) (f_2:(List Link)) (f_3:(List aN)):Option Bool:=
 (lq s_ f_ f_1 f_2 f_3).bind fun r_=>
 some (decide (0≤r_))
def jU (l:(List af)) (x1:Int) (x11:(List Source)) (x12:(List Link)) (x13:(List aN)):Option Bool:=
 (bif gB [((decide ((l.length:Int)≤24)),true)]then gM l x1 x11 x12 x13 else some default).bind fun r_=>
 some (bif (decide ((l.length:Int)≤24))then(!r_)else false)
def pJ (p:aj) (t:Task):Option Bool:=
 (jY t.fed (p.racks.length:Int)).bind fun r_=>
 (bif gB [(r_,true)]then jY t.crew p.buses else some default).bind fun r_1=>
 (bif gB [((bif r_ then r_1 else false),true)]then jU t.allowed p.buses p.sources p.links p.racks else some default).bind fun r_2=>
 (bif gB [((bif (bif r_ then r_1 else false)then r_2 else false),true)]then jU t.goal p.buses p.sources p.links p.racks else some default).bind fun r_3=>
 some (bif (bif (bif r_ then r_1 else false)then r_2 else false)then r_3 else false)
def kM (p:aj) (s_:State):Option (Int × (List Source) × (List Link) × (List aN) × (List Bool) × (List Bool) × (List Bool) × (List Bool) × (List Bool) × (List Bool) × (List Bool)):=
 some (p.buses,p.sources,p.links,p.racks,s_.closed,s_.locked,s_.badLink,s_.on_,s_.badSource,s_.earthed,s_.badBus)
def fo (g:aV):Int→Option (bC Int (Ex Unit Int)):=
 fun x1=>
 bif (!((bA aZ x1 g.head).isSome))then
 some (.done (.ret x1))
 else
 some (.next ((bA aZ x1 g.head).getD 0))
def dD (g:aV) (x:Int):Option Int:=
 Option.bind (aC (fo g) FUEL (x)) fun o=>match o with
 | .ret v=>some v
 | .brk _=>none
def jK (g:aV) (a:Int) (b:Int):Option (List (Int × Int)):=
 (dD g a).bind fun r_=>
 (dD g b).bind fun r_1=>
 bif (!decide (r_=r_1))then
 some (fF aZ r_ r_1 g.head)
 else
 some g.head
def mh (x22:Int) (x221:Int) (x222:Int) (x223:Int) (x224:Int) (x225:(List iC)) (o_:aV):Option aV:=
 (jK o_ x22 x221).bind fun r_=>
 some (⟨r_⟩:aV)
def dQ (x12:(List Link)) (x2:(List Bool)) (x22:(List Bool)) (x26:(List Bool)):((List (Int × Int)) × Int)→Option (bC ((List (Int × Int)) × Int) (Ex (List (Int × Int)) aV)):=
 fun zz=>match zz with
 |(o50,t9)=>
 bif (decide (t9<(x12.length:Int)))then
 aL ((0:Int)≤t9∧t9<(x12.length:Int)) (
 bif (bif (bif (bif (at' x2 t9.toNat)then(!(at' x22 t9.toNat))else false)then(!(at' x26 (((at' x12 t9.toNat).a).toNat)))else false)then(!(at' x26 (((at' x12 t9.toNat).b).toNat)))else false)then
 (mh ((at' x12 t9.toNat).a) ((at' x12 t9.toNat).b) ((at' x12 t9.toNat).kind) ((at' x12 t9.toNat).most) ((at' x12 t9.toNat).ohm) ((at' x12 t9.toNat).trip) (⟨o50⟩:aV)).bind fun r_=>
 aL (((0:Int)≤t9∧t9<(x2.length:Int))∧(gB [((at' x2 t9.toNat),true)]=true→(0:Int)≤t9∧t9<(x22.length:Int))∧(gB [((bif (at' x2 t9.toNat)then(!(at' x22 t9.toNat))else false),true)]=true→(0:Int)≤(at' x12 t9.toNat).a∧(at' x12 t9.toNat).a<(x26.length:Int))∧(gB [((bif (bif (at' x2 t9.toNat)then(!(at' x22 t9.toNat))else false)then(!(at' x26 (((at' x12 t9.toNat).a).toNat)))else false),true)]=true→(0:Int)≤(at' x12 t9.toNat).b∧(at' x12 t9.toNat).b<(x26.length:Int))) (
 some (.next (r_.head,(IntKind.wrap .i64 (t9+1)))))
 else
 aL (((0:Int)≤t9∧t9<(x2.length:Int))∧(gB [((at' x2 t9.toNat),true)]=true→(0:Int)≤t9∧t9<(x22.length:Int))∧(gB [((bif (at' x2 t9.toNat)then(!(at' x22 t9.toNat))else false),true)]=true→(0:Int)≤(at' x12 t9.toNat).a∧(at' x12 t9.toNat).a<(x26.length:Int))∧(gB [((bif (bif (at' x2 t9.toNat)then(!(at' x22 t9.toNat))else false)then(!(at' x26 (((at' x12 t9.toNat).a).toNat)))else false),true)]=true→(0:Int)≤(at' x12 t9.toNat).b∧(at' x12 t9.toNat).b<(x26.length:Int))) (
 some (.next (o50,(IntKind.wrap .i64 (t9+1))))))
 else
 some (.done (.brk o50))
def mH (x1:Int) (x11:(List Source)) (x12:(List Link)) (x13:(List aN)) (x2:(List Bool)) (x21:(List Bool)) (x22:(List Bool)) (x23:(List Bool)) (x24:(List Bool)) (x25:(List Bool)) (x26:(List Bool)) (o_:aV):Option aV:=
 Option.bind (aC (dQ x12 x2 x22 x26) FUEL (o_.head,0)) fun o=>match o with
 | .ret v=>some v
 | .brk o501=>
 some (⟨o501⟩:aV)
def bQ (p:aj) (s_:State) (r_1:aV):((List aI) × (List (Int × Int)) × Int)→Option (bC ((List aI) × (List (Int × Int)) × Int) (Ex ((List aI) × (List (Int × Int))) (List aI))):=
 fun zz=>match zz with
 |(out,at_,t32)=>
 bif (decide (t32<p.buses))then
 aL ((0:Int)≤t32∧t32<(s_.badBus.length:Int)) (
 bif (at' s_.badBus t32.toNat)then
 some (.next (out,at_,(IntKind.wrap .i64 (t32+1))))
 else
 (dD r_1 t32).bind fun r_2=>
 bif (!((bA aZ r_2 at_).isSome))then
 aL (((out.length+[(⟨([]:List Int),([]:List Int)⟩:aI)].length)*48≤140737488355328)∧(out.length+[(⟨([]:List Int),([]:List Int)⟩:aI)].length≤4611686018427387904)) (
 aL (((0:Int)≤((bA aZ r_2 (fF aZ r_2 (out.length:Int) at_)).getD 0)∧((bA aZ r_2 (fF aZ r_2 (out.length:Int) at_)).getD 0)<((out++[(⟨([]:List Int),([]:List Int)⟩:aI)]).length:Int))∧((((at' (out++[(⟨([]:List Int),([]:List Int)⟩:aI)]) (((bA aZ r_2 (fF aZ r_2 (out.length:Int) at_)).getD 0).toNat)).buses).length+[t32].length)*8≤140737488355328)∧(((at' (out++[(⟨([]:List Int),([]:List Int)⟩:aI)]) (((bA aZ r_2 (fF aZ r_2 (out.length:Int) at_)).getD 0).toNat)).buses).length+[t32].length≤4611686018427387904)) (
 some (.next (((out++[(⟨([]:List Int),([]:List Int)⟩:aI)]).set (((bA aZ r_2 (fF aZ r_2 (out.length:Int) at_)).getD 0).toNat) (⟨(((at' (out++[(⟨([]:List Int),([]:List Int)⟩:aI)]) (((bA aZ r_2 (fF aZ r_2 (out.length:Int) at_)).getD 0).toNat)).buses)++[t32]),(at' (out++[(⟨([]:List Int),([]:List Int)⟩:aI)]) (((bA aZ r_2 (fF aZ r_2 (out.length:Int) at_)).getD 0).toNat)).sources⟩:aI)),(fF aZ r_2 (out.length:Int) at_),(IntKind.wrap .i64 (t32+1))))))
 else
 aL (((0:Int)≤((bA aZ r_2 at_).getD 0)∧((bA aZ r_2 at_).getD 0)<(out.length:Int))∧((((at' out (((bA aZ r_2 at_).getD 0).toNat)).buses).length+[t32].length)*8≤140737488355328)∧(((at' out (((bA aZ r_2 at_).getD 0).toNat)).buses).length+[t32].length≤4611686018427387904)) (
 some (.next ((out.set (((bA aZ r_2 at_).getD 0).toNat) (⟨(((at' out (((bA aZ r_2 at_).getD 0).toNat)).buses)++[t32]),(at' out (((bA aZ r_2 at_).getD 0).toNat)).sources⟩:aI)),at_,(IntKind.wrap .i64 (t32+1))))))
 else
 some (.done (.brk (out,at_)))
def bP (p:aj) (s_:State) (r_1:aV) (at_1:(List (Int × Int))):((List aI) × Int)→Option (bC ((List aI) × Int) (Ex (List aI) (List aI))):=
 fun zz=>match zz with
 |(out2,t78)=>
 bif (decide (t78<(p.sources.length:Int)))then
 aL ((0:Int)≤t78∧t78<(p.sources.length:Int)) (
 aL (((0:Int)≤t78∧t78<(s_.on_.length:Int))∧(gB [((at' s_.on_ t78.toNat),true)]=true→(0:Int)≤t78∧t78<(s_.badSource.length:Int))∧(gB [((bif (at' s_.on_ t78.toNat)then(!(at' s_.badSource t78.toNat))else false),true)]=true→(0:Int)≤(at' p.sources t78.toNat).bus∧(at' p.sources t78.toNat).bus<(s_.badBus.length:Int))) (
 bif (bif (bif (at' s_.on_ t78.toNat)then(!(at' s_.badSource t78.toNat))else false)then(!(at' s_.badBus (((at' p.sources t78.toNat).bus).toNat)))else false)then
 (dD r_1 ((at' p.sources t78.toNat).bus)).bind fun r_3=>
 aL (((0:Int)≤((bA aZ r_3 at_1).getD 0)∧((bA aZ r_3 at_1).getD 0)<(out2.length:Int))∧((((at' out2 (((bA aZ r_3 at_1).getD 0).toNat)).sources).length+[t78].length)*8≤140737488355328)∧(((at' out2 (((bA aZ r_3 at_1).getD 0).toNat)).sources).length+[t78].length≤4611686018427387904)) (
 some (.next ((out2.set (((bA aZ r_3 at_1).getD 0).toNat) (⟨(at' out2 (((bA aZ r_3 at_1).getD 0).toNat)).buses,(((at' out2 (((bA aZ r_3 at_1).getD 0).toNat)).sources)++[t78])⟩:aI)),(IntKind.wrap .i64 (t78+1)))))
 else
 some (.next (out2,(IntKind.wrap .i64 (t78+1))))))
 else
 some (.done (.brk out2))
def fH (p:aj) (s_:State):Option (List aI):=
 (kM p s_).bind fun r_=>
 (mH r_.1 r_.2.1 r_.2.2.1 r_.2.2.2.1 r_.2.2.2.2.1 r_.2.2.2.2.2.1 r_.2.2.2.2.2.2.1 r_.2.2.2.2.2.2.2.1 r_.2.2.2.2.2.2.2.2.1 r_.2.2.2.2.2.2.2.2.2.1 r_.2.2.2.2.2.2.2.2.2.2 (⟨([]:(List (Int × Int)))⟩:aV)).bind fun r_1=>
 Option.bind (aC (bQ p s_ r_1) FUEL (([]:List aI),([]:(List (Int × Int))),0)) fun o=>match o with
 | .ret v=>some v
 | .brk (out1,at_1)=>
 Option.bind (aC (bP p s_ r_1 at_1) FUEL (out1,0)) fun o=>match o with
 | .ret v=>some v
 | .brk out3=>
 some out3
def kX (r_1:(List aI)) (t25:Int):((List Bool) × Int)→Option (bC ((List Bool) × Int) (Ex (List Bool) (bC ((List Bool) × Int) (Ex (List Bool) ((List Bool) × Int))))):=
 fun zz=>match zz with
 |(out2,t32)=>
 bif (decide (t32<(((at' r_1 t25.toNat).buses).length:Int)))then
 aL ((0:Int)≤t32∧t32<(((at' r_1 t25.toNat).buses).length:Int)) (
 aL ((0:Int)≤(at' ((at' r_1 t25.toNat).buses) t32.toNat)∧(at' ((at' r_1 t25.toNat).buses) t32.toNat)<(out2.length:Int)) (
 some (.next ((out2.set ((at' ((at' r_1 t25.toNat).buses) t32.toNat).toNat) (decide (0<(((at' r_1 t25.toNat).sources).length:Int)))),(IntKind.wrap .i64 (t32+1))))))
 else
 some (.done (.brk out2))
def kW (r_1:(List aI)):((List Bool) × Int)→Option (bC ((List Bool) × Int) (Ex (List Bool) ((List Bool) × Int))):=
 fun zz=>match zz with
 |(out,t25)=>
 bif (decide (t25<(r_1.length:Int)))then
 aL ((0:Int)≤t25∧t25<(r_1.length:Int)) (
 Option.bind (aC (kX r_1 t25) FUEL (out,0)) fun o=>match o with
 | .ret v=>some v
 | .brk out3=>
 some (.next (out3,(IntKind.wrap .i64 (t25+1)))))
 else
 some (.done (.brk out))
def gq (p:aj) (s_:State):Option ((List Bool) × Int):=
 (dU p s_).bind fun r_=>
 bif (!decide (r_=0))then
 some (([]:List Bool),r_)
 else
 aL (((0:Int)≤p.buses)∧((1:Int)*p.buses≤281474976710656)∧((p.buses:Int)≤9223372036854775807)) (
 (fH p s_).bind fun r_1=>
 Option.bind (aC (kW r_1) FUEL ((List.replicate p.buses.toNat (false:Bool)),0)) fun o=>match o with
 | .ret v=>some v
 | .brk out1=>
 some (out1,0))
def jR (p:aj) (r_:((List Bool) × Int)):((List aX) × Int)→Option (bC ((List aX) × Int) (Ex (List aX) ((List aX) × Int))):=
 fun zz=>match zz with
 |(out,t26)=>
 bif (decide (t26<(p.racks.length:Int)))then
 aL ((0:Int)≤t26∧t26<(p.racks.length:Int)) (
 aL (gB [((decide (0≤(((at' p.racks t26.toNat).feeds).e0))),true)]=true→(0:Int)≤((at' p.racks t26.toNat).feeds).e0∧((at' p.racks t26.toNat).feeds).e0<(r_.1.length:Int)) (
 aL (gB [((decide (0≤(((at' p.racks t26.toNat).feeds).e1))),true)]=true→(0:Int)≤((at' p.racks t26.toNat).feeds).e1∧((at' p.racks t26.toNat).feeds).e1<(r_.1.length:Int)) (
 aL (((out.length+[(⟨(bif (decide (0≤(((at' p.racks t26.toNat).feeds).e0)))then(at' r_.1 ((((at' p.racks t26.toNat).feeds).e0).toNat))else false),(bif (decide (0≤(((at' p.racks t26.toNat).feeds).e1)))then(at' r_.1 ((((at' p.racks t26.toNat).feeds).e1).toNat))else false)⟩:aX)].length)*2≤140737488355328)∧(out.length+[(⟨(bif (decide (0≤(((at' p.racks t26.toNat).feeds).e0)))then(at' r_.1 ((((at' p.racks t26.toNat).feeds).e0).toNat))else false),(bif (decide (0≤(((at' p.racks t26.toNat).feeds).e1)))then(at' r_.1 ((((at' p.racks t26.toNat).feeds).e1).toNat))else false)⟩:aX)].length≤4611686018427387904)) (
 some (.next ((out++[(⟨(bif (decide (0≤(((at' p.racks t26.toNat).feeds).e0)))then(at' r_.1 ((((at' p.racks t26.toNat).feeds).e0).toNat))else false),(bif (decide (0≤(((at' p.racks t26.toNat).feeds).e1)))then(at' r_.1 ((((at' p.racks t26.toNat).feeds).e1).toNat))else false)⟩:aX)]),(IntKind.wrap .i64 (t26+1))))))))
 else
 some (.done (.brk out))
def vE (p:aj) (s_:State):Option ((List aX) × Int):=
 (gq p s_).bind fun r_=>
 bif (!decide (r_.2=0))then
 some (([]:List aX),r_.2)
 else
 Option.bind (aC (jR p r_) FUEL (([]:List aX),0)) fun o=>match o with
 | .ret v=>some v
 | .brk out1=>
 some (out1,0)
def vH (x:Int):Option Bool:=
 some (!decide (x=x))
def qW (x:Int) (y:Int):Option Int:=
 (vH x).bind fun r_=>
 (vH y).bind fun r_1=>
 bif r_ then
 bif r_1 then
 some 0
 else
 some (-1)
 else
 bif r_1 then
 some 1
 else
 bif (decide (x<y))then
 some (-1)
 else
 bif (decide (y<x))then
 some 1
 else
 some 0
def su (s1:(List Int)) (s2:(List Int)):Int→Option (bC Int (Ex Unit Int)):=
 fun t11=>
 bif (decide (t11<(s1.length:Int)))then
 aL ((0:Int)≤t11∧t11<(s1.length:Int)) (
 bif (decide ((s2.length:Int)≤t11))then
 some (.done (.ret 1))
 else
 aL ((0:Int)≤t11∧t11<(s2.length:Int)) (
 (qW (at' s1 t11.toNat) (at' s2 t11.toNat)).bind fun r_=>
 bif (!decide (r_=0))then
 some (.done (.ret r_))
 else
 some (.next (IntKind.wrap .i64 (t11+1)))))
 else
 some (.done (.brk ()))
def qG (s1:(List Int)) (s2:(List Int)):Option Int:=
 Option.bind (aC (su s1 s2) FUEL (0)) fun o=>match o with
 | .ret v=>some v
 | .brk _=>
 bif (decide ((s1.length:Int)<(s2.length:Int)))then
 some (-1)
 else
 some 0
def jh (a:aA) (b:aA):Option Int:=
 (qG [a.e0,a.e1] [b.e0,b.e1]).bind fun r_=>
 some r_
def bn (x y:aA):Int:=(jh x y).getD 0
def jg (s:(List aA)):Option (List aA):=match s with
 |[]=>some []
 |x::xs=>bif decide ((x::xs).length<4611686018427387904)then some ((x::xs).mergeSort fun x y=> !decide (bn y x<0))else none
def kI (p:aj) (r_1:(List aI)) (t24:Int) (t31:Int):((List aA) × Int)→Option (bC ((List aA) × Int) (Ex (List aA) (bC ((List aA) × Int) (Ex (List aA) (bC ((List aA) × Int) (Ex (List aA) ((List aA) × Int))))))):=
 fun zz=>match zz with
 |(out4,t42)=>
 bif (decide (t42<(((((at' r_1 t24.toNat).sources).length - ((IntKind.wrap .i64 (t31+1)).toNat)):Nat):Int)))then
 aL ((0:Int)≤t42∧t42<((((at' r_1 t24.toNat).sources).drop ((IntKind.wrap .i64 (t31+1)).toNat)).length:Int)) (
 aL (((0:Int)≤(at' ((at' r_1 t24.toNat).sources) t31.toNat)∧(at' ((at' r_1 t24.toNat).sources) t31.toNat)<(p.sources.length:Int))∧(gB [((decide (((at' p.sources ((at' ((at' r_1 t24.toNat).sources) t31.toNat).toNat)).sync)=0)),false)]=true→(0:Int)≤(at' ((at' r_1 t24.toNat).sources) t31.toNat)∧(at' ((at' r_1 t24.toNat).sources) t31.toNat)<(p.sources.length:Int))∧(gB [((decide (((at' p.sources ((at' ((at' r_1 t24.toNat).sources) t31.toNat).toNat)).sync)=0)),false)]=true→(0:Int)≤(at' (((at' r_1 t24.toNat).sources).drop ((IntKind.wrap .i64 (t31+1)).toNat)) t42.toNat)∧(at' (((at' r_1 t24.toNat).sources).drop ((IntKind.wrap .i64 (t31+1)).toNat)) t42.toNat)<(p.sources.length:Int))) (
 bif (bif (decide (((at' p.sources ((at' ((at' r_1 t24.toNat).sources) t31.toNat).toNat)).sync)=0))then true else(!decide (((at' p.sources ((at' ((at' r_1 t24.toNat).sources) t31.toNat).toNat)).sync)=((at' p.sources ((at' (((at' r_1 t24.toNat).sources).drop ((IntKind.wrap .i64 (t31+1)).toNat)) t42.toNat).toNat)).sync))))then
 aL (((out4.length+[(⟨(at' ((at' r_1 t24.toNat).sources) t31.toNat),(at' (((at' r_1 t24.toNat).sources).drop ((IntKind.wrap .i64 (t31+1)).toNat)) t42.toNat)⟩:aA)].length)*16≤140737488355328)∧(out4.length+[(⟨(at' ((at' r_1 t24.toNat).sources) t31.toNat),(at' (((at' r_1 t24.toNat).sources).drop ((IntKind.wrap .i64 (t31+1)).toNat)) t42.toNat)⟩:aA)].length≤4611686018427387904)) (
 some (.next ((out4++[(⟨(at' ((at' r_1 t24.toNat).sources) t31.toNat),(at' (((at' r_1 t24.toNat).sources).drop ((IntKind.wrap .i64 (t31+1)).toNat)) t42.toNat)⟩:aA)]),(IntKind.wrap .i64 (t42+1)))))
 else
 some (.next (out4,(IntKind.wrap .i64 (t42+1))))))
 else
 some (.done (.brk out4))
def kN (p:aj) (r_1:(List aI)) (t24:Int):((List aA) × Int)→Option (bC ((List aA) × Int) (Ex (List aA) (bC ((List aA) × Int) (Ex (List aA) ((List aA) × Int))))):=
 fun zz=>match zz with
 |(out2,t31)=>
 bif (decide (t31<(((at' r_1 t24.toNat).sources).length:Int)))then
 aL ((0:Int)≤t31∧t31<(((at' r_1 t24.toNat).sources).length:Int)) (
 aL ((0:Int)≤(IntKind.wrap .i64 (t31+1))∧(IntKind.wrap .i64 (t31+1))≤(((at' r_1 t24.toNat).sources).length:Int)) (
 Option.bind (aC (kI p r_1 t24 t31) FUEL (out2,0)) fun o=>match o with
 | .ret v=>some v
 | .brk out5=>
 some (.next (out5,(IntKind.wrap .i64 (t31+1))))))
 else
 some (.done (.brk out2))
def iG (p:aj) (r_1:(List aI)):((List aA) × Int)→Option (bC ((List aA) × Int) (Ex (List aA) ((List aA) × Int))):=
 fun zz=>match zz with
 |(out,t24)=>
 bif (decide (t24<(r_1.length:Int)))then
 aL ((0:Int)≤t24∧t24<(r_1.length:Int)) (
 Option.bind (aC (kN p r_1 t24) FUEL (out,0)) fun o=>match o with
 | .ret v=>some v
 | .brk out3=>
 some (.next (out3,(IntKind.wrap .i64 (t24+1)))))
 else
 some (.done (.brk out))
def oq (p:aj) (s_:State):Option ((List aA) × Int):=
 (dU p s_).bind fun r_=>
 bif (!decide (r_=0))then
 some (([]:List aA),r_)
 else
 (fH p s_).bind fun r_1=>
 Option.bind (aC (iG p r_1) FUEL (([]:List aA),0)) fun o=>match o with
 | .ret v=>some v
 | .brk out1=>
 (jg out1).bind fun r_2=>
 aL (out1.length=r_2.length) (
 some (r_2,0))
def rT (r_:Int) (x1:(List aX)):Option Bool:=
 aL (((0:Int)≤r_∧r_<(x1.length:Int))∧(gB [((!((at' x1 r_.toNat).e0)),true)]=true→(0:Int)≤r_∧r_<(x1.length:Int))) (
 some (bif (!((at' x1 r_.toNat).e0))then(!((at' x1 r_.toNat).e1))else false))
def gZ (s_:(List Int)) (f_:(List aX)):Int→Option (bC Int (Ex Unit Int)):=
 fun t8=>
 bif (decide (t8<(s_.length:Int)))then
 (rT (at' s_ t8.toNat) f_).bind fun r_=>
 aL ((0:Int)≤t8∧t8<(s_.length:Int)) (
 bif r_ then
 some (.done (.ret t8))
 else
 some (.next (IntKind.wrap .i64 (t8+1))))
 else
 some (.done (.brk ()))
def jA (s_:(List Int)) (f_:(List aX)):Option Int:=
 Option.bind (aC (gZ s_ f_) FUEL (0)) fun o=>match o with
 | .ret v=>some v
 | .brk _=>
 some (-1)
def fC (s_:(List Int)) (f_:(List aX)):Option Bool:=
 (jA s_ f_).bind fun r_=>
 some (decide (0≤r_))
def ql (s_:(List Int)) (v_:Int):Int→Option (bC Int (Ex Unit Int)):=
 fun t8=>
 bif (decide (t8<(s_.length:Int)))then
 aL ((0:Int)≤t8∧t8<(s_.length:Int)) (
 bif (decide (v_=(at' s_ t8.toNat)))then
 some (.done (.ret t8))
 else
 some (.next (IntKind.wrap .i64 (t8+1))))
 else
 some (.done (.brk ()))
def uH (s_:(List Int)) (v_:Int):Option Int:=
 Option.bind (aC (ql s_ v_) FUEL (0)) fun o=>match o with
 | .ret v=>some v
 | .brk _=>
 some (-1)
def jk (s_:(List Int)) (v_:Int):Option Bool:=
 (uH s_ v_).bind fun r_=>
 some (decide (0≤r_))
def rP (p:aj) (s_:State) (b:Int):Int→Option (bC Int (Ex Unit Bool)):=
 fun t22=>
 bif (decide (t22<(p.sources.length:Int)))then
 aL ((0:Int)≤t22∧t22<(p.sources.length:Int)) (
 aL (gB [((decide (((at' p.sources t22.toNat).bus)=b)),true)]=true→(0:Int)≤t22∧t22<(s_.on_.length:Int)) (
 bif (bif (decide (((at' p.sources t22.toNat).bus)=b))then(at' s_.on_ t22.toNat)else false)then
 some (.done (.ret false))
 else
 some (.next (IntKind.wrap .i64 (t22+1)))))
 else
 some (.done (.brk ()))
def rX (p:aj) (s_:State) (t:Task) (b:Int):Int→Option (bC Int (Ex Unit Bool)):=
 fun t42=>
 bif (decide (t42<(p.links.length:Int)))then
 aL ((0:Int)≤t42∧t42<(p.links.length:Int)) (
 (bif gB [((bif (!decide (((at' p.links t42.toNat).a)=b))then(!decide (((at' p.links t42.toNat).b)=b))else false),false)]then jk t.crew (IntKind.wrap .i64 ((IntKind.wrap .i64 (((at' p.links t42.toNat).a)+((at' p.links t42.toNat).b))) - b))else some default).bind fun r_=>
 bif (bif (bif (!decide (((at' p.links t42.toNat).a)=b))then(!decide (((at' p.links t42.toNat).b)=b))else false)then true else r_)then
 some (.next (IntKind.wrap .i64 (t42+1)))
 else
 aL ((gB [((decide (((at' p.links t42.toNat).kind)=1)),false)]=true→(0:Int)≤t42∧t42<(s_.closed.length:Int))∧(gB [((bif (decide (((at' p.links t42.toNat).kind)=1))then true else(at' s_.closed t42.toNat)),false)]=true→(0:Int)≤t42∧t42<(s_.locked.length:Int))) (
 bif (bif (bif (decide (((at' p.links t42.toNat).kind)=1))then true else(at' s_.closed t42.toNat))then true else(!(at' s_.locked t42.toNat)))then
 some (.done (.ret false))
 else
 some (.next (IntKind.wrap .i64 (t42+1)))))
 else
 some (.done (.brk ()))
def sP (p:aj) (s_:State) (t:Task) (b:Int):Option Bool:=
 aL ((0:Int)≤b∧b<(s_.earthed.length:Int)) (
 bif (!(at' s_.earthed b.toNat))then
 some false
 else
 Option.bind (aC (rP p s_ b) FUEL (0)) fun o=>match o with
 | .ret v=>some v
 | .brk _=>
 Option.bind (aC (rX p s_ t b) FUEL (0)) fun o=>match o with
 | .ret v=>some v
 | .brk _=>
 some true)
def rM (b:Int) (x1:Int) (x11:(List Source)) (x12:(List Link)) (x13:(List aN)) (x2:(List Bool)) (x21:(List Bool)) (x22:(List Bool)) (x23:(List Bool)) (x24:(List Bool)) (x25:(List Bool)) (x26:(List Bool)) (x3:(List Int)) (x31:(List Int)) (x32:(List af)) (x33:(List af)):Option Bool:=
 (sP (⟨x1,x11,x12,x13⟩:aj) (⟨x2,x21,x22,x23,x24,x25,x26⟩:State) (⟨x3,x31,x32,x33⟩:Task) b).bind fun r_=>
 some (!r_)
def ic (s_:(List Int)) (f_:Int) (f_1:(List Source)) (f_2:(List Link)) (f_3:(List aN)) (f_4:(List Bool)) (f_5:(List Bool)) (f_6:(List Bool)) (f_7:(List Bool)) (f_8:(List Bool)) (f_9:(List Bool)) (f_10:(List Bool)) (f_11:(List Int)) (f_12:(List Int)) (f_13:(List af)) (f_14:(List af)):Int→Option (bC Int (Ex Unit Int)):=
 fun t8=>
 bif (decide (t8<(s_.length:Int)))then
 (rM (at' s_ t8.toNat) f_ f_1 f_2 f_3 f_4 f_5 f_6 f_7 f_8 f_9 f_10 f_11 f_12 f_13 f_14).bind fun r_=>
 aL ((0:Int)≤t8∧t8<(s_.length:Int)) (
 bif r_ then
 some (.done (.ret t8))
 else
 some (.next (IntKind.wrap .i64 (t8+1))))
 else
 some (.done (.brk ()))
def jH (s_:(List Int)) (f_:Int) (f_1:(List Source)) (f_2:(List Link)) (f_3:(List aN)) (f_4:(List Bool)) (f_5:(List Bool)) (f_6:(List Bool)) (f_7:(List Bool)) (f_8:(List Bool)) (f_9:(List Bool)) (f_10:(List Bool)) (f_11:(List Int)) (f_12:(List Int)) (f_13:(List af)) (f_14:(List af)):Option Int:=
 Option.bind (aC (ic s_ f_ f_1 f_2 f_3 f_4 f_5 f_6 f_7 f_8 f_9 f_10 f_11 f_12 f_13 f_14) FUEL (0)) fun o=>match o with
 | .ret v=>some v
 | .brk _=>
 some (-1)
def fw (s_:(List Int)) (f_:Int) (f_1:(List Source)) (f_2:(List Link)) (f_3:(List aN)) (f_4:(List Bool)) (f_5:(List Bool)) (f_6:(List Bool)) (f_7:(List Bool)) (f_8:(List Bool)) (f_9:(List Bool)) (f_10:(List Bool)) (f_11:(List Int)) (f_12:(List Int)) (f_13:(List af)) (f_14:(List af)):Option Bool:=
 (jH s_ f_ f_1 f_2 f_3 f_4 f_5 f_6 f_7 f_8 f_9 f_10 f_11 f_12 f_13 f_14).bind fun r_=>
 some (decide (0≤r_))
def nE (s_:State) (r_:((List Bool) × Int)):Int→Option (bC Int (Ex Unit Int)):=
 fun t23=>
 bif (decide (t23<(r_.1.length:Int)))then
 aL ((0:Int)≤t23∧t23<(r_.1.length:Int)) (
 aL (gB [((at' r_.1 t23.toNat),true)]=true→(0:Int)≤t23∧t23<(s_.earthed.length:Int)) (
 bif (bif (at' r_.1 t23.toNat)then(at' s_.earthed t23.toNat)else false)then
 some (.done (.ret 40))
 else
 some (.next (IntKind.wrap .i64 (t23+1)))))
 else
 some (.done (.brk ()))
def nV (p:aj) (s_:State) (t:Task):Option Int:=
 (gq p s_).bind fun r_=>
 Option.bind (aC (nE s_ r_) FUEL (0)) fun o=>match o with
 | .ret v=>some v
 | .brk _=>
 (oq p s_).bind fun r_1=>
 bif (decide (0<(r_1.1.length:Int)))then
 some 41
 else
 (vE p s_).bind fun r_2=>
 (fC t.fed r_2.1).bind fun r_3=>
 bif r_3 then
 some 42
 else
 (fw t.crew p.buses p.sources p.links p.racks s_.closed s_.locked s_.badLink s_.on_ s_.badSource s_.earthed s_.badBus t.fed t.crew t.allowed t.goal).bind fun r_4=>
 bif r_4 then
 some 45
 else
 some 0
def fq (p:aj) (s_:State) (t:Task):Option Int:=
 (dU p s_).bind fun r_=>
 bif (!decide (r_=0))then
 some r_
 else
 (pJ p t).bind fun r_1=>
 bif (!r_1)then
 some 1
 else
 (nV p s_ t).bind fun r_2=>
 some r_2
def nZ (s_:State):Option (List Bool):=
 some (Ie 280 (Ie 280 (Ie 280 (Ie 280 (Ie 280 (Ie 280 (Ie 280 (List.replicate 280 false) 0 s_.closed (Nat.min s_.closed.length 280)) 40 s_.locked (Nat.min s_.locked.length 240)) 80 s_.badLink (Nat.min s_.badLink.length 200)) 120 s_.on_ (Nat.min s_.on_.length 160)) 160 s_.badSource (Nat.min s_.badSource.length 120)) 200 s_.earthed (Nat.min s_.earthed.length 80)) 240 s_.badBus (Nat.min s_.badBus.length 40))
def p8 (s_:(List Bool)) (s_nn:Bool):Option (List Bool):=
 bif (!s_nn)then
 some ([]:List Bool)
 else
 aL (((([]:List Bool).length+s_.length)*1≤140737488355328)∧(([]:List Bool).length+s_.length≤4611686018427387904)) (
 some (([]:List Bool)++s_))
def au (s:(List Bool)):Option (List Bool):=p8 s true
def jZ (s_:State):Option State:=
 aL ((0:Int)≤0∧0<(7:Int)) (
 (au s_.closed).bind fun r_=>
 aL ((0:Int)≤1∧1<(7:Int)) (
 (au s_.locked).bind fun r_1=>
 aL ((0:Int)≤2∧2<(7:Int)) (
 (au s_.badLink).bind fun r_2=>
 aL ((0:Int)≤3∧3<(7:Int)) (
 (au s_.on_).bind fun r_3=>
 aL ((0:Int)≤4∧4<(7:Int)) (
 (au s_.badSource).bind fun r_4=>
 aL ((0:Int)≤5∧5<(7:Int)) (
 (au s_.earthed).bind fun r_5=>
 aL ((0:Int)≤6∧6<(7:Int)) (
 (au s_.badBus).bind fun r_6=>
 some (⟨r_,r_1,r_2,r_3,r_4,r_5,r_6⟩:State))))))))
def nT:Option Unit:=
 some ()
def oC (s_:(List Bool)) (s_1:(List Bool)) (s_2:(List Bool)) (s_3:(List Bool)) (s_4:(List Bool)) (s_5:(List Bool)) (s_6:(List Bool)):Option ((List Bool) × (List Bool) × (List Bool) × (List Bool) × (List Bool) × (List Bool) × (List Bool)):=
 some (s_,s_1,s_2,s_3,s_4,s_5,s_6)
def ou (s_:(List Bool)) (s_1:(List Bool)) (s_2:(List Bool)) (s_3:(List Bool)) (s_4:(List Bool)) (s_5:(List Bool)) (s_6:(List Bool)):Option ((List Bool) × (List Bool) × (List Bool) × (List Bool) × (List Bool) × (List Bool) × (List Bool)):=
 some (s_,s_1,s_2,s_3,s_4,s_5,s_6)
def oJ (s_:(List Bool)) (s_1:(List Bool)) (s_2:(List Bool)) (s_3:(List Bool)) (s_4:(List Bool)) (s_5:(List Bool)) (s_6:(List Bool)):Option ((List Bool) × (List Bool) × (List Bool) × (List Bool) × (List Bool) × (List Bool) × (List Bool)):=
 some (s_,s_1,s_2,s_3,s_4,s_5,s_6)
def oH (s_:(List Bool)) (s_1:(List Bool)) (s_2:(List Bool)) (s_3:(List Bool)) (s_4:(List Bool)) (s_5:(List Bool)) (s_6:(List Bool)):Option ((List Bool) × (List Bool) × (List Bool) × (List Bool) × (List Bool) × (List Bool) × (List Bool)):=
 some (s_,s_1,s_2,s_3,s_4,s_5,s_6)
def nL (s_:State) (x:af):Option Bool:=
 (nT).bind fun r_=>
 bif (aZ x.deed 1)then
 (oC s_.closed s_.locked s_.badLink s_.on_ s_.badSource s_.earthed s_.badBus).bind fun r_1=>
 aL ((0:Int)≤x.index∧x.index<(r_1.1.length:Int)) (
 some ((at' r_1.1 x.index.toNat)==false))
 else
 bif (aZ x.deed 2)then
 (oC s_.closed s_.locked s_.badLink s_.on_ s_.badSource s_.earthed s_.badBus).bind fun r_2=>
 aL ((0:Int)≤x.index∧x.index<(r_2.1.length:Int)) (
 some ((at' r_2.1 x.index.toNat)==true))
 else
 bif (aZ x.deed 3)then
 (ou s_.closed s_.locked s_.badLink s_.on_ s_.badSource s_.earthed s_.badBus).bind fun r_3=>
 aL ((0:Int)≤x.index∧x.index<(r_3.2.2.2.2.2.1.length:Int)) (
 some ((at' r_3.2.2.2.2.2.1 x.index.toNat)==true))
 else
 bif (aZ x.deed 4)then
 (ou s_.closed s_.locked s_.badLink s_.on_ s_.badSource s_.earthed s_.badBus).bind fun r_4=>
 aL ((0:Int)≤x.index∧x.index<(r_4.2.2.2.2.2.1.length:Int)) (
 some ((at' r_4.2.2.2.2.2.1 x.index.toNat)==false))
 else
 bif (aZ x.deed 5)then
 (oJ s_.closed s_.locked s_.badLink s_.on_ s_.badSource s_.earthed s_.badBus).bind fun r_5=>
 aL ((0:Int)≤x.index∧x.index<(r_5.2.1.length:Int)) (
 some ((at' r_5.2.1 x.index.toNat)==true))
 else
 bif (aZ x.deed 6)then
 (oJ s_.closed s_.locked s_.badLink s_.on_ s_.badSource s_.earthed s_.badBus).bind fun r_6=>
 aL ((0:Int)≤x.index∧x.index<(r_6.2.1.length:Int)) (
 some ((at' r_6.2.1 x.index.toNat)==false))
 else
 bif (aZ x.deed 7)then
 (oH s_.closed s_.locked s_.badLink s_.on_ s_.badSource s_.earthed s_.badBus).bind fun r_7=>
 aL ((0:Int)≤x.index∧x.index<(r_7.2.2.2.1.length:Int)) (
 some ((at' r_7.2.2.2.1 x.index.toNat)==true))
 else
 bif (aZ x.deed 8)then
 (oH s_.closed s_.locked s_.badLink s_.on_ s_.badSource s_.earthed s_.badBus).bind fun r_8=>
 aL ((0:Int)≤x.index∧x.index<(r_8.2.2.2.1.length:Int)) (
 some ((at' r_8.2.2.2.1 x.index.toNat)==false))
 else
 none
def wG (x:af) (x1:(List Bool)) (x11:(List Bool)) (x12:(List Bool)) (x13:(List Bool)) (x14:(List Bool)) (x15:(List Bool)) (x16:(List Bool)):Option Bool:=
 (nL (⟨x1,x11,x12,x13,x14,x15,x16⟩:State) x).bind fun r_=>
 some (!r_)
def gY (s_:(List af)) (f_:(List Bool)) (f_1:(List Bool)) (f_2:(List Bool)) (f_3:(List Bool)) (f_4:(List Bool)) (f_5:(List Bool)) (f_6:(List Bool)):Int→Option (bC Int (Ex Unit Int)):=
 fun t8=>
 bif (decide (t8<(s_.length:Int)))then
 (wG (at' s_ t8.toNat) f_ f_1 f_2 f_3 f_4 f_5 f_6).bind fun r_=>
 aL ((0:Int)≤t8∧t8<(s_.length:Int)) (
 bif r_ then
 some (.done (.ret t8))
 else
 some (.next (IntKind.wrap .i64 (t8+1))))
 else
 some (.done (.brk ()))
def jB (s_:(List af)) (f_:(List Bool)) (f_1:(List Bool)) (f_2:(List Bool)) (f_3:(List Bool)) (f_4:(List Bool)) (f_5:(List Bool)) (f_6:(List Bool)):Option Int:=
 Option.bind (aC (gY s_ f_ f_1 f_2 f_3 f_4 f_5 f_6) FUEL (0)) fun o=>match o with
 | .ret v=>some v
 | .brk _=>
 some (-1)
def fA (s_:(List af)) (f_:(List Bool)) (f_1:(List Bool)) (f_2:(List Bool)) (f_3:(List Bool)) (f_4:(List Bool)) (f_5:(List Bool)) (f_6:(List Bool)):Option Bool:=
 (jB s_ f_ f_1 f_2 f_3 f_4 f_5 f_6).bind fun r_=>
 some (decide (0≤r_))
def mE (s_:State) (l:(List af)):Option Bool:=
 (fA l s_.closed s_.locked s_.badLink s_.on_ s_.badSource s_.earthed s_.badBus).bind fun r_=>
 some (!r_)
def dS (s_:State) (from_:Int) (by_:af) (search:Search):Option (Bool × Search):=
 (nZ s_).bind fun r_=>
 bif ((bA (tH 280) r_ search.known).getD false)then
 some (false,search)
 else
 aL (((search.l.length+[(⟨s_,from_,by_⟩:Reached)].length)*192≤140737488355328)∧(search.l.length+[(⟨s_,from_,by_⟩:Reached)].length≤4611686018427387904)) (
 some (true,(⟨(search.l++[(⟨s_,from_,by_⟩:Reached)]),(fF (tH 280) r_ true search.known)⟩:Search)))
def cK (search:Search):Option Unit:=
 some ()
def rY:Option Unit:=
 some ()
def pW (p:aj) (s_:State) (x:af):Option Bool:=
 (mM p x).bind fun r_=>
 some (!r_)
def pO (p:aj) (s_:State) (x:af):Option Bool:=
 (nL s_ x).bind fun r_=>
 some r_
def fT (x:af):Option Bool:=
 some (bif (decide (x.deed=1))then true else(decide (x.deed=2)))
def yu (x:af):Option Bool:=
 some (bif (decide (x.deed=7))then true else(decide (x.deed=8)))
def l8 (p:aj) (s_:State) (x:af):Option Bool:=
 (fT x).bind fun r_=>
 (bif gB [((bif r_ then(at' s_.badLink x.index.toNat)else false),false)]then yu x else some default).bind fun r_1=>
 aL ((gB [(r_,true)]=true→(0:Int)≤x.index∧x.index<(s_.badLink.length:Int))∧(gB [(r_1,true),((bif r_ then(at' s_.badLink x.index.toNat)else false),false)]=true→(0:Int)≤x.index∧x.index<(s_.badSource.length:Int))) (
 some (bif (bif r_ then(at' s_.badLink x.index.toNat)else false)then true else(bif r_1 then(at' s_.badSource x.index.toNat)else false)))
def lX (p:aj) (s_:State) (x:af):Option Bool:=
 (fT x).bind fun r_=>
 aL (gB [(r_,true)]=true→(0:Int)≤x.index∧x.index<(s_.locked.length:Int)) (
 some (bif r_ then(at' s_.locked x.index.toNat)else false))
def ko (state:State):Option Unit:=
 some ()
def kK (state:State):Option Unit:=
 some ()
def kg (state:State):Option Unit:=
 some ()
def kC (state:State):Option Unit:=
 some ()
def nG (s_:State) (x:af):Option State:=
 (nT).bind fun r_=>
 bif (aZ x.deed 1)then
 aL ((0:Int)≤0∧0<(7:Int)) (
 (au s_.closed).bind fun r_1=>
 aL ((0:Int)≤1∧1<(7:Int)) (
 (au s_.locked).bind fun r_2=>
 aL ((0:Int)≤2∧2<(7:Int)) (
 (au s_.badLink).bind fun r_3=>
 aL ((0:Int)≤3∧3<(7:Int)) (
 (au s_.on_).bind fun r_4=>
 aL ((0:Int)≤4∧4<(7:Int)) (
 (au s_.badSource).bind fun r_5=>
 aL ((0:Int)≤5∧5<(7:Int)) (
 (au s_.earthed).bind fun r_6=>
 aL ((0:Int)≤6∧6<(7:Int)) (
 (au s_.badBus).bind fun r_7=>
 (ko (⟨r_1,r_2,r_3,r_4,r_5,r_6,r_7⟩:State)).bind fun r_8=>
 aL ((0:Int)≤x.index∧x.index<(r_1.length:Int)) (
 some (⟨(r_1.set x.index.toNat false),r_2,r_3,r_4,r_5,r_6,r_7⟩:State)))))))))
 else
 bif (aZ x.deed 2)then
 aL ((0:Int)≤0∧0<(7:Int)) (
 (au s_.closed).bind fun r_9=>
 aL ((0:Int)≤1∧1<(7:Int)) (
 (au s_.locked).bind fun r_10=>
 aL ((0:Int)≤2∧2<(7:Int)) (
 (au s_.badLink).bind fun r_11=>
 aL ((0:Int)≤3∧3<(7:Int)) (
 (au s_.on_).bind fun r_12=>
 aL ((0:Int)≤4∧4<(7:Int)) (
 (au s_.badSource).bind fun r_13=>
 aL ((0:Int)≤5∧5<(7:Int)) (
 (au s_.earthed).bind fun r_14=>
 aL ((0:Int)≤6∧6<(7:Int)) (
 (au s_.badBus).bind fun r_15=>
 (ko (⟨r_9,r_10,r_11,r_12,r_13,r_14,r_15⟩:State)).bind fun r_16=>
 aL ((0:Int)≤x.index∧x.index<(r_9.length:Int)) (
 some (⟨(r_9.set x.index.toNat true),r_10,r_11,r_12,r_13,r_14,r_15⟩:State)))))))))
 else
 bif (aZ x.deed 3)then
 aL ((0:Int)≤0∧0<(7:Int)) (
 (au s_.closed).bind fun r_17=>
 aL ((0:Int)≤1∧1<(7:Int)) (
 (au s_.locked).bind fun r_18=>
 aL ((0:Int)≤2∧2<(7:Int)) (
 (au s_.badLink).bind fun r_19=>
 aL ((0:Int)≤3∧3<(7:Int)) (
 (au s_.on_).bind fun r_20=>
 aL ((0:Int)≤4∧4<(7:Int)) (
 (au s_.badSource).bind fun r_21=>
 aL ((0:Int)≤5∧5<(7:Int)) (
 (au s_.earthed).bind fun r_22=>
 aL ((0:Int)≤6∧6<(7:Int)) (
 (au s_.badBus).bind fun r_23=>
 (kK (⟨r_17,r_18,r_19,r_20,r_21,r_22,r_23⟩:State)).bind fun r_24=>
 aL ((0:Int)≤x.index∧x.index<(r_22.length:Int)) (
 some (⟨r_17,r_18,r_19,r_20,r_21,(r_22.set x.index.toNat true),r_23⟩:State)))))))))
 else
 bif (aZ x.deed 4)then
 aL ((0:Int)≤0∧0<(7:Int)) (
 (au s_.closed).bind fun r_25=>
 aL ((0:Int)≤1∧1<(7:Int)) (
 (au s_.locked).bind fun r_26=>
 aL ((0:Int)≤2∧2<(7:Int)) (
 (au s_.badLink).bind fun r_27=>
 aL ((0:Int)≤3∧3<(7:Int)) (
 (au s_.on_).bind fun r_28=>
 aL ((0:Int)≤4∧4<(7:Int)) (
 (au s_.badSource).bind fun r_29=>
 aL ((0:Int)≤5∧5<(7:Int)) (
 (au s_.earthed).bind fun r_30=>
 aL ((0:Int)≤6∧6<(7:Int)) (
 (au s_.badBus).bind fun r_31=>
 (kK (⟨r_25,r_26,r_27,r_28,r_29,r_30,r_31⟩:State)).bind fun r_32=>
 aL ((0:Int)≤x.index∧x.index<(r_30.length:Int)) (
 some (⟨r_25,r_26,r_27,r_28,r_29,(r_30.set x.index.toNat false),r_31⟩:State)))))))))
 else
 bif (aZ x.deed 5)then
 aL ((0:Int)≤0∧0<(7:Int)) (
 (au s_.closed).bind fun r_33=>
 aL ((0:Int)≤1∧1<(7:Int)) (
 (au s_.locked).bind fun r_34=>
 aL ((0:Int)≤2∧2<(7:Int)) (
 (au s_.badLink).bind fun r_35=>
 aL ((0:Int)≤3∧3<(7:Int)) (
 (au s_.on_).bind fun r_36=>
 aL ((0:Int)≤4∧4<(7:Int)) (
 (au s_.badSource).bind fun r_37=>
 aL ((0:Int)≤5∧5<(7:Int)) (
 (au s_.earthed).bind fun r_38=>
 aL ((0:Int)≤6∧6<(7:Int)) (
 (au s_.badBus).bind fun r_39=>
 (kg (⟨r_33,r_34,r_35,r_36,r_37,r_38,r_39⟩:State)).bind fun r_40=>
 aL ((0:Int)≤x.index∧x.index<(r_34.length:Int)) (
 some (⟨r_33,(r_34.set x.index.toNat true),r_35,r_36,r_37,r_38,r_39⟩:State)))))))))
 else
 bif (aZ x.deed 6)then
 aL ((0:Int)≤0∧0<(7:Int)) (
 (au s_.closed).bind fun r_41=>
 aL ((0:Int)≤1∧1<(7:Int)) (
 (au s_.locked).bind fun r_42=>
 aL ((0:Int)≤2∧2<(7:Int)) (
 (au s_.badLink).bind fun r_43=>
 aL ((0:Int)≤3∧3<(7:Int)) (
 (au s_.on_).bind fun r_44=>
 aL ((0:Int)≤4∧4<(7:Int)) (
 (au s_.badSource).bind fun r_45=>
 aL ((0:Int)≤5∧5<(7:Int)) (
 (au s_.earthed).bind fun r_46=>
 aL ((0:Int)≤6∧6<(7:Int)) (
 (au s_.badBus).bind fun r_47=>
 (kg (⟨r_41,r_42,r_43,r_44,r_45,r_46,r_47⟩:State)).bind fun r_48=>
 aL ((0:Int)≤x.index∧x.index<(r_42.length:Int)) (
 some (⟨r_41,(r_42.set x.index.toNat false),r_43,r_44,r_45,r_46,r_47⟩:State)))))))))
 else
 bif (aZ x.deed 7)then
 aL ((0:Int)≤0∧0<(7:Int)) (
 (au s_.closed).bind fun r_49=>
 aL ((0:Int)≤1∧1<(7:Int)) (
 (au s_.locked).bind fun r_50=>
 aL ((0:Int)≤2∧2<(7:Int)) (
 (au s_.badLink).bind fun r_51=>
 aL ((0:Int)≤3∧3<(7:Int)) (
 (au s_.on_).bind fun r_52=>
 aL ((0:Int)≤4∧4<(7:Int)) (
 (au s_.badSource).bind fun r_53=>
 aL ((0:Int)≤5∧5<(7:Int)) (
 (au s_.earthed).bind fun r_54=>
 aL ((0:Int)≤6∧6<(7:Int)) (
 (au s_.badBus).bind fun r_55=>
 (kC (⟨r_49,r_50,r_51,r_52,r_53,r_54,r_55⟩:State)).bind fun r_56=>
 aL ((0:Int)≤x.index∧x.index<(r_52.length:Int)) (
 some (⟨r_49,r_50,r_51,(r_52.set x.index.toNat true),r_53,r_54,r_55⟩:State)))))))))
 else
 bif (aZ x.deed 8)then
 aL ((0:Int)≤0∧0<(7:Int)) (
 (au s_.closed).bind fun r_57=>
 aL ((0:Int)≤1∧1<(7:Int)) (
 (au s_.locked).bind fun r_58=>
 aL ((0:Int)≤2∧2<(7:Int)) (
 (au s_.badLink).bind fun r_59=>
 aL ((0:Int)≤3∧3<(7:Int)) (
 (au s_.on_).bind fun r_60=>
 aL ((0:Int)≤4∧4<(7:Int)) (
 (au s_.badSource).bind fun r_61=>
 aL ((0:Int)≤5∧5<(7:Int)) (
 (au s_.earthed).bind fun r_62=>
 aL ((0:Int)≤6∧6<(7:Int)) (
 (au s_.badBus).bind fun r_63=>
 (kC (⟨r_57,r_58,r_59,r_60,r_61,r_62,r_63⟩:State)).bind fun r_64=>
 aL ((0:Int)≤x.index∧x.index<(r_60.length:Int)) (
 some (⟨r_57,r_58,r_59,(r_60.set x.index.toNat false),r_61,r_62,r_63⟩:State)))))))))
 else
 aL ((0:Int)≤0∧0<(7:Int)) (
 (au s_.closed).bind fun r_65=>
 aL ((0:Int)≤1∧1<(7:Int)) (
 (au s_.locked).bind fun r_66=>
 aL ((0:Int)≤2∧2<(7:Int)) (
 (au s_.badLink).bind fun r_67=>
 aL ((0:Int)≤3∧3<(7:Int)) (
 (au s_.on_).bind fun r_68=>
 aL ((0:Int)≤4∧4<(7:Int)) (
 (au s_.badSource).bind fun r_69=>
 aL ((0:Int)≤5∧5<(7:Int)) (
 (au s_.earthed).bind fun r_70=>
 aL ((0:Int)≤6∧6<(7:Int)) (
 (au s_.badBus).bind fun r_71=>
 none)))))))
def kR (p:aj) (s_:State):Option ((List aI) × Int):=
 (dU p s_).bind fun r_=>
 bif (!decide (r_=0))then
 some (([]:List aI),r_)
 else
 (fH p s_).bind fun r_1=>
 some (r_1,0)
def qL (x:aI) (x1:Int):Option Bool:=
 (jk x.buses x1).bind fun r_=>
 some r_
def gD (s_:(List aI)) (f_:Int):Int→Option (bC Int (Ex Unit Int)):=
 fun t8=>
 bif (decide (t8<(s_.length:Int)))then
 (qL (at' s_ t8.toNat) f_).bind fun r_=>
 aL ((0:Int)≤t8∧t8<(s_.length:Int)) (
 bif r_ then
 some (.done (.ret t8))
 else
 some (.next (IntKind.wrap .i64 (t8+1))))
 else
 some (.done (.brk ()))
def eP (s_:(List aI)) (f_:Int):Option Int:=
 Option.bind (aC (gD s_ f_) FUEL (0)) fun o=>match o with
 | .ret v=>some v
 | .brk _=>
 some (-1)
def iJ (b:Int) (x1:(List aI)):Option Int:=
 (eP x1 b).bind fun r_=>
 some r_
def sK (p:aj) (s_:State) (i:Int):Option Bool:=
 aL ((0:Int)≤i∧i<(s_.closed.length:Int)) (
 bif (at' s_.closed i.toNat)then
 (nG s_ (⟨1,i⟩:af)).bind fun r_=>
 (kR p r_).bind fun r_1=>
 (iJ ((at' p.links i.toNat).a) r_1.1).bind fun r_2=>
 (iJ ((at' p.links i.toNat).b) r_1.1).bind fun r_3=>
 aL ((0:Int)≤i∧i<(p.links.length:Int)) (
 aL ((gB [((bif (bif (decide (0≤r_2))then(decide (0≤r_3))else false)then(!decide (r_2=r_3))else false),true)]=true→(0:Int)≤r_2∧r_2<(r_1.1.length:Int))∧(gB [((bif (bif (decide (0≤r_2))then(decide (0≤r_3))else false)then(!decide (r_2=r_3))else false),true)]=true→(0:Int)≤r_3∧r_3<(r_1.1.length:Int))) (
 some (bif (bif (bif (decide (0≤r_2))then(decide (0≤r_3))else false)then(!decide (r_2=r_3))else false)then(decide (0<(IntKind.wrap .i64 ((((at' r_1.1 r_2.toNat).sources).length:Int)+(((at' r_1.1 r_3.toNat).sources).length:Int)))))else false)))
 else
 (kR p s_).bind fun r_4=>
 (iJ ((at' p.links i.toNat).a) r_4.1).bind fun r_5=>
 (iJ ((at' p.links i.toNat).b) r_4.1).bind fun r_6=>
 aL ((0:Int)≤i∧i<(p.links.length:Int)) (
 aL ((gB [((bif (bif (decide (0≤r_5))then(decide (0≤r_6))else false)then(!decide (r_5=r_6))else false),true)]=true→(0:Int)≤r_5∧r_5<(r_4.1.length:Int))∧(gB [((bif (bif (decide (0≤r_5))then(decide (0≤r_6))else false)then(!decide (r_5=r_6))else false),true)]=true→(0:Int)≤r_6∧r_6<(r_4.1.length:Int))) (
 some (bif (bif (bif (decide (0≤r_5))then(decide (0≤r_6))else false)then(!decide (r_5=r_6))else false)then(decide (0<(IntKind.wrap .i64 ((((at' r_4.1 r_5.toNat).sources).length:Int)+(((at' r_4.1 r_6.toNat).sources).length:Int)))))else false))))
def lI (p:aj) (s_:State) (x:af):Option Bool:=
 (fT x).bind fun r_=>
 (bif gB [((bif r_ then(decide (((at' p.links x.index.toNat).kind)=2))else false),true)]then sK p s_ x.index else some default).bind fun r_1=>
 aL (gB [(r_,true)]=true→(0:Int)≤x.index∧x.index<(p.links.length:Int)) (
 some (bif (bif r_ then(decide (((at' p.links x.index.toNat).kind)=2))else false)then r_1 else false))
def uq (p:aj) (s_:State) (x:af):Option (State × Int):=
 (rY).bind fun r_=>
 (pW p s_ x).bind fun r_1=>
 bif r_1 then
 some ((⟨([]:List Bool),([]:List Bool),([]:List Bool),([]:List Bool),([]:List Bool),([]:List Bool),([]:List Bool)⟩:State),1)
 else
 (pO p s_ x).bind fun r_2=>
 bif r_2 then
 some ((⟨([]:List Bool),([]:List Bool),([]:List Bool),([]:List Bool),([]:List Bool),([]:List Bool),([]:List Bool)⟩:State),46)
 else
 (l8 p s_ x).bind fun r_3=>
 bif r_3 then
 some ((⟨([]:List Bool),([]:List Bool),([]:List Bool),([]:List Bool),([]:List Bool),([]:List Bool),([]:List Bool)⟩:State),47)
 else
 (lX p s_ x).bind fun r_4=>
 bif r_4 then
 some ((⟨([]:List Bool),([]:List Bool),([]:List Bool),([]:List Bool),([]:List Bool),([]:List Bool),([]:List Bool)⟩:State),43)
 else
 (lI p s_ x).bind fun r_5=>
 bif r_5 then
 some ((⟨([]:List Bool),([]:List Bool),([]:List Bool),([]:List Bool),([]:List Bool),([]:List Bool),([]:List Bool)⟩:State),44)
 else
 (nG s_ x).bind fun r_6=>
 some (r_6,0)
def ny (p:aj) (s_:State) (t:Task) (x:af):Option (State × Int):=
 (uq p s_ x).bind fun r_=>
 bif (decide (r_.2=0))then
 (nV p r_.1 t).bind fun r_1=>
 some (r_.1,r_1)
 else
 some (r_.1,r_.2)
def bO (x50:Int) (x51:(List Bool)) (x511:(List Bool)) (x512:(List Bool)) (x513:(List Bool)) (x514:(List Bool)) (x515:(List Bool)) (x516:(List Bool)) (plant:aj) (task:Task) (int:Int) (step:(List af)) (state:(List State)) (errno:Int):((List Reached) × (List ((List Bool) × Bool)) × Int × Int)→Option (bC ((List Reached) × (List ((List Bool) × Bool)) × Int × Int) (Ex ((List Reached) × (List ((List Bool) × Bool)) × Int) (Nat × (List af) × (List State) × Int × Int × Search))):=
 fun zz=>match zz with
 |(o1200,o1201,o130,t55)=>
 bif (decide (t55<(task.allowed.length:Int)))then
 aL ((0:Int)≤t55∧t55<(task.allowed.length:Int)) (
 bif (decide (0≤o130))then
 some (.done (.ret (2,step,state,errno,o130,(⟨o1200,o1201⟩:Search))))
 else
 (ny plant (⟨x51,x511,x512,x513,x514,x515,x516⟩:State) task (at' task.allowed t55.toNat)).bind fun r_=>
 bif (!decide (r_.2=0))then
 some (.next (o1200,o1201,o130,(IntKind.wrap .i64 (t55+1))))
 else
 (dS r_.1 x50 (at' task.allowed t55.toNat) (⟨o1200,o1201⟩:Search)).bind fun r_1=>
 bif (!r_1.1)then
 some (.next (r_1.2.l,r_1.2.known,o130,(IntKind.wrap .i64 (t55+1))))
 else
 bif (decide (int<(r_1.2.l.length:Int)))then
 some (.done (.ret (3,([]:List af),([]:List State),8,o130,r_1.2)))
 else
 (mE r_.1 task.goal).bind fun r_2=>
 bif r_2 then
 some (.next (r_1.2.l,r_1.2.known,(IntKind.wrap .i64 ((r_1.2.l.length:Int) - 1)),(IntKind.wrap .i64 (t55+1))))
 else
 some (.next (r_1.2.l,r_1.2.known,o130,(IntKind.wrap .i64 (t55+1)))))
 else
 some (.done (.brk (o1200,o1201,o130)))
def dw (x50:Int) (x51:(List Bool)) (x511:(List Bool)) (x512:(List Bool)) (x513:(List Bool)) (x514:(List Bool)) (x515:(List Bool)) (x516:(List Bool)) (plant:aj) (task:Task) (int:Int) (step:(List af)) (state:(List State)) (errno:Int) (int1:Int) (search:Search):Option (Nat × (List af) × (List State) × Int × Int × Search):=
 Option.bind (aC (bO x50 x51 x511 x512 x513 x514 x515 x516 plant task int step state errno) FUEL (search.l,search.known,int1,0)) fun o=>match o with
 | .ret v=>some v
 | .brk (o12001,o12011,o1301)=>
 some (0,step,state,errno,o1301,(⟨o12001,o12011⟩:Search))
def aY (plant:aj) (task:Task) (int:Int):((List af) × (List State) × Int × (List Reached) × (List ((List Bool) × Bool)) × Int × Int)→Option (bC ((List af) × (List State) × Int × (List Reached) × (List ((List Bool) × Bool)) × Int × Int) (Ex ((List af) × (List State) × Int × (List Reached) × (List ((List Bool) × Bool)) × Int) (Nat × (List af) × (List State) × Int × Int × Search))):=
 fun zz=>match zz with
 |(o80,o90,o100,o1200,o1201,o130,i)=>
 bif (decide (i<(o1200.length:Int)))then
 (dw i (((at' o1200 i.toNat).s_).closed) (((at' o1200 i.toNat).s_).locked) (((at' o1200 i.toNat).s_).badLink) (((at' o1200 i.toNat).s_).on_) (((at' o1200 i.toNat).s_).badSource) (((at' o1200 i.toNat).s_).earthed) (((at' o1200 i.toNat).s_).badBus) plant task int o80 o90 o100 o130 (⟨o1200,o1201⟩:Search)).bind fun r_=>
 bif (Nat.beq r_.1 0)then
 aL ((0:Int)≤i∧i<(o1200.length:Int)) (
 some (.next (r_.2.1,r_.2.2.1,r_.2.2.2.1,r_.2.2.2.2.2.l,r_.2.2.2.2.2.known,r_.2.2.2.2.1,(IntKind.wrap .i64 (i+1)))))
 else
 aL ((0:Int)≤i∧i<(o1200.length:Int)) (
 some (.done (.ret (r_.1,r_.2.1,r_.2.2.1,r_.2.2.2.1,r_.2.2.2.2.1,r_.2.2.2.2.2))))
 else
 some (.done (.brk (o80,o90,o100,o1200,o1201,o130)))
def bR (plant:aj) (task:Task) (int:Int) (step:(List af)) (state:(List State)) (errno:Int) (int1:Int) (search:Search):Option (Nat × (List af) × (List State) × Int × Int × Search):=
 Option.bind (aC (aY plant task int) FUEL (step,state,errno,search.l,search.known,int1,0)) fun o=>match o with
 | .ret v=>some v
 | .brk (o801,o901,o1001,o12001,o12011,o1301)=>
 some (0,o801,o901,o1001,o1301,(⟨o12001,o12011⟩:Search))
def dY  :((List af) × Int × Int)→Option (bC ((List af) × Int × Int) (Ex (List af) (List af))):=
 fun zz=>match zz with
 |(o_,i,j)=>
 bif (decide (i<j))then
 aL (((0:Int)≤j∧j<(o_.length:Int))∧((0:Int)≤i∧i<(o_.length:Int))) (
 some (.next (((o_.set i.toNat (at' o_ j.toNat)).set j.toNat (at' o_ i.toNat)),(IntKind.wrap .i64 (i+1)),(IntKind.wrap .i64 (j - 1)))))
 else
 some (.done (.brk o_))
def jM (s_:(List af)):Option (List af):=
 Option.bind (aC dY FUEL (s_,0,(IntKind.wrap .i64 ((s_.length:Int) - 1)))) fun o=>match o with
 | .ret v=>some v
 | .brk o_1=>
 some o_1
def d9 (search:Search):(Int × (List af))→Option (bC (Int × (List af)) (Ex (List af) (List af))):=
 fun zz=>match zz with
 |(i1,out)=>
 bif (decide (0<i1))then
 aL (((0:Int)≤i1∧i1<(search.l.length:Int))∧((out.length+[((at' search.l i1.toNat).by_)].length)*16≤140737488355328)∧(out.length+[((at' search.l i1.toNat).by_)].length≤4611686018427387904)) (
 aL ((0:Int)≤i1∧i1<(search.l.length:Int)) (
 some (.next ((at' search.l i1.toNat).from_,(out++[((at' search.l i1.toNat).by_)])))))
 else
 some (.done (.brk out))
def bV (i:Int) (search:Search):Option (List af):=
 Option.bind (aC (d9 search) FUEL (i,([]:List af))) fun o=>match o with
 | .ret v=>some v
 | .brk out1=>
 (jM out1).bind fun r_=>
 aL (out1.length=r_.length) (
 some r_)
def pz (x104:Int) (x105:(List Bool)) (x1051:(List Bool)) (x1052:(List Bool)) (x1053:(List Bool)) (x1054:(List Bool)) (x1055:(List Bool)) (x1056:(List Bool)) (state:(List State)):Option (List State):=
 aL (((state.length+[(⟨x105,x1051,x1052,x1053,x1054,x1055,x1056⟩:State)].length)*168≤140737488355328)∧(state.length+[(⟨x105,x1051,x1052,x1053,x1054,x1055,x1056⟩:State)].length≤4611686018427387904)) (
 some (state++[(⟨x105,x1051,x1052,x1053,x1054,x1055,x1056⟩:State)]))
def bZ (search:Search):((List State) × Int)→Option (bC ((List State) × Int) (Ex (List State) (List State))):=
 fun zz=>match zz with
 |(o200,i)=>
 bif (decide (i<(search.l.length:Int)))then
 (pz i (((at' search.l i.toNat).s_).closed) (((at' search.l i.toNat).s_).locked) (((at' search.l i.toNat).s_).badLink) (((at' search.l i.toNat).s_).on_) (((at' search.l i.toNat).s_).badSource) (((at' search.l i.toNat).s_).earthed) (((at' search.l i.toNat).s_).badBus) o200).bind fun r_=>
 aL ((0:Int)≤i∧i<(search.l.length:Int)) (
 some (.next (r_,(IntKind.wrap .i64 (i+1)))))
 else
 some (.done (.brk o200))
def bX (state:(List State)) (search:Search):Option (List State):=
 Option.bind (aC (bZ search) FUEL (state,0)) fun o=>match o with
 | .ret v=>some v
 | .brk o2001=>
 some o2001
def gy (p:aj) (s_:State) (t:Task) (most:Int):Option ((List af) × (List State) × Int):=
 (fq p s_ t).bind fun r_=>
 bif (!decide (r_=0))then
 some (([]:List af),([]:List State),r_)
 else
 bif (bif (decide (most<1))then true else(decide (20000<most)))then
 some (([]:List af),([]:List State),1)
 else
 (jZ s_).bind fun r_1=>
 (dS r_1 (-1) (⟨0,0⟩:af) (⟨([]:List Reached),([]:(List ((List Bool) × Bool)))⟩:Search)).bind fun r_2=>
 (mE s_ t.goal).bind fun r_3=>
 bif r_3 then
 (cK r_2.2).bind fun r_4=>
 (bR p t most ([]:List af) ([]:List State) 0 0 r_2.2).bind fun r_5=>
 bif Nat.beq r_5.1 0 then
 bif (decide (0≤r_5.2.2.2.2.1))then
 (bV r_5.2.2.2.2.1 r_5.2.2.2.2.2).bind fun r_6=>
 some (r_6,([]:List State),0)
 else
 (cK r_5.2.2.2.2.2).bind fun r_7=>
 (bX ([]:List State) r_5.2.2.2.2.2).bind fun r_8=>
 some (([]:List af),r_8,4)
 else
 bif Nat.beq r_5.1 2 then
 bif (decide (0≤r_5.2.2.2.2.1))then
 (bV r_5.2.2.2.2.1 r_5.2.2.2.2.2).bind fun r_9=>
 some (r_9,([]:List State),0)
 else
 (cK r_5.2.2.2.2.2).bind fun r_10=>
 (bX ([]:List State) r_5.2.2.2.2.2).bind fun r_11=>
 some (([]:List af),r_11,4)
 else
 aL (r_5.1=3) (
 some (r_5.2.1,r_5.2.2.1,r_5.2.2.2.1))
 else
 (cK r_2.2).bind fun r_12=>
 (bR p t most ([]:List af) ([]:List State) 0 (-1) r_2.2).bind fun r_13=>
 bif Nat.beq r_13.1 0 then
 bif (decide (0≤r_13.2.2.2.2.1))then
 (bV r_13.2.2.2.2.1 r_13.2.2.2.2.2).bind fun r_14=>
 some (r_14,([]:List State),0)
 else
 (cK r_13.2.2.2.2.2).bind fun r_15=>
 (bX ([]:List State) r_13.2.2.2.2.2).bind fun r_16=>
 some (([]:List af),r_16,4)
 else
 bif Nat.beq r_13.1 2 then
 bif (decide (0≤r_13.2.2.2.2.1))then
 (bV r_13.2.2.2.2.1 r_13.2.2.2.2.2).bind fun r_17=>
 some (r_17,([]:List State),0)
 else
 (cK r_13.2.2.2.2.2).bind fun r_18=>
 (bX ([]:List State) r_13.2.2.2.2.2).bind fun r_19=>
 some (([]:List af),r_19,4)
 else
 aL (r_13.1=3) (
 some (r_13.2.1,r_13.2.2.1,r_13.2.2.2.1))
def kF (a:(List af)) (b:(List af)):Int→Option (bC Int (Ex Unit Bool)):=
 fun i=>
 bif (decide (i<(a.length:Int)))then
 aL (((0:Int)≤i∧i<(a.length:Int))∧((0:Int)≤i∧i<(b.length:Int))) (
 bif (!((decide (((at' a i.toNat).deed)=((at' b i.toNat).deed))) && ((decide (((at' a i.toNat).index)=((at' b i.toNat).index))) && true)))then
 some (.done (.ret false))
 else
 some (.next (IntKind.wrap .i64 (i+1))))
 else
 some (.done (.brk ()))
def gU (a:(List af)) (b:(List af)):Option Bool:=
 bif (!decide ((a.length:Int)=(b.length:Int)))then
 some false
 else
 Option.bind (aC (kF a b) FUEL (0)) fun o=>match o with
 | .ret v=>some v
 | .brk _=>
 some true
def di (p:aj) (t:Task) (l:(List State)):((List Reached) × (List ((List Bool) × Bool)) × Int)→Option (bC ((List Reached) × (List ((List Bool) × Bool)) × Int) (Ex ((List Reached) × (List ((List Bool) × Bool))) Int)):=
 fun zz=>match zz with
 |(x0,x1,t34)=>
 bif (decide (t34<(l.length:Int)))then
 aL ((0:Int)≤t34∧t34<(l.length:Int)) (
 (fq p (at' l t34.toNat) t).bind fun r_1=>
 (bif gB [((!decide (r_1=0)),false)]then mE (at' l t34.toNat) t.goal else some default).bind fun r_2=>
 bif (bif (!decide (r_1=0))then true else r_2)then
 some (.done (.ret 7))
 else
 (dS (at' l t34.toNat) (-1) (⟨0,0⟩:af) (⟨x0,x1⟩:Search)).bind fun r_3=>
 some (.next (r_3.2.l,r_3.2.known,(IntKind.wrap .i64 (t34+1)))))
 else
 some (.done (.brk (x0,x1)))
def l7 (p:aj) (t:Task) (l:(List State)) (x11:(List ((List Bool) × Bool))) (t64:Int):Int→Option (bC Int (Ex Unit (bC Int (Ex Unit Int)))):=
 fun t71=>
 bif (decide (t71<(t.allowed.length:Int)))then
 aL ((0:Int)≤t71∧t71<(t.allowed.length:Int)) (
 (ny p (at' l t64.toNat) t (at' t.allowed t71.toNat)).bind fun r_5=>
 (bif gB [((decide (r_5.2=0)),true)]then nZ r_5.1 else some default).bind fun r_6=>
 bif (bif (decide (r_5.2=0))then(!((bA (tH 280) r_6 x11).getD false))else false)then
 some (.done (.ret (.done (.ret 7))))
 else
 some (.next (IntKind.wrap .i64 (t71+1))))
 else
 some (.done (.brk ()))
def lM (p:aj) (t:Task) (l:(List State)) (x11:(List ((List Bool) × Bool))):Int→Option (bC Int (Ex Unit Int)):=
 fun t64=>
 bif (decide (t64<(l.length:Int)))then
 aL ((0:Int)≤t64∧t64<(l.length:Int)) (
 Option.bind (aC (l7 p t l x11 t64) FUEL (0)) fun o=>match o with
 | .ret v=>some v
 | .brk _=>
 some (.next (IntKind.wrap .i64 (t64+1))))
 else
 some (.done (.brk ()))
def jO (p:aj) (s_:State) (t:Task) (l:(List State)):Option Int:=
 (fq p s_ t).bind fun r_=>
 bif (!decide (r_=0))then
 some r_
 else
 bif (decide (20000<(l.length:Int)))then
 some 2
 else
 Option.bind (aC (di p t l) FUEL (([]:List Reached),([]:(List ((List Bool) × Bool))),0)) fun o=>match o with
 | .ret v=>some v
 | .brk (x01,x11)=>
 (nZ s_).bind fun r_4=>
 bif (!((bA (tH 280) r_4 x11).getD false))then
 some 7
 else
 Option.bind (aC (lM p t l x11) FUEL (0)) fun o=>match o with
 | .ret v=>some v
 | .brk _=>
 some 0
def rW:Option (aj × State):=
 aL (((0:Int)≤2)∧((1:Int)*2≤281474976710656)∧((2:Int)≤9223372036854775807)∧((0:Int)≤1)∧((1:Int)*1≤281474976710656)∧((1:Int)≤9223372036854775807)∧((0:Int)≤3)∧((1:Int)*3≤281474976710656)∧((3:Int)≤9223372036854775807)) (
 some ((⟨3,[(⟨0,1,500,0,20⟩:Source)],[(⟨0,1,3,400,10,([]:List iC)⟩:Link),(⟨1,2,2,400,10,([]:List iC)⟩:Link)],[(⟨(⟨2,(-1)⟩:aA),100,1⟩:aN)]⟩:aj),(⟨[true,true],(List.replicate 2 (false:Bool)),(List.replicate 2 (false:Bool)),[true],(List.replicate 1 (false:Bool)),(List.replicate 3 (false:Bool)),(List.replicate 3 (false:Bool))⟩:State)))
def jI (p:aj) (s_:State) (x:af):Option (State × Int):=
 (dU p s_).bind fun r_=>
 bif (!decide (r_=0))then
 some ((⟨([]:List Bool),([]:List Bool),([]:List Bool),([]:List Bool),([]:List Bool),([]:List Bool),([]:List Bool)⟩:State),r_)
 else
 (uq p s_ x).bind fun r_1=>
 some (r_1.1,r_1.2)
def jm (p:aj) (t:Task) (l:(List af)):((List Bool) × (List Bool) × (List Bool) × (List Bool) × (List Bool) × (List Bool) × (List Bool) × Int)→Option (bC ((List Bool) × (List Bool) × (List Bool) × (List Bool) × (List Bool) × (List Bool) × (List Bool) × Int) (Ex ((List Bool) × (List Bool) × (List Bool) × (List Bool) × (List Bool) × (List Bool) × (List Bool)) (Int × State × Int))):=
 fun zz=>match zz with
 |(s0,s1,s2,s3,s4,s5,s6,t31)=>
 bif (decide (t31<(l.length:Int)))then
 aL ((0:Int)≤t31∧t31<(l.length:Int)) (
 (ny p (⟨s0,s1,s2,s3,s4,s5,s6⟩:State) t (at' l t31.toNat)).bind fun r_2=>
 bif (!decide (r_2.2=0))then
 some (.done (.ret (t31,(⟨([]:List Bool),([]:List Bool),([]:List Bool),([]:List Bool),([]:List Bool),([]:List Bool),([]:List Bool)⟩:State),r_2.2)))
 else
 some (.next (r_2.1.closed,r_2.1.locked,r_2.1.badLink,r_2.1.on_,r_2.1.badSource,r_2.1.earthed,r_2.1.badBus,(IntKind.wrap .i64 (t31+1)))))
 else
 some (.done (.brk (s0,s1,s2,s3,s4,s5,s6)))
def fD (p:aj) (s_:State) (t:Task) (l:(List af)):Option (Int × State × Int):=
 (fq p s_ t).bind fun r_=>
 bif (!decide (r_=0))then
 some (0,(⟨([]:List Bool),([]:List Bool),([]:List Bool),([]:List Bool),([]:List Bool),([]:List Bool),([]:List Bool)⟩:State),r_)
 else
 bif (decide (256<(l.length:Int)))then
 some (0,(⟨([]:List Bool),([]:List Bool),([]:List Bool),([]:List Bool),([]:List Bool),([]:List Bool),([]:List Bool)⟩:State),2)
 else
 (jZ s_).bind fun r_1=>
 Option.bind (aC (jm p t l) FUEL (r_1.closed,r_1.locked,r_1.badLink,r_1.on_,r_1.badSource,r_1.earthed,r_1.badBus,0)) fun o=>match o with
 | .ret v=>some v
 | .brk (s01,s11,s21,s31,s41,s51,s61)=>
 some ((l.length:Int),(⟨s01,s11,s21,s31,s41,s51,s61⟩:State),0)
def jL (a:(List Bool)) (b:(List Bool)):Int→Option (bC Int (Ex Unit Bool)):=
 fun i=>
 bif (decide (i<(a.length:Int)))then
 aL (((0:Int)≤i∧i<(a.length:Int))∧((0:Int)≤i∧i<(b.length:Int))) (
 bif (!((at' a i.toNat)==(at' b i.toNat)))then
 some (.done (.ret false))
 else
 some (.next (IntKind.wrap .i64 (i+1))))
 else
 some (.done (.brk ()))
def bT (a:(List Bool)) (b:(List Bool)):Option Bool:=
 bif (!decide ((a.length:Int)=(b.length:Int)))then
 some false
 else
 Option.bind (aC (jL a b) FUEL (0)) fun o=>match o with
 | .ret v=>some v
 | .brk _=>
 some true
def nM:Option Bool:=
 (rW).bind fun r_=>
 (gy r_.1 r_.2 (⟨([]:List Int),([]:List Int),[(⟨1,0⟩:af),(⟨2,0⟩:af),(⟨1,1⟩:af),(⟨2,1⟩:af)],[(⟨1,1⟩:af)]⟩:Task) 100).bind fun r_1=>
 (jI r_.1 r_.2 (⟨1,1⟩:af)).bind fun r_2=>
 bif (bif (bif (!decide (r_1.2.2=0))then true else(!decide (r_2.2=44)))then true else(!decide ((r_1.2.1.length:Int)=0)))then
 some false
 else
 (gU r_1.1 [(⟨1,0⟩:af),(⟨1,1⟩:af)]).bind fun r_3=>
 bif (!r_3)then
 some false
 else
 (fD r_.1 r_.2 (⟨([]:List Int),([]:List Int),([]:List af),([]:List af)⟩:Task) r_1.1).bind fun r_4=>
 bif (bif (!decide (r_4.2.2=0))then true else(!decide (r_4.1=2)))then
 some false
 else
 (bT r_4.2.1.closed [false,false]).bind fun r_5=>
 bif (bif (bif (!r_5)then true else(!decide ((r_4.2.1.locked.length:Int)=2)))then true else(!decide ((r_4.2.1.earthed.length:Int)=3)))then
 some false
 else
 (gy r_.1 r_.2 (⟨[0],([]:List Int),[(⟨1,0⟩:af),(⟨2,0⟩:af),(⟨1,1⟩:af),(⟨2,1⟩:af)],[(⟨1,1⟩:af)]⟩:Task) 100).bind fun r_6=>
 bif (bif (!decide (r_6.2.2=4))then true else(!decide ((r_6.2.1.length:Int)=1)))then
 some false
 else
 (jO r_.1 r_.2 (⟨[0],([]:List Int),[(⟨1,0⟩:af),(⟨2,0⟩:af),(⟨1,1⟩:af),(⟨2,1⟩:af)],[(⟨1,1⟩:af)]⟩:Task) r_6.2.1).bind fun r_7=>
 bif (!decide (r_7=0))then
 some false
 else
 aL (((0:Int)≤1∧1<(r_4.2.1.locked.length:Int))∧((0:Int)≤2∧2<(r_4.2.1.earthed.length:Int))) (
 (jI r_.1 (⟨r_4.2.1.closed,(r_4.2.1.locked.set 1 true),r_4.2.1.badLink,r_4.2.1.on_,r_4.2.1.badSource,(r_4.2.1.earthed.set 2 true),r_4.2.1.badBus⟩:State) (⟨2,1⟩:af)).bind fun r_8=>
 (fD r_.1 (⟨r_4.2.1.closed,(r_4.2.1.locked.set 1 true),r_4.2.1.badLink,r_4.2.1.on_,r_4.2.1.badSource,(r_4.2.1.earthed.set 2 true),r_4.2.1.badBus⟩:State) (⟨([]:List Int),[2],([]:List af),([]:List af)⟩:Task) [(⟨6,1⟩:af)]).bind fun r_9=>
 bif (bif (bif (decide (r_8.2=43))then(decide (r_9.1=0))else false)then(decide (r_9.2.2=45))else false)then
 (fq r_.1 (⟨r_4.2.1.closed,(r_4.2.1.locked.set 1 true),r_4.2.1.badLink,r_4.2.1.on_,r_4.2.1.badSource,(r_4.2.1.earthed.set 2 true),r_4.2.1.badBus⟩:State) (⟨([]:List Int),[2],([]:List af),([]:List af)⟩:Task)).bind fun r_10=>
 some (decide (r_10=0))
 else
 some false)
def dW (l:(List af)):Option (List af):=
 aL ((l.length*16≤140737488355328)∧(l.length≤4611686018427387904)) (
 some l)
def mq (l:(List Int)):Option (List Int):=
 aL ((l.length*8≤140737488355328)∧(l.length≤4611686018427387904)) (
 some l)
def vC (t:Task):Option Task:=
 (mq t.fed).bind fun r_=>
 (mq t.crew).bind fun r_1=>
 (dW t.allowed).bind fun r_2=>
 (dW t.goal).bind fun r_3=>
 some (⟨r_,r_1,r_2,r_3⟩:Task)
def oF (x:Link):Int→Option (bC Int (Ex Unit Bool)):=
 fun i=>
 bif (decide (i<(x.trip.length:Int)))then
 aL ((0:Int)≤i∧i<(x.trip.length:Int)) (
 bif (bif (bif (bif (decide (((at' x.trip i.toNat).amps)<1))then true else(decide (1000000<((at' x.trip i.toNat).amps))))then true else(decide (((at' x.trip i.toNat).millis)<1)))then true else(decide (100000<((at' x.trip i.toNat).millis))))then
 some (.done (.ret false))
 else
 aL ((gB [((decide (0<i)),true)]=true→(0:Int)≤(IntKind.wrap .i64 (i - 1))∧(IntKind.wrap .i64 (i - 1))<(x.trip.length:Int))∧(gB [((decide (((at' x.trip i.toNat).amps)≤((at' x.trip ((IntKind.wrap .i64 (i - 1)).toNat)).amps))),false),((decide (0<i)),true)]=true→(0:Int)≤(IntKind.wrap .i64 (i - 1))∧(IntKind.wrap .i64 (i - 1))<(x.trip.length:Int))) (
 bif (bif (decide (0<i))then(bif (decide (((at' x.trip i.toNat).amps)≤((at' x.trip ((IntKind.wrap .i64 (i - 1)).toNat)).amps)))then true else(decide (((at' x.trip ((IntKind.wrap .i64 (i - 1)).toNat)).millis)≤((at' x.trip i.toNat).millis))))else false)then
 some (.done (.ret false))
 else
 some (.next (IntKind.wrap .i64 (i+1)))))
 else
 some (.done (.brk ()))
def sF (p:aj) (x:Link):Option Bool:=
 bif (bif (bif (bif (bif (bif (bif (bif (bif (bif (bif (decide (x.a<0))then true else(decide (p.buses≤x.a)))then true else(decide (x.b<0)))then true else(decide (p.buses≤x.b)))then true else(decide (x.a=x.b)))then true else(decide (x.kind<1)))then true else(decide (3<x.kind)))then true else(decide (x.most<1)))then true else(decide (100000<x.most)))then true else(decide (x.ohm<10)))then true else(decide (100000<x.ohm)))then
 some false
 else
 bif (bif (decide (6<(x.trip.length:Int)))then true else(bif (decide (0<(x.trip.length:Int)))then(!decide (x.kind=3))else false))then
 some false
 else
 Option.bind (aC (oF x) FUEL (0)) fun o=>match o with
 | .ret v=>some v
 | .brk _=>
 some true
def nk (p:aj):Int→Option (bC Int (Ex Unit Int)):=
 fun i=>
 bif (decide (i<(p.sources.length:Int)))then
 aL ((0:Int)≤i∧i<(p.sources.length:Int)) (
 bif (bif (bif (bif (bif (bif (bif (bif (bif (bif (decide (((at' p.sources i.toNat).bus)<0))then true else(decide (p.buses≤((at' p.sources i.toNat).bus))))then true else(decide (((at' p.sources i.toNat).kind)<1)))then true else(decide (3<((at' p.sources i.toNat).kind))))then true else(decide (((at' p.sources i.toNat).power)<1)))then true else(decide (100000<((at' p.sources i.toNat).power))))then true else(decide (((at' p.sources i.toNat).sync)<0)))then true else(decide (8<((at' p.sources i.toNat).sync))))then true else(decide (((at' p.sources i.toNat).ohm)<10)))then true else(decide (100000<((at' p.sources i.toNat).ohm))))then
 some (.done (.ret 11))
 else
 some (.next (IntKind.wrap .i64 (i+1))))
 else
 some (.done (.brk ()))
def nD (p:aj):Int→Option (bC Int (Ex Unit Int)):=
 fun i1=>
 bif (decide (i1<(p.links.length:Int)))then
 (sF p (at' p.links i1.toNat)).bind fun r_=>
 aL ((0:Int)≤i1∧i1<(p.links.length:Int)) (
 bif (!r_)then
 some (.done (.ret 12))
 else
 some (.next (IntKind.wrap .i64 (i1+1))))
 else
 some (.done (.brk ()))
def mQ (p:aj):Int→Option (bC Int (Ex Unit Int)):=
 fun i2=>
 bif (decide (i2<(p.racks.length:Int)))then
 aL ((0:Int)≤i2∧i2<(p.racks.length:Int)) (
 bif (decide ((((at' p.racks i2.toNat).feeds).e1)=(-1)))then
 bif (bif (bif (bif (bif (bif (bif (bif (bif (decide ((((at' p.racks i2.toNat).feeds).e0)<0))then true else(decide (p.buses≤(((at' p.racks i2.toNat).feeds).e0))))then true else(decide ((((at' p.racks i2.toNat).feeds).e1)<(-1))))then true else(decide (p.buses≤(((at' p.racks i2.toNat).feeds).e1))))then true else(decide ((((at' p.racks i2.toNat).feeds).e0)=(((at' p.racks i2.toNat).feeds).e1))))then true else(decide (((at' p.racks i2.toNat).power)<1)))then true else(decide (100000<((at' p.racks i2.toNat).power))))then true else(decide (((at' p.racks i2.toNat).paths)<0)))then true else(decide (1<((at' p.racks i2.toNat).paths))))then
 some (.done (.ret 13))
 else
 some (.next (IntKind.wrap .i64 (i2+1)))
 else
 bif (bif (bif (bif (bif (bif (bif (bif (bif (decide ((((at' p.racks i2.toNat).feeds).e0)<0))then true else(decide (p.buses≤(((at' p.racks i2.toNat).feeds).e0))))then true else(decide ((((at' p.racks i2.toNat).feeds).e1)<(-1))))then true else(decide (p.buses≤(((at' p.racks i2.toNat).feeds).e1))))then true else(decide ((((at' p.racks i2.toNat).feeds).e0)=(((at' p.racks i2.toNat).feeds).e1))))then true else(decide (((at' p.racks i2.toNat).power)<1)))then true else(decide (100000<((at' p.racks i2.toNat).power))))then true else(decide (((at' p.racks i2.toNat).paths)<0)))then true else(decide (2<((at' p.racks i2.toNat).paths))))then
 some (.done (.ret 13))
 else
 some (.next (IntKind.wrap .i64 (i2+1))))
 else
 some (.done (.brk ()))
def qX (p:aj):Option Int:=
 bif (bif (decide (p.buses<1))then true else(decide (24<p.buses)))then
 some 10
 else
 bif (decide (8<(p.sources.length:Int)))then
 some 11
 else
 Option.bind (aC (nk p) FUEL (0)) fun o=>match o with
 | .ret v=>some v
 | .brk _=>
 bif (decide (40<(p.links.length:Int)))then
 some 12
 else
 Option.bind (aC (nD p) FUEL (0)) fun o=>match o with
 | .ret v=>some v
 | .brk _=>
 bif (decide (24<(p.racks.length:Int)))then
 some 13
 else
 Option.bind (aC (mQ p) FUEL (0)) fun o=>match o with
 | .ret v=>some v
 | .brk _=>
 some 0
def mV (p:aj) (s_:State):Int→Option (bC Int (Ex Unit Bool)):=
 fun i=>
 bif (decide (i<(p.links.length:Int)))then
 aL (((0:Int)≤i∧i<(p.links.length:Int))∧(gB [((decide (((at' p.links i.toNat).kind)=1)),true)]=true→(0:Int)≤i∧i<(s_.closed.length:Int))∧(gB [((!(at' s_.closed i.toNat)),false),((decide (((at' p.links i.toNat).kind)=1)),true)]=true→(0:Int)≤i∧i<(s_.locked.length:Int))) (
 bif (bif (decide (((at' p.links i.toNat).kind)=1))then(bif (!(at' s_.closed i.toNat))then true else(at' s_.locked i.toNat))else false)then
 some (.done (.ret false))
 else
 some (.next (IntKind.wrap .i64 (i+1))))
 else
 some (.done (.brk ()))
def qY (p:aj) (s_:State):Option Bool:=
 bif (bif (bif (bif (bif (bif (bif (!decide ((s_.closed.length:Int)=(p.links.length:Int)))then true else(!decide ((s_.locked.length:Int)=(p.links.length:Int))))then true else(!decide ((s_.badLink.length:Int)=(p.links.length:Int))))then true else(!decide ((s_.on_.length:Int)=(p.sources.length:Int))))then true else(!decide ((s_.badSource.length:Int)=(p.sources.length:Int))))then true else(!decide ((s_.earthed.length:Int)=p.buses)))then true else(!decide ((s_.badBus.length:Int)=p.buses)))then
 some false
 else
 Option.bind (aC (mV p s_) FUEL (0)) fun o=>match o with
 | .ret v=>some v
 | .brk _=>
 some true
def eX (p:aj) (s_:State):Option Int:=
 (qX p).bind fun r_=>
 (bif gB [((decide (r_=0)),true)]then qY p s_ else some default).bind fun r_1=>
 bif (bif (decide (r_=0))then(!r_1)else false)then
 some 9
 else
 some r_
def oO (l:(List Int)) (n:Int):Int→Option (bC Int (Ex Unit Bool)):=
 fun i=>
 bif (decide (i<(l.length:Int)))then
 aL (((0:Int)≤i∧i<(l.length:Int))∧(gB [((decide ((at' l i.toNat)<0)),false)]=true→(0:Int)≤i∧i<(l.length:Int))) (
 bif (bif (decide ((at' l i.toNat)<0))then true else(decide (n≤(at' l i.toNat))))then
 some (.done (.ret false))
 else
 some (.next (IntKind.wrap .i64 (i+1))))
 else
 some (.done (.brk ()))
def kT (l:(List Int)) (n:Int):Option Bool:=
 Option.bind (aC (oO l n) FUEL (0)) fun o=>match o with
 | .ret v=>some v
 | .brk _=>
 some (decide ((l.length:Int)≤24))
def mr (p:aj) (x:af):Option Bool:=
 bif (decide (x.index<0))then
 some false
 else
 bif (decide (x.deed=1))then
 bif (decide (x.deed=1))then
 aL (gB [((decide (x.index<(p.links.length:Int))),true)]=true→(0:Int)≤x.index∧x.index<(p.links.length:Int)) (
 some (bif (decide (x.index<(p.links.length:Int)))then(!decide (((at' p.links x.index.toNat).kind)=1))else false))
 else
 bif (decide (x.deed=3))then
 bif (decide (x.deed=3))then
 some (decide (x.index<p.buses))
 else
 bif (decide (x.deed=7))then
 bif (decide (x.deed=7))then
 some (decide (x.index<(p.sources.length:Int)))
 else
 some false
 else
 bif (decide (x.deed=8))then
 some (decide (x.index<(p.sources.length:Int)))
 else
 some false
 else
 bif (decide (x.deed=4))then
 some (decide (x.index<p.buses))
 else
 bif (decide (x.deed=7))then
 bif (decide (x.deed=7))then
 some (decide (x.index<(p.sources.length:Int)))
 else
 some false
 else
 bif (decide (x.deed=8))then
 some (decide (x.index<(p.sources.length:Int)))
 else
 some false
 else
 bif (decide (x.deed=2))then
 bif (decide (x.deed=2))then
 aL (gB [((decide (x.index<(p.links.length:Int))),true)]=true→(0:Int)≤x.index∧x.index<(p.links.length:Int)) (
 some (bif (decide (x.index<(p.links.length:Int)))then(!decide (((at' p.links x.index.toNat).kind)=1))else false))
 else
 bif (decide (x.deed=3))then
 bif (decide (x.deed=3))then
 some (decide (x.index<p.buses))
 else
 bif (decide (x.deed=7))then
 bif (decide (x.deed=7))then
 some (decide (x.index<(p.sources.length:Int)))
 else
 some false
 else
 bif (decide (x.deed=8))then
 some (decide (x.index<(p.sources.length:Int)))
 else
 some false
 else
 bif (decide (x.deed=4))then
 some (decide (x.index<p.buses))
 else
 bif (decide (x.deed=7))then
 bif (decide (x.deed=7))then
 some (decide (x.index<(p.sources.length:Int)))
 else
 some false
 else
 bif (decide (x.deed=8))then
 some (decide (x.index<(p.sources.length:Int)))
 else
 some false
 else
 bif (decide (x.deed=5))then
 bif (decide (x.deed=5))then
 aL (gB [((decide (x.index<(p.links.length:Int))),true)]=true→(0:Int)≤x.index∧x.index<(p.links.length:Int)) (
 some (bif (decide (x.index<(p.links.length:Int)))then(!decide (((at' p.links x.index.toNat).kind)=1))else false))
 else
 bif (decide (x.deed=3))then
 bif (decide (x.deed=3))then
 some (decide (x.index<p.buses))
 else
 bif (decide (x.deed=7))then
 bif (decide (x.deed=7))then
 some (decide (x.index<(p.sources.length:Int)))
 else
 some false
 else
 bif (decide (x.deed=8))then
 some (decide (x.index<(p.sources.length:Int)))
 else
 some false
 else
 bif (decide (x.deed=4))then
 some (decide (x.index<p.buses))
 else
 bif (decide (x.deed=7))then
 bif (decide (x.deed=7))then
 some (decide (x.index<(p.sources.length:Int)))
 else
 some false
 else
 bif (decide (x.deed=8))then
 some (decide (x.index<(p.sources.length:Int)))
 else
 some false
 else
 bif (decide (x.deed=6))then
 aL (gB [((decide (x.index<(p.links.length:Int))),true)]=true→(0:Int)≤x.index∧x.index<(p.links.length:Int)) (
 some (bif (decide (x.index<(p.links.length:Int)))then(!decide (((at' p.links x.index.toNat).kind)=1))else false))
 else
 bif (decide (x.deed=3))then
 bif (decide (x.deed=3))then
 some (decide (x.index<p.buses))
 else
 bif (decide (x.deed=7))then
 bif (decide (x.deed=7))then
 some (decide (x.index<(p.sources.length:Int)))
 else
 some false
 else
 bif (decide (x.deed=8))then
 some (decide (x.index<(p.sources.length:Int)))
 else
 some false
 else
 bif (decide (x.deed=4))then
 some (decide (x.index<p.buses))
 else
 bif (decide (x.deed=7))then
 bif (decide (x.deed=7))then
 some (decide (x.index<(p.sources.length:Int)))
 else
 some false
 else
 bif (decide (x.deed=8))then
 some (decide (x.index<(p.sources.length:Int)))
 else
 some false
def qI (p:aj) (l:(List af)):Int→Option (bC Int (Ex Unit Bool)):=
 fun i=>
 bif (decide (i<(l.length:Int)))then
 (mr p (at' l i.toNat)).bind fun r_=>
 aL ((0:Int)≤i∧i<(l.length:Int)) (
 bif (!r_)then
 some (.done (.ret false))
 else
 some (.next (IntKind.wrap .i64 (i+1))))
 else
 some (.done (.brk ()))
def nQ (p:aj) (l:(List af)):Option Bool:=
 Option.bind (aC (qI p l) FUEL (0)) fun o=>match o with
 | .ret v=>some v
 | .brk _=>
 some (decide ((l.length:Int)≤24))
def pX (p:aj) (t:Task):Option Bool:=
 (kT t.fed (p.racks.length:Int)).bind fun r_=>
 (bif gB [(r_,true)]then kT t.crew p.buses else some default).bind fun r_1=>
 (bif gB [((bif r_ then r_1 else false),true)]then nQ p t.allowed else some default).bind fun r_2=>
 (bif gB [((bif (bif r_ then r_1 else false)then r_2 else false),true)]then nQ p t.goal else some default).bind fun r_3=>
 some (bif (bif (bif r_ then r_1 else false)then r_2 else false)then r_3 else false)
def kZ (p:aj) (s_:State) (kz:Int):Option Bool:=
 aL (((0:Int)≤kz∧kz<(s_.on_.length:Int))∧(gB [((at' s_.on_ kz.toNat),true)]=true→(0:Int)≤kz∧kz<(s_.badSource.length:Int))∧(gB [((bif (at' s_.on_ kz.toNat)then(!(at' s_.badSource kz.toNat))else false),true)]=true→(0:Int)≤kz∧kz<(p.sources.length:Int))∧(gB [((bif (at' s_.on_ kz.toNat)then(!(at' s_.badSource kz.toNat))else false),true)]=true→(0:Int)≤(at' p.sources kz.toNat).bus∧(at' p.sources kz.toNat).bus<(s_.badBus.length:Int))) (
 some (bif (bif (at' s_.on_ kz.toNat)then(!(at' s_.badSource kz.toNat))else false)then(!(at' s_.badBus (((at' p.sources kz.toNat).bus).toNat)))else false))
def nC (p:aj) (s_:State) (i:Int):Option Bool:=
 aL (((0:Int)≤i∧i<(s_.closed.length:Int))∧(gB [((at' s_.closed i.toNat),true)]=true→(0:Int)≤i∧i<(s_.badLink.length:Int))∧(gB [((bif (at' s_.closed i.toNat)then(!(at' s_.badLink i.toNat))else false),true)]=true→(0:Int)≤i∧i<(p.links.length:Int))∧(gB [((bif (at' s_.closed i.toNat)then(!(at' s_.badLink i.toNat))else false),true)]=true→(0:Int)≤(at' p.links i.toNat).a∧(at' p.links i.toNat).a<(s_.badBus.length:Int))∧(gB [((bif (bif (at' s_.closed i.toNat)then(!(at' s_.badLink i.toNat))else false)then(!(at' s_.badBus (((at' p.links i.toNat).a).toNat)))else false),true)]=true→(0:Int)≤i∧i<(p.links.length:Int))∧(gB [((bif (bif (at' s_.closed i.toNat)then(!(at' s_.badLink i.toNat))else false)then(!(at' s_.badBus (((at' p.links i.toNat).a).toNat)))else false),true)]=true→(0:Int)≤(at' p.links i.toNat).b∧(at' p.links i.toNat).b<(s_.badBus.length:Int))) (
 some (bif (bif (bif (at' s_.closed i.toNat)then(!(at' s_.badLink i.toNat))else false)then(!(at' s_.badBus (((at' p.links i.toNat).a).toNat)))else false)then(!(at' s_.badBus (((at' p.links i.toNat).b).toNat)))else false))
def jP (p:aj) (s_:State) (b:Int):((List Bool) × Int)→Option (bC ((List Bool) × Int) (Ex (List Bool) (bC ((List Bool) × Int) (Ex (List Bool) (List Bool))))):=
 fun zz=>match zz with
 |(out2,i)=>
 bif (decide (i<(p.links.length:Int)))then
 aL ((0:Int)≤i∧i<(p.links.length:Int)) (
 (nC p s_ i).bind fun r_=>
 aL ((gB [(r_,true)]=true→(0:Int)≤(at' p.links i.toNat).a∧(at' p.links i.toNat).a<(out2.length:Int))∧(gB [((at' out2 (((at' p.links i.toNat).a).toNat)),false),(r_,true)]=true→(0:Int)≤(at' p.links i.toNat).b∧(at' p.links i.toNat).b<(out2.length:Int))) (
 bif (bif r_ then(bif (at' out2 (((at' p.links i.toNat).a).toNat))then true else(at' out2 (((at' p.links i.toNat).b).toNat)))else false)then
 aL ((0:Int)≤(at' p.links i.toNat).a∧(at' p.links i.toNat).a<(out2.length:Int)) (
 aL ((0:Int)≤(at' p.links i.toNat).b∧(at' p.links i.toNat).b<((out2.set (((at' p.links i.toNat).a).toNat) true).length:Int)) (
 some (.next (((out2.set (((at' p.links i.toNat).a).toNat) true).set (((at' p.links i.toNat).b).toNat) true),(IntKind.wrap .i64 (i+1))))))
 else
 some (.next (out2,(IntKind.wrap .i64 (i+1))))))
 else
 some (.done (.brk out2))
def jS (p:aj) (s_:State) (b:Int):((List Bool) × Int)→Option (bC ((List Bool) × Int) (Ex (List Bool) (List Bool))):=
 fun zz=>match zz with
 |(out,n)=>
 bif (decide (n<p.buses))then
 Option.bind (aC (jP p s_ b) FUEL (out,0)) fun o=>match o with
 | .ret v=>some v
 | .brk out3=>
 some (.next (out3,(IntKind.wrap .i64 (n+1))))
 else
 some (.done (.brk out))
def dJ (p:aj) (s_:State) (b:Int):Option (List Bool):=
 aL (((0:Int)≤p.buses)∧((1:Int)*p.buses≤281474976710656)∧((p.buses:Int)≤9223372036854775807)) (
 aL ((0:Int)≤b∧b<((List.replicate p.buses.toNat (false:Bool)).length:Int)) (
 Option.bind (aC (jS p s_ b) FUEL (((List.replicate p.buses.toNat (false:Bool)).set b.toNat true),0)) fun o=>match o with
 | .ret v=>some v
 | .brk out1=>
 some out1))
def iX (p:aj) (r_2:(List Bool)):((List Bool) × Int)→Option (bC ((List Bool) × Int) (Ex (List Bool) (bC ((List Bool) × Int) (Ex (List Bool) ((List Bool) × Int))))):=
 fun zz=>match zz with
 |(out2,b)=>
 bif (decide (b<p.buses))then
 aL (((0:Int)≤b∧b<(out2.length:Int))∧(gB [((at' out2 b.toNat),false)]=true→(0:Int)≤b∧b<(r_2.length:Int))) (
 some (.next ((out2.set b.toNat (bif (at' out2 b.toNat)then true else(at' r_2 b.toNat))),(IntKind.wrap .i64 (b+1)))))
 else
 some (.done (.brk out2))
def iZ (p:aj) (s_:State):((List Bool) × Int)→Option (bC ((List Bool) × Int) (Ex (List Bool) ((List Bool) × Int))):=
 fun zz=>match zz with
 |(out,kz)=>
 bif (decide (kz<(p.sources.length:Int)))then
 (kZ p s_ kz).bind fun r_1=>
 bif (!r_1)then
 some (.next (out,(IntKind.wrap .i64 (kz+1))))
 else
 (dJ p s_ ((at' p.sources kz.toNat).bus)).bind fun r_2=>
 aL ((0:Int)≤kz∧kz<(p.sources.length:Int)) (
 Option.bind (aC (iX p r_2) FUEL (out,0)) fun o=>match o with
 | .ret v=>some v
 | .brk out3=>
 some (.next (out3,(IntKind.wrap .i64 (kz+1)))))
 else
 some (.done (.brk out))
def jl (p:aj) (s_:State):Option ((List Bool) × Int):=
 (eX p s_).bind fun r_=>
 bif (!decide (r_=0))then
 some (([]:List Bool),r_)
 else
 aL (((0:Int)≤p.buses)∧((1:Int)*p.buses≤281474976710656)∧((p.buses:Int)≤9223372036854775807)) (
 Option.bind (aC (iZ p s_) FUEL ((List.replicate p.buses.toNat (false:Bool)),0)) fun o=>match o with
 | .ret v=>some v
 | .brk out1=>
 some (out1,0))
def qZ (a:Source) (b:Source):Option Bool:=
 some (bif (!decide (a.sync=b.sync))then true else(decide (a.sync=0)))
def kH (p:aj) (s_:State) (i:Int):((List aA) × Int)→Option (bC ((List aA) × Int) (Ex (List aA) (bC ((List aA) × Int) (Ex (List aA) ((List aA) × Int))))):=
 fun zz=>match zz with
 |(out2,kz)=>
 bif (decide (kz<(p.sources.length:Int)))then
 (kZ p s_ i).bind fun r_1=>
 (bif gB [(r_1,true)]then kZ p s_ kz else some default).bind fun r_2=>
 (bif gB [((bif r_1 then r_2 else false),true)]then dJ p s_ ((at' p.sources i.toNat).bus)else some default).bind fun r_3=>
 (bif gB [((bif (bif r_1 then r_2 else false)then(at' r_3 (((at' p.sources kz.toNat).bus).toNat))else false),true)]then qZ (at' p.sources i.toNat) (at' p.sources kz.toNat)else some default).bind fun r_4=>
 aL ((gB [((bif r_1 then r_2 else false),true)]=true→(0:Int)≤i∧i<(p.sources.length:Int))∧(gB [((bif r_1 then r_2 else false),true)]=true→(0:Int)≤kz∧kz<(p.sources.length:Int))∧(gB [((bif r_1 then r_2 else false),true)]=true→(0:Int)≤(at' p.sources kz.toNat).bus∧(at' p.sources kz.toNat).bus<(r_3.length:Int))∧(gB [((bif (bif r_1 then r_2 else false)then(at' r_3 (((at' p.sources kz.toNat).bus).toNat))else false),true)]=true→(0:Int)≤i∧i<(p.sources.length:Int))∧(gB [((bif (bif r_1 then r_2 else false)then(at' r_3 (((at' p.sources kz.toNat).bus).toNat))else false),true)]=true→(0:Int)≤kz∧kz<(p.sources.length:Int))) (
 bif (bif (bif (bif r_1 then r_2 else false)then(at' r_3 (((at' p.sources kz.toNat).bus).toNat))else false)then r_4 else false)then
 aL (((out2.length+[(⟨i,kz⟩:aA)].length)*16≤140737488355328)∧(out2.length+[(⟨i,kz⟩:aA)].length≤4611686018427387904)) (
 some (.next ((out2++[(⟨i,kz⟩:aA)]),(IntKind.wrap .i64 (kz+1)))))
 else
 some (.next (out2,(IntKind.wrap .i64 (kz+1)))))
 else
 some (.done (.brk out2))
def iK (p:aj) (s_:State):((List aA) × Int)→Option (bC ((List aA) × Int) (Ex (List aA) ((List aA) × Int))):=
 fun zz=>match zz with
 |(out,i)=>
 bif (decide (i<(p.sources.length:Int)))then
 Option.bind (aC (kH p s_ i) FUEL (out,(IntKind.wrap .i64 (i+1)))) fun o=>match o with
 | .ret v=>some v
 | .brk out3=>
 some (.next (out3,(IntKind.wrap .i64 (i+1))))
 else
 some (.done (.brk out))
def og (p:aj) (s_:State):Option ((List aA) × Int):=
 (eX p s_).bind fun r_=>
 bif (!decide (r_=0))then
 some (([]:List aA),r_)
 else
 Option.bind (aC (iK p s_) FUEL (([]:List aA),0)) fun o=>match o with
 | .ret v=>some v
 | .brk out1=>
 some (out1,0)
def wB (l:(List Int)) (n:Int):Int→Option (bC Int (Ex Unit Bool)):=
 fun i=>
 bif (decide (i<(l.length:Int)))then
 aL ((0:Int)≤i∧i<(l.length:Int)) (
 bif (decide ((at' l i.toNat)=n))then
 some (.done (.ret true))
 else
 some (.next (IntKind.wrap .i64 (i+1))))
 else
 some (.done (.brk ()))
def qN (l:(List Int)) (n:Int):Option Bool:=
 Option.bind (aC (wB l n) FUEL (0)) fun o=>match o with
 | .ret v=>some v
 | .brk _=>
 some false
def pK (p:aj) (s_:State) (b:Int):Int→Option (bC Int (Ex Unit Bool)):=
 fun kz=>
 bif (decide (kz<(p.sources.length:Int)))then
 aL (((0:Int)≤kz∧kz<(p.sources.length:Int))∧(gB [((decide (((at' p.sources kz.toNat).bus)=b)),true)]=true→(0:Int)≤kz∧kz<(s_.on_.length:Int))) (
 bif (bif (decide (((at' p.sources kz.toNat).bus)=b))then(at' s_.on_ kz.toNat)else false)then
 some (.done (.ret true))
 else
 some (.next (IntKind.wrap .i64 (kz+1))))
 else
 some (.done (.brk ()))
def pu (p:aj) (s_:State) (crew:(List Int)) (b:Int):Int→Option (bC Int (Ex Unit Bool)):=
 fun i=>
 bif (decide (i<(p.links.length:Int)))then
 Option.bind (α:=(Ex Unit (bC Int (Ex Unit Bool)))) (
 aL ((0:Int)≤i∧i<(p.links.length:Int)) (
 bif (decide (((at' p.links i.toNat).a)=b))then
 bif (decide (((at' p.links i.toNat).b)=b))then
 (bif gB [((decide (0≤((at' p.links i.toNat).a))),true)]then qN crew ((at' p.links i.toNat).a)else some default).bind fun r_=>
 aL ((gB [((decide (((at' p.links i.toNat).kind)=1)),false),((bif (decide (0≤((at' p.links i.toNat).a)))then(!r_)else false),true)]=true→(0:Int)≤i∧i<(s_.closed.length:Int))∧(gB [((bif (decide (((at' p.links i.toNat).kind)=1))then true else(at' s_.closed i.toNat)),false),((bif (decide (0≤((at' p.links i.toNat).a)))then(!r_)else false),true)]=true→(0:Int)≤i∧i<(s_.locked.length:Int))) (
 bif (bif (bif (decide (0≤((at' p.links i.toNat).a)))then(!r_)else false)then(bif (bif (decide (((at' p.links i.toNat).kind)=1))then true else(at' s_.closed i.toNat))then true else(!(at' s_.locked i.toNat)))else false)then
 some (.ret (.done (.ret true)))
 else
 some (.brk ()))
 else
 (bif gB [((decide (0≤((at' p.links i.toNat).b))),true)]then qN crew ((at' p.links i.toNat).b)else some default).bind fun r_1=>
 aL ((gB [((decide (((at' p.links i.toNat).kind)=1)),false),((bif (decide (0≤((at' p.links i.toNat).b)))then(!r_1)else false),true)]=true→(0:Int)≤i∧i<(s_.closed.length:Int))∧(gB [((bif (decide (((at' p.links i.toNat).kind)=1))then true else(at' s_.closed i.toNat)),false),((bif (decide (0≤((at' p.links i.toNat).b)))then(!r_1)else false),true)]=true→(0:Int)≤i∧i<(s_.locked.length:Int))) (
 bif (bif (bif (decide (0≤((at' p.links i.toNat).b)))then(!r_1)else false)then(bif (bif (decide (((at' p.links i.toNat).kind)=1))then true else(at' s_.closed i.toNat))then true else(!(at' s_.locked i.toNat)))else false)then
 some (.ret (.done (.ret true)))
 else
 some (.brk ()))
 else
 bif (decide (((at' p.links i.toNat).b)=b))then
 (bif gB [((decide (0≤((at' p.links i.toNat).a))),true)]then qN crew ((at' p.links i.toNat).a)else some default).bind fun r_2=>
 aL ((gB [((decide (((at' p.links i.toNat).kind)=1)),false),((bif (decide (0≤((at' p.links i.toNat).a)))then(!r_2)else false),true)]=true→(0:Int)≤i∧i<(s_.closed.length:Int))∧(gB [((bif (decide (((at' p.links i.toNat).kind)=1))then true else(at' s_.closed i.toNat)),false),((bif (decide (0≤((at' p.links i.toNat).a)))then(!r_2)else false),true)]=true→(0:Int)≤i∧i<(s_.locked.length:Int))) (
 bif (bif (bif (decide (0≤((at' p.links i.toNat).a)))then(!r_2)else false)then(bif (bif (decide (((at' p.links i.toNat).kind)=1))then true else(at' s_.closed i.toNat))then true else(!(at' s_.locked i.toNat)))else false)then
 some (.ret (.done (.ret true)))
 else
 some (.brk ()))
 else
 some (.brk ()))) fun o=>match o with
 | .ret v=>some v
 | .brk _=>
 some (.next (IntKind.wrap .i64 (i+1)))
 else
 some (.done (.brk ()))
def qi (p:aj) (s_:State) (crew:(List Int)) (b:Int):Option Bool:=
 aL ((0:Int)≤b∧b<(s_.earthed.length:Int)) (
 bif (!(at' s_.earthed b.toNat))then
 some true
 else
 Option.bind (aC (pK p s_ b) FUEL (0)) fun o=>match o with
 | .ret v=>some v
 | .brk _=>
 Option.bind (aC (pu p s_ crew b) FUEL (0)) fun o=>match o with
 | .ret v=>some v
 | .brk _=>
 some false)
def mO (p:aj) (s_:State) (r_2:((List Bool) × Int)):Int→Option (bC Int (Ex Unit Int)):=
 fun b=>
 bif (decide (b<p.buses))then
 aL (((0:Int)≤b∧b<(r_2.1.length:Int))∧(gB [((at' r_2.1 b.toNat),true)]=true→(0:Int)≤b∧b<(s_.earthed.length:Int))) (
 bif (bif (at' r_2.1 b.toNat)then(at' s_.earthed b.toNat)else false)then
 some (.done (.ret 40))
 else
 some (.next (IntKind.wrap .i64 (b+1))))
 else
 some (.done (.brk ()))
def qK (p:aj) (t:Task) (r_2:((List Bool) × Int)):Int→Option (bC Int (Ex Unit Int)):=
 fun i=>
 bif (decide (i<(t.fed.length:Int)))then
 aL (((0:Int)≤i∧i<(t.fed.length:Int))∧((0:Int)≤(at' t.fed i.toNat)∧(at' t.fed i.toNat)<(p.racks.length:Int))) (
 aL (((0:Int)≤((at' p.racks ((at' t.fed i.toNat).toNat)).feeds).e0∧((at' p.racks ((at' t.fed i.toNat).toNat)).feeds).e0<(r_2.1.length:Int))∧(gB [((decide (0≤(((at' p.racks ((at' t.fed i.toNat).toNat)).feeds).e1))),true),((!(at' r_2.1 ((((at' p.racks ((at' t.fed i.toNat).toNat)).feeds).e0).toNat))),true)]=true→(0:Int)≤(if((at' p.racks ((at' t.fed i.toNat).toNat)).feeds).e1<0 then 0 else((at' p.racks ((at' t.fed i.toNat).toNat)).feeds).e1)∧(if((at' p.racks ((at' t.fed i.toNat).toNat)).feeds).e1<0 then 0 else((at' p.racks ((at' t.fed i.toNat).toNat)).feeds).e1)<(r_2.1.length:Int))) (
 bif (bif (!(at' r_2.1 ((((at' p.racks ((at' t.fed i.toNat).toNat)).feeds).e0).toNat)))then(!(bif (decide (0≤(((at' p.racks ((at' t.fed i.toNat).toNat)).feeds).e1)))then(at' r_2.1 ((if((at' p.racks ((at' t.fed i.toNat).toNat)).feeds).e1<0 then 0 else((at' p.racks ((at' t.fed i.toNat).toNat)).feeds).e1).toNat))else false))else false)then
 some (.done (.ret 42))
 else
 some (.next (IntKind.wrap .i64 (i+1)))))
 else
 some (.done (.brk ()))
def qz (p:aj) (s_:State) (t:Task):Int→Option (bC Int (Ex Unit Int)):=
 fun i1=>
 bif (decide (i1<(t.crew.length:Int)))then
 (qi p s_ t.crew (at' t.crew i1.toNat)).bind fun r_4=>
 aL ((0:Int)≤i1∧i1<(t.crew.length:Int)) (
 bif r_4 then
 some (.done (.ret 45))
 else
 some (.next (IntKind.wrap .i64 (i1+1))))
 else
 some (.done (.brk ()))
def dz (p:aj) (s_:State) (t:Task):Option Int:=
 (eX p s_).bind fun r_=>
 bif (!decide (r_=0))then
 some r_
 else
 (pX p t).bind fun r_1=>
 bif (!r_1)then
 some 1
 else
 (jl p s_).bind fun r_2=>
 Option.bind (aC (mO p s_ r_2) FUEL (0)) fun o=>match o with
 | .ret v=>some v
 | .brk _=>
 (og p s_).bind fun r_3=>
 bif (decide (0<(r_3.1.length:Int)))then
 some 41
 else
 Option.bind (aC (qK p t r_2) FUEL (0)) fun o=>match o with
 | .ret v=>some v
 | .brk _=>
 Option.bind (aC (qz p s_ t) FUEL (0)) fun o=>match o with
 | .ret v=>some v
 | .brk _=>
 some 0
def nR (s_:State) (x:af):Option Bool:=
 bif (decide (x.deed=1))then
 aL ((0:Int)≤x.index∧x.index<(s_.closed.length:Int)) (
 some (!(at' s_.closed x.index.toNat)))
 else
 bif (decide (x.deed=2))then
 aL ((0:Int)≤x.index∧x.index<(s_.closed.length:Int)) (
 some (at' s_.closed x.index.toNat))
 else
 bif (decide (x.deed=3))then
 aL ((0:Int)≤x.index∧x.index<(s_.earthed.length:Int)) (
 some (at' s_.earthed x.index.toNat))
 else
 bif (decide (x.deed=4))then
 aL ((0:Int)≤x.index∧x.index<(s_.earthed.length:Int)) (
 some (!(at' s_.earthed x.index.toNat)))
 else
 bif (decide (x.deed=5))then
 aL ((0:Int)≤x.index∧x.index<(s_.locked.length:Int)) (
 some (at' s_.locked x.index.toNat))
 else
 bif (decide (x.deed=6))then
 aL ((0:Int)≤x.index∧x.index<(s_.locked.length:Int)) (
 some (!(at' s_.locked x.index.toNat)))
 else
 bif (decide (x.deed=7))then
 aL ((0:Int)≤x.index∧x.index<(s_.on_.length:Int)) (
 some (at' s_.on_ x.index.toNat))
 else
 aL ((0:Int)≤x.index∧x.index<(s_.on_.length:Int)) (
 some (!(at' s_.on_ x.index.toNat)))
def bU (l:(List Bool)):Option (List Bool):=
 aL ((l.length*1≤140737488355328)∧(l.length≤4611686018427387904)) (
 some l)
def fG (x:State):Option State:=
 (bU x.closed).bind fun r_=>
 (bU x.locked).bind fun r_1=>
 (bU x.badLink).bind fun r_2=>
 (bU x.on_).bind fun r_3=>
 (bU x.badSource).bind fun r_4=>
 (bU x.earthed).bind fun r_5=>
 (bU x.badBus).bind fun r_6=>
 some (⟨r_,r_1,r_2,r_3,r_4,r_5,r_6⟩:State)
def vM (p:aj) (s_:State) (i:Int):Option Bool:=
 (fG s_).bind fun r_=>
 aL ((0:Int)≤i∧i<(r_.closed.length:Int)) (
 aL ((0:Int)≤i∧i<(p.links.length:Int)) (
 aL (((0:Int)≤(at' p.links i.toNat).a∧(at' p.links i.toNat).a<(r_.badBus.length:Int))∧(gB [((at' r_.badBus (((at' p.links i.toNat).a).toNat)),false)]=true→(0:Int)≤(at' p.links i.toNat).b∧(at' p.links i.toNat).b<(r_.badBus.length:Int))) (
 bif (bif (at' r_.badBus (((at' p.links i.toNat).a).toNat))then true else(at' r_.badBus (((at' p.links i.toNat).b).toNat)))then
 some false
 else
 (jl p (⟨(r_.closed.set i.toNat false),r_.locked,r_.badLink,r_.on_,r_.badSource,r_.earthed,r_.badBus⟩:State)).bind fun r_1=>
 (dJ p (⟨(r_.closed.set i.toNat false),r_.locked,r_.badLink,r_.on_,r_.badSource,r_.earthed,r_.badBus⟩:State) ((at' p.links i.toNat).a)).bind fun r_2=>
 aL (((0:Int)≤(at' p.links i.toNat).b∧(at' p.links i.toNat).b<(r_2.length:Int))∧(gB [((!(at' r_2 (((at' p.links i.toNat).b).toNat))),true)]=true→(0:Int)≤(at' p.links i.toNat).a∧(at' p.links i.toNat).a<(r_1.1.length:Int))∧(gB [((at' r_1.1 (((at' p.links i.toNat).a).toNat)),false),((!(at' r_2 (((at' p.links i.toNat).b).toNat))),true)]=true→(0:Int)≤(at' p.links i.toNat).b∧(at' p.links i.toNat).b<(r_1.1.length:Int))) (
 some (bif (!(at' r_2 (((at' p.links i.toNat).b).toNat)))then(bif (at' r_1.1 (((at' p.links i.toNat).a).toNat))then true else(at' r_1.1 (((at' p.links i.toNat).b).toNat)))else false)))))
def qV (s_:State) (x:af):Option State:=
 (fG s_).bind fun r_=>
 bif (decide (x.deed=1))then
 bif (decide (x.deed=1))then
 aL ((0:Int)≤x.index∧x.index<(r_.closed.length:Int)) (
 some (⟨(r_.closed.set x.index.toNat (decide (x.deed=2))),r_.locked,r_.badLink,r_.on_,r_.badSource,r_.earthed,r_.badBus⟩:State))
 else
 bif (decide (x.deed=3))then
 bif (decide (x.deed=3))then
 aL ((0:Int)≤x.index∧x.index<(r_.earthed.length:Int)) (
 some (⟨r_.closed,r_.locked,r_.badLink,r_.on_,r_.badSource,(r_.earthed.set x.index.toNat (decide (x.deed=3))),r_.badBus⟩:State))
 else
 bif (decide (x.deed=5))then
 bif (decide (x.deed=5))then
 aL ((0:Int)≤x.index∧x.index<(r_.locked.length:Int)) (
 some (⟨r_.closed,(r_.locked.set x.index.toNat (decide (x.deed=5))),r_.badLink,r_.on_,r_.badSource,r_.earthed,r_.badBus⟩:State))
 else
 bif (decide (x.deed=7))then
 bif (decide (x.deed=7))then
 aL ((0:Int)≤x.index∧x.index<(r_.on_.length:Int)) (
 some (⟨r_.closed,r_.locked,r_.badLink,(r_.on_.set x.index.toNat (decide (x.deed=7))),r_.badSource,r_.earthed,r_.badBus⟩:State))
 else
 some r_
 else
 bif (decide (x.deed=8))then
 aL ((0:Int)≤x.index∧x.index<(r_.on_.length:Int)) (
 some (⟨r_.closed,r_.locked,r_.badLink,(r_.on_.set x.index.toNat (decide (x.deed=7))),r_.badSource,r_.earthed,r_.badBus⟩:State))
 else
 some r_
 else
 bif (decide (x.deed=6))then
 aL ((0:Int)≤x.index∧x.index<(r_.locked.length:Int)) (
 some (⟨r_.closed,(r_.locked.set x.index.toNat (decide (x.deed=5))),r_.badLink,r_.on_,r_.badSource,r_.earthed,r_.badBus⟩:State))
 else
 bif (decide (x.deed=7))then
 bif (decide (x.deed=7))then
 aL ((0:Int)≤x.index∧x.index<(r_.on_.length:Int)) (
 some (⟨r_.closed,r_.locked,r_.badLink,(r_.on_.set x.index.toNat (decide (x.deed=7))),r_.badSource,r_.earthed,r_.badBus⟩:State))
 else
 some r_
 else
 bif (decide (x.deed=8))then
 aL ((0:Int)≤x.index∧x.index<(r_.on_.length:Int)) (
 some (⟨r_.closed,r_.locked,r_.badLink,(r_.on_.set x.index.toNat (decide (x.deed=7))),r_.badSource,r_.earthed,r_.badBus⟩:State))
 else
 some r_
 else
 bif (decide (x.deed=4))then
 aL ((0:Int)≤x.index∧x.index<(r_.earthed.length:Int)) (
 some (⟨r_.closed,r_.locked,r_.badLink,r_.on_,r_.badSource,(r_.earthed.set x.index.toNat (decide (x.deed=3))),r_.badBus⟩:State))
 else
 bif (decide (x.deed=5))then
 bif (decide (x.deed=5))then
 aL ((0:Int)≤x.index∧x.index<(r_.locked.length:Int)) (
 some (⟨r_.closed,(r_.locked.set x.index.toNat (decide (x.deed=5))),r_.badLink,r_.on_,r_.badSource,r_.earthed,r_.badBus⟩:State))
 else
 bif (decide (x.deed=7))then
 bif (decide (x.deed=7))then
 aL ((0:Int)≤x.index∧x.index<(r_.on_.length:Int)) (
 some (⟨r_.closed,r_.locked,r_.badLink,(r_.on_.set x.index.toNat (decide (x.deed=7))),r_.badSource,r_.earthed,r_.badBus⟩:State))
 else
 some r_
 else
 bif (decide (x.deed=8))then
 aL ((0:Int)≤x.index∧x.index<(r_.on_.length:Int)) (
 some (⟨r_.closed,r_.locked,r_.badLink,(r_.on_.set x.index.toNat (decide (x.deed=7))),r_.badSource,r_.earthed,r_.badBus⟩:State))
 else
 some r_
 else
 bif (decide (x.deed=6))then
 aL ((0:Int)≤x.index∧x.index<(r_.locked.length:Int)) (
 some (⟨r_.closed,(r_.locked.set x.index.toNat (decide (x.deed=5))),r_.badLink,r_.on_,r_.badSource,r_.earthed,r_.badBus⟩:State))
 else
 bif (decide (x.deed=7))then
 bif (decide (x.deed=7))then
 aL ((0:Int)≤x.index∧x.index<(r_.on_.length:Int)) (
 some (⟨r_.closed,r_.locked,r_.badLink,(r_.on_.set x.index.toNat (decide (x.deed=7))),r_.badSource,r_.earthed,r_.badBus⟩:State))
 else
 some r_
 else
 bif (decide (x.deed=8))then
 aL ((0:Int)≤x.index∧x.index<(r_.on_.length:Int)) (
 some (⟨r_.closed,r_.locked,r_.badLink,(r_.on_.set x.index.toNat (decide (x.deed=7))),r_.badSource,r_.earthed,r_.badBus⟩:State))
 else
 some r_
 else
 bif (decide (x.deed=2))then
 aL ((0:Int)≤x.index∧x.index<(r_.closed.length:Int)) (
 some (⟨(r_.closed.set x.index.toNat (decide (x.deed=2))),r_.locked,r_.badLink,r_.on_,r_.badSource,r_.earthed,r_.badBus⟩:State))
 else
 bif (decide (x.deed=3))then
 bif (decide (x.deed=3))then
 aL ((0:Int)≤x.index∧x.index<(r_.earthed.length:Int)) (
 some (⟨r_.closed,r_.locked,r_.badLink,r_.on_,r_.badSource,(r_.earthed.set x.index.toNat (decide (x.deed=3))),r_.badBus⟩:State))
 else
 bif (decide (x.deed=5))then
 bif (decide (x.deed=5))then
 aL ((0:Int)≤x.index∧x.index<(r_.locked.length:Int)) (
 some (⟨r_.closed,(r_.locked.set x.index.toNat (decide (x.deed=5))),r_.badLink,r_.on_,r_.badSource,r_.earthed,r_.badBus⟩:State))
 else
 bif (decide (x.deed=7))then
 bif (decide (x.deed=7))then
 aL ((0:Int)≤x.index∧x.index<(r_.on_.length:Int)) (
 some (⟨r_.closed,r_.locked,r_.badLink,(r_.on_.set x.index.toNat (decide (x.deed=7))),r_.badSource,r_.earthed,r_.badBus⟩:State))
 else
 some r_
 else
 bif (decide (x.deed=8))then
 aL ((0:Int)≤x.index∧x.index<(r_.on_.length:Int)) (
 some (⟨r_.closed,r_.locked,r_.badLink,(r_.on_.set x.index.toNat (decide (x.deed=7))),r_.badSource,r_.earthed,r_.badBus⟩:State))
 else
 some r_
 else
 bif (decide (x.deed=6))then
 aL ((0:Int)≤x.index∧x.index<(r_.locked.length:Int)) (
 some (⟨r_.closed,(r_.locked.set x.index.toNat (decide (x.deed=5))),r_.badLink,r_.on_,r_.badSource,r_.earthed,r_.badBus⟩:State))
 else
 bif (decide (x.deed=7))then
 bif (decide (x.deed=7))then
 aL ((0:Int)≤x.index∧x.index<(r_.on_.length:Int)) (
 some (⟨r_.closed,r_.locked,r_.badLink,(r_.on_.set x.index.toNat (decide (x.deed=7))),r_.badSource,r_.earthed,r_.badBus⟩:State))
 else
 some r_
 else
 bif (decide (x.deed=8))then
 aL ((0:Int)≤x.index∧x.index<(r_.on_.length:Int)) (
 some (⟨r_.closed,r_.locked,r_.badLink,(r_.on_.set x.index.toNat (decide (x.deed=7))),r_.badSource,r_.earthed,r_.badBus⟩:State))
 else
 some r_
 else
 bif (decide (x.deed=4))then
 aL ((0:Int)≤x.index∧x.index<(r_.earthed.length:Int)) (
 some (⟨r_.closed,r_.locked,r_.badLink,r_.on_,r_.badSource,(r_.earthed.set x.index.toNat (decide (x.deed=3))),r_.badBus⟩:State))
 else
 bif (decide (x.deed=5))then
 bif (decide (x.deed=5))then
 aL ((0:Int)≤x.index∧x.index<(r_.locked.length:Int)) (
 some (⟨r_.closed,(r_.locked.set x.index.toNat (decide (x.deed=5))),r_.badLink,r_.on_,r_.badSource,r_.earthed,r_.badBus⟩:State))
 else
 bif (decide (x.deed=7))then
 bif (decide (x.deed=7))then
 aL ((0:Int)≤x.index∧x.index<(r_.on_.length:Int)) (
 some (⟨r_.closed,r_.locked,r_.badLink,(r_.on_.set x.index.toNat (decide (x.deed=7))),r_.badSource,r_.earthed,r_.badBus⟩:State))
 else
 some r_
 else
 bif (decide (x.deed=8))then
 aL ((0:Int)≤x.index∧x.index<(r_.on_.length:Int)) (
 some (⟨r_.closed,r_.locked,r_.badLink,(r_.on_.set x.index.toNat (decide (x.deed=7))),r_.badSource,r_.earthed,r_.badBus⟩:State))
 else
 some r_
 else
 bif (decide (x.deed=6))then
 aL ((0:Int)≤x.index∧x.index<(r_.locked.length:Int)) (
 some (⟨r_.closed,(r_.locked.set x.index.toNat (decide (x.deed=5))),r_.badLink,r_.on_,r_.badSource,r_.earthed,r_.badBus⟩:State))
 else
 bif (decide (x.deed=7))then
 bif (decide (x.deed=7))then
 aL ((0:Int)≤x.index∧x.index<(r_.on_.length:Int)) (
 some (⟨r_.closed,r_.locked,r_.badLink,(r_.on_.set x.index.toNat (decide (x.deed=7))),r_.badSource,r_.earthed,r_.badBus⟩:State))
 else
 some r_
 else
 bif (decide (x.deed=8))then
 aL ((0:Int)≤x.index∧x.index<(r_.on_.length:Int)) (
 some (⟨r_.closed,r_.locked,r_.badLink,(r_.on_.set x.index.toNat (decide (x.deed=7))),r_.badSource,r_.earthed,r_.badBus⟩:State))
 else
 some r_
def iI (p:aj) (s_:State) (x:af):Option (State × Int):=
 (eX p s_).bind fun r_=>
 bif (!decide (r_=0))then
 some ((⟨([]:List Bool),([]:List Bool),([]:List Bool),([]:List Bool),([]:List Bool),([]:List Bool),([]:List Bool)⟩:State),r_)
 else
 Option.bind (α:=Int) (
 (mr p x).bind fun r_1=>
 bif (!r_1)then
 some 1
 else
 (nR s_ x).bind fun r_2=>
 bif r_2 then
 some 46
 else
 aL ((gB [((bif (decide (x.deed=1))then true else(decide (x.deed=2))),true)]=true→(0:Int)≤x.index∧x.index<(s_.badLink.length:Int))∧(gB [((decide (7≤x.deed)),true),((bif (bif (decide (x.deed=1))then true else(decide (x.deed=2)))then(at' s_.badLink x.index.toNat)else false),false)]=true→(0:Int)≤x.index∧x.index<(s_.badSource.length:Int))) (
 bif (bif (bif (bif (decide (x.deed=1))then true else(decide (x.deed=2)))then(at' s_.badLink x.index.toNat)else false)then true else(bif (decide (7≤x.deed))then(at' s_.badSource x.index.toNat)else false))then
 some 47
 else
 aL (gB [((bif (decide (x.deed=1))then true else(decide (x.deed=2))),true)]=true→(0:Int)≤x.index∧x.index<(s_.locked.length:Int)) (
 bif (bif (bif (decide (x.deed=1))then true else(decide (x.deed=2)))then(at' s_.locked x.index.toNat)else false)then
 some 43
 else
 (bif gB [((bif (bif (decide (x.deed=1))then true else(decide (x.deed=2)))then(decide (((at' p.links x.index.toNat).kind)=2))else false),true)]then vM p s_ x.index else some default).bind fun r_3=>
 aL (gB [((bif (decide (x.deed=1))then true else(decide (x.deed=2))),true)]=true→(0:Int)≤x.index∧x.index<(p.links.length:Int)) (
 bif (bif (bif (bif (decide (x.deed=1))then true else(decide (x.deed=2)))then(decide (((at' p.links x.index.toNat).kind)=2))else false)then r_3 else false)then
 some 44
 else
 some r_)))) fun e_=>
 bif (!decide (e_=0))then
 some ((⟨([]:List Bool),([]:List Bool),([]:List Bool),([]:List Bool),([]:List Bool),([]:List Bool),([]:List Bool)⟩:State),e_)
 else
 (qV s_ x).bind fun r_4=>
 some (r_4,0)
def uK (s_:State) (l:(List af)):Int→Option (bC Int (Ex Unit Bool)):=
 fun i=>
 bif (decide (i<(l.length:Int)))then
 (nR s_ (at' l i.toNat)).bind fun r_=>
 aL ((0:Int)≤i∧i<(l.length:Int)) (
 bif (!r_)then
 some (.done (.ret false))
 else
 some (.next (IntKind.wrap .i64 (i+1))))
 else
 some (.done (.brk ()))
def rA (s_:State) (l:(List af)):Option Bool:=
 Option.bind (aC (uK s_ l) FUEL (0)) fun o=>match o with
 | .ret v=>some v
 | .brk _=>
 some true
def eT (a:State) (b:State):Option Bool:=
 (bT a.closed b.closed).bind fun r_=>
 (bif gB [(r_,true)]then bT a.locked b.locked else some default).bind fun r_1=>
 (bif gB [((bif r_ then r_1 else false),true)]then bT a.badLink b.badLink else some default).bind fun r_2=>
 (bif gB [((bif (bif r_ then r_1 else false)then r_2 else false),true)]then bT a.on_ b.on_ else some default).bind fun r_3=>
 (bif gB [((bif (bif (bif r_ then r_1 else false)then r_2 else false)then r_3 else false),true)]then bT a.badSource b.badSource else some default).bind fun r_4=>
 (bif gB [((bif (bif (bif (bif r_ then r_1 else false)then r_2 else false)then r_3 else false)then r_4 else false),true)]then bT a.earthed b.earthed else some default).bind fun r_5=>
 (bif gB [((bif (bif (bif (bif (bif r_ then r_1 else false)then r_2 else false)then r_3 else false)then r_4 else false)then r_5 else false),true)]then bT a.badBus b.badBus else some default).bind fun r_6=>
 some (bif (bif (bif (bif (bif (bif r_ then r_1 else false)then r_2 else false)then r_3 else false)then r_4 else false)then r_5 else false)then r_6 else false)
def qx (l:(List State)) (s_:State):Int→Option (bC Int (Ex Unit Int)):=
 fun i=>
 bif (decide (i<(l.length:Int)))then
 (eT (at' l i.toNat) s_).bind fun r_=>
 aL ((0:Int)≤i∧i<(l.length:Int)) (
 bif r_ then
 some (.done (.ret i))
 else
 some (.next (IntKind.wrap .i64 (i+1))))
 else
 some (.done (.brk ()))
def nW (l:(List State)) (s_:State):Option Int:=
 Option.bind (aC (qx l s_) FUEL (0)) fun o=>match o with
 | .ret v=>some v
 | .brk _=>
 some (-1)
def gV (p:aj) (t:Task) (most:Int) (i:Int):((List State) × (List (List af)) × Int)→Option (bC ((List State) × (List (List af)) × Int) (Ex ((List State) × (List (List af))) (bC ((List State) × (List (List af)) × Int) (Ex (List State) ((List af) × (List State) × Int))))):=
 fun zz=>match zz with
 |(l2,programs1,kz)=>
 bif (decide (kz<(t.allowed.length:Int)))then
 (iI p (at' l2 i.toNat) (at' t.allowed kz.toNat)).bind fun r_2=>
 aL (((0:Int)≤i∧i<(l2.length:Int))∧((0:Int)≤kz∧kz<(t.allowed.length:Int))) (
 (bif gB [((!decide (r_2.2=0)),false)]then dz p r_2.1 t else some default).bind fun r_3=>
 (bif gB [((bif (!decide (r_2.2=0))then true else(!decide (r_3=0))),false)]then nW l2 r_2.1 else some default).bind fun r_4=>
 bif (bif (bif (!decide (r_2.2=0))then true else(!decide (r_3=0)))then true else(decide (0≤r_4)))then
 some (.next (l2,programs1,(IntKind.wrap .i64 (kz+1))))
 else
 aL (((l2.length+[r_2.1].length)*168≤140737488355328)∧(l2.length+[r_2.1].length≤4611686018427387904)) (
 (dW (at' programs1 i.toNat)).bind fun r_5=>
 aL (((0:Int)≤i∧i<(programs1.length:Int))∧((0:Int)≤kz∧kz<(t.allowed.length:Int))∧((r_5.length+[(at' t.allowed kz.toNat)].length)*16≤140737488355328)∧(r_5.length+[(at' t.allowed kz.toNat)].length≤4611686018427387904)) (
 aL (((programs1.length+[(r_5++[(at' t.allowed kz.toNat)])].length)*24≤140737488355328)∧(programs1.length+[(r_5++[(at' t.allowed kz.toNat)])].length≤4611686018427387904)) (
 bif (decide (most<((l2++[r_2.1]).length:Int)))then
 some (.done (.ret (.done (.ret (([]:List af),([]:List State),8)))))
 else
 (rA r_2.1 t.goal).bind fun r_6=>
 bif r_6 then
 some (.done (.ret (.done (.ret ((r_5++[(at' t.allowed kz.toNat)]),([]:List State),0)))))
 else
 some (.next ((l2++[r_2.1]),(programs1++[(r_5++[(at' t.allowed kz.toNat)])]),(IntKind.wrap .i64 (kz+1))))))))
 else
 some (.done (.brk (l2,programs1)))
def fI (p:aj) (t:Task) (most:Int):((List State) × (List (List af)) × Int)→Option (bC ((List State) × (List (List af)) × Int) (Ex (List State) ((List af) × (List State) × Int))):=
 fun zz=>match zz with
 |(l,programs,i)=>
 bif (decide (i<(l.length:Int)))then
 Option.bind (aC (gV p t most i) FUEL (l,programs,0)) fun o=>match o with
 | .ret v=>some v
 | .brk (l3,programs2)=>
 some (.next (l3,programs2,(IntKind.wrap .i64 (i+1))))
 else
 some (.done (.brk l))
def sO (p:aj) (s_:State) (t:Task) (most:Int):Option ((List af) × (List State) × Int):=
 (dz p s_ t).bind fun r_=>
 bif (!decide (r_=0))then
 some (([]:List af),([]:List State),r_)
 else
 bif (bif (decide (most<1))then true else(decide (20000<most)))then
 some (([]:List af),([]:List State),1)
 else
 (rA s_ t.goal).bind fun r_1=>
 bif r_1 then
 some (([]:List af),([]:List State),0)
 else
 Option.bind (aC (fI p t most) FUEL ([s_],[([]:List af)],0)) fun o=>match o with
 | .ret v=>some v
 | .brk l1=>
 some (([]:List af),l1,4)
def lN (p:aj) (t:Task) (l:(List State)):Int→Option (bC Int (Ex Unit Int)):=
 fun i=>
 bif (decide (i<(l.length:Int)))then
 (dz p (at' l i.toNat) t).bind fun r_1=>
 (bif gB [((!decide (r_1=0)),false)]then rA (at' l i.toNat) t.goal else some default).bind fun r_2=>
 aL (((0:Int)≤i∧i<(l.length:Int))∧(gB [((!decide (r_1=0)),false)]=true→(0:Int)≤i∧i<(l.length:Int))) (
 bif (bif (!decide (r_1=0))then true else r_2)then
 some (.done (.ret 7))
 else
 some (.next (IntKind.wrap .i64 (i+1))))
 else
 some (.done (.brk ()))
def lU (p:aj) (t:Task) (l:(List State)) (i1:Int):Int→Option (bC Int (Ex Unit (bC Int (Ex Unit Int)))):=
 fun kz=>
 bif (decide (kz<(t.allowed.length:Int)))then
 (iI p (at' l i1.toNat) (at' t.allowed kz.toNat)).bind fun r_4=>
 aL (((0:Int)≤i1∧i1<(l.length:Int))∧((0:Int)≤kz∧kz<(t.allowed.length:Int))) (
 (bif gB [((decide (r_4.2=0)),true)]then dz p r_4.1 t else some default).bind fun r_5=>
 (bif gB [((bif (decide (r_4.2=0))then(decide (r_5=0))else false),true)]then nW l r_4.1 else some default).bind fun r_6=>
 bif (bif (bif (decide (r_4.2=0))then(decide (r_5=0))else false)then(decide (r_6<0))else false)then
 some (.done (.ret (.done (.ret 7))))
 else
 some (.next (IntKind.wrap .i64 (kz+1))))
 else
 some (.done (.brk ()))
def lZ (p:aj) (t:Task) (l:(List State)):Int→Option (bC Int (Ex Unit Int)):=
 fun i1=>
 bif (decide (i1<(l.length:Int)))then
 Option.bind (aC (lU p t l i1) FUEL (0)) fun o=>match o with
 | .ret v=>some v
 | .brk _=>
 some (.next (IntKind.wrap .i64 (i1+1)))
 else
 some (.done (.brk ()))
def uy (p:aj) (s_:State) (t:Task) (l:(List State)):Option Int:=
 (dz p s_ t).bind fun r_=>
 bif (!decide (r_=0))then
 some r_
 else
 bif (decide (20000<(l.length:Int)))then
 some 2
 else
 Option.bind (aC (lN p t l) FUEL (0)) fun o=>match o with
 | .ret v=>some v
 | .brk _=>
 (nW l s_).bind fun r_3=>
 bif (decide (r_3<0))then
 some 7
 else
 Option.bind (aC (lZ p t l) FUEL (0)) fun o=>match o with
 | .ret v=>some v
 | .brk _=>
 some 0
def pV (l:(List Source)):Option (List Source):=
 aL ((l.length*40≤140737488355328)∧(l.length≤4611686018427387904)) (
 some l)
def rO (l:(List iC)):Option (List iC):=
 aL ((l.length*16≤140737488355328)∧(l.length≤4611686018427387904)) (
 some l)
def pY (x:Link):Option Link:=
 (rO x.trip).bind fun r_=>
 some (⟨x.a,x.b,x.kind,x.most,x.ohm,r_⟩:Link)
def fP (l:(List Link)):((List Link) × Int)→Option (bC ((List Link) × Int) (Ex (List Link) (List Link))):=
 fun zz=>match zz with
 |(out,i)=>
 bif (decide (i<(l.length:Int)))then
 (pY (at' l i.toNat)).bind fun r_=>
 aL (((0:Int)≤i∧i<(l.length:Int))∧((out.length+[r_].length)*64≤140737488355328)∧(out.length+[r_].length≤4611686018427387904)) (
 some (.next ((out++[r_]),(IntKind.wrap .i64 (i+1)))))
 else
 some (.done (.brk out))
def rQ (l:(List Link)):Option (List Link):=
 Option.bind (aC (fP l) FUEL (([]:List Link),0)) fun o=>match o with
 | .ret v=>some v
 | .brk out1=>
 some out1
def rU (l:(List aN)):Option (List aN):=
 aL ((l.length*32≤140737488355328)∧(l.length≤4611686018427387904)) (
 some l)
def oI (x:aj):Option aj:=
 (pV x.sources).bind fun r_=>
 (rQ x.links).bind fun r_1=>
 (rU x.racks).bind fun r_2=>
 some (⟨x.buses,r_,r_1,r_2⟩:aj)
def jo (p:aj) (t:Task) (l:(List af)):((List Bool) × (List Bool) × (List Bool) × (List Bool) × (List Bool) × (List Bool) × (List Bool) × Int)→Option (bC ((List Bool) × (List Bool) × (List Bool) × (List Bool) × (List Bool) × (List Bool) × (List Bool) × Int) (Ex ((List Bool) × (List Bool) × (List Bool) × (List Bool) × (List Bool) × (List Bool) × (List Bool)) (Int × State × Int))):=
 fun zz=>match zz with
 |(now0,now1,now2,now3,now4,now5,now6,i)=>
 bif (decide (i<(l.length:Int)))then
 (iI p (⟨now0,now1,now2,now3,now4,now5,now6⟩:State) (at' l i.toNat)).bind fun r_1=>
 aL ((0:Int)≤i∧i<(l.length:Int)) (
 bif (decide (r_1.2=0))then
 (dz p r_1.1 t).bind fun r_2=>
 bif (!decide (r_2=0))then
 some (.done (.ret (i,(⟨([]:List Bool),([]:List Bool),([]:List Bool),([]:List Bool),([]:List Bool),([]:List Bool),([]:List Bool)⟩:State),r_2)))
 else
 some (.next (r_1.1.closed,r_1.1.locked,r_1.1.badLink,r_1.1.on_,r_1.1.badSource,r_1.1.earthed,r_1.1.badBus,(IntKind.wrap .i64 (i+1))))
 else
 bif (!decide (r_1.2=0))then
 some (.done (.ret (i,(⟨([]:List Bool),([]:List Bool),([]:List Bool),([]:List Bool),([]:List Bool),([]:List Bool),([]:List Bool)⟩:State),r_1.2)))
 else
 some (.next (r_1.1.closed,r_1.1.locked,r_1.1.badLink,r_1.1.on_,r_1.1.badSource,r_1.1.earthed,r_1.1.badBus,(IntKind.wrap .i64 (i+1)))))
 else
 some (.done (.brk (now0,now1,now2,now3,now4,now5,now6)))
def jT (p:aj) (s_:State) (t:Task) (l:(List af)):Option (Int × State × Int):=
 (dz p s_ t).bind fun r_=>
 bif (!decide (r_=0))then
 some (0,(⟨([]:List Bool),([]:List Bool),([]:List Bool),([]:List Bool),([]:List Bool),([]:List Bool),([]:List Bool)⟩:State),r_)
 else
 bif (decide (256<(l.length:Int)))then
 some (0,(⟨([]:List Bool),([]:List Bool),([]:List Bool),([]:List Bool),([]:List Bool),([]:List Bool),([]:List Bool)⟩:State),2)
 else
 Option.bind (aC (jo p t l) FUEL (s_.closed,s_.locked,s_.badLink,s_.on_,s_.badSource,s_.earthed,s_.badBus,0)) fun o=>match o with
 | .ret v=>some v
 | .brk (now01,now11,now21,now31,now41,now51,now61)=>
 some ((l.length:Int),(⟨now01,now11,now21,now31,now41,now51,now61⟩:State),0)
def pR (s_:(List af)):Option (List af):=
 some s_
def oG (x:af):Option af:=
 bif (bif (decide (1≤x.deed))then(decide (x.deed≤8))else false)then
 some (⟨(IntKind.wrap .i64 ((IntKind.wrap .i64 (((BitVec.ofInt (IntKind.bits .i64) (IntKind.wrap .i64 (x.deed - 1)) ^^^ BitVec.ofInt (IntKind.bits .i64) 1).toNat:Int)))+1)),x.index⟩:af)
 else
 some x
def mg (x8:Int) (x9:Int) (x91:Int) (step:(List af)):Option (List af):=
 (oG (⟨x9,x91⟩:af)).bind fun r_=>
 aL (((step.length+[r_].length)*16≤140737488355328)∧(step.length+[r_].length≤4611686018427387904)) (
 some (step++[r_]))
def dX (x1:(List af)):((List af) × Int)→Option (bC ((List af) × Int) (Ex (List af) (List af))):=
 fun zz=>match zz with
 |(o30,i)=>
 bif (decide (0≤i))then
 (mg i ((at' x1 i.toNat).deed) ((at' x1 i.toNat).index) o30).bind fun r_=>
 aL ((0:Int)≤i∧i<(x1.length:Int)) (
 some (.next (r_,(IntKind.wrap .i64 (i - 1)))))
 else
 some (.done (.brk o30))
def nJ (x1:(List af)) (step:(List af)):Option (List af):=
 Option.bind (aC (dX x1) FUEL (step,(IntKind.wrap .i64 ((x1.length:Int) - 1)))) fun o=>match o with
 | .ret v=>some v
 | .brk o301=>
 some o301
def oD (l:(List af)):Option (List af):=
 (pR l).bind fun r_=>
 (nJ r_ ([]:List af)).bind fun r_1=>
 some r_1
def fJ (x:af):Option af:=
 bif (bif (decide (x.deed<1))then true else(decide (8<x.deed)))then
 some x
 else
 aL ((0:Int)≤x.deed∧x.deed<([0,2,1,4,3,6,5,8,7].length:Int)) (
 some (⟨(at' [0,2,1,4,3,6,5,8,7] x.deed.toNat),x.index⟩:af))
def fV (l:(List af)):((List af) × Int)→Option (bC ((List af) × Int) (Ex (List af) (List af))):=
 fun zz=>match zz with
 |(out,i)=>
 bif (decide (0≤i))then
 (fJ (at' l i.toNat)).bind fun r_=>
 aL (((0:Int)≤i∧i<(l.length:Int))∧((out.length+[r_].length)*16≤140737488355328)∧(out.length+[r_].length≤4611686018427387904)) (
 some (.next ((out++[r_]),(IntKind.wrap .i64 (i - 1)))))
 else
 some (.done (.brk out))
def oh (l:(List af)):Option (List af):=
 Option.bind (aC (fV l) FUEL (([]:List af),(IntKind.wrap .i64 ((l.length:Int) - 1)))) fun o=>match o with
 | .ret v=>some v
 | .brk out1=>
 some out1
def jv (a:(List Source)) (b:(List Source)):Int→Option (bC Int (Ex Unit Bool)):=
 fun i=>
 bif (decide (i<(a.length:Int)))then
 aL (((0:Int)≤i∧i<(a.length:Int))∧((0:Int)≤i∧i<(b.length:Int))) (
 bif (!((decide (((at' a i.toNat).bus)=((at' b i.toNat).bus))) && ((decide (((at' a i.toNat).kind)=((at' b i.toNat).kind))) && ((decide (((at' a i.toNat).power)=((at' b i.toNat).power))) && ((decide (((at' a i.toNat).sync)=((at' b i.toNat).sync))) && ((decide (((at' a i.toNat).ohm)=((at' b i.toNat).ohm))) && true))))))then
 some (.done (.ret false))
 else
 some (.next (IntKind.wrap .i64 (i+1))))
 else
 some (.done (.brk ()))
def lV (a:(List Source)) (b:(List Source)):Option Bool:=
 bif (!decide ((a.length:Int)=(b.length:Int)))then
 some false
 else
 Option.bind (aC (jv a b) FUEL (0)) fun o=>match o with
 | .ret v=>some v
 | .brk _=>
 some true
def kE (a:(List iC)) (b:(List iC)):Int→Option (bC Int (Ex Unit Bool)):=
 fun i=>
 bif (decide (i<(a.length:Int)))then
 aL (((0:Int)≤i∧i<(a.length:Int))∧((0:Int)≤i∧i<(b.length:Int))) (
 bif (!((decide (((at' a i.toNat).amps)=((at' b i.toNat).amps))) && ((decide (((at' a i.toNat).millis)=((at' b i.toNat).millis))) && true)))then
 some (.done (.ret false))
 else
 some (.next (IntKind.wrap .i64 (i+1))))
 else
 some (.done (.brk ()))
def ol (a:(List iC)) (b:(List iC)):Option Bool:=
 bif (!decide ((a.length:Int)=(b.length:Int)))then
 some false
 else
 Option.bind (aC (kE a b) FUEL (0)) fun o=>match o with
 | .ret v=>some v
 | .brk _=>
 some true
def pE (a:Link) (b:Link):Option Bool:=
 (bif gB [((bif (bif (bif (bif (decide (a.a=b.a))then(decide (a.b=b.b))else false)then(decide (a.kind=b.kind))else false)then(decide (a.most=b.most))else false)then(decide (a.ohm=b.ohm))else false),true)]then ol a.trip b.trip else some default).bind fun r_=>
 some (bif (bif (bif (bif (bif (decide (a.a=b.a))then(decide (a.b=b.b))else false)then(decide (a.kind=b.kind))else false)then(decide (a.most=b.most))else false)then(decide (a.ohm=b.ohm))else false)then r_ else false)
def kG (a:(List Link)) (b:(List Link)):Int→Option (bC Int (Ex Unit Bool)):=
 fun i=>
 bif (decide (i<(a.length:Int)))then
 (pE (at' a i.toNat) (at' b i.toNat)).bind fun r_=>
 aL (((0:Int)≤i∧i<(a.length:Int))∧((0:Int)≤i∧i<(b.length:Int))) (
 bif (!r_)then
 some (.done (.ret false))
 else
 some (.next (IntKind.wrap .i64 (i+1))))
 else
 some (.done (.brk ()))
def oo (a:(List Link)) (b:(List Link)):Option Bool:=
 bif (!decide ((a.length:Int)=(b.length:Int)))then
 some false
 else
 Option.bind (aC (kG a b) FUEL (0)) fun o=>match o with
 | .ret v=>some v
 | .brk _=>
 some true
def ku (a:(List aN)) (b:(List aN)):Int→Option (bC Int (Ex Unit Bool)):=
 fun i=>
 bif (decide (i<(a.length:Int)))then
 aL (((0:Int)≤i∧i<(a.length:Int))∧((0:Int)≤i∧i<(b.length:Int))) (
 bif (!((decide ((((at' a i.toNat).feeds).e0)=(((at' b i.toNat).feeds).e0))) && ((decide ((((at' a i.toNat).feeds).e1)=(((at' b i.toNat).feeds).e1))) && ((decide (((at' a i.toNat).power)=((at' b i.toNat).power))) && ((decide (((at' a i.toNat).paths)=((at' b i.toNat).paths))) && true)))))then
 some (.done (.ret false))
 else
 some (.next (IntKind.wrap .i64 (i+1))))
 else
 some (.done (.brk ()))
def ow (a:(List aN)) (b:(List aN)):Option Bool:=
 bif (!decide ((a.length:Int)=(b.length:Int)))then
 some false
 else
 Option.bind (aC (ku a b) FUEL (0)) fun o=>match o with
 | .ret v=>some v
 | .brk _=>
 some true
def om (a:aj) (b:aj):Option Bool:=
 (bif gB [((decide (a.buses=b.buses)),true)]then lV a.sources b.sources else some default).bind fun r_=>
 (bif gB [((bif (decide (a.buses=b.buses))then r_ else false),true)]then oo a.links b.links else some default).bind fun r_1=>
 (bif gB [((bif (bif (decide (a.buses=b.buses))then r_ else false)then r_1 else false),true)]then ow a.racks b.racks else some default).bind fun r_2=>
 some (bif (bif (bif (decide (a.buses=b.buses))then r_ else false)then r_1 else false)then r_2 else false)
def dI  :((List Bool) × Int)→Option (bC ((List Bool) × Int) (Ex (List Bool) Bool)):=
 fun zz=>match zz with
 |(c1,i)=>
 bif (decide (i<(c1.length:Int)))then
 aL ((0:Int)≤i∧i<(c1.length:Int)) (
 some (.next ((c1.set i.toNat (!(at' c1 i.toNat))),(IntKind.wrap .i64 (i+1)))))
 else
 some (.done (.brk c1))
def dK  :((List Bool) × Int)→Option (bC ((List Bool) × Int) (Ex Unit Bool)):=
 fun zz=>match zz with
 |(c5,i1)=>
 bif (decide (i1<(c5.length:Int)))then
 aL ((0:Int)≤i1∧i1<(c5.length:Int)) (
 some (.next ((c5.set i1.toNat (!(at' c5 i1.toNat))),(IntKind.wrap .i64 (i1+1)))))
 else
 some (.done (.brk ()))
def iM (p:aj) (s_:State) (t:Task) (x:af) (l:(List af)):Option Bool:=
 (zy p t).bind fun r_=>
 bif (bif r_ then true else(decide (300<(l.length:Int))))then
 (nM).bind fun r_1=>
 some r_1
 else
 (oI p).bind fun r_2=>
 (fG s_).bind fun r_3=>
 (dW l).bind fun r_4=>
 (jI r_2 r_3 x).bind fun r_5=>
 (iI p s_ x).bind fun r_6=>
 (bif gB [((!decide (r_5.2=r_6.2)),false)]then eT r_5.1 r_6.1 else some default).bind fun r_7=>
 bif (bif (!decide (r_5.2=r_6.2))then true else(!r_7))then
 some false
 else
 (vC t).bind fun r_8=>
 (fD r_2 r_3 r_8 r_4).bind fun r_9=>
 (jT p s_ t l).bind fun r_10=>
 (bif gB [((bif (!decide (r_9.2.2=r_10.2.2))then true else(!decide (r_9.1=r_10.1))),false)]then eT r_9.2.1 r_10.2.1 else some default).bind fun r_11=>
 (bif gB [((bif (bif (!decide (r_9.2.2=r_10.2.2))then true else(!decide (r_9.1=r_10.1)))then true else(!r_11)),false)]then oD r_4 else some default).bind fun r_12=>
 (bif gB [((bif (bif (!decide (r_9.2.2=r_10.2.2))then true else(!decide (r_9.1=r_10.1)))then true else(!r_11)),false)]then oh l else some default).bind fun r_13=>
 (bif gB [((bif (bif (!decide (r_9.2.2=r_10.2.2))then true else(!decide (r_9.1=r_10.1)))then true else(!r_11)),false)]then gU r_12 r_13 else some default).bind fun r_14=>
 bif (bif (bif (bif (!decide (r_9.2.2=r_10.2.2))then true else(!decide (r_9.1=r_10.1)))then true else(!r_11))then true else(!r_14))then
 some false
 else
 Option.bind (aC dI FUEL (r_9.2.1.locked,0)) fun o=>match o with
 | .ret v=>some v
 | .brk c11=>
 Option.bind (aC dK FUEL (r_9.2.1.earthed,0)) fun o=>match o with
 | .ret v=>some v
 | .brk _=>
 (om p r_2).bind fun r_15=>
 (bif gB [(r_15,true)]then eT s_ r_3 else some default).bind fun r_16=>
 (bif gB [((bif r_15 then r_16 else false),true)]then gU l r_4 else some default).bind fun r_17=>
 (bif gB [((bif (bif r_15 then r_16 else false)then r_17 else false),true)]then nM else some default).bind fun r_18=>
 some (bif (bif (bif r_15 then r_16 else false)then r_17 else false)then r_18 else false)
end Sg
