import Derived.Test.YtboodeobmgjjpaaGreatSaLd
set_option linter.all false
namespace Sg
open Go
structure Source where
 bus:Int
 kind:Int
 power:Int
 sync:Int
 ohm:Int
instance:Inhabited Source:=⟨⟨default,default,default,default,default⟩⟩
def Source.cell (x:Source):Nat→DV
 |0=>(.int .i64 x.bus)
 |1=>(.int .i64 x.kind)
 |2=>(.int .i64 x.power)
 |3=>(.int .i64 x.sync)
 |4=>(.int .i64 x.ohm)
 |_=> .nilp
structure oO where
 amps:Int
 millis:Int
instance:Inhabited oO:=⟨⟨default,default⟩⟩
def oO.cell (x:oO):Nat→DV
 |0=>(.int .i64 x.amps)
 |1=>(.int .i64 x.millis)
 |_=> .nilp
structure Link where
 a:Int
 b:Int
 kind:Int
 most:Int
 ohm:Int
 trip:(List oO)
instance:Inhabited Link:=⟨⟨default,default,default,default,default,default⟩⟩
def Link.cell (x:Link):Nat→DV
 |0=>(.int .i64 x.a)
 |1=>(.int .i64 x.b)
 |2=>(.int .i64 x.kind)
 |3=>(.int .i64 x.most)
 |4=>(.int .i64 x.ohm)
 |5=>(bB none 2 oO.cell x.trip)
 |_=> .nilp
structure ay where
 e0:Int
 e1:Int
instance:Inhabited ay:=⟨⟨default,default⟩⟩
def ay.cell (x:ay):Nat→DV
 |0=>(.int .i64 x.e0)
 |1=>(.int .i64 x.e1)
 |_=> .nilp
structure aV where
 feeds:ay
 power:Int
 paths:Int
instance:Inhabited aV:=⟨⟨default,default,default⟩⟩
def aV.cell (x:aV):Nat→DV
 |0=>(.int .i64 x.feeds.e0)
 |1=>(.int .i64 x.feeds.e1)
 |2=>(.int .i64 x.power)
 |3=>(.int .i64 x.paths)
 |_=> .nilp
structure aj where
 buses:Int
 sources:(List Source)
 links:(List Link)
 racks:(List aV)
instance:Inhabited aj:=⟨⟨default,default,default,default⟩⟩
def aj.cell (x:aj):Nat→DV
 |0=>(.int .i64 x.buses)
 |1=>(bB none 5 Source.cell x.sources)
 |2=>(bB none 6 Link.cell x.links)
 |3=>(bB none 4 aV.cell x.racks)
 |_=> .nilp
structure af where
 deed:Int
 index:Int
instance:Inhabited af:=⟨⟨default,default⟩⟩
def af.cell (x:af):Nat→DV
 |0=>(.int .i64 x.deed)
 |1=>(.int .i64 x.index)
 |_=> .nilp
structure Task where
 fed:(List Int)
 crew:(List Int)
 allowed:(List af)
 goal:(List af)
instance:Inhabited Task:=⟨⟨default,default,default,default⟩⟩
def Task.cell (x:Task):Nat→DV
 |0=>(bB none 1 (aY .i64) x.fed)
 |1=>(bB none 1 (aY .i64) x.crew)
 |2=>(bB none 2 af.cell x.allowed)
 |3=>(bB none 2 af.cell x.goal)
 |_=> .nilp
structure State where
 closed:(List Bool)
 locked:(List Bool)
 badLink:(List Bool)
 on_:(List Bool)
 badSource:(List Bool)
 earthed:(List Bool)
 badBus:(List Bool)
instance:Inhabited State:=⟨⟨default,default,default,default,default,default,default⟩⟩
def State.cell (x:State):Nat→DV
 |0=>(bB none 1 ai x.closed)
 |1=>(bB none 1 ai x.locked)
 |2=>(bB none 1 ai x.badLink)
 |3=>(bB none 1 ai x.on_)
 |4=>(bB none 1 ai x.badSource)
 |5=>(bB none 1 ai x.earthed)
 |6=>(bB none 1 ai x.badBus)
 |_=> .nilp
structure di where
 l:(List Bool)
 n:Int
instance:Inhabited di:=⟨⟨default,default⟩⟩
def di.cell (x:di):Nat→DV
 |0=>(bB none 1 ai x.l)
 |1=>(.int .i64 x.n)
 |_=> .nilp
structure aK where
 head:(List (Int × Int))
instance:Inhabited aK:=⟨⟨default⟩⟩
def aK.cell (x:aK):Nat→DV
 |0=> .nilp
 |_=> .nilp
structure aA where
 buses:(List Int)
 sources:(List Int)
instance:Inhabited aA:=⟨⟨default,default⟩⟩
def aA.cell (x:aA):Nat→DV
 |0=>(bB none 1 (aY .i64) x.buses)
 |1=>(bB none 1 (aY .i64) x.sources)
 |_=> .nilp
structure aJ where
 e0:Bool
 e1:Bool
instance:Inhabited aJ:=⟨⟨default,default⟩⟩
def aJ.cell (x:aJ):Nat→DV
 |0=>(.bool x.e0)
 |1=>(.bool x.e1)
 |_=> .nilp
structure Reached where
 s_:State
 from_:Int
 by_:af
instance:Inhabited Reached:=⟨⟨default,default,default⟩⟩
def Reached.cell (x:Reached):Nat→DV
 |0=>(bB none 1 ai x.s_.closed)
 |1=>(bB none 1 ai x.s_.locked)
 |2=>(bB none 1 ai x.s_.badLink)
 |3=>(bB none 1 ai x.s_.on_)
 |4=>(bB none 1 ai x.s_.badSource)
 |5=>(bB none 1 ai x.s_.earthed)
 |6=>(bB none 1 ai x.s_.badBus)
 |7=>(.int .i64 x.from_)
 |8=>(.int .i64 x.by_.deed)
 |9=>(.int .i64 x.by_.index)
 |_=> .nilp
structure Search where
 l:(List Reached)
 known:(List ((List Bool) × Bool))
instance:Inhabited Search:=⟨⟨default,default⟩⟩
def Search.cell (x:Search):Nat→DV
 |0=>(bB none 10 Reached.cell x.l)
 |1=> .nilp
 |_=> .nilp
def aA.ev (x:aA):Nat→EV
 |0=> .row 3 1 x.buses.length (aC (aY .i64) x.buses)
 |1=> .row 3 1 x.sources.length (aC (aY .i64) x.sources)
 |_=> .d .nilp
def zx (p:aj) (t:Task):Option Bool:=
 some (bif (bif (bif (bif (bif (bif (decide (60<(p.sources.length:Int)))then true else(decide (60<(p.links.length:Int))))then true else(decide (60<(p.racks.length:Int))))then true else(decide (60<(t.fed.length:Int))))then true else(decide (60<(t.crew.length:Int))))then true else(decide (60<(t.allowed.length:Int))))then true else(decide (60<(t.goal.length:Int))))
def aX (n:Int) (first:Int) (last:Int):Option Bool:=
 some (bif (decide (first≤n))then(decide (n≤last))else false)
def tQ (p:aj):Option (Int × (List Source) × (List Link) × (List aV)):=
 some (p.buses,p.sources,p.links,p.racks)
def xB (p:aj):Option (Int × (List Source) × (List Link) × (List aV)):=
 some (p.buses,p.sources,p.links,p.racks)
def xG (p:aj):Option (Int × (List Source) × (List Link) × (List aV)):=
 some (p.buses,p.sources,p.links,p.racks)
def mJ (x:Source) (x1:Int) (x11:(List Source)) (x12:(List Link)) (x13:(List aV)):Option Bool:=
 (aX x.bus 0 (IntKind.wrap .i64 (x1 - 1))).bind fun r_=>
 (bif gB [(r_,true)]then aX x.kind 1 3 else some default).bind fun r_1=>
 (bif gB [((bif r_ then r_1 else false),true)]then aX x.power 1 100000 else some default).bind fun r_2=>
 (bif gB [((bif (bif r_ then r_1 else false)then r_2 else false),true)]then aX x.sync 0 8 else some default).bind fun r_3=>
 (bif gB [((bif (bif (bif r_ then r_1 else false)then r_2 else false)then r_3 else false),true)]then aX x.ohm 10 100000 else some default).bind fun r_4=>
 some (bif (bif (bif (bif r_ then r_1 else false)then r_2 else false)then r_3 else false)then r_4 else false)
def uR (x:Source) (x1:Int) (x11:(List Source)) (x12:(List Link)) (x13:(List aV)):Option Bool:=
 (mJ x x1 x11 x12 x13).bind fun r_=>
 some (!r_)
def kZ (s_:(List Source)) (f_:Int) (f_1:(List Source)) (f_2:(List Link)) (f_3:(List aV)):Int→Option (aN Int (Ex Unit Int)):=
 fun t8=>
 bif (decide (t8<(s_.length:Int)))then
 (uR (at' s_ t8.toNat) f_ f_1 f_2 f_3).bind fun r_=>
 aL ((0:Int)≤t8∧t8<(s_.length:Int)) (
 bif r_ then
 some (.done (.ret t8))
 else
 some (.next (IntKind.wrap .i64 (t8+1))))
 else
 some (.done (.brk ()))
def oo (s_:(List Source)) (f_:Int) (f_1:(List Source)) (f_2:(List Link)) (f_3:(List aV)):Option Int:=
 Option.bind (aB (kZ s_ f_ f_1 f_2 f_3) FUEL (0)) fun o=>match o with
 | .ret v=>some v
 | .brk _=>
 some (-1)
def iF (s_:(List Source)) (f_:Int) (f_1:(List Source)) (f_2:(List Link)) (f_3:(List aV)):Option Bool:=
 (oo s_ f_ f_1 f_2 f_3).bind fun r_=>
 some (decide (0≤r_))
def rW (l:(List Source)) (most:Int) (right:Int) (right1:(List Source)) (right2:(List Link)) (right3:(List aV)):Option Bool:=
 (bif gB [((decide ((l.length:Int)≤most)),true)]then iF l right right1 right2 right3 else some default).bind fun r_=>
 some (bif (decide ((l.length:Int)≤most))then(!r_)else false)
def lJ (x:Link):Int→Option (aN Int (Ex Unit Bool)):=
 fun t50=>
 bif (decide (t50<(x.trip.length:Int)))then
 aL ((0:Int)≤t50∧t50<(x.trip.length:Int)) (
 (aX ((at' x.trip t50.toNat).amps) 1 1000000).bind fun r_5=>
 (bif gB [((!r_5),false)]then aX ((at' x.trip t50.toNat).millis) 1 100000 else some default).bind fun r_6=>
 aL ((gB [((decide (0<t50)),true),((bif (!r_5)then true else(!r_6)),false)]=true→(0:Int)≤(IntKind.wrap .i64 (t50 - 1))∧(IntKind.wrap .i64 (t50 - 1))<(x.trip.length:Int))∧(gB [((decide (((at' x.trip t50.toNat).amps)≤((at' x.trip ((IntKind.wrap .i64 (t50 - 1)).toNat)).amps))),false),((decide (0<t50)),true),((bif (!r_5)then true else(!r_6)),false)]=true→(0:Int)≤(IntKind.wrap .i64 (t50 - 1))∧(IntKind.wrap .i64 (t50 - 1))<(x.trip.length:Int))) (
 bif (bif (bif (!r_5)then true else(!r_6))then true else(bif (decide (0<t50))then(bif (decide (((at' x.trip t50.toNat).amps)≤((at' x.trip ((IntKind.wrap .i64 (t50 - 1)).toNat)).amps)))then true else(decide (((at' x.trip ((IntKind.wrap .i64 (t50 - 1)).toNat)).millis)≤((at' x.trip t50.toNat).millis))))else false))then
 some (.done (.ret false))
 else
 some (.next (IntKind.wrap .i64 (t50+1)))))
 else
 some (.done (.brk ()))
def oL (x:Link) (x1:Int) (x11:(List Source)) (x12:(List Link)) (x13:(List aV)):Option Bool:=
 (aX x.a 0 (IntKind.wrap .i64 (x1 - 1))).bind fun r_=>
 (bif gB [((!r_),false)]then aX x.b 0 (IntKind.wrap .i64 (x1 - 1))else some default).bind fun r_1=>
 (bif gB [((bif (bif (!r_)then true else(!r_1))then true else(decide (x.a=x.b))),false)]then aX x.kind 1 3 else some default).bind fun r_2=>
 (bif gB [((bif (bif (bif (!r_)then true else(!r_1))then true else(decide (x.a=x.b)))then true else(!r_2)),false)]then aX x.most 1 100000 else some default).bind fun r_3=>
 (bif gB [((bif (bif (bif (bif (!r_)then true else(!r_1))then true else(decide (x.a=x.b)))then true else(!r_2))then true else(!r_3)),false)]then aX x.ohm 10 100000 else some default).bind fun r_4=>
 bif (bif (bif (bif (bif (bif (!r_)then true else(!r_1))then true else(decide (x.a=x.b)))then true else(!r_2))then true else(!r_3))then true else(!r_4))then
 some false
 else
 Option.bind (aB (lJ x) FUEL (0)) fun o=>match o with
 | .ret v=>some v
 | .brk _=>
 some (bif (decide ((x.trip.length:Int)≤6))then(bif (decide ((x.trip.length:Int)=0))then true else(decide (x.kind=3)))else false)
def pF (x:Link) (x1:Int) (x11:(List Source)) (x12:(List Link)) (x13:(List aV)):Option Bool:=
 (oL x x1 x11 x12 x13).bind fun r_=>
 some (!r_)
def jl (s_:(List Link)) (f_:Int) (f_1:(List Source)) (f_2:(List Link)) (f_3:(List aV)):Int→Option (aN Int (Ex Unit Int)):=
 fun t8=>
 bif (decide (t8<(s_.length:Int)))then
 (pF (at' s_ t8.toNat) f_ f_1 f_2 f_3).bind fun r_=>
 aL ((0:Int)≤t8∧t8<(s_.length:Int)) (
 bif r_ then
 some (.done (.ret t8))
 else
 some (.next (IntKind.wrap .i64 (t8+1))))
 else
 some (.done (.brk ()))
def kX (s_:(List Link)) (f_:Int) (f_1:(List Source)) (f_2:(List Link)) (f_3:(List aV)):Option Int:=
 Option.bind (aB (jl s_ f_ f_1 f_2 f_3) FUEL (0)) fun o=>match o with
 | .ret v=>some v
 | .brk _=>
 some (-1)
def fU (s_:(List Link)) (f_:Int) (f_1:(List Source)) (f_2:(List Link)) (f_3:(List aV)):Option Bool:=
 (kX s_ f_ f_1 f_2 f_3).bind fun r_=>
 some (decide (0≤r_))
def pJ (l:(List Link)) (most:Int) (right:Int) (right1:(List Source)) (right2:(List Link)) (right3:(List aV)):Option Bool:=
 (bif gB [((decide ((l.length:Int)≤most)),true)]then fU l right right1 right2 right3 else some default).bind fun r_=>
 some (bif (decide ((l.length:Int)≤most))then(!r_)else false)
def qD (x:aV):Option Int:=
 bif (decide (x.feeds.e1=(-1)))then
 some 1
 else
 some 2
def pQ (x:aV) (x1:Int) (x11:(List Source)) (x12:(List Link)) (x13:(List aV)):Option Bool:=
 (aX x.feeds.e0 0 (IntKind.wrap .i64 (x1 - 1))).bind fun r_=>
 (bif gB [(r_,true)]then aX x.feeds.e1 (-1) (IntKind.wrap .i64 (x1 - 1))else some default).bind fun r_1=>
 (bif gB [((bif (bif r_ then r_1 else false)then(!decide (x.feeds.e0=x.feeds.e1))else false),true)]then aX x.power 1 100000 else some default).bind fun r_2=>
 (bif gB [((bif (bif (bif r_ then r_1 else false)then(!decide (x.feeds.e0=x.feeds.e1))else false)then r_2 else false),true)]then qD x else some default).bind fun r_3=>
 (bif gB [((bif (bif (bif r_ then r_1 else false)then(!decide (x.feeds.e0=x.feeds.e1))else false)then r_2 else false),true)]then aX x.paths 0 r_3 else some default).bind fun r_4=>
 some (bif (bif (bif (bif r_ then r_1 else false)then(!decide (x.feeds.e0=x.feeds.e1))else false)then r_2 else false)then r_4 else false)
def oW (x:aV) (x1:Int) (x11:(List Source)) (x12:(List Link)) (x13:(List aV)):Option Bool:=
 (pQ x x1 x11 x12 x13).bind fun r_=>
 some (!r_)
def jA (s_:(List aV)) (f_:Int) (f_1:(List Source)) (f_2:(List Link)) (f_3:(List aV)):Int→Option (aN Int (Ex Unit Int)):=
 fun t8=>
 bif (decide (t8<(s_.length:Int)))then
 (oW (⟨((at' s_ t8.toNat).feeds),(at' s_ t8.toNat).power,(at' s_ t8.toNat).paths⟩:aV) f_ f_1 f_2 f_3).bind fun r_=>
 aL ((0:Int)≤t8∧t8<(s_.length:Int)) (
 bif r_ then
 some (.done (.ret t8))
 else
 some (.next (IntKind.wrap .i64 (t8+1))))
 else
 some (.done (.brk ()))
def lg (s_:(List aV)) (f_:Int) (f_1:(List Source)) (f_2:(List Link)) (f_3:(List aV)):Option Int:=
 Option.bind (aB (jA s_ f_ f_1 f_2 f_3) FUEL (0)) fun o=>match o with
 | .ret v=>some v
 | .brk _=>
 some (-1)
def fV (s_:(List aV)) (f_:Int) (f_1:(List Source)) (f_2:(List Link)) (f_3:(List aV)):Option Bool:=
 (lg s_ f_ f_1 f_2 f_3).bind fun r_=>
 some (decide (0≤r_))
def o8 (l:(List aV)) (most:Int) (right:Int) (right1:(List Source)) (right2:(List Link)) (right3:(List aV)):Option Bool:=
 (bif gB [((decide ((l.length:Int)≤most)),true)]then fV l right right1 right2 right3 else some default).bind fun r_=>
 some (bif (decide ((l.length:Int)≤most))then(!r_)else false)
def qC (p:aj):Option Int:=
 (aX p.buses 1 24).bind fun r_=>
 bif (!r_)then
 some 10
 else
 (tQ p).bind fun r_1=>
 (rW p.sources 8 r_1.1 r_1.2.1 r_1.2.2.1 r_1.2.2.2).bind fun r_2=>
 bif (!r_2)then
 some 11
 else
 (xB p).bind fun r_3=>
 (pJ p.links 40 r_3.1 r_3.2.1 r_3.2.2.1 r_3.2.2.2).bind fun r_4=>
 bif (!r_4)then
 some 12
 else
 (xG p).bind fun r_5=>
 (o8 p.racks 24 r_5.1 r_5.2.1 r_5.2.2.1 r_5.2.2.2).bind fun r_6=>
 bif (!r_6)then
 some 13
 else
 some 0
def iE (p:aj) (s_:State):Int→Option (aN Int (Ex Unit Int)):=
 fun t55=>
 bif (decide (t55<([(⟨s_.closed,(p.links.length:Int)⟩:di),(⟨s_.locked,(p.links.length:Int)⟩:di),(⟨s_.badLink,(p.links.length:Int)⟩:di),(⟨s_.on_,(p.sources.length:Int)⟩:di),(⟨s_.badSource,(p.sources.length:Int)⟩:di),(⟨s_.earthed,p.buses⟩:di),(⟨s_.badBus,p.buses⟩:di)].length:Int)))then
 aL ((0:Int)≤t55∧t55<([(⟨s_.closed,(p.links.length:Int)⟩:di),(⟨s_.locked,(p.links.length:Int)⟩:di),(⟨s_.badLink,(p.links.length:Int)⟩:di),(⟨s_.on_,(p.sources.length:Int)⟩:di),(⟨s_.badSource,(p.sources.length:Int)⟩:di),(⟨s_.earthed,p.buses⟩:di),(⟨s_.badBus,p.buses⟩:di)].length:Int)) (
 bif (!decide ((((at' [(⟨s_.closed,(p.links.length:Int)⟩:di),(⟨s_.locked,(p.links.length:Int)⟩:di),(⟨s_.badLink,(p.links.length:Int)⟩:di),(⟨s_.on_,(p.sources.length:Int)⟩:di),(⟨s_.badSource,(p.sources.length:Int)⟩:di),(⟨s_.earthed,p.buses⟩:di),(⟨s_.badBus,p.buses⟩:di)] t55.toNat).l).length:Int)=((at' [(⟨s_.closed,(p.links.length:Int)⟩:di),(⟨s_.locked,(p.links.length:Int)⟩:di),(⟨s_.badLink,(p.links.length:Int)⟩:di),(⟨s_.on_,(p.sources.length:Int)⟩:di),(⟨s_.badSource,(p.sources.length:Int)⟩:di),(⟨s_.earthed,p.buses⟩:di),(⟨s_.badBus,p.buses⟩:di)] t55.toNat).n)))then
 some (.done (.ret 9))
 else
 some (.next (IntKind.wrap .i64 (t55+1))))
 else
 some (.done (.brk ()))
def iH (p:aj) (s_:State):Int→Option (aN Int (Ex Unit Int)):=
 fun t69=>
 bif (decide (t69<(p.links.length:Int)))then
 aL ((0:Int)≤t69∧t69<(p.links.length:Int)) (
 aL ((gB [((decide (((at' p.links t69.toNat).kind)=1)),true)]=true→(0:Int)≤t69∧t69<(s_.closed.length:Int))∧(gB [((!(at' s_.closed t69.toNat)),false),((decide (((at' p.links t69.toNat).kind)=1)),true)]=true→(0:Int)≤t69∧t69<(s_.locked.length:Int))) (
 bif (bif (decide (((at' p.links t69.toNat).kind)=1))then(bif (!(at' s_.closed t69.toNat))then true else(at' s_.locked t69.toNat))else false)then
 some (.done (.ret 9))
 else
 some (.next (IntKind.wrap .i64 (t69+1)))))
 else
 some (.done (.brk ()))
def bS (p:aj) (s_:State):Option Int:=
 (qC p).bind fun r_=>
 bif (!decide (r_=0))then
 some r_
 else
 Option.bind (aB (iE p s_) FUEL (0)) fun o=>match o with
 | .ret v=>some v
 | .brk _=>
 Option.bind (aB (iH p s_) FUEL (0)) fun o=>match o with
 | .ret v=>some v
 | .brk _=>
 some 0
def nX (i:Int) (x1:Int):Option Bool:=
 some (bif (decide (i<0))then true else(decide (x1≤i)))
def jm (s_:(List Int)) (f_:Int):Int→Option (aN Int (Ex Unit Int)):=
 fun t8=>
 bif (decide (t8<(s_.length:Int)))then
 (nX (at' s_ t8.toNat) f_).bind fun r_=>
 aL ((0:Int)≤t8∧t8<(s_.length:Int)) (
 bif r_ then
 some (.done (.ret t8))
 else
 some (.next (IntKind.wrap .i64 (t8+1))))
 else
 some (.done (.brk ()))
def kW (s_:(List Int)) (f_:Int):Option Int:=
 Option.bind (aB (jm s_ f_) FUEL (0)) fun o=>match o with
 | .ret v=>some v
 | .brk _=>
 some (-1)
def gD (s_:(List Int)) (f_:Int):Option Bool:=
 (kW s_ f_).bind fun r_=>
 some (decide (0≤r_))
def jK (l:(List Int)) (n:Int):Option Bool:=
 (bif gB [((decide ((l.length:Int)≤24)),true)]then gD l n else some default).bind fun r_=>
 some (bif (decide ((l.length:Int)≤24))then(!r_)else false)
def jT (p:aj) (x:af):Option Bool:=
 bif (decide (x.deed=1))then
 bif (decide (x.deed=1))then
 aL (gB [((bif (decide (0≤x.index))then(decide (x.index<(p.links.length:Int)))else false),true)]=true→(0:Int)≤x.index∧x.index<(p.links.length:Int)) (
 some (bif (bif (decide (0≤x.index))then(decide (x.index<(p.links.length:Int)))else false)then(!decide (((at' p.links x.index.toNat).kind)=1))else false))
 else
 bif (decide (x.deed=3))then
 bif (decide (x.deed=3))then
 some (bif (decide (0≤x.index))then(decide (x.index<p.buses))else false)
 else
 bif (decide (x.deed=7))then
 bif (decide (x.deed=7))then
 some (bif (decide (0≤x.index))then(decide (x.index<(p.sources.length:Int)))else false)
 else
 aL (gB [((bif (decide (0≤x.index))then(decide (x.index<0))else false),true)]=true→(0:Int)≤x.index∧x.index<(p.links.length:Int)) (
 some (bif (bif (decide (0≤x.index))then(decide (x.index<0))else false)then(!decide (((at' p.links x.index.toNat).kind)=1))else false))
 else
 bif (decide (x.deed=8))then
 some (bif (decide (0≤x.index))then(decide (x.index<(p.sources.length:Int)))else false)
 else
 aL (gB [((bif (decide (0≤x.index))then(decide (x.index<0))else false),true)]=true→(0:Int)≤x.index∧x.index<(p.links.length:Int)) (
 some (bif (bif (decide (0≤x.index))then(decide (x.index<0))else false)then(!decide (((at' p.links x.index.toNat).kind)=1))else false))
 else
 bif (decide (x.deed=4))then
 some (bif (decide (0≤x.index))then(decide (x.index<p.buses))else false)
 else
 bif (decide (x.deed=7))then
 bif (decide (x.deed=7))then
 some (bif (decide (0≤x.index))then(decide (x.index<(p.sources.length:Int)))else false)
 else
 aL (gB [((bif (decide (0≤x.index))then(decide (x.index<0))else false),true)]=true→(0:Int)≤x.index∧x.index<(p.links.length:Int)) (
 some (bif (bif (decide (0≤x.index))then(decide (x.index<0))else false)then(!decide (((at' p.links x.index.toNat).kind)=1))else false))
 else
 bif (decide (x.deed=8))then
 some (bif (decide (0≤x.index))then(decide (x.index<(p.sources.length:Int)))else false)
 else
 aL (gB [((bif (decide (0≤x.index))then(decide (x.index<0))else false),true)]=true→(0:Int)≤x.index∧x.index<(p.links.length:Int)) (
 some (bif (bif (decide (0≤x.index))then(decide (x.index<0))else false)then(!decide (((at' p.links x.index.toNat).kind)=1))else false))
 else
 bif (decide (x.deed=2))then
 bif (decide (x.deed=2))then
 aL (gB [((bif (decide (0≤x.index))then(decide (x.index<(p.links.length:Int)))else false),true)]=true→(0:Int)≤x.index∧x.index<(p.links.length:Int)) (
 some (bif (bif (decide (0≤x.index))then(decide (x.index<(p.links.length:Int)))else false)then(!decide (((at' p.links x.index.toNat).kind)=1))else false))
 else
 bif (decide (x.deed=3))then
 bif (decide (x.deed=3))then
 some (bif (decide (0≤x.index))then(decide (x.index<p.buses))else false)
 else
 bif (decide (x.deed=7))then
 bif (decide (x.deed=7))then
 some (bif (decide (0≤x.index))then(decide (x.index<(p.sources.length:Int)))else false)
 else
 aL (gB [((bif (decide (0≤x.index))then(decide (x.index<0))else false),true)]=true→(0:Int)≤x.index∧x.index<(p.links.length:Int)) (
 some (bif (bif (decide (0≤x.index))then(decide (x.index<0))else false)then(!decide (((at' p.links x.index.toNat).kind)=1))else false))
 else
 bif (decide (x.deed=8))then
 some (bif (decide (0≤x.index))then(decide (x.index<(p.sources.length:Int)))else false)
 else
 aL (gB [((bif (decide (0≤x.index))then(decide (x.index<0))else false),true)]=true→(0:Int)≤x.index∧x.index<(p.links.length:Int)) (
 some (bif (bif (decide (0≤x.index))then(decide (x.index<0))else false)then(!decide (((at' p.links x.index.toNat).kind)=1))else false))
 else
 bif (decide (x.deed=4))then
 some (bif (decide (0≤x.index))then(decide (x.index<p.buses))else false)
 else
 bif (decide (x.deed=7))then
 bif (decide (x.deed=7))then
 some (bif (decide (0≤x.index))then(decide (x.index<(p.sources.length:Int)))else false)
 else
 aL (gB [((bif (decide (0≤x.index))then(decide (x.index<0))else false),true)]=true→(0:Int)≤x.index∧x.index<(p.links.length:Int)) (
 some (bif (bif (decide (0≤x.index))then(decide (x.index<0))else false)then(!decide (((at' p.links x.index.toNat).kind)=1))else false))
 else
 bif (decide (x.deed=8))then
 some (bif (decide (0≤x.index))then(decide (x.index<(p.sources.length:Int)))else false)
 else
 aL (gB [((bif (decide (0≤x.index))then(decide (x.index<0))else false),true)]=true→(0:Int)≤x.index∧x.index<(p.links.length:Int)) (
 some (bif (bif (decide (0≤x.index))then(decide (x.index<0))else false)then(!decide (((at' p.links x.index.toNat).kind)=1))else false))
 else
 bif (decide (x.deed=5))then
 bif (decide (x.deed=5))then
 aL (gB [((bif (decide (0≤x.index))then(decide (x.index<(p.links.length:Int)))else false),true)]=true→(0:Int)≤x.index∧x.index<(p.links.length:Int)) (
 some (bif (bif (decide (0≤x.index))then(decide (x.index<(p.links.length:Int)))else false)then(!decide (((at' p.links x.index.toNat).kind)=1))else false))
 else
 bif (decide (x.deed=3))then
 bif (decide (x.deed=3))then
 some (bif (decide (0≤x.index))then(decide (x.index<p.buses))else false)
 else
 bif (decide (x.deed=7))then
 bif (decide (x.deed=7))then
 some (bif (decide (0≤x.index))then(decide (x.index<(p.sources.length:Int)))else false)
 else
 aL (gB [((bif (decide (0≤x.index))then(decide (x.index<0))else false),true)]=true→(0:Int)≤x.index∧x.index<(p.links.length:Int)) (
 some (bif (bif (decide (0≤x.index))then(decide (x.index<0))else false)then(!decide (((at' p.links x.index.toNat).kind)=1))else false))
 else
 bif (decide (x.deed=8))then
 some (bif (decide (0≤x.index))then(decide (x.index<(p.sources.length:Int)))else false)
 else
 aL (gB [((bif (decide (0≤x.index))then(decide (x.index<0))else false),true)]=true→(0:Int)≤x.index∧x.index<(p.links.length:Int)) (
 some (bif (bif (decide (0≤x.index))then(decide (x.index<0))else false)then(!decide (((at' p.links x.index.toNat).kind)=1))else false))
 else
 bif (decide (x.deed=4))then
 some (bif (decide (0≤x.index))then(decide (x.index<p.buses))else false)
 else
 bif (decide (x.deed=7))then
 bif (decide (x.deed=7))then
 some (bif (decide (0≤x.index))then(decide (x.index<(p.sources.length:Int)))else false)
 else
 aL (gB [((bif (decide (0≤x.index))then(decide (x.index<0))else false),true)]=true→(0:Int)≤x.index∧x.index<(p.links.length:Int)) (
 some (bif (bif (decide (0≤x.index))then(decide (x.index<0))else false)then(!decide (((at' p.links x.index.toNat).kind)=1))else false))
 else
 bif (decide (x.deed=8))then
 some (bif (decide (0≤x.index))then(decide (x.index<(p.sources.length:Int)))else false)
 else
 aL (gB [((bif (decide (0≤x.index))then(decide (x.index<0))else false),true)]=true→(0:Int)≤x.index∧x.index<(p.links.length:Int)) (
 some (bif (bif (decide (0≤x.index))then(decide (x.index<0))else false)then(!decide (((at' p.links x.index.toNat).kind)=1))else false))
 else
 bif (decide (x.deed=6))then
 aL (gB [((bif (decide (0≤x.index))then(decide (x.index<(p.links.length:Int)))else false),true)]=true→(0:Int)≤x.index∧x.index<(p.links.length:Int)) (
 some (bif (bif (decide (0≤x.index))then(decide (x.index<(p.links.length:Int)))else false)then(!decide (((at' p.links x.index.toNat).kind)=1))else false))
 else
 bif (decide (x.deed=3))then
 bif (decide (x.deed=3))then
 some (bif (decide (0≤x.index))then(decide (x.index<p.buses))else false)
 else
 bif (decide (x.deed=7))then
 bif (decide (x.deed=7))then
 some (bif (decide (0≤x.index))then(decide (x.index<(p.sources.length:Int)))else false)
 else
 aL (gB [((bif (decide (0≤x.index))then(decide (x.index<0))else false),true)]=true→(0:Int)≤x.index∧x.index<(p.links.length:Int)) (
 some (bif (bif (decide (0≤x.index))then(decide (x.index<0))else false)then(!decide (((at' p.links x.index.toNat).kind)=1))else false))
 else
 bif (decide (x.deed=8))then
 some (bif (decide (0≤x.index))then(decide (x.index<(p.sources.length:Int)))else false)
 else
 aL (gB [((bif (decide (0≤x.index))then(decide (x.index<0))else false),true)]=true→(0:Int)≤x.index∧x.index<(p.links.length:Int)) (
 some (bif (bif (decide (0≤x.index))then(decide (x.index<0))else false)then(!decide (((at' p.links x.index.toNat).kind)=1))else false))
 else
 bif (decide (x.deed=4))then
 some (bif (decide (0≤x.index))then(decide (x.index<p.buses))else false)
 else
 bif (decide (x.deed=7))then
 bif (decide (x.deed=7))then
 some (bif (decide (0≤x.index))then(decide (x.index<(p.sources.length:Int)))else false)
 else
 aL (gB [((bif (decide (0≤x.index))then(decide (x.index<0))else false),true)]=true→(0:Int)≤x.index∧x.index<(p.links.length:Int)) (
 some (bif (bif (decide (0≤x.index))then(decide (x.index<0))else false)then(!decide (((at' p.links x.index.toNat).kind)=1))else false))
 else
 bif (decide (x.deed=8))then
 some (bif (decide (0≤x.index))then(decide (x.index<(p.sources.length:Int)))else false)
 else
 aL (gB [((bif (decide (0≤x.index))then(decide (x.index<0))else false),true)]=true→(0:Int)≤x.index∧x.index<(p.links.length:Int)) (
 some (bif (bif (decide (0≤x.index))then(decide (x.index<0))else false)then(!decide (((at' p.links x.index.toNat).kind)=1))else false))
def nY (x:af) (x1:Int) (x11:(List Source)) (x12:(List Link)) (x13:(List aV)):Option Bool:=
 (jT (⟨x1,x11,x12,x13⟩:aj) x).bind fun r_=>
 some (!r_)
def jE (s_:(List af)) (f_:Int) (f_1:(List Source)) (f_2:(List Link)) (f_3:(List aV)):Int→Option (aN Int (Ex Unit Int)):=
 fun t8=>
 bif (decide (t8<(s_.length:Int)))then
 (nY (at' s_ t8.toNat) f_ f_1 f_2 f_3).bind fun r_=>
 aL ((0:Int)≤t8∧t8<(s_.length:Int)) (
 bif r_ then
 some (.done (.ret t8))
 else
 some (.next (IntKind.wrap .i64 (t8+1))))
 else
 some (.done (.brk ()))
def kV (s_:(List af)) (f_:Int) (f_1:(List Source)) (f_2:(List Link)) (f_3:(List aV)):Option Int:=
 Option.bind (aB (jE s_ f_ f_1 f_2 f_3) FUEL (0)) fun o=>match o with
 | .ret v=>some v
 | .brk _=>
 some (-1)
def gG (s_:(List af)) (f_:Int) (f_1:(List Source)) (f_2:(List Link)) (f_3:(List aV)):Option Bool:=
 (kV s_ f_ f_1 f_2 f_3).bind fun r_=>
 some (decide (0≤r_))
def jO (l:(List af)) (x1:Int) (x11:(List Source)) (x12:(List Link)) (x13:(List aV)):Option Bool:=
 (bif gB [((decide ((l.length:Int)≤24)),true)]then gG l x1 x11 x12 x13 else some default).bind fun r_=>
 some (bif (decide ((l.length:Int)≤24))then(!r_)else false)
def pq (p:aj) (t:Task):Option Bool:=
 (jK t.fed (p.racks.length:Int)).bind fun r_=>
 (bif gB [(r_,true)]then jK t.crew p.buses else some default).bind fun r_1=>
 (bif gB [((bif r_ then r_1 else false),true)]then jO t.allowed p.buses p.sources p.links p.racks else some default).bind fun r_2=>
 (bif gB [((bif (bif r_ then r_1 else false)then r_2 else false),true)]then jO t.goal p.buses p.sources p.links p.racks else some default).bind fun r_3=>
 some (bif (bif (bif r_ then r_1 else false)then r_2 else false)then r_3 else false)
def j3 (p:aj) (s_:State):Option (Int × (List Source) × (List Link) × (List aV) × (List Bool) × (List Bool) × (List Bool) × (List Bool) × (List Bool) × (List Bool) × (List Bool)):=
 some (p.buses,p.sources,p.links,p.racks,s_.closed,s_.locked,s_.badLink,s_.on_,s_.badSource,s_.earthed,s_.badBus)
def eZ (g:aK):Int→Option (aN Int (Ex Unit Int)):=
 fun x1=>
 bif (!((aO aQ x1 g.head).isSome))then
 some (.done (.ret x1))
 else
 some (.next ((aO aQ x1 g.head).getD 0))
def bQ (g:aK) (x:Int):Option Int:=
 Option.bind (aB (eZ g) FUEL (x)) fun o=>match o with
 | .ret v=>some v
 | .brk _=>none
def jG (g:aK) (a:Int) (b:Int):Option (List (Int × Int)):=
 (bQ g a).bind fun r_=>
 (bQ g b).bind fun r_1=>
 bif (!decide (r_=r_1))then
 some (d9 aQ r_ r_1 g.head)
 else
 some g.head
def ja (x22:Int) (x221:Int) (x222:Int) (x223:Int) (x224:Int) (x225:(List oO)) (o_:aK):Option aK:=
 (jG o_ x22 x221).bind fun r_=>
 some (⟨r_⟩:aK)
def dI (x12:(List Link)) (x2:(List Bool)) (x22:(List Bool)) (x26:(List Bool)):((List (Int × Int)) × Int)→Option (aN ((List (Int × Int)) × Int) (Ex (List (Int × Int)) aK)):=
 fun zz=>match zz with
 |(o50,t9)=>
 bif (decide (t9<(x12.length:Int)))then
 aL ((0:Int)≤t9∧t9<(x12.length:Int)) (
 bif (bif (bif (bif (at' x2 t9.toNat)then(!(at' x22 t9.toNat))else false)then(!(at' x26 (((at' x12 t9.toNat).a).toNat)))else false)then(!(at' x26 (((at' x12 t9.toNat).b).toNat)))else false)then
 (ja ((at' x12 t9.toNat).a) ((at' x12 t9.toNat).b) ((at' x12 t9.toNat).kind) ((at' x12 t9.toNat).most) ((at' x12 t9.toNat).ohm) ((at' x12 t9.toNat).trip) (⟨o50⟩:aK)).bind fun r_=>
 aL (((0:Int)≤t9∧t9<(x2.length:Int))∧(gB [((at' x2 t9.toNat),true)]=true→(0:Int)≤t9∧t9<(x22.length:Int))∧(gB [((bif (at' x2 t9.toNat)then(!(at' x22 t9.toNat))else false),true)]=true→(0:Int)≤(at' x12 t9.toNat).a∧(at' x12 t9.toNat).a<(x26.length:Int))∧(gB [((bif (bif (at' x2 t9.toNat)then(!(at' x22 t9.toNat))else false)then(!(at' x26 (((at' x12 t9.toNat).a).toNat)))else false),true)]=true→(0:Int)≤(at' x12 t9.toNat).b∧(at' x12 t9.toNat).b<(x26.length:Int))) (
 some (.next (r_.head,(IntKind.wrap .i64 (t9+1)))))
 else
 aL (((0:Int)≤t9∧t9<(x2.length:Int))∧(gB [((at' x2 t9.toNat),true)]=true→(0:Int)≤t9∧t9<(x22.length:Int))∧(gB [((bif (at' x2 t9.toNat)then(!(at' x22 t9.toNat))else false),true)]=true→(0:Int)≤(at' x12 t9.toNat).a∧(at' x12 t9.toNat).a<(x26.length:Int))∧(gB [((bif (bif (at' x2 t9.toNat)then(!(at' x22 t9.toNat))else false)then(!(at' x26 (((at' x12 t9.toNat).a).toNat)))else false),true)]=true→(0:Int)≤(at' x12 t9.toNat).b∧(at' x12 t9.toNat).b<(x26.length:Int))) (
 some (.next (o50,(IntKind.wrap .i64 (t9+1))))))
 else
 some (.done (.brk o50))
def mE (x1:Int) (x11:(List Source)) (x12:(List Link)) (x13:(List aV)) (x2:(List Bool)) (x21:(List Bool)) (x22:(List Bool)) (x23:(List Bool)) (x24:(List Bool)) (x25:(List Bool)) (x26:(List Bool)) (o_:aK):Option aK:=
 Option.bind (aB (dI x12 x2 x22 x26) FUEL (o_.head,0)) fun o=>match o with
 | .ret v=>some v
 | .brk o501=>
 some (⟨o501⟩:aK)
def bT (p:aj) (s_:State) (r_1:aK):((List aA) × (List (Int × Int)) × Int)→Option (aN ((List aA) × (List (Int × Int)) × Int) (Ex ((List aA) × (List (Int × Int))) (List aA))):=
 fun zz=>match zz with
 |(out,at_,t32)=>
 bif (decide (t32<p.buses))then
 aL ((0:Int)≤t32∧t32<(s_.badBus.length:Int)) (
 bif (at' s_.badBus t32.toNat)then
 some (.next (out,at_,(IntKind.wrap .i64 (t32+1))))
 else
 (bQ r_1 t32).bind fun r_2=>
 bif (!((aO aQ r_2 at_).isSome))then
 aL (((out.length+[(⟨([]:List Int),([]:List Int)⟩:aA)].length)*48≤140737488355328)∧(out.length+[(⟨([]:List Int),([]:List Int)⟩:aA)].length≤4611686018427387904)) (
 aL (((0:Int)≤((aO aQ r_2 (d9 aQ r_2 (out.length:Int) at_)).getD 0)∧((aO aQ r_2 (d9 aQ r_2 (out.length:Int) at_)).getD 0)<((out++[(⟨([]:List Int),([]:List Int)⟩:aA)]).length:Int))∧((((at' (out++[(⟨([]:List Int),([]:List Int)⟩:aA)]) (((aO aQ r_2 (d9 aQ r_2 (out.length:Int) at_)).getD 0).toNat)).buses).length+[t32].length)*8≤140737488355328)∧(((at' (out++[(⟨([]:List Int),([]:List Int)⟩:aA)]) (((aO aQ r_2 (d9 aQ r_2 (out.length:Int) at_)).getD 0).toNat)).buses).length+[t32].length≤4611686018427387904)) (
 some (.next (((out++[(⟨([]:List Int),([]:List Int)⟩:aA)]).set (((aO aQ r_2 (d9 aQ r_2 (out.length:Int) at_)).getD 0).toNat) (⟨(((at' (out++[(⟨([]:List Int),([]:List Int)⟩:aA)]) (((aO aQ r_2 (d9 aQ r_2 (out.length:Int) at_)).getD 0).toNat)).buses)++[t32]),(at' (out++[(⟨([]:List Int),([]:List Int)⟩:aA)]) (((aO aQ r_2 (d9 aQ r_2 (out.length:Int) at_)).getD 0).toNat)).sources⟩:aA)),(d9 aQ r_2 (out.length:Int) at_),(IntKind.wrap .i64 (t32+1))))))
 else
 aL (((0:Int)≤((aO aQ r_2 at_).getD 0)∧((aO aQ r_2 at_).getD 0)<(out.length:Int))∧((((at' out (((aO aQ r_2 at_).getD 0).toNat)).buses).length+[t32].length)*8≤140737488355328)∧(((at' out (((aO aQ r_2 at_).getD 0).toNat)).buses).length+[t32].length≤4611686018427387904)) (
 some (.next ((out.set (((aO aQ r_2 at_).getD 0).toNat) (⟨(((at' out (((aO aQ r_2 at_).getD 0).toNat)).buses)++[t32]),(at' out (((aO aQ r_2 at_).getD 0).toNat)).sources⟩:aA)),at_,(IntKind.wrap .i64 (t32+1))))))
 else
 some (.done (.brk (out,at_)))
def bR (p:aj) (s_:State) (r_1:aK) (at_1:(List (Int × Int))):((List aA) × Int)→Option (aN ((List aA) × Int) (Ex (List aA) (List aA))):=
 fun zz=>match zz with
 |(out2,t78)=>
 bif (decide (t78<(p.sources.length:Int)))then
 aL ((0:Int)≤t78∧t78<(p.sources.length:Int)) (
 aL (((0:Int)≤t78∧t78<(s_.on_.length:Int))∧(gB [((at' s_.on_ t78.toNat),true)]=true→(0:Int)≤t78∧t78<(s_.badSource.length:Int))∧(gB [((bif (at' s_.on_ t78.toNat)then(!(at' s_.badSource t78.toNat))else false),true)]=true→(0:Int)≤(at' p.sources t78.toNat).bus∧(at' p.sources t78.toNat).bus<(s_.badBus.length:Int))) (
 bif (bif (bif (at' s_.on_ t78.toNat)then(!(at' s_.badSource t78.toNat))else false)then(!(at' s_.badBus (((at' p.sources t78.toNat).bus).toNat)))else false)then
 (bQ r_1 ((at' p.sources t78.toNat).bus)).bind fun r_3=>
 aL (((0:Int)≤((aO aQ r_3 at_1).getD 0)∧((aO aQ r_3 at_1).getD 0)<(out2.length:Int))∧((((at' out2 (((aO aQ r_3 at_1).getD 0).toNat)).sources).length+[t78].length)*8≤140737488355328)∧(((at' out2 (((aO aQ r_3 at_1).getD 0).toNat)).sources).length+[t78].length≤4611686018427387904)) (
 some (.next ((out2.set (((aO aQ r_3 at_1).getD 0).toNat) (⟨(at' out2 (((aO aQ r_3 at_1).getD 0).toNat)).buses,(((at' out2 (((aO aQ r_3 at_1).getD 0).toNat)).sources)++[t78])⟩:aA)),(IntKind.wrap .i64 (t78+1)))))
 else
 some (.next (out2,(IntKind.wrap .i64 (t78+1))))))
 else
 some (.done (.brk out2))
def fD (p:aj) (s_:State):Option (List aA):=
 (j3 p s_).bind fun r_=>
 (mE r_.1 r_.2.1 r_.2.2.1 r_.2.2.2.1 r_.2.2.2.2.1 r_.2.2.2.2.2.1 r_.2.2.2.2.2.2.1 r_.2.2.2.2.2.2.2.1 r_.2.2.2.2.2.2.2.2.1 r_.2.2.2.2.2.2.2.2.2.1 r_.2.2.2.2.2.2.2.2.2.2 (⟨([]:(List (Int × Int)))⟩:aK)).bind fun r_1=>
 Option.bind (aB (bT p s_ r_1) FUEL (([]:List aA),([]:(List (Int × Int))),0)) fun o=>match o with
 | .ret v=>some v
 | .brk (out1,at_1)=>
 Option.bind (aB (bR p s_ r_1 at_1) FUEL (out1,0)) fun o=>match o with
 | .ret v=>some v
 | .brk out3=>
 some out3
def kQ (r_1:(List aA)) (t25:Int):((List Bool) × Int)→Option (aN ((List Bool) × Int) (Ex (List Bool) (aN ((List Bool) × Int) (Ex (List Bool) ((List Bool) × Int))))):=
 fun zz=>match zz with
 |(out2,t32)=>
 bif (decide (t32<(((at' r_1 t25.toNat).buses).length:Int)))then
 aL ((0:Int)≤t32∧t32<(((at' r_1 t25.toNat).buses).length:Int)) (
 aL ((0:Int)≤(at' ((at' r_1 t25.toNat).buses) t32.toNat)∧(at' ((at' r_1 t25.toNat).buses) t32.toNat)<(out2.length:Int)) (
 some (.next ((out2.set ((at' ((at' r_1 t25.toNat).buses) t32.toNat).toNat) (decide (0<(((at' r_1 t25.toNat).sources).length:Int)))),(IntKind.wrap .i64 (t32+1))))))
 else
 some (.done (.brk out2))
def kL (r_1:(List aA)):((List Bool) × Int)→Option (aN ((List Bool) × Int) (Ex (List Bool) ((List Bool) × Int))):=
 fun zz=>match zz with
 |(out,t25)=>
 bif (decide (t25<(r_1.length:Int)))then
 aL ((0:Int)≤t25∧t25<(r_1.length:Int)) (
 Option.bind (aB (kQ r_1 t25) FUEL (out,0)) fun o=>match o with
 | .ret v=>some v
 | .brk out3=>
 some (.next (out3,(IntKind.wrap .i64 (t25+1)))))
 else
 some (.done (.brk out))
def fq (p:aj) (s_:State):Option ((List Bool) × Int):=
 (bS p s_).bind fun r_=>
 bif (!decide (r_=0))then
 some (([]:List Bool),r_)
 else
 aL (((0:Int)≤p.buses)∧((1:Int)*p.buses≤281474976710656)∧((p.buses:Int)≤9223372036854775807)) (
 (fD p s_).bind fun r_1=>
 Option.bind (aB (kL r_1) FUEL ((List.replicate p.buses.toNat (false:Bool)),0)) fun o=>match o with
 | .ret v=>some v
 | .brk out1=>
 some (out1,0))
def jJ (p:aj) (r_:((List Bool) × Int)):((List aJ) × Int)→Option (aN ((List aJ) × Int) (Ex (List aJ) ((List aJ) × Int))):=
 fun zz=>match zz with
 |(out,t26)=>
 bif (decide (t26<(p.racks.length:Int)))then
 aL ((0:Int)≤t26∧t26<(p.racks.length:Int)) (
 aL (gB [((decide (0≤(((at' p.racks t26.toNat).feeds).e0))),true)]=true→(0:Int)≤((at' p.racks t26.toNat).feeds).e0∧((at' p.racks t26.toNat).feeds).e0<(r_.1.length:Int)) (
 aL (gB [((decide (0≤(((at' p.racks t26.toNat).feeds).e1))),true)]=true→(0:Int)≤((at' p.racks t26.toNat).feeds).e1∧((at' p.racks t26.toNat).feeds).e1<(r_.1.length:Int)) (
 aL (((out.length+[(⟨(bif (decide (0≤(((at' p.racks t26.toNat).feeds).e0)))then(at' r_.1 ((((at' p.racks t26.toNat).feeds).e0).toNat))else false),(bif (decide (0≤(((at' p.racks t26.toNat).feeds).e1)))then(at' r_.1 ((((at' p.racks t26.toNat).feeds).e1).toNat))else false)⟩:aJ)].length)*2≤140737488355328)∧(out.length+[(⟨(bif (decide (0≤(((at' p.racks t26.toNat).feeds).e0)))then(at' r_.1 ((((at' p.racks t26.toNat).feeds).e0).toNat))else false),(bif (decide (0≤(((at' p.racks t26.toNat).feeds).e1)))then(at' r_.1 ((((at' p.racks t26.toNat).feeds).e1).toNat))else false)⟩:aJ)].length≤4611686018427387904)) (
 some (.next ((out++[(⟨(bif (decide (0≤(((at' p.racks t26.toNat).feeds).e0)))then(at' r_.1 ((((at' p.racks t26.toNat).feeds).e0).toNat))else false),(bif (decide (0≤(((at' p.racks t26.toNat).feeds).e1)))then(at' r_.1 ((((at' p.racks t26.toNat).feeds).e1).toNat))else false)⟩:aJ)]),(IntKind.wrap .i64 (t26+1))))))))
 else
 some (.done (.brk out))
def qV (p:aj) (s_:State):Option ((List aJ) × Int):=
 (fq p s_).bind fun r_=>
 bif (!decide (r_.2=0))then
 some (([]:List aJ),r_.2)
 else
 Option.bind (aB (jJ p r_) FUEL (([]:List aJ),0)) fun o=>match o with
 | .ret v=>some v
 | .brk out1=>
 some (out1,0)
def vk (x:Int):Option Bool:=
 some (!decide (x=x))
def qB (x:Int) (y:Int):Option Int:=
 (vk x).bind fun r_=>
 (vk y).bind fun r_1=>
 bif r_ then
 bif r_1 then
 some 0
 else
 some (-1)
 else
 bif r_1 then
 some 1
 else
 bif (decide (x<y))then
 some (-1)
 else
 bif (decide (y<x))then
 some 1
 else
 some 0
def rP (s1:(List Int)) (s2:(List Int)):Int→Option (aN Int (Ex Unit Int)):=
 fun t11=>
 bif (decide (t11<(s1.length:Int)))then
 aL ((0:Int)≤t11∧t11<(s1.length:Int)) (
 bif (decide ((s2.length:Int)≤t11))then
 some (.done (.ret 1))
 else
 aL ((0:Int)≤t11∧t11<(s2.length:Int)) (
 (qB (at' s1 t11.toNat) (at' s2 t11.toNat)).bind fun r_=>
 bif (!decide (r_=0))then
 some (.done (.ret r_))
 else
 some (.next (IntKind.wrap .i64 (t11+1)))))
 else
 some (.done (.brk ()))
def qg (s1:(List Int)) (s2:(List Int)):Option Int:=
 Option.bind (aB (rP s1 s2) FUEL (0)) fun o=>match o with
 | .ret v=>some v
 | .brk _=>
 bif (decide ((s1.length:Int)<(s2.length:Int)))then
 some (-1)
 else
 some 0
def jh (a:ay) (b:ay):Option Int:=
 (qg [a.e0,a.e1] [b.e0,b.e1]).bind fun r_=>
 some r_
def bA (x y:ay):Int:=(jh x y).getD 0
def gF (s:(List ay)):Option (List ay):=match s with
 |[]=>some []
 |x::xs=>bif decide ((x::xs).length<4611686018427387904)then some ((x::xs).mergeSort fun x y=> !decide (bA y x<0))else none
def kC (p:aj) (r_1:(List aA)) (t24:Int) (t31:Int):((List ay) × Int)→Option (aN ((List ay) × Int) (Ex (List ay) (aN ((List ay) × Int) (Ex (List ay) (aN ((List ay) × Int) (Ex (List ay) ((List ay) × Int))))))):=
 fun zz=>match zz with
 |(out4,t42)=>
 bif (decide (t42<(((((at' r_1 t24.toNat).sources).length - ((IntKind.wrap .i64 (t31+1)).toNat)):Nat):Int)))then
 aL ((0:Int)≤t42∧t42<((((at' r_1 t24.toNat).sources).drop ((IntKind.wrap .i64 (t31+1)).toNat)).length:Int)) (
 aL (((0:Int)≤(at' ((at' r_1 t24.toNat).sources) t31.toNat)∧(at' ((at' r_1 t24.toNat).sources) t31.toNat)<(p.sources.length:Int))∧(gB [((decide (((at' p.sources ((at' ((at' r_1 t24.toNat).sources) t31.toNat).toNat)).sync)=0)),false)]=true→(0:Int)≤(at' ((at' r_1 t24.toNat).sources) t31.toNat)∧(at' ((at' r_1 t24.toNat).sources) t31.toNat)<(p.sources.length:Int))∧(gB [((decide (((at' p.sources ((at' ((at' r_1 t24.toNat).sources) t31.toNat).toNat)).sync)=0)),false)]=true→(0:Int)≤(at' (((at' r_1 t24.toNat).sources).drop ((IntKind.wrap .i64 (t31+1)).toNat)) t42.toNat)∧(at' (((at' r_1 t24.toNat).sources).drop ((IntKind.wrap .i64 (t31+1)).toNat)) t42.toNat)<(p.sources.length:Int))) (
 bif (bif (decide (((at' p.sources ((at' ((at' r_1 t24.toNat).sources) t31.toNat).toNat)).sync)=0))then true else(!decide (((at' p.sources ((at' ((at' r_1 t24.toNat).sources) t31.toNat).toNat)).sync)=((at' p.sources ((at' (((at' r_1 t24.toNat).sources).drop ((IntKind.wrap .i64 (t31+1)).toNat)) t42.toNat).toNat)).sync))))then
 aL (((out4.length+[(⟨(at' ((at' r_1 t24.toNat).sources) t31.toNat),(at' (((at' r_1 t24.toNat).sources).drop ((IntKind.wrap .i64 (t31+1)).toNat)) t42.toNat)⟩:ay)].length)*16≤140737488355328)∧(out4.length+[(⟨(at' ((at' r_1 t24.toNat).sources) t31.toNat),(at' (((at' r_1 t24.toNat).sources).drop ((IntKind.wrap .i64 (t31+1)).toNat)) t42.toNat)⟩:ay)].length≤4611686018427387904)) (
 some (.next ((out4++[(⟨(at' ((at' r_1 t24.toNat).sources) t31.toNat),(at' (((at' r_1 t24.toNat).sources).drop ((IntKind.wrap .i64 (t31+1)).toNat)) t42.toNat)⟩:ay)]),(IntKind.wrap .i64 (t42+1)))))
 else
 some (.next (out4,(IntKind.wrap .i64 (t42+1))))))
 else
 some (.done (.brk out4))
def jY (p:aj) (r_1:(List aA)) (t24:Int):((List ay) × Int)→Option (aN ((List ay) × Int) (Ex (List ay) (aN ((List ay) × Int) (Ex (List ay) ((List ay) × Int))))):=
 fun zz=>match zz with
 |(out2,t31)=>
 bif (decide (t31<(((at' r_1 t24.toNat).sources).length:Int)))then
 aL ((0:Int)≤t31∧t31<(((at' r_1 t24.toNat).sources).length:Int)) (
 aL ((0:Int)≤(IntKind.wrap .i64 (t31+1))∧(IntKind.wrap .i64 (t31+1))≤(((at' r_1 t24.toNat).sources).length:Int)) (
 Option.bind (aB (kC p r_1 t24 t31) FUEL (out2,0)) fun o=>match o with
 | .ret v=>some v
 | .brk out5=>
 some (.next (out5,(IntKind.wrap .i64 (t31+1))))))
 else
 some (.done (.brk out2))
def ig (p:aj) (r_1:(List aA)):((List ay) × Int)→Option (aN ((List ay) × Int) (Ex (List ay) ((List ay) × Int))):=
 fun zz=>match zz with
 |(out,t24)=>
 bif (decide (t24<(r_1.length:Int)))then
 aL ((0:Int)≤t24∧t24<(r_1.length:Int)) (
 Option.bind (aB (jY p r_1 t24) FUEL (out,0)) fun o=>match o with
 | .ret v=>some v
 | .brk out3=>
 some (.next (out3,(IntKind.wrap .i64 (t24+1)))))
 else
 some (.done (.brk out))
def kP (p:aj) (s_:State):Option ((List ay) × Int):=
 (bS p s_).bind fun r_=>
 bif (!decide (r_=0))then
 some (([]:List ay),r_)
 else
 (fD p s_).bind fun r_1=>
 Option.bind (aB (ig p r_1) FUEL (([]:List ay),0)) fun o=>match o with
 | .ret v=>some v
 | .brk out1=>
 (gF out1).bind fun r_2=>
 aL (out1.length=r_2.length) (
 some (r_2,0))
def qY (r_:Int) (x1:(List aJ)):Option Bool:=
 aL (((0:Int)≤r_∧r_<(x1.length:Int))∧(gB [((!((at' x1 r_.toNat).e0)),true)]=true→(0:Int)≤r_∧r_<(x1.length:Int))) (
 some (bif (!((at' x1 r_.toNat).e0))then(!((at' x1 r_.toNat).e1))else false))
def gN (s_:(List Int)) (f_:(List aJ)):Int→Option (aN Int (Ex Unit Int)):=
 fun t8=>
 bif (decide (t8<(s_.length:Int)))then
 (qY (at' s_ t8.toNat) f_).bind fun r_=>
 aL ((0:Int)≤t8∧t8<(s_.length:Int)) (
 bif r_ then
 some (.done (.ret t8))
 else
 some (.next (IntKind.wrap .i64 (t8+1))))
 else
 some (.done (.brk ()))
def jF (s_:(List Int)) (f_:(List aJ)):Option Int:=
 Option.bind (aB (gN s_ f_) FUEL (0)) fun o=>match o with
 | .ret v=>some v
 | .brk _=>
 some (-1)
def fw (s_:(List Int)) (f_:(List aJ)):Option Bool:=
 (jF s_ f_).bind fun r_=>
 some (decide (0≤r_))
def oN (s_:(List Int)) (v_:Int):Int→Option (aN Int (Ex Unit Int)):=
 fun t8=>
 bif (decide (t8<(s_.length:Int)))then
 aL ((0:Int)≤t8∧t8<(s_.length:Int)) (
 bif (decide (v_=(at' s_ t8.toNat)))then
 some (.done (.ret t8))
 else
 some (.next (IntKind.wrap .i64 (t8+1))))
 else
 some (.done (.brk ()))
def sZ (s_:(List Int)) (v_:Int):Option Int:=
 Option.bind (aB (oN s_ v_) FUEL (0)) fun o=>match o with
 | .ret v=>some v
 | .brk _=>
 some (-1)
def je (s_:(List Int)) (v_:Int):Option Bool:=
 (sZ s_ v_).bind fun r_=>
 some (decide (0≤r_))
def q9 (p:aj) (s_:State) (b:Int):Int→Option (aN Int (Ex Unit Bool)):=
 fun t22=>
 bif (decide (t22<(p.sources.length:Int)))then
 aL ((0:Int)≤t22∧t22<(p.sources.length:Int)) (
 aL (gB [((decide (((at' p.sources t22.toNat).bus)=b)),true)]=true→(0:Int)≤t22∧t22<(s_.on_.length:Int)) (
 bif (bif (decide (((at' p.sources t22.toNat).bus)=b))then(at' s_.on_ t22.toNat)else false)then
 some (.done (.ret false))
 else
 some (.next (IntKind.wrap .i64 (t22+1)))))
 else
 some (.done (.brk ()))
def rH (p:aj) (s_:State) (t:Task) (b:Int):Int→Option (aN Int (Ex Unit Bool)):=
 fun t42=>
 bif (decide (t42<(p.links.length:Int)))then
 aL ((0:Int)≤t42∧t42<(p.links.length:Int)) (
 (bif gB [((bif (!decide (((at' p.links t42.toNat).a)=b))then(!decide (((at' p.links t42.toNat).b)=b))else false),false)]then je t.crew (IntKind.wrap .i64 ((IntKind.wrap .i64 (((at' p.links t42.toNat).a)+((at' p.links t42.toNat).b))) - b))else some default).bind fun r_=>
 bif (bif (bif (!decide (((at' p.links t42.toNat).a)=b))then(!decide (((at' p.links t42.toNat).b)=b))else false)then true else r_)then
 some (.next (IntKind.wrap .i64 (t42+1)))
 else
 aL ((gB [((decide (((at' p.links t42.toNat).kind)=1)),false)]=true→(0:Int)≤t42∧t42<(s_.closed.length:Int))∧(gB [((bif (decide (((at' p.links t42.toNat).kind)=1))then true else(at' s_.closed t42.toNat)),false)]=true→(0:Int)≤t42∧t42<(s_.locked.length:Int))) (
 bif (bif (bif (decide (((at' p.links t42.toNat).kind)=1))then true else(at' s_.closed t42.toNat))then true else(!(at' s_.locked t42.toNat)))then
 some (.done (.ret false))
 else
 some (.next (IntKind.wrap .i64 (t42+1)))))
 else
 some (.done (.brk ()))
def su (p:aj) (s_:State) (t:Task) (b:Int):Option Bool:=
 aL ((0:Int)≤b∧b<(s_.earthed.length:Int)) (
 bif (!(at' s_.earthed b.toNat))then
 some false
 else
 Option.bind (aB (q9 p s_ b) FUEL (0)) fun o=>match o with
 | .ret v=>some v
 | .brk _=>
 Option.bind (aB (rH p s_ t b) FUEL (0)) fun o=>match o with
 | .ret v=>some v
 | .brk _=>
 some true)
def rq (b:Int) (x1:Int) (x11:(List Source)) (x12:(List Link)) (x13:(List aV)) (x2:(List Bool)) (x21:(List Bool)) (x22:(List Bool)) (x23:(List Bool)) (x24:(List Bool)) (x25:(List Bool)) (x26:(List Bool)) (x3:(List Int)) (x31:(List Int)) (x32:(List af)) (x33:(List af)):Option Bool:=
 (su (⟨x1,x11,x12,x13⟩:aj) (⟨x2,x21,x22,x23,x24,x25,x26⟩:State) (⟨x3,x31,x32,x33⟩:Task) b).bind fun r_=>
 some (!r_)
def gM (s_:(List Int)) (f_:Int) (f_1:(List Source)) (f_2:(List Link)) (f_3:(List aV)) (f_4:(List Bool)) (f_5:(List Bool)) (f_6:(List Bool)) (f_7:(List Bool)) (f_8:(List Bool)) (f_9:(List Bool)) (f_10:(List Bool)) (f_11:(List Int)) (f_12:(List Int)) (f_13:(List af)) (f_14:(List af)):Int→Option (aN Int (Ex Unit Int)):=
 fun t8=>
 bif (decide (t8<(s_.length:Int)))then
 (rq (at' s_ t8.toNat) f_ f_1 f_2 f_3 f_4 f_5 f_6 f_7 f_8 f_9 f_10 f_11 f_12 f_13 f_14).bind fun r_=>
 aL ((0:Int)≤t8∧t8<(s_.length:Int)) (
 bif r_ then
 some (.done (.ret t8))
 else
 some (.next (IntKind.wrap .i64 (t8+1))))
 else
 some (.done (.brk ()))
def jo (s_:(List Int)) (f_:Int) (f_1:(List Source)) (f_2:(List Link)) (f_3:(List aV)) (f_4:(List Bool)) (f_5:(List Bool)) (f_6:(List Bool)) (f_7:(List Bool)) (f_8:(List Bool)) (f_9:(List Bool)) (f_10:(List Bool)) (f_11:(List Int)) (f_12:(List Int)) (f_13:(List af)) (f_14:(List af)):Option Int:=
 Option.bind (aB (gM s_ f_ f_1 f_2 f_3 f_4 f_5 f_6 f_7 f_8 f_9 f_10 f_11 f_12 f_13 f_14) FUEL (0)) fun o=>match o with
 | .ret v=>some v
 | .brk _=>
 some (-1)
def fA (s_:(List Int)) (f_:Int) (f_1:(List Source)) (f_2:(List Link)) (f_3:(List aV)) (f_4:(List Bool)) (f_5:(List Bool)) (f_6:(List Bool)) (f_7:(List Bool)) (f_8:(List Bool)) (f_9:(List Bool)) (f_10:(List Bool)) (f_11:(List Int)) (f_12:(List Int)) (f_13:(List af)) (f_14:(List af)):Option Bool:=
 (jo s_ f_ f_1 f_2 f_3 f_4 f_5 f_6 f_7 f_8 f_9 f_10 f_11 f_12 f_13 f_14).bind fun r_=>
 some (decide (0≤r_))
def mI (s_:State) (r_:((List Bool) × Int)):Int→Option (aN Int (Ex Unit Int)):=
 fun t23=>
 bif (decide (t23<(r_.1.length:Int)))then
 aL ((0:Int)≤t23∧t23<(r_.1.length:Int)) (
 aL (gB [((at' r_.1 t23.toNat),true)]=true→(0:Int)≤t23∧t23<(s_.earthed.length:Int)) (
 bif (bif (at' r_.1 t23.toNat)then(at' s_.earthed t23.toNat)else false)then
 some (.done (.ret 40))
 else
 some (.next (IntKind.wrap .i64 (t23+1)))))
 else
 some (.done (.brk ()))
def ny (p:aj) (s_:State) (t:Task):Option Int:=
 (fq p s_).bind fun r_=>
 Option.bind (aB (mI s_ r_) FUEL (0)) fun o=>match o with
 | .ret v=>some v
 | .brk _=>
 (kP p s_).bind fun r_1=>
 bif (decide (0<(r_1.1.length:Int)))then
 some 41
 else
 (qV p s_).bind fun r_2=>
 (fw t.fed r_2.1).bind fun r_3=>
 bif r_3 then
 some 42
 else
 (fA t.crew p.buses p.sources p.links p.racks s_.closed s_.locked s_.badLink s_.on_ s_.badSource s_.earthed s_.badBus t.fed t.crew t.allowed t.goal).bind fun r_4=>
 bif r_4 then
 some 45
 else
 some 0
def eH (p:aj) (s_:State) (t:Task):Option Int:=
 (bS p s_).bind fun r_=>
 bif (!decide (r_=0))then
 some r_
 else
 (pq p t).bind fun r_1=>
 bif (!r_1)then
 some 1
 else
 (ny p s_ t).bind fun r_2=>
 some r_2
def nI (s_:State):Option (List Bool):=
 some (GU 280 (GU 280 (GU 280 (GU 280 (GU 280 (GU 280 (GU 280 (List.replicate 280 false) 0 s_.closed (Nat.min s_.closed.length 280)) 40 s_.locked (Nat.min s_.locked.length 240)) 80 s_.badLink (Nat.min s_.badLink.length 200)) 120 s_.on_ (Nat.min s_.on_.length 160)) 160 s_.badSource (Nat.min s_.badSource.length 120)) 200 s_.earthed (Nat.min s_.earthed.length 80)) 240 s_.badBus (Nat.min s_.badBus.length 40))
def pI (s_:(List Bool)) (s_nn:Bool):Option (List Bool):=
 bif (!s_nn)then
 some ([]:List Bool)
 else
 aL (((([]:List Bool).length+s_.length)*1≤140737488355328)∧(([]:List Bool).length+s_.length≤4611686018427387904)) (
 some (([]:List Bool)++s_))
def au (s:(List Bool)):Option (List Bool):=pI s true
def jQ (s_:State):Option State:=
 aL ((0:Int)≤0∧0<(7:Int)) (
 (au s_.closed).bind fun r_=>
 aL ((0:Int)≤1∧1<(7:Int)) (
 (au s_.locked).bind fun r_1=>
 aL ((0:Int)≤2∧2<(7:Int)) (
 (au s_.badLink).bind fun r_2=>
 aL ((0:Int)≤3∧3<(7:Int)) (
 (au s_.on_).bind fun r_3=>
 aL ((0:Int)≤4∧4<(7:Int)) (
 (au s_.badSource).bind fun r_4=>
 aL ((0:Int)≤5∧5<(7:Int)) (
 (au s_.earthed).bind fun r_5=>
 aL ((0:Int)≤6∧6<(7:Int)) (
 (au s_.badBus).bind fun r_6=>
 some (⟨r_,r_1,r_2,r_3,r_4,r_5,r_6⟩:State))))))))
def nH:Option Unit:=
 some ()
def nP (s_:(List Bool)) (s_1:(List Bool)) (s_2:(List Bool)) (s_3:(List Bool)) (s_4:(List Bool)) (s_5:(List Bool)) (s_6:(List Bool)):Option ((List Bool) × (List Bool) × (List Bool) × (List Bool) × (List Bool) × (List Bool) × (List Bool)):=
 some (s_,s_1,s_2,s_3,s_4,s_5,s_6)
def nN (s_:(List Bool)) (s_1:(List Bool)) (s_2:(List Bool)) (s_3:(List Bool)) (s_4:(List Bool)) (s_5:(List Bool)) (s_6:(List Bool)):Option ((List Bool) × (List Bool) × (List Bool) × (List Bool) × (List Bool) × (List Bool) × (List Bool)):=
 some (s_,s_1,s_2,s_3,s_4,s_5,s_6)
def nR (s_:(List Bool)) (s_1:(List Bool)) (s_2:(List Bool)) (s_3:(List Bool)) (s_4:(List Bool)) (s_5:(List Bool)) (s_6:(List Bool)):Option ((List Bool) × (List Bool) × (List Bool) × (List Bool) × (List Bool) × (List Bool) × (List Bool)):=
 some (s_,s_1,s_2,s_3,s_4,s_5,s_6)
def nU (s_:(List Bool)) (s_1:(List Bool)) (s_2:(List Bool)) (s_3:(List Bool)) (s_4:(List Bool)) (s_5:(List Bool)) (s_6:(List Bool)):Option ((List Bool) × (List Bool) × (List Bool) × (List Bool) × (List Bool) × (List Bool) × (List Bool)):=
 some (s_,s_1,s_2,s_3,s_4,s_5,s_6)
def kT (s_:State) (x:af):Option Bool:=
 (nH).bind fun r_=>
 bif (aQ x.deed 1)then
 (nP s_.closed s_.locked s_.badLink s_.on_ s_.badSource s_.earthed s_.badBus).bind fun r_1=>
 aL ((0:Int)≤x.index∧x.index<(r_1.1.length:Int)) (
 some ((at' r_1.1 x.index.toNat)==false))
 else
 bif (aQ x.deed 2)then
 (nP s_.closed s_.locked s_.badLink s_.on_ s_.badSource s_.earthed s_.badBus).bind fun r_2=>
 aL ((0:Int)≤x.index∧x.index<(r_2.1.length:Int)) (
 some ((at' r_2.1 x.index.toNat)==true))
 else
 bif (aQ x.deed 3)then
 (nN s_.closed s_.locked s_.badLink s_.on_ s_.badSource s_.earthed s_.badBus).bind fun r_3=>
 aL ((0:Int)≤x.index∧x.index<(r_3.2.2.2.2.2.1.length:Int)) (
 some ((at' r_3.2.2.2.2.2.1 x.index.toNat)==true))
 else
 bif (aQ x.deed 4)then
 (nN s_.closed s_.locked s_.badLink s_.on_ s_.badSource s_.earthed s_.badBus).bind fun r_4=>
 aL ((0:Int)≤x.index∧x.index<(r_4.2.2.2.2.2.1.length:Int)) (
 some ((at' r_4.2.2.2.2.2.1 x.index.toNat)==false))
 else
 bif (aQ x.deed 5)then
 (nR s_.closed s_.locked s_.badLink s_.on_ s_.badSource s_.earthed s_.badBus).bind fun r_5=>
 aL ((0:Int)≤x.index∧x.index<(r_5.2.1.length:Int)) (
 some ((at' r_5.2.1 x.index.toNat)==true))
 else
 bif (aQ x.deed 6)then
 (nR s_.closed s_.locked s_.badLink s_.on_ s_.badSource s_.earthed s_.badBus).bind fun r_6=>
 aL ((0:Int)≤x.index∧x.index<(r_6.2.1.length:Int)) (
 some ((at' r_6.2.1 x.index.toNat)==false))
 else
 bif (aQ x.deed 7)then
 (nU s_.closed s_.locked s_.badLink s_.on_ s_.badSource s_.earthed s_.badBus).bind fun r_7=>
 aL ((0:Int)≤x.index∧x.index<(r_7.2.2.2.1.length:Int)) (
 some ((at' r_7.2.2.2.1 x.index.toNat)==true))
 else
 bif (aQ x.deed 8)then
 (nU s_.closed s_.locked s_.badLink s_.on_ s_.badSource s_.earthed s_.badBus).bind fun r_8=>
 aL ((0:Int)≤x.index∧x.index<(r_8.2.2.2.1.length:Int)) (
 some ((at' r_8.2.2.2.1 x.index.toNat)==false))
 else
 none
def vQ (x:af) (x1:(List Bool)) (x11:(List Bool)) (x12:(List Bool)) (x13:(List Bool)) (x14:(List Bool)) (x15:(List Bool)) (x16:(List Bool)):Option Bool:=
 (kT (⟨x1,x11,x12,x13,x14,x15,x16⟩:State) x).bind fun r_=>
 some (!r_)
def gQ (s_:(List af)) (f_:(List Bool)) (f_1:(List Bool)) (f_2:(List Bool)) (f_3:(List Bool)) (f_4:(List Bool)) (f_5:(List Bool)) (f_6:(List Bool)):Int→Option (aN Int (Ex Unit Int)):=
 fun t8=>
 bif (decide (t8<(s_.length:Int)))then
 (vQ (at' s_ t8.toNat) f_ f_1 f_2 f_3 f_4 f_5 f_6).bind fun r_=>
 aL ((0:Int)≤t8∧t8<(s_.length:Int)) (
 bif r_ then
 some (.done (.ret t8))
 else
 some (.next (IntKind.wrap .i64 (t8+1))))
 else
 some (.done (.brk ()))
def jr (s_:(List af)) (f_:(List Bool)) (f_1:(List Bool)) (f_2:(List Bool)) (f_3:(List Bool)) (f_4:(List Bool)) (f_5:(List Bool)) (f_6:(List Bool)):Option Int:=
 Option.bind (aB (gQ s_ f_ f_1 f_2 f_3 f_4 f_5 f_6) FUEL (0)) fun o=>match o with
 | .ret v=>some v
 | .brk _=>
 some (-1)
def fo (s_:(List af)) (f_:(List Bool)) (f_1:(List Bool)) (f_2:(List Bool)) (f_3:(List Bool)) (f_4:(List Bool)) (f_5:(List Bool)) (f_6:(List Bool)):Option Bool:=
 (jr s_ f_ f_1 f_2 f_3 f_4 f_5 f_6).bind fun r_=>
 some (decide (0≤r_))
def mr (s_:State) (l:(List af)):Option Bool:=
 (fo l s_.closed s_.locked s_.badLink s_.on_ s_.badSource s_.earthed s_.badBus).bind fun r_=>
 some (!r_)
def dO (s_:State) (from_:Int) (by_:af) (search:Search):Option (Bool × Search):=
 (nI s_).bind fun r_=>
 bif ((aO (sK 280) r_ search.known).getD false)then
 some (false,search)
 else
 aL (((search.l.length+[(⟨s_,from_,by_⟩:Reached)].length)*192≤140737488355328)∧(search.l.length+[(⟨s_,from_,by_⟩:Reached)].length≤4611686018427387904)) (
 some (true,(⟨(search.l++[(⟨s_,from_,by_⟩:Reached)]),(d9 (sK 280) r_ true search.known)⟩:Search)))
def dh (search:Search):Option Unit:=
 some ()
def rE:Option Unit:=
 some ()
def pU (p:aj) (s_:State) (x:af):Option Bool:=
 (jT p x).bind fun r_=>
 some (!r_)
def o6 (p:aj) (s_:State) (x:af):Option Bool:=
 (kT s_ x).bind fun r_=>
 some r_
def fK (x:af):Option Bool:=
 some (bif (decide (x.deed=1))then true else(decide (x.deed=2)))
def xE (x:af):Option Bool:=
 some (bif (decide (x.deed=7))then true else(decide (x.deed=8)))
def lY (p:aj) (s_:State) (x:af):Option Bool:=
 (fK x).bind fun r_=>
 (bif gB [((bif r_ then(at' s_.badLink x.index.toNat)else false),false)]then xE x else some default).bind fun r_1=>
 aL ((gB [(r_,true)]=true→(0:Int)≤x.index∧x.index<(s_.badLink.length:Int))∧(gB [(r_1,true),((bif r_ then(at' s_.badLink x.index.toNat)else false),false)]=true→(0:Int)≤x.index∧x.index<(s_.badSource.length:Int))) (
 some (bif (bif r_ then(at' s_.badLink x.index.toNat)else false)then true else(bif r_1 then(at' s_.badSource x.index.toNat)else false)))
def lN (p:aj) (s_:State) (x:af):Option Bool:=
 (fK x).bind fun r_=>
 aL (gB [(r_,true)]=true→(0:Int)≤x.index∧x.index<(s_.locked.length:Int)) (
 some (bif r_ then(at' s_.locked x.index.toNat)else false))
def ko (state:State):Option Unit:=
 some ()
def j4 (state:State):Option Unit:=
 some ()
def kG (state:State):Option Unit:=
 some ()
def j6 (state:State):Option Unit:=
 some ()
def mH (s_:State) (x:af):Option State:=
 (nH).bind fun r_=>
 bif (aQ x.deed 1)then
 aL ((0:Int)≤0∧0<(7:Int)) (
 (au s_.closed).bind fun r_1=>
 aL ((0:Int)≤1∧1<(7:Int)) (
 (au s_.locked).bind fun r_2=>
 aL ((0:Int)≤2∧2<(7:Int)) (
 (au s_.badLink).bind fun r_3=>
 aL ((0:Int)≤3∧3<(7:Int)) (
 (au s_.on_).bind fun r_4=>
 aL ((0:Int)≤4∧4<(7:Int)) (
 (au s_.badSource).bind fun r_5=>
 aL ((0:Int)≤5∧5<(7:Int)) (
 (au s_.earthed).bind fun r_6=>
 aL ((0:Int)≤6∧6<(7:Int)) (
 (au s_.badBus).bind fun r_7=>
 (ko (⟨r_1,r_2,r_3,r_4,r_5,r_6,r_7⟩:State)).bind fun r_8=>
 aL ((0:Int)≤x.index∧x.index<(r_1.length:Int)) (
 some (⟨(r_1.set x.index.toNat false),r_2,r_3,r_4,r_5,r_6,r_7⟩:State)))))))))
 else
 bif (aQ x.deed 2)then
 aL ((0:Int)≤0∧0<(7:Int)) (
 (au s_.closed).bind fun r_9=>
 aL ((0:Int)≤1∧1<(7:Int)) (
 (au s_.locked).bind fun r_10=>
 aL ((0:Int)≤2∧2<(7:Int)) (
 (au s_.badLink).bind fun r_11=>
 aL ((0:Int)≤3∧3<(7:Int)) (
 (au s_.on_).bind fun r_12=>
 aL ((0:Int)≤4∧4<(7:Int)) (
 (au s_.badSource).bind fun r_13=>
 aL ((0:Int)≤5∧5<(7:Int)) (
 (au s_.earthed).bind fun r_14=>
 aL ((0:Int)≤6∧6<(7:Int)) (
 (au s_.badBus).bind fun r_15=>
 (ko (⟨r_9,r_10,r_11,r_12,r_13,r_14,r_15⟩:State)).bind fun r_16=>
 aL ((0:Int)≤x.index∧x.index<(r_9.length:Int)) (
 some (⟨(r_9.set x.index.toNat true),r_10,r_11,r_12,r_13,r_14,r_15⟩:State)))))))))
 else
 bif (aQ x.deed 3)then
 aL ((0:Int)≤0∧0<(7:Int)) (
 (au s_.closed).bind fun r_17=>
 aL ((0:Int)≤1∧1<(7:Int)) (
 (au s_.locked).bind fun r_18=>
 aL ((0:Int)≤2∧2<(7:Int)) (
 (au s_.badLink).bind fun r_19=>
 aL ((0:Int)≤3∧3<(7:Int)) (
 (au s_.on_).bind fun r_20=>
 aL ((0:Int)≤4∧4<(7:Int)) (
 (au s_.badSource).bind fun r_21=>
 aL ((0:Int)≤5∧5<(7:Int)) (
 (au s_.earthed).bind fun r_22=>
 aL ((0:Int)≤6∧6<(7:Int)) (
 (au s_.badBus).bind fun r_23=>
 (j4 (⟨r_17,r_18,r_19,r_20,r_21,r_22,r_23⟩:State)).bind fun r_24=>
 aL ((0:Int)≤x.index∧x.index<(r_22.length:Int)) (
 some (⟨r_17,r_18,r_19,r_20,r_21,(r_22.set x.index.toNat true),r_23⟩:State)))))))))
 else
 bif (aQ x.deed 4)then
 aL ((0:Int)≤0∧0<(7:Int)) (
 (au s_.closed).bind fun r_25=>
 aL ((0:Int)≤1∧1<(7:Int)) (
 (au s_.locked).bind fun r_26=>
 aL ((0:Int)≤2∧2<(7:Int)) (
 (au s_.badLink).bind fun r_27=>
 aL ((0:Int)≤3∧3<(7:Int)) (
 (au s_.on_).bind fun r_28=>
 aL ((0:Int)≤4∧4<(7:Int)) (
 (au s_.badSource).bind fun r_29=>
 aL ((0:Int)≤5∧5<(7:Int)) (
 (au s_.earthed).bind fun r_30=>
 aL ((0:Int)≤6∧6<(7:Int)) (
 (au s_.badBus).bind fun r_31=>
 (j4 (⟨r_25,r_26,r_27,r_28,r_29,r_30,r_31⟩:State)).bind fun r_32=>
 aL ((0:Int)≤x.index∧x.index<(r_30.length:Int)) (
 some (⟨r_25,r_26,r_27,r_28,r_29,(r_30.set x.index.toNat false),r_31⟩:State)))))))))
 else
 bif (aQ x.deed 5)then
 aL ((0:Int)≤0∧0<(7:Int)) (
 (au s_.closed).bind fun r_33=>
 aL ((0:Int)≤1∧1<(7:Int)) (
 (au s_.locked).bind fun r_34=>
 aL ((0:Int)≤2∧2<(7:Int)) (
 (au s_.badLink).bind fun r_35=>
 aL ((0:Int)≤3∧3<(7:Int)) (
 (au s_.on_).bind fun r_36=>
 aL ((0:Int)≤4∧4<(7:Int)) (
 (au s_.badSource).bind fun r_37=>
 aL ((0:Int)≤5∧5<(7:Int)) (
 (au s_.earthed).bind fun r_38=>
 aL ((0:Int)≤6∧6<(7:Int)) (
 (au s_.badBus).bind fun r_39=>
 (kG (⟨r_33,r_34,r_35,r_36,r_37,r_38,r_39⟩:State)).bind fun r_40=>
 aL ((0:Int)≤x.index∧x.index<(r_34.length:Int)) (
 some (⟨r_33,(r_34.set x.index.toNat true),r_35,r_36,r_37,r_38,r_39⟩:State)))))))))
 else
 bif (aQ x.deed 6)then
 aL ((0:Int)≤0∧0<(7:Int)) (
 (au s_.closed).bind fun r_41=>
 aL ((0:Int)≤1∧1<(7:Int)) (
 (au s_.locked).bind fun r_42=>
 aL ((0:Int)≤2∧2<(7:Int)) (
 (au s_.badLink).bind fun r_43=>
 aL ((0:Int)≤3∧3<(7:Int)) (
 (au s_.on_).bind fun r_44=>
 aL ((0:Int)≤4∧4<(7:Int)) (
 (au s_.badSource).bind fun r_45=>
 aL ((0:Int)≤5∧5<(7:Int)) (
 (au s_.earthed).bind fun r_46=>
 aL ((0:Int)≤6∧6<(7:Int)) (
 (au s_.badBus).bind fun r_47=>
 (kG (⟨r_41,r_42,r_43,r_44,r_45,r_46,r_47⟩:State)).bind fun r_48=>
 aL ((0:Int)≤x.index∧x.index<(r_42.length:Int)) (
 some (⟨r_41,(r_42.set x.index.toNat false),r_43,r_44,r_45,r_46,r_47⟩:State)))))))))
 else
 bif (aQ x.deed 7)then
 aL ((0:Int)≤0∧0<(7:Int)) (
 (au s_.closed).bind fun r_49=>
 aL ((0:Int)≤1∧1<(7:Int)) (
 (au s_.locked).bind fun r_50=>
 aL ((0:Int)≤2∧2<(7:Int)) (
 (au s_.badLink).bind fun r_51=>
 aL ((0:Int)≤3∧3<(7:Int)) (
 (au s_.on_).bind fun r_52=>
 aL ((0:Int)≤4∧4<(7:Int)) (
 (au s_.badSource).bind fun r_53=>
 aL ((0:Int)≤5∧5<(7:Int)) (
 (au s_.earthed).bind fun r_54=>
 aL ((0:Int)≤6∧6<(7:Int)) (
 (au s_.badBus).bind fun r_55=>
 (j6 (⟨r_49,r_50,r_51,r_52,r_53,r_54,r_55⟩:State)).bind fun r_56=>
 aL ((0:Int)≤x.index∧x.index<(r_52.length:Int)) (
 some (⟨r_49,r_50,r_51,(r_52.set x.index.toNat true),r_53,r_54,r_55⟩:State)))))))))
 else
 bif (aQ x.deed 8)then
 aL ((0:Int)≤0∧0<(7:Int)) (
 (au s_.closed).bind fun r_57=>
 aL ((0:Int)≤1∧1<(7:Int)) (
 (au s_.locked).bind fun r_58=>
 aL ((0:Int)≤2∧2<(7:Int)) (
 (au s_.badLink).bind fun r_59=>
 aL ((0:Int)≤3∧3<(7:Int)) (
 (au s_.on_).bind fun r_60=>
 aL ((0:Int)≤4∧4<(7:Int)) (
 (au s_.badSource).bind fun r_61=>
 aL ((0:Int)≤5∧5<(7:Int)) (
 (au s_.earthed).bind fun r_62=>
 aL ((0:Int)≤6∧6<(7:Int)) (
 (au s_.badBus).bind fun r_63=>
 (j6 (⟨r_57,r_58,r_59,r_60,r_61,r_62,r_63⟩:State)).bind fun r_64=>
 aL ((0:Int)≤x.index∧x.index<(r_60.length:Int)) (
 some (⟨r_57,r_58,r_59,(r_60.set x.index.toNat false),r_61,r_62,r_63⟩:State)))))))))
 else
 aL ((0:Int)≤0∧0<(7:Int)) (
 (au s_.closed).bind fun r_65=>
 aL ((0:Int)≤1∧1<(7:Int)) (
 (au s_.locked).bind fun r_66=>
 aL ((0:Int)≤2∧2<(7:Int)) (
 (au s_.badLink).bind fun r_67=>
 aL ((0:Int)≤3∧3<(7:Int)) (
 (au s_.on_).bind fun r_68=>
 aL ((0:Int)≤4∧4<(7:Int)) (
 (au s_.badSource).bind fun r_69=>
 aL ((0:Int)≤5∧5<(7:Int)) (
 (au s_.earthed).bind fun r_70=>
 aL ((0:Int)≤6∧6<(7:Int)) (
 (au s_.badBus).bind fun r_71=>
 none)))))))
def kK (p:aj) (s_:State):Option ((List aA) × Int):=
 (bS p s_).bind fun r_=>
 bif (!decide (r_=0))then
 some (([]:List aA),r_)
 else
 (fD p s_).bind fun r_1=>
 some (r_1,0)
def qi (x:aA) (x1:Int):Option Bool:=
 (je x.buses x1).bind fun r_=>
 some r_
def fT (s_:(List aA)) (f_:Int):Int→Option (aN Int (Ex Unit Int)):=
 fun t8=>
 bif (decide (t8<(s_.length:Int)))then
 (qi (at' s_ t8.toNat) f_).bind fun r_=>
 aL ((0:Int)≤t8∧t8<(s_.length:Int)) (
 bif r_ then
 some (.done (.ret t8))
 else
 some (.next (IntKind.wrap .i64 (t8+1))))
 else
 some (.done (.brk ()))
def eB (s_:(List aA)) (f_:Int):Option Int:=
 Option.bind (aB (fT s_ f_) FUEL (0)) fun o=>match o with
 | .ret v=>some v
 | .brk _=>
 some (-1)
def iy (b:Int) (x1:(List aA)):Option Int:=
 (eB x1 b).bind fun r_=>
 some r_
def rV (p:aj) (s_:State) (i:Int):Option Bool:=
 aL ((0:Int)≤i∧i<(s_.closed.length:Int)) (
 bif (at' s_.closed i.toNat)then
 (mH s_ (⟨1,i⟩:af)).bind fun r_=>
 (kK p r_).bind fun r_1=>
 (iy ((at' p.links i.toNat).a) r_1.1).bind fun r_2=>
 (iy ((at' p.links i.toNat).b) r_1.1).bind fun r_3=>
 aL ((0:Int)≤i∧i<(p.links.length:Int)) (
 aL ((gB [((bif (bif (decide (0≤r_2))then(decide (0≤r_3))else false)then(!decide (r_2=r_3))else false),true)]=true→(0:Int)≤r_2∧r_2<(r_1.1.length:Int))∧(gB [((bif (bif (decide (0≤r_2))then(decide (0≤r_3))else false)then(!decide (r_2=r_3))else false),true)]=true→(0:Int)≤r_3∧r_3<(r_1.1.length:Int))) (
 some (bif (bif (bif (decide (0≤r_2))then(decide (0≤r_3))else false)then(!decide (r_2=r_3))else false)then(decide (0<(IntKind.wrap .i64 ((((at' r_1.1 r_2.toNat).sources).length:Int)+(((at' r_1.1 r_3.toNat).sources).length:Int)))))else false)))
 else
 (kK p s_).bind fun r_4=>
 (iy ((at' p.links i.toNat).a) r_4.1).bind fun r_5=>
 (iy ((at' p.links i.toNat).b) r_4.1).bind fun r_6=>
 aL ((0:Int)≤i∧i<(p.links.length:Int)) (
 aL ((gB [((bif (bif (decide (0≤r_5))then(decide (0≤r_6))else false)then(!decide (r_5=r_6))else false),true)]=true→(0:Int)≤r_5∧r_5<(r_4.1.length:Int))∧(gB [((bif (bif (decide (0≤r_5))then(decide (0≤r_6))else false)then(!decide (r_5=r_6))else false),true)]=true→(0:Int)≤r_6∧r_6<(r_4.1.length:Int))) (
 some (bif (bif (bif (decide (0≤r_5))then(decide (0≤r_6))else false)then(!decide (r_5=r_6))else false)then(decide (0<(IntKind.wrap .i64 ((((at' r_4.1 r_5.toNat).sources).length:Int)+(((at' r_4.1 r_6.toNat).sources).length:Int)))))else false))))
def lK (p:aj) (s_:State) (x:af):Option Bool:=
 (fK x).bind fun r_=>
 (bif gB [((bif r_ then(decide (((at' p.links x.index.toNat).kind)=2))else false),true)]then rV p s_ x.index else some default).bind fun r_1=>
 aL (gB [(r_,true)]=true→(0:Int)≤x.index∧x.index<(p.links.length:Int)) (
 some (bif (bif r_ then(decide (((at' p.links x.index.toNat).kind)=2))else false)then r_1 else false))
def uq (p:aj) (s_:State) (x:af):Option (State × Int):=
 (rE).bind fun r_=>
 (pU p s_ x).bind fun r_1=>
 bif r_1 then
 some ((⟨([]:List Bool),([]:List Bool),([]:List Bool),([]:List Bool),([]:List Bool),([]:List Bool),([]:List Bool)⟩:State),1)
 else
 (o6 p s_ x).bind fun r_2=>
 bif r_2 then
 some ((⟨([]:List Bool),([]:List Bool),([]:List Bool),([]:List Bool),([]:List Bool),([]:List Bool),([]:List Bool)⟩:State),46)
 else
 (lY p s_ x).bind fun r_3=>
 bif r_3 then
 some ((⟨([]:List Bool),([]:List Bool),([]:List Bool),([]:List Bool),([]:List Bool),([]:List Bool),([]:List Bool)⟩:State),47)
 else
 (lN p s_ x).bind fun r_4=>
 bif r_4 then
 some ((⟨([]:List Bool),([]:List Bool),([]:List Bool),([]:List Bool),([]:List Bool),([]:List Bool),([]:List Bool)⟩:State),43)
 else
 (lK p s_ x).bind fun r_5=>
 bif r_5 then
 some ((⟨([]:List Bool),([]:List Bool),([]:List Bool),([]:List Bool),([]:List Bool),([]:List Bool),([]:List Bool)⟩:State),44)
 else
 (mH s_ x).bind fun r_6=>
 some (r_6,0)
def ni (p:aj) (s_:State) (t:Task) (x:af):Option (State × Int):=
 (uq p s_ x).bind fun r_=>
 bif (decide (r_.2=0))then
 (ny p r_.1 t).bind fun r_1=>
 some (r_.1,r_1)
 else
 some (r_.1,r_.2)
def bP (x50:Int) (x51:(List Bool)) (x511:(List Bool)) (x512:(List Bool)) (x513:(List Bool)) (x514:(List Bool)) (x515:(List Bool)) (x516:(List Bool)) (plant:aj) (task:Task) (int:Int) (step:(List af)) (state:(List State)) (errno:Int):((List Reached) × (List ((List Bool) × Bool)) × Int × Int)→Option (aN ((List Reached) × (List ((List Bool) × Bool)) × Int × Int) (Ex ((List Reached) × (List ((List Bool) × Bool)) × Int) (Nat × (List af) × (List State) × Int × Int × Search))):=
 fun zz=>match zz with
 |(o1200,o1201,o130,t55)=>
 bif (decide (t55<(task.allowed.length:Int)))then
 aL ((0:Int)≤t55∧t55<(task.allowed.length:Int)) (
 bif (decide (0≤o130))then
 some (.done (.ret (2,step,state,errno,o130,(⟨o1200,o1201⟩:Search))))
 else
 (ni plant (⟨x51,x511,x512,x513,x514,x515,x516⟩:State) task (at' task.allowed t55.toNat)).bind fun r_=>
 bif (!decide (r_.2=0))then
 some (.next (o1200,o1201,o130,(IntKind.wrap .i64 (t55+1))))
 else
 (dO r_.1 x50 (at' task.allowed t55.toNat) (⟨o1200,o1201⟩:Search)).bind fun r_1=>
 bif (!r_1.1)then
 some (.next (r_1.2.l,r_1.2.known,o130,(IntKind.wrap .i64 (t55+1))))
 else
 bif (decide (int<(r_1.2.l.length:Int)))then
 some (.done (.ret (3,([]:List af),([]:List State),8,o130,r_1.2)))
 else
 (mr r_.1 task.goal).bind fun r_2=>
 bif r_2 then
 some (.next (r_1.2.l,r_1.2.known,(IntKind.wrap .i64 ((r_1.2.l.length:Int) - 1)),(IntKind.wrap .i64 (t55+1))))
 else
 some (.next (r_1.2.l,r_1.2.known,o130,(IntKind.wrap .i64 (t55+1)))))
 else
 some (.done (.brk (o1200,o1201,o130)))
def dm (x50:Int) (x51:(List Bool)) (x511:(List Bool)) (x512:(List Bool)) (x513:(List Bool)) (x514:(List Bool)) (x515:(List Bool)) (x516:(List Bool)) (plant:aj) (task:Task) (int:Int) (step:(List af)) (state:(List State)) (errno:Int) (int1:Int) (search:Search):Option (Nat × (List af) × (List State) × Int × Int × Search):=
 Option.bind (aB (bP x50 x51 x511 x512 x513 x514 x515 x516 plant task int step state errno) FUEL (search.l,search.known,int1,0)) fun o=>match o with
 | .ret v=>some v
 | .brk (o12001,o12011,o1301)=>
 some (0,step,state,errno,o1301,(⟨o12001,o12011⟩:Search))
def bg (plant:aj) (task:Task) (int:Int):((List af) × (List State) × Int × (List Reached) × (List ((List Bool) × Bool)) × Int × Int)→Option (aN ((List af) × (List State) × Int × (List Reached) × (List ((List Bool) × Bool)) × Int × Int) (Ex ((List af) × (List State) × Int × (List Reached) × (List ((List Bool) × Bool)) × Int) (Nat × (List af) × (List State) × Int × Int × Search))):=
 fun zz=>match zz with
 |(o80,o90,o100,o1200,o1201,o130,i)=>
 bif (decide (i<(o1200.length:Int)))then
 (dm i (((at' o1200 i.toNat).s_).closed) (((at' o1200 i.toNat).s_).locked) (((at' o1200 i.toNat).s_).badLink) (((at' o1200 i.toNat).s_).on_) (((at' o1200 i.toNat).s_).badSource) (((at' o1200 i.toNat).s_).earthed) (((at' o1200 i.toNat).s_).badBus) plant task int o80 o90 o100 o130 (⟨o1200,o1201⟩:Search)).bind fun r_=>
 bif (Nat.beq r_.1 0)then
 aL ((0:Int)≤i∧i<(o1200.length:Int)) (
 some (.next (r_.2.1,r_.2.2.1,r_.2.2.2.1,r_.2.2.2.2.2.l,r_.2.2.2.2.2.known,r_.2.2.2.2.1,(IntKind.wrap .i64 (i+1)))))
 else
 aL ((0:Int)≤i∧i<(o1200.length:Int)) (
 some (.done (.ret (r_.1,r_.2.1,r_.2.2.1,r_.2.2.2.1,r_.2.2.2.2.1,r_.2.2.2.2.2))))
 else
 some (.done (.brk (o80,o90,o100,o1200,o1201,o130)))
def bU (plant:aj) (task:Task) (int:Int) (step:(List af)) (state:(List State)) (errno:Int) (int1:Int) (search:Search):Option (Nat × (List af) × (List State) × Int × Int × Search):=
 Option.bind (aB (bg plant task int) FUEL (step,state,errno,search.l,search.known,int1,0)) fun o=>match o with
 | .ret v=>some v
 | .brk (o801,o901,o1001,o12001,o12011,o1301)=>
 some (0,o801,o901,o1001,o1301,(⟨o12001,o12011⟩:Search))
def dU  :((List af) × Int × Int)→Option (aN ((List af) × Int × Int) (Ex (List af) (List af))):=
 fun zz=>match zz with
 |(o_,i,j)=>
 bif (decide (i<j))then
 aL (((0:Int)≤j∧j<(o_.length:Int))∧((0:Int)≤i∧i<(o_.length:Int))) (
 some (.next (((o_.set i.toNat (at' o_ j.toNat)).set j.toNat (at' o_ i.toNat)),(IntKind.wrap .i64 (i+1)),(IntKind.wrap .i64 (j - 1)))))
 else
 some (.done (.brk o_))
def jH (s_:(List af)):Option (List af):=
 Option.bind (aB dU FUEL (s_,0,(IntKind.wrap .i64 ((s_.length:Int) - 1)))) fun o=>match o with
 | .ret v=>some v
 | .brk o_1=>
 some o_1
def dW (search:Search):(Int × (List af))→Option (aN (Int × (List af)) (Ex (List af) (List af))):=
 fun zz=>match zz with
 |(i1,out)=>
 bif (decide (0<i1))then
 aL (((0:Int)≤i1∧i1<(search.l.length:Int))∧((out.length+[((at' search.l i1.toNat).by_)].length)*16≤140737488355328)∧(out.length+[((at' search.l i1.toNat).by_)].length≤4611686018427387904)) (
 aL ((0:Int)≤i1∧i1<(search.l.length:Int)) (
 some (.next ((at' search.l i1.toNat).from_,(out++[((at' search.l i1.toNat).by_)])))))
 else
 some (.done (.brk out))
def bX (i:Int) (search:Search):Option (List af):=
 Option.bind (aB (dW search) FUEL (i,([]:List af))) fun o=>match o with
 | .ret v=>some v
 | .brk out1=>
 (jH out1).bind fun r_=>
 aL (out1.length=r_.length) (
 some r_)
def oQ (x104:Int) (x105:(List Bool)) (x1051:(List Bool)) (x1052:(List Bool)) (x1053:(List Bool)) (x1054:(List Bool)) (x1055:(List Bool)) (x1056:(List Bool)) (state:(List State)):Option (List State):=
 aL (((state.length+[(⟨x105,x1051,x1052,x1053,x1054,x1055,x1056⟩:State)].length)*168≤140737488355328)∧(state.length+[(⟨x105,x1051,x1052,x1053,x1054,x1055,x1056⟩:State)].length≤4611686018427387904)) (
 some (state++[(⟨x105,x1051,x1052,x1053,x1054,x1055,x1056⟩:State)]))
def cO (search:Search):((List State) × Int)→Option (aN ((List State) × Int) (Ex (List State) (List State))):=
 fun zz=>match zz with
 |(o200,i)=>
 bif (decide (i<(search.l.length:Int)))then
 (oQ i (((at' search.l i.toNat).s_).closed) (((at' search.l i.toNat).s_).locked) (((at' search.l i.toNat).s_).badLink) (((at' search.l i.toNat).s_).on_) (((at' search.l i.toNat).s_).badSource) (((at' search.l i.toNat).s_).earthed) (((at' search.l i.toNat).s_).badBus) o200).bind fun r_=>
 aL ((0:Int)≤i∧i<(search.l.length:Int)) (
 some (.next (r_,(IntKind.wrap .i64 (i+1)))))
 else
 some (.done (.brk o200))
def cK (state:(List State)) (search:Search):Option (List State):=
 Option.bind (aB (cO search) FUEL (state,0)) fun o=>match o with
 | .ret v=>some v
 | .brk o2001=>
 some o2001
def fQ (p:aj) (s_:State) (t:Task) (most:Int):Option ((List af) × (List State) × Int):=
 (eH p s_ t).bind fun r_=>
 bif (!decide (r_=0))then
 some (([]:List af),([]:List State),r_)
 else
 bif (bif (decide (most<1))then true else(decide (20000<most)))then
 some (([]:List af),([]:List State),1)
 else
 (jQ s_).bind fun r_1=>
 (dO r_1 (-1) (⟨0,0⟩:af) (⟨([]:List Reached),([]:(List ((List Bool) × Bool)))⟩:Search)).bind fun r_2=>
 (mr s_ t.goal).bind fun r_3=>
 bif r_3 then
 (dh r_2.2).bind fun r_4=>
 (bU p t most ([]:List af) ([]:List State) 0 0 r_2.2).bind fun r_5=>
 bif Nat.beq r_5.1 0 then
 bif (decide (0≤r_5.2.2.2.2.1))then
 (bX r_5.2.2.2.2.1 r_5.2.2.2.2.2).bind fun r_6=>
 some (r_6,([]:List State),0)
 else
 (dh r_5.2.2.2.2.2).bind fun r_7=>
 (cK ([]:List State) r_5.2.2.2.2.2).bind fun r_8=>
 some (([]:List af),r_8,4)
 else
 bif Nat.beq r_5.1 2 then
 bif (decide (0≤r_5.2.2.2.2.1))then
 (bX r_5.2.2.2.2.1 r_5.2.2.2.2.2).bind fun r_9=>
 some (r_9,([]:List State),0)
 else
 (dh r_5.2.2.2.2.2).bind fun r_10=>
 (cK ([]:List State) r_5.2.2.2.2.2).bind fun r_11=>
 some (([]:List af),r_11,4)
 else
 aL (r_5.1=3) (
 some (r_5.2.1,r_5.2.2.1,r_5.2.2.2.1))
 else
 (dh r_2.2).bind fun r_12=>
 (bU p t most ([]:List af) ([]:List State) 0 (-1) r_2.2).bind fun r_13=>
 bif Nat.beq r_13.1 0 then
 bif (decide (0≤r_13.2.2.2.2.1))then
 (bX r_13.2.2.2.2.1 r_13.2.2.2.2.2).bind fun r_14=>
 some (r_14,([]:List State),0)
 else
 (dh r_13.2.2.2.2.2).bind fun r_15=>
 (cK ([]:List State) r_13.2.2.2.2.2).bind fun r_16=>
 some (([]:List af),r_16,4)
 else
 bif Nat.beq r_13.1 2 then
 bif (decide (0≤r_13.2.2.2.2.1))then
 (bX r_13.2.2.2.2.1 r_13.2.2.2.2.2).bind fun r_17=>
 some (r_17,([]:List State),0)
 else
 (dh r_13.2.2.2.2.2).bind fun r_18=>
 (cK ([]:List State) r_13.2.2.2.2.2).bind fun r_19=>
 some (([]:List af),r_19,4)
 else
 aL (r_13.1=3) (
 some (r_13.2.1,r_13.2.2.1,r_13.2.2.2.1))
def BF (a:(List af)) (b:(List af)):Int→Option (aN Int (Ex Unit Bool)):=
 fun i=>
 bif (decide (i<(a.length:Int)))then
 aL (((0:Int)≤i∧i<(a.length:Int))∧((0:Int)≤i∧i<(b.length:Int))) (
 bif (!((decide (((at' a i.toNat).deed)=((at' b i.toNat).deed))) && ((decide (((at' a i.toNat).index)=((at' b i.toNat).index))) && true)))then
 some (.done (.ret false))
 else
 some (.next (IntKind.wrap .i64 (i+1))))
 else
 some (.done (.brk ()))
def rz (a:(List af)) (b:(List af)):Option Bool:=
 bif (!decide ((a.length:Int)=(b.length:Int)))then
 some false
 else
 Option.bind (aB (BF a b) FUEL (0)) fun o=>match o with
 | .ret v=>some v
 | .brk _=>
 some true
def dw (p:aj) (t:Task) (l:(List State)):((List Reached) × (List ((List Bool) × Bool)) × Int)→Option (aN ((List Reached) × (List ((List Bool) × Bool)) × Int) (Ex ((List Reached) × (List ((List Bool) × Bool))) Int)):=
 fun zz=>match zz with
 |(x0,x1,t34)=>
 bif (decide (t34<(l.length:Int)))then
 aL ((0:Int)≤t34∧t34<(l.length:Int)) (
 (eH p (at' l t34.toNat) t).bind fun r_1=>
 (bif gB [((!decide (r_1=0)),false)]then mr (at' l t34.toNat) t.goal else some default).bind fun r_2=>
 bif (bif (!decide (r_1=0))then true else r_2)then
 some (.done (.ret 7))
 else
 (dO (at' l t34.toNat) (-1) (⟨0,0⟩:af) (⟨x0,x1⟩:Search)).bind fun r_3=>
 some (.next (r_3.2.l,r_3.2.known,(IntKind.wrap .i64 (t34+1)))))
 else
 some (.done (.brk (x0,x1)))
def lF (p:aj) (t:Task) (l:(List State)) (x11:(List ((List Bool) × Bool))) (t64:Int):Int→Option (aN Int (Ex Unit (aN Int (Ex Unit Int)))):=
 fun t71=>
 bif (decide (t71<(t.allowed.length:Int)))then
 aL ((0:Int)≤t71∧t71<(t.allowed.length:Int)) (
 (ni p (at' l t64.toNat) t (at' t.allowed t71.toNat)).bind fun r_5=>
 (bif gB [((decide (r_5.2=0)),true)]then nI r_5.1 else some default).bind fun r_6=>
 bif (bif (decide (r_5.2=0))then(!((aO (sK 280) r_6 x11).getD false))else false)then
 some (.done (.ret (.done (.ret 7))))
 else
 some (.next (IntKind.wrap .i64 (t71+1))))
 else
 some (.done (.brk ()))
def lu (p:aj) (t:Task) (l:(List State)) (x11:(List ((List Bool) × Bool))):Int→Option (aN Int (Ex Unit Int)):=
 fun t64=>
 bif (decide (t64<(l.length:Int)))then
 aL ((0:Int)≤t64∧t64<(l.length:Int)) (
 Option.bind (aB (lF p t l x11 t64) FUEL (0)) fun o=>match o with
 | .ret v=>some v
 | .brk _=>
 some (.next (IntKind.wrap .i64 (t64+1))))
 else
 some (.done (.brk ()))
def jS (p:aj) (s_:State) (t:Task) (l:(List State)):Option Int:=
 (eH p s_ t).bind fun r_=>
 bif (!decide (r_=0))then
 some r_
 else
 bif (decide (20000<(l.length:Int)))then
 some 2
 else
 Option.bind (aB (dw p t l) FUEL (([]:List Reached),([]:(List ((List Bool) × Bool))),0)) fun o=>match o with
 | .ret v=>some v
 | .brk (x01,x11)=>
 (nI s_).bind fun r_4=>
 bif (!((aO (sK 280) r_4 x11).getD false))then
 some 7
 else
 Option.bind (aB (lu p t l x11) FUEL (0)) fun o=>match o with
 | .ret v=>some v
 | .brk _=>
 some 0
def q8:Option (aj × State):=
 aL (((0:Int)≤2)∧((1:Int)*2≤281474976710656)∧((2:Int)≤9223372036854775807)∧((0:Int)≤1)∧((1:Int)*1≤281474976710656)∧((1:Int)≤9223372036854775807)∧((0:Int)≤3)∧((1:Int)*3≤281474976710656)∧((3:Int)≤9223372036854775807)) (
 some ((⟨3,[(⟨0,1,500,0,20⟩:Source)],[(⟨0,1,3,400,10,([]:List oO)⟩:Link),(⟨1,2,2,400,10,([]:List oO)⟩:Link)],[(⟨(⟨2,(-1)⟩:ay),100,1⟩:aV)]⟩:aj),(⟨[true,true],(List.replicate 2 (false:Bool)),(List.replicate 2 (false:Bool)),[true],(List.replicate 1 (false:Bool)),(List.replicate 3 (false:Bool)),(List.replicate 3 (false:Bool))⟩:State)))
def kg (p:aj) (s_:State) (x:af):Option (State × Int):=
 (bS p s_).bind fun r_=>
 bif (!decide (r_=0))then
 some ((⟨([]:List Bool),([]:List Bool),([]:List Bool),([]:List Bool),([]:List Bool),([]:List Bool),([]:List Bool)⟩:State),r_)
 else
 (uq p s_ x).bind fun r_1=>
 some (r_1.1,r_1.2)
def iY (p:aj) (t:Task) (l:(List af)):((List Bool) × (List Bool) × (List Bool) × (List Bool) × (List Bool) × (List Bool) × (List Bool) × Int)→Option (aN ((List Bool) × (List Bool) × (List Bool) × (List Bool) × (List Bool) × (List Bool) × (List Bool) × Int) (Ex ((List Bool) × (List Bool) × (List Bool) × (List Bool) × (List Bool) × (List Bool) × (List Bool)) (Int × State × Int))):=
 fun zz=>match zz with
 |(s0,s1,s2,s3,s4,s5,s6,t31)=>
 bif (decide (t31<(l.length:Int)))then
 aL ((0:Int)≤t31∧t31<(l.length:Int)) (
 (ni p (⟨s0,s1,s2,s3,s4,s5,s6⟩:State) t (at' l t31.toNat)).bind fun r_2=>
 bif (!decide (r_2.2=0))then
 some (.done (.ret (t31,(⟨([]:List Bool),([]:List Bool),([]:List Bool),([]:List Bool),([]:List Bool),([]:List Bool),([]:List Bool)⟩:State),r_2.2)))
 else
 some (.next (r_2.1.closed,r_2.1.locked,r_2.1.badLink,r_2.1.on_,r_2.1.badSource,r_2.1.earthed,r_2.1.badBus,(IntKind.wrap .i64 (t31+1)))))
 else
 some (.done (.brk (s0,s1,s2,s3,s4,s5,s6)))
def dP (p:aj) (s_:State) (t:Task) (l:(List af)):Option (Int × State × Int):=
 (eH p s_ t).bind fun r_=>
 bif (!decide (r_=0))then
 some (0,(⟨([]:List Bool),([]:List Bool),([]:List Bool),([]:List Bool),([]:List Bool),([]:List Bool),([]:List Bool)⟩:State),r_)
 else
 bif (decide (256<(l.length:Int)))then
 some (0,(⟨([]:List Bool),([]:List Bool),([]:List Bool),([]:List Bool),([]:List Bool),([]:List Bool),([]:List Bool)⟩:State),2)
 else
 (jQ s_).bind fun r_1=>
 Option.bind (aB (iY p t l) FUEL (r_1.closed,r_1.locked,r_1.badLink,r_1.on_,r_1.badSource,r_1.earthed,r_1.badBus,0)) fun o=>match o with
 | .ret v=>some v
 | .brk (s01,s11,s21,s31,s41,s51,s61)=>
 some ((l.length:Int),(⟨s01,s11,s21,s31,s41,s51,s61⟩:State),0)
def jI (a:(List Bool)) (b:(List Bool)):Int→Option (aN Int (Ex Unit Bool)):=
 fun i=>
 bif (decide (i<(a.length:Int)))then
 aL (((0:Int)≤i∧i<(a.length:Int))∧((0:Int)≤i∧i<(b.length:Int))) (
 bif (!((at' a i.toNat)==(at' b i.toNat)))then
 some (.done (.ret false))
 else
 some (.next (IntKind.wrap .i64 (i+1))))
 else
 some (.done (.brk ()))
def bW (a:(List Bool)) (b:(List Bool)):Option Bool:=
 bif (!decide ((a.length:Int)=(b.length:Int)))then
 some false
 else
 Option.bind (aB (jI a b) FUEL (0)) fun o=>match o with
 | .ret v=>some v
 | .brk _=>
 some true
def nJ:Option Bool:=
 (q8).bind fun r_=>
 (fQ r_.1 r_.2 (⟨([]:List Int),([]:List Int),[(⟨1,0⟩:af),(⟨2,0⟩:af),(⟨1,1⟩:af),(⟨2,1⟩:af)],[(⟨1,1⟩:af)]⟩:Task) 100).bind fun r_1=>
 (kg r_.1 r_.2 (⟨1,1⟩:af)).bind fun r_2=>
 bif (bif (bif (!decide (r_1.2.2=0))then true else(!decide (r_2.2=44)))then true else(!decide ((r_1.2.1.length:Int)=0)))then
 some false
 else
 (rz r_1.1 [(⟨1,0⟩:af),(⟨1,1⟩:af)]).bind fun r_3=>
 bif (!r_3)then
 some false
 else
 (dP r_.1 r_.2 (⟨([]:List Int),([]:List Int),([]:List af),([]:List af)⟩:Task) r_1.1).bind fun r_4=>
 bif (bif (!decide (r_4.2.2=0))then true else(!decide (r_4.1=2)))then
 some false
 else
 (bW r_4.2.1.closed [false,false]).bind fun r_5=>
 bif (bif (bif (!r_5)then true else(!decide ((r_4.2.1.locked.length:Int)=2)))then true else(!decide ((r_4.2.1.earthed.length:Int)=3)))then
 some false
 else
 (fQ r_.1 r_.2 (⟨[0],([]:List Int),[(⟨1,0⟩:af),(⟨2,0⟩:af),(⟨1,1⟩:af),(⟨2,1⟩:af)],[(⟨1,1⟩:af)]⟩:Task) 100).bind fun r_6=>
 bif (bif (!decide (r_6.2.2=4))then true else(!decide ((r_6.2.1.length:Int)=1)))then
 some false
 else
 (jS r_.1 r_.2 (⟨[0],([]:List Int),[(⟨1,0⟩:af),(⟨2,0⟩:af),(⟨1,1⟩:af),(⟨2,1⟩:af)],[(⟨1,1⟩:af)]⟩:Task) r_6.2.1).bind fun r_7=>
 bif (!decide (r_7=0))then
 some false
 else
 aL (((0:Int)≤1∧1<(r_4.2.1.locked.length:Int))∧((0:Int)≤2∧2<(r_4.2.1.earthed.length:Int))) (
 (kg r_.1 (⟨r_4.2.1.closed,(r_4.2.1.locked.set 1 true),r_4.2.1.badLink,r_4.2.1.on_,r_4.2.1.badSource,(r_4.2.1.earthed.set 2 true),r_4.2.1.badBus⟩:State) (⟨2,1⟩:af)).bind fun r_8=>
 (dP r_.1 (⟨r_4.2.1.closed,(r_4.2.1.locked.set 1 true),r_4.2.1.badLink,r_4.2.1.on_,r_4.2.1.badSource,(r_4.2.1.earthed.set 2 true),r_4.2.1.badBus⟩:State) (⟨([]:List Int),[2],([]:List af),([]:List af)⟩:Task) [(⟨6,1⟩:af)]).bind fun r_9=>
 bif (bif (bif (decide (r_8.2=43))then(decide (r_9.1=0))else false)then(decide (r_9.2.2=45))else false)then
 (eH r_.1 (⟨r_4.2.1.closed,(r_4.2.1.locked.set 1 true),r_4.2.1.badLink,r_4.2.1.on_,r_4.2.1.badSource,(r_4.2.1.earthed.set 2 true),r_4.2.1.badBus⟩:State) (⟨([]:List Int),[2],([]:List af),([]:List af)⟩:Task)).bind fun r_10=>
 some (decide (r_10=0))
 else
 some false)
def gH (l:(List af)):Option (List af):=
 aL ((l.length*16≤140737488355328)∧(l.length≤4611686018427387904)) (
 some l)
def pu (l:(List Int)):Option (List Int):=
 aL ((l.length*8≤140737488355328)∧(l.length≤4611686018427387904)) (
 some l)
def uZ (t:Task):Option Task:=
 (pu t.fed).bind fun r_=>
 (pu t.crew).bind fun r_1=>
 (gH t.allowed).bind fun r_2=>
 (gH t.goal).bind fun r_3=>
 some (⟨r_,r_1,r_2,r_3⟩:Task)
def nM (x:Link):Int→Option (aN Int (Ex Unit Bool)):=
 fun i=>
 bif (decide (i<(x.trip.length:Int)))then
 aL ((0:Int)≤i∧i<(x.trip.length:Int)) (
 bif (bif (bif (bif (decide (((at' x.trip i.toNat).amps)<1))then true else(decide (1000000<((at' x.trip i.toNat).amps))))then true else(decide (((at' x.trip i.toNat).millis)<1)))then true else(decide (100000<((at' x.trip i.toNat).millis))))then
 some (.done (.ret false))
 else
 aL ((gB [((decide (0<i)),true)]=true→(0:Int)≤(IntKind.wrap .i64 (i - 1))∧(IntKind.wrap .i64 (i - 1))<(x.trip.length:Int))∧(gB [((decide (((at' x.trip i.toNat).amps)≤((at' x.trip ((IntKind.wrap .i64 (i - 1)).toNat)).amps))),false),((decide (0<i)),true)]=true→(0:Int)≤(IntKind.wrap .i64 (i - 1))∧(IntKind.wrap .i64 (i - 1))<(x.trip.length:Int))) (
 bif (bif (decide (0<i))then(bif (decide (((at' x.trip i.toNat).amps)≤((at' x.trip ((IntKind.wrap .i64 (i - 1)).toNat)).amps)))then true else(decide (((at' x.trip ((IntKind.wrap .i64 (i - 1)).toNat)).millis)≤((at' x.trip i.toNat).millis))))else false)then
 some (.done (.ret false))
 else
 some (.next (IntKind.wrap .i64 (i+1)))))
 else
 some (.done (.brk ()))
def xQ (p:aj) (x:Link):Option Bool:=
 bif (bif (bif (bif (bif (bif (bif (bif (bif (bif (bif (decide (x.a<0))then true else(decide (p.buses≤x.a)))then true else(decide (x.b<0)))then true else(decide (p.buses≤x.b)))then true else(decide (x.a=x.b)))then true else(decide (x.kind<1)))then true else(decide (3<x.kind)))then true else(decide (x.most<1)))then true else(decide (100000<x.most)))then true else(decide (x.ohm<10)))then true else(decide (100000<x.ohm)))then
 some false
 else
 bif (bif (decide (6<(x.trip.length:Int)))then true else(bif (decide (0<(x.trip.length:Int)))then(!decide (x.kind=3))else false))then
 some false
 else
 Option.bind (aB (nM x) FUEL (0)) fun o=>match o with
 | .ret v=>some v
 | .brk _=>
 some true
def mG (p:aj):Int→Option (aN Int (Ex Unit Int)):=
 fun i=>
 bif (decide (i<(p.sources.length:Int)))then
 aL ((0:Int)≤i∧i<(p.sources.length:Int)) (
 bif (bif (bif (bif (bif (bif (bif (bif (bif (bif (decide (((at' p.sources i.toNat).bus)<0))then true else(decide (p.buses≤((at' p.sources i.toNat).bus))))then true else(decide (((at' p.sources i.toNat).kind)<1)))then true else(decide (3<((at' p.sources i.toNat).kind))))then true else(decide (((at' p.sources i.toNat).power)<1)))then true else(decide (100000<((at' p.sources i.toNat).power))))then true else(decide (((at' p.sources i.toNat).sync)<0)))then true else(decide (8<((at' p.sources i.toNat).sync))))then true else(decide (((at' p.sources i.toNat).ohm)<10)))then true else(decide (100000<((at' p.sources i.toNat).ohm))))then
 some (.done (.ret 11))
 else
 some (.next (IntKind.wrap .i64 (i+1))))
 else
 some (.done (.brk ()))
def mY (p:aj):Int→Option (aN Int (Ex Unit Int)):=
 fun i1=>
 bif (decide (i1<(p.links.length:Int)))then
 (xQ p (at' p.links i1.toNat)).bind fun r_=>
 aL ((0:Int)≤i1∧i1<(p.links.length:Int)) (
 bif (!r_)then
 some (.done (.ret 12))
 else
 some (.next (IntKind.wrap .i64 (i1+1))))
 else
 some (.done (.brk ()))
def mZ (p:aj):Int→Option (aN Int (Ex Unit Int)):=
 fun i2=>
 bif (decide (i2<(p.racks.length:Int)))then
 aL ((0:Int)≤i2∧i2<(p.racks.length:Int)) (
 bif (decide ((((at' p.racks i2.toNat).feeds).e1)=(-1)))then
 bif (bif (bif (bif (bif (bif (bif (bif (bif (decide ((((at' p.racks i2.toNat).feeds).e0)<0))then true else(decide (p.buses≤(((at' p.racks i2.toNat).feeds).e0))))then true else(decide ((((at' p.racks i2.toNat).feeds).e1)<(-1))))then true else(decide (p.buses≤(((at' p.racks i2.toNat).feeds).e1))))then true else(decide ((((at' p.racks i2.toNat).feeds).e0)=(((at' p.racks i2.toNat).feeds).e1))))then true else(decide (((at' p.racks i2.toNat).power)<1)))then true else(decide (100000<((at' p.racks i2.toNat).power))))then true else(decide (((at' p.racks i2.toNat).paths)<0)))then true else(decide (1<((at' p.racks i2.toNat).paths))))then
 some (.done (.ret 13))
 else
 some (.next (IntKind.wrap .i64 (i2+1)))
 else
 bif (bif (bif (bif (bif (bif (bif (bif (bif (decide ((((at' p.racks i2.toNat).feeds).e0)<0))then true else(decide (p.buses≤(((at' p.racks i2.toNat).feeds).e0))))then true else(decide ((((at' p.racks i2.toNat).feeds).e1)<(-1))))then true else(decide (p.buses≤(((at' p.racks i2.toNat).feeds).e1))))then true else(decide ((((at' p.racks i2.toNat).feeds).e0)=(((at' p.racks i2.toNat).feeds).e1))))then true else(decide (((at' p.racks i2.toNat).power)<1)))then true else(decide (100000<((at' p.racks i2.toNat).power))))then true else(decide (((at' p.racks i2.toNat).paths)<0)))then true else(decide (2<((at' p.racks i2.toNat).paths))))then
 some (.done (.ret 13))
 else
 some (.next (IntKind.wrap .i64 (i2+1))))
 else
 some (.done (.brk ()))
def vJ (p:aj):Option Int:=
 bif (bif (decide (p.buses<1))then true else(decide (24<p.buses)))then
 some 10
 else
 bif (decide (8<(p.sources.length:Int)))then
 some 11
 else
 Option.bind (aB (mG p) FUEL (0)) fun o=>match o with
 | .ret v=>some v
 | .brk _=>
 bif (decide (40<(p.links.length:Int)))then
 some 12
 else
 Option.bind (aB (mY p) FUEL (0)) fun o=>match o with
 | .ret v=>some v
 | .brk _=>
 bif (decide (24<(p.racks.length:Int)))then
 some 13
 else
 Option.bind (aB (mZ p) FUEL (0)) fun o=>match o with
 | .ret v=>some v
 | .brk _=>
 some 0
def mQ (p:aj) (s_:State):Int→Option (aN Int (Ex Unit Bool)):=
 fun i=>
 bif (decide (i<(p.links.length:Int)))then
 aL (((0:Int)≤i∧i<(p.links.length:Int))∧(gB [((decide (((at' p.links i.toNat).kind)=1)),true)]=true→(0:Int)≤i∧i<(s_.closed.length:Int))∧(gB [((!(at' s_.closed i.toNat)),false),((decide (((at' p.links i.toNat).kind)=1)),true)]=true→(0:Int)≤i∧i<(s_.locked.length:Int))) (
 bif (bif (decide (((at' p.links i.toNat).kind)=1))then(bif (!(at' s_.closed i.toNat))then true else(at' s_.locked i.toNat))else false)then
 some (.done (.ret false))
 else
 some (.next (IntKind.wrap .i64 (i+1))))
 else
 some (.done (.brk ()))
def vX (p:aj) (s_:State):Option Bool:=
 bif (bif (bif (bif (bif (bif (bif (!decide ((s_.closed.length:Int)=(p.links.length:Int)))then true else(!decide ((s_.locked.length:Int)=(p.links.length:Int))))then true else(!decide ((s_.badLink.length:Int)=(p.links.length:Int))))then true else(!decide ((s_.on_.length:Int)=(p.sources.length:Int))))then true else(!decide ((s_.badSource.length:Int)=(p.sources.length:Int))))then true else(!decide ((s_.earthed.length:Int)=p.buses)))then true else(!decide ((s_.badBus.length:Int)=p.buses)))then
 some false
 else
 Option.bind (aB (mQ p s_) FUEL (0)) fun o=>match o with
 | .ret v=>some v
 | .brk _=>
 some true
def fM (p:aj) (s_:State):Option Int:=
 (vJ p).bind fun r_=>
 (bif gB [((decide (r_=0)),true)]then vX p s_ else some default).bind fun r_1=>
 bif (bif (decide (r_=0))then(!r_1)else false)then
 some 9
 else
 some r_
def nZ (l:(List Int)) (n:Int):Int→Option (aN Int (Ex Unit Bool)):=
 fun i=>
 bif (decide (i<(l.length:Int)))then
 aL (((0:Int)≤i∧i<(l.length:Int))∧(gB [((decide ((at' l i.toNat)<0)),false)]=true→(0:Int)≤i∧i<(l.length:Int))) (
 bif (bif (decide ((at' l i.toNat)<0))then true else(decide (n≤(at' l i.toNat))))then
 some (.done (.ret false))
 else
 some (.next (IntKind.wrap .i64 (i+1))))
 else
 some (.done (.brk ()))
def nT (l:(List Int)) (n:Int):Option Bool:=
 Option.bind (aB (nZ l n) FUEL (0)) fun o=>match o with
 | .ret v=>some v
 | .brk _=>
 some (decide ((l.length:Int)≤24))
def oJ (p:aj) (x:af):Option Bool:=
 bif (decide (x.index<0))then
 some false
 else
 bif (decide (x.deed=1))then
 bif (decide (x.deed=1))then
 aL (gB [((decide (x.index<(p.links.length:Int))),true)]=true→(0:Int)≤x.index∧x.index<(p.links.length:Int)) (
 some (bif (decide (x.index<(p.links.length:Int)))then(!decide (((at' p.links x.index.toNat).kind)=1))else false))
 else
 bif (decide (x.deed=3))then
 bif (decide (x.deed=3))then
 some (decide (x.index<p.buses))
 else
 bif (decide (x.deed=7))then
 bif (decide (x.deed=7))then
 some (decide (x.index<(p.sources.length:Int)))
 else
 some false
 else
 bif (decide (x.deed=8))then
 some (decide (x.index<(p.sources.length:Int)))
 else
 some false
 else
 bif (decide (x.deed=4))then
 some (decide (x.index<p.buses))
 else
 bif (decide (x.deed=7))then
 bif (decide (x.deed=7))then
 some (decide (x.index<(p.sources.length:Int)))
 else
 some false
 else
 bif (decide (x.deed=8))then
 some (decide (x.index<(p.sources.length:Int)))
 else
 some false
 else
 bif (decide (x.deed=2))then
 bif (decide (x.deed=2))then
 aL (gB [((decide (x.index<(p.links.length:Int))),true)]=true→(0:Int)≤x.index∧x.index<(p.links.length:Int)) (
 some (bif (decide (x.index<(p.links.length:Int)))then(!decide (((at' p.links x.index.toNat).kind)=1))else false))
 else
 bif (decide (x.deed=3))then
 bif (decide (x.deed=3))then
 some (decide (x.index<p.buses))
 else
 bif (decide (x.deed=7))then
 bif (decide (x.deed=7))then
 some (decide (x.index<(p.sources.length:Int)))
 else
 some false
 else
 bif (decide (x.deed=8))then
 some (decide (x.index<(p.sources.length:Int)))
 else
 some false
 else
 bif (decide (x.deed=4))then
 some (decide (x.index<p.buses))
 else
 bif (decide (x.deed=7))then
 bif (decide (x.deed=7))then
 some (decide (x.index<(p.sources.length:Int)))
 else
 some false
 else
 bif (decide (x.deed=8))then
 some (decide (x.index<(p.sources.length:Int)))
 else
 some false
 else
 bif (decide (x.deed=5))then
 bif (decide (x.deed=5))then
 aL (gB [((decide (x.index<(p.links.length:Int))),true)]=true→(0:Int)≤x.index∧x.index<(p.links.length:Int)) (
 some (bif (decide (x.index<(p.links.length:Int)))then(!decide (((at' p.links x.index.toNat).kind)=1))else false))
 else
 bif (decide (x.deed=3))then
 bif (decide (x.deed=3))then
 some (decide (x.index<p.buses))
 else
 bif (decide (x.deed=7))then
 bif (decide (x.deed=7))then
 some (decide (x.index<(p.sources.length:Int)))
 else
 some false
 else
 bif (decide (x.deed=8))then
 some (decide (x.index<(p.sources.length:Int)))
 else
 some false
 else
 bif (decide (x.deed=4))then
 some (decide (x.index<p.buses))
 else
 bif (decide (x.deed=7))then
 bif (decide (x.deed=7))then
 some (decide (x.index<(p.sources.length:Int)))
 else
 some false
 else
 bif (decide (x.deed=8))then
 some (decide (x.index<(p.sources.length:Int)))
 else
 some false
 else
 bif (decide (x.deed=6))then
 aL (gB [((decide (x.index<(p.links.length:Int))),true)]=true→(0:Int)≤x.index∧x.index<(p.links.length:Int)) (
 some (bif (decide (x.index<(p.links.length:Int)))then(!decide (((at' p.links x.index.toNat).kind)=1))else false))
 else
 bif (decide (x.deed=3))then
 bif (decide (x.deed=3))then
 some (decide (x.index<p.buses))
 else
 bif (decide (x.deed=7))then
 bif (decide (x.deed=7))then
 some (decide (x.index<(p.sources.length:Int)))
 else
 some false
 else
 bif (decide (x.deed=8))then
 some (decide (x.index<(p.sources.length:Int)))
 else
 some false
 else
 bif (decide (x.deed=4))then
 some (decide (x.index<p.buses))
 else
 bif (decide (x.deed=7))then
 bif (decide (x.deed=7))then
 some (decide (x.index<(p.sources.length:Int)))
 else
 some false
 else
 bif (decide (x.deed=8))then
 some (decide (x.index<(p.sources.length:Int)))
 else
 some false
def qj (p:aj) (l:(List af)):Int→Option (aN Int (Ex Unit Bool)):=
 fun i=>
 bif (decide (i<(l.length:Int)))then
 (oJ p (at' l i.toNat)).bind fun r_=>
 aL ((0:Int)≤i∧i<(l.length:Int)) (
 bif (!r_)then
 some (.done (.ret false))
 else
 some (.next (IntKind.wrap .i64 (i+1))))
 else
 some (.done (.brk ()))
def qy (p:aj) (l:(List af)):Option Bool:=
 Option.bind (aB (qj p l) FUEL (0)) fun o=>match o with
 | .ret v=>some v
 | .brk _=>
 some (decide ((l.length:Int)≤24))
def uU (p:aj) (t:Task):Option Bool:=
 (nT t.fed (p.racks.length:Int)).bind fun r_=>
 (bif gB [(r_,true)]then nT t.crew p.buses else some default).bind fun r_1=>
 (bif gB [((bif r_ then r_1 else false),true)]then qy p t.allowed else some default).bind fun r_2=>
 (bif gB [((bif (bif r_ then r_1 else false)then r_2 else false),true)]then qy p t.goal else some default).bind fun r_3=>
 some (bif (bif (bif r_ then r_1 else false)then r_2 else false)then r_3 else false)
def nL (p:aj) (s_:State) (kz:Int):Option Bool:=
 aL (((0:Int)≤kz∧kz<(s_.on_.length:Int))∧(gB [((at' s_.on_ kz.toNat),true)]=true→(0:Int)≤kz∧kz<(s_.badSource.length:Int))∧(gB [((bif (at' s_.on_ kz.toNat)then(!(at' s_.badSource kz.toNat))else false),true)]=true→(0:Int)≤kz∧kz<(p.sources.length:Int))∧(gB [((bif (at' s_.on_ kz.toNat)then(!(at' s_.badSource kz.toNat))else false),true)]=true→(0:Int)≤(at' p.sources kz.toNat).bus∧(at' p.sources kz.toNat).bus<(s_.badBus.length:Int))) (
 some (bif (bif (at' s_.on_ kz.toNat)then(!(at' s_.badSource kz.toNat))else false)then(!(at' s_.badBus (((at' p.sources kz.toNat).bus).toNat)))else false))
def qp (p:aj) (s_:State) (i:Int):Option Bool:=
 aL (((0:Int)≤i∧i<(s_.closed.length:Int))∧(gB [((at' s_.closed i.toNat),true)]=true→(0:Int)≤i∧i<(s_.badLink.length:Int))∧(gB [((bif (at' s_.closed i.toNat)then(!(at' s_.badLink i.toNat))else false),true)]=true→(0:Int)≤i∧i<(p.links.length:Int))∧(gB [((bif (at' s_.closed i.toNat)then(!(at' s_.badLink i.toNat))else false),true)]=true→(0:Int)≤(at' p.links i.toNat).a∧(at' p.links i.toNat).a<(s_.badBus.length:Int))∧(gB [((bif (bif (at' s_.closed i.toNat)then(!(at' s_.badLink i.toNat))else false)then(!(at' s_.badBus (((at' p.links i.toNat).a).toNat)))else false),true)]=true→(0:Int)≤i∧i<(p.links.length:Int))∧(gB [((bif (bif (at' s_.closed i.toNat)then(!(at' s_.badLink i.toNat))else false)then(!(at' s_.badBus (((at' p.links i.toNat).a).toNat)))else false),true)]=true→(0:Int)≤(at' p.links i.toNat).b∧(at' p.links i.toNat).b<(s_.badBus.length:Int))) (
 some (bif (bif (bif (at' s_.closed i.toNat)then(!(at' s_.badLink i.toNat))else false)then(!(at' s_.badBus (((at' p.links i.toNat).a).toNat)))else false)then(!(at' s_.badBus (((at' p.links i.toNat).b).toNat)))else false))
def jL (p:aj) (s_:State) (b:Int):((List Bool) × Int)→Option (aN ((List Bool) × Int) (Ex (List Bool) (aN ((List Bool) × Int) (Ex (List Bool) (List Bool))))):=
 fun zz=>match zz with
 |(out2,i)=>
 bif (decide (i<(p.links.length:Int)))then
 aL ((0:Int)≤i∧i<(p.links.length:Int)) (
 (qp p s_ i).bind fun r_=>
 aL ((gB [(r_,true)]=true→(0:Int)≤(at' p.links i.toNat).a∧(at' p.links i.toNat).a<(out2.length:Int))∧(gB [((at' out2 (((at' p.links i.toNat).a).toNat)),false),(r_,true)]=true→(0:Int)≤(at' p.links i.toNat).b∧(at' p.links i.toNat).b<(out2.length:Int))) (
 bif (bif r_ then(bif (at' out2 (((at' p.links i.toNat).a).toNat))then true else(at' out2 (((at' p.links i.toNat).b).toNat)))else false)then
 aL ((0:Int)≤(at' p.links i.toNat).a∧(at' p.links i.toNat).a<(out2.length:Int)) (
 aL ((0:Int)≤(at' p.links i.toNat).b∧(at' p.links i.toNat).b<((out2.set (((at' p.links i.toNat).a).toNat) true).length:Int)) (
 some (.next (((out2.set (((at' p.links i.toNat).a).toNat) true).set (((at' p.links i.toNat).b).toNat) true),(IntKind.wrap .i64 (i+1))))))
 else
 some (.next (out2,(IntKind.wrap .i64 (i+1))))))
 else
 some (.done (.brk out2))
def jU (p:aj) (s_:State) (b:Int):((List Bool) × Int)→Option (aN ((List Bool) × Int) (Ex (List Bool) (List Bool))):=
 fun zz=>match zz with
 |(out,n)=>
 bif (decide (n<p.buses))then
 Option.bind (aB (jL p s_ b) FUEL (out,0)) fun o=>match o with
 | .ret v=>some v
 | .brk out3=>
 some (.next (out3,(IntKind.wrap .i64 (n+1))))
 else
 some (.done (.brk out))
def dR (p:aj) (s_:State) (b:Int):Option (List Bool):=
 aL (((0:Int)≤p.buses)∧((1:Int)*p.buses≤281474976710656)∧((p.buses:Int)≤9223372036854775807)) (
 aL ((0:Int)≤b∧b<((List.replicate p.buses.toNat (false:Bool)).length:Int)) (
 Option.bind (aB (jU p s_ b) FUEL (((List.replicate p.buses.toNat (false:Bool)).set b.toNat true),0)) fun o=>match o with
 | .ret v=>some v
 | .brk out1=>
 some out1))
def iN (p:aj) (r_2:(List Bool)):((List Bool) × Int)→Option (aN ((List Bool) × Int) (Ex (List Bool) (aN ((List Bool) × Int) (Ex (List Bool) ((List Bool) × Int))))):=
 fun zz=>match zz with
 |(out2,b)=>
 bif (decide (b<p.buses))then
 aL (((0:Int)≤b∧b<(out2.length:Int))∧(gB [((at' out2 b.toNat),false)]=true→(0:Int)≤b∧b<(r_2.length:Int))) (
 some (.next ((out2.set b.toNat (bif (at' out2 b.toNat)then true else(at' r_2 b.toNat))),(IntKind.wrap .i64 (b+1)))))
 else
 some (.done (.brk out2))
def iP (p:aj) (s_:State):((List Bool) × Int)→Option (aN ((List Bool) × Int) (Ex (List Bool) ((List Bool) × Int))):=
 fun zz=>match zz with
 |(out,kz)=>
 bif (decide (kz<(p.sources.length:Int)))then
 (nL p s_ kz).bind fun r_1=>
 bif (!r_1)then
 some (.next (out,(IntKind.wrap .i64 (kz+1))))
 else
 (dR p s_ ((at' p.sources kz.toNat).bus)).bind fun r_2=>
 aL ((0:Int)≤kz∧kz<(p.sources.length:Int)) (
 Option.bind (aB (iN p r_2) FUEL (out,0)) fun o=>match o with
 | .ret v=>some v
 | .brk out3=>
 some (.next (out3,(IntKind.wrap .i64 (kz+1)))))
 else
 some (.done (.brk out))
def kI (p:aj) (s_:State):Option ((List Bool) × Int):=
 (fM p s_).bind fun r_=>
 bif (!decide (r_=0))then
 some (([]:List Bool),r_)
 else
 aL (((0:Int)≤p.buses)∧((1:Int)*p.buses≤281474976710656)∧((p.buses:Int)≤9223372036854775807)) (
 Option.bind (aB (iP p s_) FUEL ((List.replicate p.buses.toNat (false:Bool)),0)) fun o=>match o with
 | .ret v=>some v
 | .brk out1=>
 some (out1,0))
def vT (a:Source) (b:Source):Option Bool:=
 some (bif (!decide (a.sync=b.sync))then true else(decide (a.sync=0)))
def ku (p:aj) (s_:State) (i:Int):((List ay) × Int)→Option (aN ((List ay) × Int) (Ex (List ay) (aN ((List ay) × Int) (Ex (List ay) ((List ay) × Int))))):=
 fun zz=>match zz with
 |(out2,kz)=>
 bif (decide (kz<(p.sources.length:Int)))then
 (nL p s_ i).bind fun r_1=>
 (bif gB [(r_1,true)]then nL p s_ kz else some default).bind fun r_2=>
 (bif gB [((bif r_1 then r_2 else false),true)]then dR p s_ ((at' p.sources i.toNat).bus)else some default).bind fun r_3=>
 (bif gB [((bif (bif r_1 then r_2 else false)then(at' r_3 (((at' p.sources kz.toNat).bus).toNat))else false),true)]then vT (at' p.sources i.toNat) (at' p.sources kz.toNat)else some default).bind fun r_4=>
 aL ((gB [((bif r_1 then r_2 else false),true)]=true→(0:Int)≤i∧i<(p.sources.length:Int))∧(gB [((bif r_1 then r_2 else false),true)]=true→(0:Int)≤kz∧kz<(p.sources.length:Int))∧(gB [((bif r_1 then r_2 else false),true)]=true→(0:Int)≤(at' p.sources kz.toNat).bus∧(at' p.sources kz.toNat).bus<(r_3.length:Int))∧(gB [((bif (bif r_1 then r_2 else false)then(at' r_3 (((at' p.sources kz.toNat).bus).toNat))else false),true)]=true→(0:Int)≤i∧i<(p.sources.length:Int))∧(gB [((bif (bif r_1 then r_2 else false)then(at' r_3 (((at' p.sources kz.toNat).bus).toNat))else false),true)]=true→(0:Int)≤kz∧kz<(p.sources.length:Int))) (
 bif (bif (bif (bif r_1 then r_2 else false)then(at' r_3 (((at' p.sources kz.toNat).bus).toNat))else false)then r_4 else false)then
 aL (((out2.length+[(⟨i,kz⟩:ay)].length)*16≤140737488355328)∧(out2.length+[(⟨i,kz⟩:ay)].length≤4611686018427387904)) (
 some (.next ((out2++[(⟨i,kz⟩:ay)]),(IntKind.wrap .i64 (kz+1)))))
 else
 some (.next (out2,(IntKind.wrap .i64 (kz+1)))))
 else
 some (.done (.brk out2))
def iD (p:aj) (s_:State):((List ay) × Int)→Option (aN ((List ay) × Int) (Ex (List ay) ((List ay) × Int))):=
 fun zz=>match zz with
 |(out,i)=>
 bif (decide (i<(p.sources.length:Int)))then
 Option.bind (aB (ku p s_ i) FUEL (out,(IntKind.wrap .i64 (i+1)))) fun o=>match o with
 | .ret v=>some v
 | .brk out3=>
 some (.next (out3,(IntKind.wrap .i64 (i+1))))
 else
 some (.done (.brk out))
def rA (p:aj) (s_:State):Option ((List ay) × Int):=
 (fM p s_).bind fun r_=>
 bif (!decide (r_=0))then
 some (([]:List ay),r_)
 else
 Option.bind (aB (iD p s_) FUEL (([]:List ay),0)) fun o=>match o with
 | .ret v=>some v
 | .brk out1=>
 some (out1,0)
def vR (l:(List Int)) (n:Int):Int→Option (aN Int (Ex Unit Bool)):=
 fun i=>
 bif (decide (i<(l.length:Int)))then
 aL ((0:Int)≤i∧i<(l.length:Int)) (
 bif (decide ((at' l i.toNat)=n))then
 some (.done (.ret true))
 else
 some (.next (IntKind.wrap .i64 (i+1))))
 else
 some (.done (.brk ()))
def tu (l:(List Int)) (n:Int):Option Bool:=
 Option.bind (aB (vR l n) FUEL (0)) fun o=>match o with
 | .ret v=>some v
 | .brk _=>
 some false
def pR (p:aj) (s_:State) (b:Int):Int→Option (aN Int (Ex Unit Bool)):=
 fun kz=>
 bif (decide (kz<(p.sources.length:Int)))then
 aL (((0:Int)≤kz∧kz<(p.sources.length:Int))∧(gB [((decide (((at' p.sources kz.toNat).bus)=b)),true)]=true→(0:Int)≤kz∧kz<(s_.on_.length:Int))) (
 bif (bif (decide (((at' p.sources kz.toNat).bus)=b))then(at' s_.on_ kz.toNat)else false)then
 some (.done (.ret true))
 else
 some (.next (IntKind.wrap .i64 (kz+1))))
 else
 some (.done (.brk ()))
def o9 (p:aj) (s_:State) (crew:(List Int)) (b:Int):Int→Option (aN Int (Ex Unit Bool)):=
 fun i=>
 bif (decide (i<(p.links.length:Int)))then
 Option.bind (α:=(Ex Unit (aN Int (Ex Unit Bool)))) (
 aL ((0:Int)≤i∧i<(p.links.length:Int)) (
 bif (decide (((at' p.links i.toNat).a)=b))then
 bif (decide (((at' p.links i.toNat).b)=b))then
 (bif gB [((decide (0≤((at' p.links i.toNat).a))),true)]then tu crew ((at' p.links i.toNat).a)else some default).bind fun r_=>
 aL ((gB [((decide (((at' p.links i.toNat).kind)=1)),false),((bif (decide (0≤((at' p.links i.toNat).a)))then(!r_)else false),true)]=true→(0:Int)≤i∧i<(s_.closed.length:Int))∧(gB [((bif (decide (((at' p.links i.toNat).kind)=1))then true else(at' s_.closed i.toNat)),false),((bif (decide (0≤((at' p.links i.toNat).a)))then(!r_)else false),true)]=true→(0:Int)≤i∧i<(s_.locked.length:Int))) (
 bif (bif (bif (decide (0≤((at' p.links i.toNat).a)))then(!r_)else false)then(bif (bif (decide (((at' p.links i.toNat).kind)=1))then true else(at' s_.closed i.toNat))then true else(!(at' s_.locked i.toNat)))else false)then
 some (.ret (.done (.ret true)))
 else
 some (.brk ()))
 else
 (bif gB [((decide (0≤((at' p.links i.toNat).b))),true)]then tu crew ((at' p.links i.toNat).b)else some default).bind fun r_1=>
 aL ((gB [((decide (((at' p.links i.toNat).kind)=1)),false),((bif (decide (0≤((at' p.links i.toNat).b)))then(!r_1)else false),true)]=true→(0:Int)≤i∧i<(s_.closed.length:Int))∧(gB [((bif (decide (((at' p.links i.toNat).kind)=1))then true else(at' s_.closed i.toNat)),false),((bif (decide (0≤((at' p.links i.toNat).b)))then(!r_1)else false),true)]=true→(0:Int)≤i∧i<(s_.locked.length:Int))) (
 bif (bif (bif (decide (0≤((at' p.links i.toNat).b)))then(!r_1)else false)then(bif (bif (decide (((at' p.links i.toNat).kind)=1))then true else(at' s_.closed i.toNat))then true else(!(at' s_.locked i.toNat)))else false)then
 some (.ret (.done (.ret true)))
 else
 some (.brk ()))
 else
 bif (decide (((at' p.links i.toNat).b)=b))then
 (bif gB [((decide (0≤((at' p.links i.toNat).a))),true)]then tu crew ((at' p.links i.toNat).a)else some default).bind fun r_2=>
 aL ((gB [((decide (((at' p.links i.toNat).kind)=1)),false),((bif (decide (0≤((at' p.links i.toNat).a)))then(!r_2)else false),true)]=true→(0:Int)≤i∧i<(s_.closed.length:Int))∧(gB [((bif (decide (((at' p.links i.toNat).kind)=1))then true else(at' s_.closed i.toNat)),false),((bif (decide (0≤((at' p.links i.toNat).a)))then(!r_2)else false),true)]=true→(0:Int)≤i∧i<(s_.locked.length:Int))) (
 bif (bif (bif (decide (0≤((at' p.links i.toNat).a)))then(!r_2)else false)then(bif (bif (decide (((at' p.links i.toNat).kind)=1))then true else(at' s_.closed i.toNat))then true else(!(at' s_.locked i.toNat)))else false)then
 some (.ret (.done (.ret true)))
 else
 some (.brk ()))
 else
 some (.brk ()))) fun o=>match o with
 | .ret v=>some v
 | .brk _=>
 some (.next (IntKind.wrap .i64 (i+1)))
 else
 some (.done (.brk ()))
def uK (p:aj) (s_:State) (crew:(List Int)) (b:Int):Option Bool:=
 aL ((0:Int)≤b∧b<(s_.earthed.length:Int)) (
 bif (!(at' s_.earthed b.toNat))then
 some true
 else
 Option.bind (aB (pR p s_ b) FUEL (0)) fun o=>match o with
 | .ret v=>some v
 | .brk _=>
 Option.bind (aB (o9 p s_ crew b) FUEL (0)) fun o=>match o with
 | .ret v=>some v
 | .brk _=>
 some false)
def mK (p:aj) (s_:State) (r_2:((List Bool) × Int)):Int→Option (aN Int (Ex Unit Int)):=
 fun b=>
 bif (decide (b<p.buses))then
 aL (((0:Int)≤b∧b<(r_2.1.length:Int))∧(gB [((at' r_2.1 b.toNat),true)]=true→(0:Int)≤b∧b<(s_.earthed.length:Int))) (
 bif (bif (at' r_2.1 b.toNat)then(at' s_.earthed b.toNat)else false)then
 some (.done (.ret 40))
 else
 some (.next (IntKind.wrap .i64 (b+1))))
 else
 some (.done (.brk ()))
def qd (p:aj) (t:Task) (r_2:((List Bool) × Int)):Int→Option (aN Int (Ex Unit Int)):=
 fun i=>
 bif (decide (i<(t.fed.length:Int)))then
 aL (((0:Int)≤i∧i<(t.fed.length:Int))∧((0:Int)≤(at' t.fed i.toNat)∧(at' t.fed i.toNat)<(p.racks.length:Int))) (
 aL (((0:Int)≤((at' p.racks ((at' t.fed i.toNat).toNat)).feeds).e0∧((at' p.racks ((at' t.fed i.toNat).toNat)).feeds).e0<(r_2.1.length:Int))∧(gB [((decide (0≤(((at' p.racks ((at' t.fed i.toNat).toNat)).feeds).e1))),true),((!(at' r_2.1 ((((at' p.racks ((at' t.fed i.toNat).toNat)).feeds).e0).toNat))),true)]=true→(0:Int)≤(if((at' p.racks ((at' t.fed i.toNat).toNat)).feeds).e1<0 then 0 else((at' p.racks ((at' t.fed i.toNat).toNat)).feeds).e1)∧(if((at' p.racks ((at' t.fed i.toNat).toNat)).feeds).e1<0 then 0 else((at' p.racks ((at' t.fed i.toNat).toNat)).feeds).e1)<(r_2.1.length:Int))) (
 bif (bif (!(at' r_2.1 ((((at' p.racks ((at' t.fed i.toNat).toNat)).feeds).e0).toNat)))then(!(bif (decide (0≤(((at' p.racks ((at' t.fed i.toNat).toNat)).feeds).e1)))then(at' r_2.1 ((if((at' p.racks ((at' t.fed i.toNat).toNat)).feeds).e1<0 then 0 else((at' p.racks ((at' t.fed i.toNat).toNat)).feeds).e1).toNat))else false))else false)then
 some (.done (.ret 42))
 else
 some (.next (IntKind.wrap .i64 (i+1)))))
 else
 some (.done (.brk ()))
def qh (p:aj) (s_:State) (t:Task):Int→Option (aN Int (Ex Unit Int)):=
 fun i1=>
 bif (decide (i1<(t.crew.length:Int)))then
 (uK p s_ t.crew (at' t.crew i1.toNat)).bind fun r_4=>
 aL ((0:Int)≤i1∧i1<(t.crew.length:Int)) (
 bif r_4 then
 some (.done (.ret 45))
 else
 some (.next (IntKind.wrap .i64 (i1+1))))
 else
 some (.done (.brk ()))
def dB (p:aj) (s_:State) (t:Task):Option Int:=
 (fM p s_).bind fun r_=>
 bif (!decide (r_=0))then
 some r_
 else
 (uU p t).bind fun r_1=>
 bif (!r_1)then
 some 1
 else
 (kI p s_).bind fun r_2=>
 Option.bind (aB (mK p s_ r_2) FUEL (0)) fun o=>match o with
 | .ret v=>some v
 | .brk _=>
 (rA p s_).bind fun r_3=>
 bif (decide (0<(r_3.1.length:Int)))then
 some 41
 else
 Option.bind (aB (qd p t r_2) FUEL (0)) fun o=>match o with
 | .ret v=>some v
 | .brk _=>
 Option.bind (aB (qh p s_ t) FUEL (0)) fun o=>match o with
 | .ret v=>some v
 | .brk _=>
 some 0
def qE (s_:State) (x:af):Option Bool:=
 bif (decide (x.deed=1))then
 aL ((0:Int)≤x.index∧x.index<(s_.closed.length:Int)) (
 some (!(at' s_.closed x.index.toNat)))
 else
 bif (decide (x.deed=2))then
 aL ((0:Int)≤x.index∧x.index<(s_.closed.length:Int)) (
 some (at' s_.closed x.index.toNat))
 else
 bif (decide (x.deed=3))then
 aL ((0:Int)≤x.index∧x.index<(s_.earthed.length:Int)) (
 some (at' s_.earthed x.index.toNat))
 else
 bif (decide (x.deed=4))then
 aL ((0:Int)≤x.index∧x.index<(s_.earthed.length:Int)) (
 some (!(at' s_.earthed x.index.toNat)))
 else
 bif (decide (x.deed=5))then
 aL ((0:Int)≤x.index∧x.index<(s_.locked.length:Int)) (
 some (at' s_.locked x.index.toNat))
 else
 bif (decide (x.deed=6))then
 aL ((0:Int)≤x.index∧x.index<(s_.locked.length:Int)) (
 some (!(at' s_.locked x.index.toNat)))
 else
 bif (decide (x.deed=7))then
 aL ((0:Int)≤x.index∧x.index<(s_.on_.length:Int)) (
 some (at' s_.on_ x.index.toNat))
 else
 aL ((0:Int)≤x.index∧x.index<(s_.on_.length:Int)) (
 some (!(at' s_.on_ x.index.toNat)))
def dS (l:(List Bool)):Option (List Bool):=
 aL ((l.length*1≤140737488355328)∧(l.length≤4611686018427387904)) (
 some l)
def nV (x:State):Option State:=
 (dS x.closed).bind fun r_=>
 (dS x.locked).bind fun r_1=>
 (dS x.badLink).bind fun r_2=>
 (dS x.on_).bind fun r_3=>
 (dS x.badSource).bind fun r_4=>
 (dS x.earthed).bind fun r_5=>
 (dS x.badBus).bind fun r_6=>
 some (⟨r_,r_1,r_2,r_3,r_4,r_5,r_6⟩:State)
def zA (p:aj) (s_:State) (i:Int):Option Bool:=
 (nV s_).bind fun r_=>
 aL ((0:Int)≤i∧i<(r_.closed.length:Int)) (
 aL ((0:Int)≤i∧i<(p.links.length:Int)) (
 aL (((0:Int)≤(at' p.links i.toNat).a∧(at' p.links i.toNat).a<(r_.badBus.length:Int))∧(gB [((at' r_.badBus (((at' p.links i.toNat).a).toNat)),false)]=true→(0:Int)≤(at' p.links i.toNat).b∧(at' p.links i.toNat).b<(r_.badBus.length:Int))) (
 bif (bif (at' r_.badBus (((at' p.links i.toNat).a).toNat))then true else(at' r_.badBus (((at' p.links i.toNat).b).toNat)))then
 some false
 else
 (kI p (⟨(r_.closed.set i.toNat false),r_.locked,r_.badLink,r_.on_,r_.badSource,r_.earthed,r_.badBus⟩:State)).bind fun r_1=>
 (dR p (⟨(r_.closed.set i.toNat false),r_.locked,r_.badLink,r_.on_,r_.badSource,r_.earthed,r_.badBus⟩:State) ((at' p.links i.toNat).a)).bind fun r_2=>
 aL (((0:Int)≤(at' p.links i.toNat).b∧(at' p.links i.toNat).b<(r_2.length:Int))∧(gB [((!(at' r_2 (((at' p.links i.toNat).b).toNat))),true)]=true→(0:Int)≤(at' p.links i.toNat).a∧(at' p.links i.toNat).a<(r_1.1.length:Int))∧(gB [((at' r_1.1 (((at' p.links i.toNat).a).toNat)),false),((!(at' r_2 (((at' p.links i.toNat).b).toNat))),true)]=true→(0:Int)≤(at' p.links i.toNat).b∧(at' p.links i.toNat).b<(r_1.1.length:Int))) (
 some (bif (!(at' r_2 (((at' p.links i.toNat).b).toNat)))then(bif (at' r_1.1 (((at' p.links i.toNat).a).toNat))then true else(at' r_1.1 (((at' p.links i.toNat).b).toNat)))else false)))))
def vS (s_:State) (x:af):Option State:=
 (nV s_).bind fun r_=>
 bif (decide (x.deed=1))then
 bif (decide (x.deed=1))then
 aL ((0:Int)≤x.index∧x.index<(r_.closed.length:Int)) (
 some (⟨(r_.closed.set x.index.toNat (decide (x.deed=2))),r_.locked,r_.badLink,r_.on_,r_.badSource,r_.earthed,r_.badBus⟩:State))
 else
 bif (decide (x.deed=3))then
 bif (decide (x.deed=3))then
 aL ((0:Int)≤x.index∧x.index<(r_.earthed.length:Int)) (
 some (⟨r_.closed,r_.locked,r_.badLink,r_.on_,r_.badSource,(r_.earthed.set x.index.toNat (decide (x.deed=3))),r_.badBus⟩:State))
 else
 bif (decide (x.deed=5))then
 bif (decide (x.deed=5))then
 aL ((0:Int)≤x.index∧x.index<(r_.locked.length:Int)) (
 some (⟨r_.closed,(r_.locked.set x.index.toNat (decide (x.deed=5))),r_.badLink,r_.on_,r_.badSource,r_.earthed,r_.badBus⟩:State))
 else
 bif (decide (x.deed=7))then
 bif (decide (x.deed=7))then
 aL ((0:Int)≤x.index∧x.index<(r_.on_.length:Int)) (
 some (⟨r_.closed,r_.locked,r_.badLink,(r_.on_.set x.index.toNat (decide (x.deed=7))),r_.badSource,r_.earthed,r_.badBus⟩:State))
 else
 some r_
 else
 bif (decide (x.deed=8))then
 aL ((0:Int)≤x.index∧x.index<(r_.on_.length:Int)) (
 some (⟨r_.closed,r_.locked,r_.badLink,(r_.on_.set x.index.toNat (decide (x.deed=7))),r_.badSource,r_.earthed,r_.badBus⟩:State))
 else
 some r_
 else
 bif (decide (x.deed=6))then
 aL ((0:Int)≤x.index∧x.index<(r_.locked.length:Int)) (
 some (⟨r_.closed,(r_.locked.set x.index.toNat (decide (x.deed=5))),r_.badLink,r_.on_,r_.badSource,r_.earthed,r_.badBus⟩:State))
 else
 bif (decide (x.deed=7))then
 bif (decide (x.deed=7))then
 aL ((0:Int)≤x.index∧x.index<(r_.on_.length:Int)) (
 some (⟨r_.closed,r_.locked,r_.badLink,(r_.on_.set x.index.toNat (decide (x.deed=7))),r_.badSource,r_.earthed,r_.badBus⟩:State))
 else
 some r_
 else
 bif (decide (x.deed=8))then
 aL ((0:Int)≤x.index∧x.index<(r_.on_.length:Int)) (
 some (⟨r_.closed,r_.locked,r_.badLink,(r_.on_.set x.index.toNat (decide (x.deed=7))),r_.badSource,r_.earthed,r_.badBus⟩:State))
 else
 some r_
 else
 bif (decide (x.deed=4))then
 aL ((0:Int)≤x.index∧x.index<(r_.earthed.length:Int)) (
 some (⟨r_.closed,r_.locked,r_.badLink,r_.on_,r_.badSource,(r_.earthed.set x.index.toNat (decide (x.deed=3))),r_.badBus⟩:State))
 else
 bif (decide (x.deed=5))then
 bif (decide (x.deed=5))then
 aL ((0:Int)≤x.index∧x.index<(r_.locked.length:Int)) (
 some (⟨r_.closed,(r_.locked.set x.index.toNat (decide (x.deed=5))),r_.badLink,r_.on_,r_.badSource,r_.earthed,r_.badBus⟩:State))
 else
 bif (decide (x.deed=7))then
 bif (decide (x.deed=7))then
 aL ((0:Int)≤x.index∧x.index<(r_.on_.length:Int)) (
 some (⟨r_.closed,r_.locked,r_.badLink,(r_.on_.set x.index.toNat (decide (x.deed=7))),r_.badSource,r_.earthed,r_.badBus⟩:State))
 else
 some r_
 else
 bif (decide (x.deed=8))then
 aL ((0:Int)≤x.index∧x.index<(r_.on_.length:Int)) (
 some (⟨r_.closed,r_.locked,r_.badLink,(r_.on_.set x.index.toNat (decide (x.deed=7))),r_.badSource,r_.earthed,r_.badBus⟩:State))
 else
 some r_
 else
 bif (decide (x.deed=6))then
 aL ((0:Int)≤x.index∧x.index<(r_.locked.length:Int)) (
 some (⟨r_.closed,(r_.locked.set x.index.toNat (decide (x.deed=5))),r_.badLink,r_.on_,r_.badSource,r_.earthed,r_.badBus⟩:State))
 else
 bif (decide (x.deed=7))then
 bif (decide (x.deed=7))then
 aL ((0:Int)≤x.index∧x.index<(r_.on_.length:Int)) (
 some (⟨r_.closed,r_.locked,r_.badLink,(r_.on_.set x.index.toNat (decide (x.deed=7))),r_.badSource,r_.earthed,r_.badBus⟩:State))
 else
 some r_
 else
 bif (decide (x.deed=8))then
 aL ((0:Int)≤x.index∧x.index<(r_.on_.length:Int)) (
 some (⟨r_.closed,r_.locked,r_.badLink,(r_.on_.set x.index.toNat (decide (x.deed=7))),r_.badSource,r_.earthed,r_.badBus⟩:State))
 else
 some r_
 else
 bif (decide (x.deed=2))then
 aL ((0:Int)≤x.index∧x.index<(r_.closed.length:Int)) (
 some (⟨(r_.closed.set x.index.toNat (decide (x.deed=2))),r_.locked,r_.badLink,r_.on_,r_.badSource,r_.earthed,r_.badBus⟩:State))
 else
 bif (decide (x.deed=3))then
 bif (decide (x.deed=3))then
 aL ((0:Int)≤x.index∧x.index<(r_.earthed.length:Int)) (
 some (⟨r_.closed,r_.locked,r_.badLink,r_.on_,r_.badSource,(r_.earthed.set x.index.toNat (decide (x.deed=3))),r_.badBus⟩:State))
 else
 bif (decide (x.deed=5))then
 bif (decide (x.deed=5))then
 aL ((0:Int)≤x.index∧x.index<(r_.locked.length:Int)) (
 some (⟨r_.closed,(r_.locked.set x.index.toNat (decide (x.deed=5))),r_.badLink,r_.on_,r_.badSource,r_.earthed,r_.badBus⟩:State))
 else
 bif (decide (x.deed=7))then
 bif (decide (x.deed=7))then
 aL ((0:Int)≤x.index∧x.index<(r_.on_.length:Int)) (
 some (⟨r_.closed,r_.locked,r_.badLink,(r_.on_.set x.index.toNat (decide (x.deed=7))),r_.badSource,r_.earthed,r_.badBus⟩:State))
 else
 some r_
 else
 bif (decide (x.deed=8))then
 aL ((0:Int)≤x.index∧x.index<(r_.on_.length:Int)) (
 some (⟨r_.closed,r_.locked,r_.badLink,(r_.on_.set x.index.toNat (decide (x.deed=7))),r_.badSource,r_.earthed,r_.badBus⟩:State))
 else
 some r_
 else
 bif (decide (x.deed=6))then
 aL ((0:Int)≤x.index∧x.index<(r_.locked.length:Int)) (
 some (⟨r_.closed,(r_.locked.set x.index.toNat (decide (x.deed=5))),r_.badLink,r_.on_,r_.badSource,r_.earthed,r_.badBus⟩:State))
 else
 bif (decide (x.deed=7))then
 bif (decide (x.deed=7))then
 aL ((0:Int)≤x.index∧x.index<(r_.on_.length:Int)) (
 some (⟨r_.closed,r_.locked,r_.badLink,(r_.on_.set x.index.toNat (decide (x.deed=7))),r_.badSource,r_.earthed,r_.badBus⟩:State))
 else
 some r_
 else
 bif (decide (x.deed=8))then
 aL ((0:Int)≤x.index∧x.index<(r_.on_.length:Int)) (
 some (⟨r_.closed,r_.locked,r_.badLink,(r_.on_.set x.index.toNat (decide (x.deed=7))),r_.badSource,r_.earthed,r_.badBus⟩:State))
 else
 some r_
 else
 bif (decide (x.deed=4))then
 aL ((0:Int)≤x.index∧x.index<(r_.earthed.length:Int)) (
 some (⟨r_.closed,r_.locked,r_.badLink,r_.on_,r_.badSource,(r_.earthed.set x.index.toNat (decide (x.deed=3))),r_.badBus⟩:State))
 else
 bif (decide (x.deed=5))then
 bif (decide (x.deed=5))then
 aL ((0:Int)≤x.index∧x.index<(r_.locked.length:Int)) (
 some (⟨r_.closed,(r_.locked.set x.index.toNat (decide (x.deed=5))),r_.badLink,r_.on_,r_.badSource,r_.earthed,r_.badBus⟩:State))
 else
 bif (decide (x.deed=7))then
 bif (decide (x.deed=7))then
 aL ((0:Int)≤x.index∧x.index<(r_.on_.length:Int)) (
 some (⟨r_.closed,r_.locked,r_.badLink,(r_.on_.set x.index.toNat (decide (x.deed=7))),r_.badSource,r_.earthed,r_.badBus⟩:State))
 else
 some r_
 else
 bif (decide (x.deed=8))then
 aL ((0:Int)≤x.index∧x.index<(r_.on_.length:Int)) (
 some (⟨r_.closed,r_.locked,r_.badLink,(r_.on_.set x.index.toNat (decide (x.deed=7))),r_.badSource,r_.earthed,r_.badBus⟩:State))
 else
 some r_
 else
 bif (decide (x.deed=6))then
 aL ((0:Int)≤x.index∧x.index<(r_.locked.length:Int)) (
 some (⟨r_.closed,(r_.locked.set x.index.toNat (decide (x.deed=5))),r_.badLink,r_.on_,r_.badSource,r_.earthed,r_.badBus⟩:State))
 else
 bif (decide (x.deed=7))then
 bif (decide (x.deed=7))then
 aL ((0:Int)≤x.index∧x.index<(r_.on_.length:Int)) (
 some (⟨r_.closed,r_.locked,r_.badLink,(r_.on_.set x.index.toNat (decide (x.deed=7))),r_.badSource,r_.earthed,r_.badBus⟩:State))
 else
 some r_
 else
 bif (decide (x.deed=8))then
 aL ((0:Int)≤x.index∧x.index<(r_.on_.length:Int)) (
 some (⟨r_.closed,r_.locked,r_.badLink,(r_.on_.set x.index.toNat (decide (x.deed=7))),r_.badSource,r_.earthed,r_.badBus⟩:State))
 else
 some r_
def kH (p:aj) (s_:State) (x:af):Option (State × Int):=
 (fM p s_).bind fun r_=>
 bif (!decide (r_=0))then
 some ((⟨([]:List Bool),([]:List Bool),([]:List Bool),([]:List Bool),([]:List Bool),([]:List Bool),([]:List Bool)⟩:State),r_)
 else
 Option.bind (α:=Int) (
 (oJ p x).bind fun r_1=>
 bif (!r_1)then
 some 1
 else
 (qE s_ x).bind fun r_2=>
 bif r_2 then
 some 46
 else
 aL ((gB [((bif (decide (x.deed=1))then true else(decide (x.deed=2))),true)]=true→(0:Int)≤x.index∧x.index<(s_.badLink.length:Int))∧(gB [((decide (7≤x.deed)),true),((bif (bif (decide (x.deed=1))then true else(decide (x.deed=2)))then(at' s_.badLink x.index.toNat)else false),false)]=true→(0:Int)≤x.index∧x.index<(s_.badSource.length:Int))) (
 bif (bif (bif (bif (decide (x.deed=1))then true else(decide (x.deed=2)))then(at' s_.badLink x.index.toNat)else false)then true else(bif (decide (7≤x.deed))then(at' s_.badSource x.index.toNat)else false))then
 some 47
 else
 aL (gB [((bif (decide (x.deed=1))then true else(decide (x.deed=2))),true)]=true→(0:Int)≤x.index∧x.index<(s_.locked.length:Int)) (
 bif (bif (bif (decide (x.deed=1))then true else(decide (x.deed=2)))then(at' s_.locked x.index.toNat)else false)then
 some 43
 else
 (bif gB [((bif (bif (decide (x.deed=1))then true else(decide (x.deed=2)))then(decide (((at' p.links x.index.toNat).kind)=2))else false),true)]then zA p s_ x.index else some default).bind fun r_3=>
 aL (gB [((bif (decide (x.deed=1))then true else(decide (x.deed=2))),true)]=true→(0:Int)≤x.index∧x.index<(p.links.length:Int)) (
 bif (bif (bif (bif (decide (x.deed=1))then true else(decide (x.deed=2)))then(decide (((at' p.links x.index.toNat).kind)=2))else false)then r_3 else false)then
 some 44
 else
 some r_)))) fun e_=>
 bif (!decide (e_=0))then
 some ((⟨([]:List Bool),([]:List Bool),([]:List Bool),([]:List Bool),([]:List Bool),([]:List Bool),([]:List Bool)⟩:State),e_)
 else
 (vS s_ x).bind fun r_4=>
 some (r_4,0)
def sV (s_:State) (l:(List af)):Int→Option (aN Int (Ex Unit Bool)):=
 fun i=>
 bif (decide (i<(l.length:Int)))then
 (qE s_ (at' l i.toNat)).bind fun r_=>
 aL ((0:Int)≤i∧i<(l.length:Int)) (
 bif (!r_)then
 some (.done (.ret false))
 else
 some (.next (IntKind.wrap .i64 (i+1))))
 else
 some (.done (.brk ()))
def qO (s_:State) (l:(List af)):Option Bool:=
 Option.bind (aB (sV s_ l) FUEL (0)) fun o=>match o with
 | .ret v=>some v
 | .brk _=>
 some true
def rG (a:State) (b:State):Option Bool:=
 (bW a.closed b.closed).bind fun r_=>
 (bif gB [(r_,true)]then bW a.locked b.locked else some default).bind fun r_1=>
 (bif gB [((bif r_ then r_1 else false),true)]then bW a.badLink b.badLink else some default).bind fun r_2=>
 (bif gB [((bif (bif r_ then r_1 else false)then r_2 else false),true)]then bW a.on_ b.on_ else some default).bind fun r_3=>
 (bif gB [((bif (bif (bif r_ then r_1 else false)then r_2 else false)then r_3 else false),true)]then bW a.badSource b.badSource else some default).bind fun r_4=>
 (bif gB [((bif (bif (bif (bif r_ then r_1 else false)then r_2 else false)then r_3 else false)then r_4 else false),true)]then bW a.earthed b.earthed else some default).bind fun r_5=>
 (bif gB [((bif (bif (bif (bif (bif r_ then r_1 else false)then r_2 else false)then r_3 else false)then r_4 else false)then r_5 else false),true)]then bW a.badBus b.badBus else some default).bind fun r_6=>
 some (bif (bif (bif (bif (bif (bif r_ then r_1 else false)then r_2 else false)then r_3 else false)then r_4 else false)then r_5 else false)then r_6 else false)
def qc (l:(List State)) (s_:State):Int→Option (aN Int (Ex Unit Int)):=
 fun i=>
 bif (decide (i<(l.length:Int)))then
 (rG (at' l i.toNat) s_).bind fun r_=>
 aL ((0:Int)≤i∧i<(l.length:Int)) (
 bif r_ then
 some (.done (.ret i))
 else
 some (.next (IntKind.wrap .i64 (i+1))))
 else
 some (.done (.brk ()))
def nC (l:(List State)) (s_:State):Option Int:=
 Option.bind (aB (qc l s_) FUEL (0)) fun o=>match o with
 | .ret v=>some v
 | .brk _=>
 some (-1)
def gJ (p:aj) (t:Task) (most:Int) (i:Int):((List State) × (List (List af)) × Int)→Option (aN ((List State) × (List (List af)) × Int) (Ex ((List State) × (List (List af))) (aN ((List State) × (List (List af)) × Int) (Ex (List State) ((List af) × (List State) × Int))))):=
 fun zz=>match zz with
 |(l2,programs1,kz)=>
 bif (decide (kz<(t.allowed.length:Int)))then
 (kH p (at' l2 i.toNat) (at' t.allowed kz.toNat)).bind fun r_2=>
 aL (((0:Int)≤i∧i<(l2.length:Int))∧((0:Int)≤kz∧kz<(t.allowed.length:Int))) (
 (bif gB [((!decide (r_2.2=0)),false)]then dB p r_2.1 t else some default).bind fun r_3=>
 (bif gB [((bif (!decide (r_2.2=0))then true else(!decide (r_3=0))),false)]then nC l2 r_2.1 else some default).bind fun r_4=>
 bif (bif (bif (!decide (r_2.2=0))then true else(!decide (r_3=0)))then true else(decide (0≤r_4)))then
 some (.next (l2,programs1,(IntKind.wrap .i64 (kz+1))))
 else
 aL (((l2.length+[r_2.1].length)*168≤140737488355328)∧(l2.length+[r_2.1].length≤4611686018427387904)) (
 (gH (at' programs1 i.toNat)).bind fun r_5=>
 aL (((0:Int)≤i∧i<(programs1.length:Int))∧((0:Int)≤kz∧kz<(t.allowed.length:Int))∧((r_5.length+[(at' t.allowed kz.toNat)].length)*16≤140737488355328)∧(r_5.length+[(at' t.allowed kz.toNat)].length≤4611686018427387904)) (
 aL (((programs1.length+[(r_5++[(at' t.allowed kz.toNat)])].length)*24≤140737488355328)∧(programs1.length+[(r_5++[(at' t.allowed kz.toNat)])].length≤4611686018427387904)) (
 bif (decide (most<((l2++[r_2.1]).length:Int)))then
 some (.done (.ret (.done (.ret (([]:List af),([]:List State),8)))))
 else
 (qO r_2.1 t.goal).bind fun r_6=>
 bif r_6 then
 some (.done (.ret (.done (.ret ((r_5++[(at' t.allowed kz.toNat)]),([]:List State),0)))))
 else
 some (.next ((l2++[r_2.1]),(programs1++[(r_5++[(at' t.allowed kz.toNat)])]),(IntKind.wrap .i64 (kz+1))))))))
 else
 some (.done (.brk (l2,programs1)))
def fC (p:aj) (t:Task) (most:Int):((List State) × (List (List af)) × Int)→Option (aN ((List State) × (List (List af)) × Int) (Ex (List State) ((List af) × (List State) × Int))):=
 fun zz=>match zz with
 |(l,programs,i)=>
 bif (decide (i<(l.length:Int)))then
 Option.bind (aB (gJ p t most i) FUEL (l,programs,0)) fun o=>match o with
 | .ret v=>some v
 | .brk (l3,programs2)=>
 some (.next (l3,programs2,(IntKind.wrap .i64 (i+1))))
 else
 some (.done (.brk l))
def rY (p:aj) (s_:State) (t:Task) (most:Int):Option ((List af) × (List State) × Int):=
 (dB p s_ t).bind fun r_=>
 bif (!decide (r_=0))then
 some (([]:List af),([]:List State),r_)
 else
 bif (bif (decide (most<1))then true else(decide (20000<most)))then
 some (([]:List af),([]:List State),1)
 else
 (qO s_ t.goal).bind fun r_1=>
 bif r_1 then
 some (([]:List af),([]:List State),0)
 else
 Option.bind (aB (fC p t most) FUEL ([s_],[([]:List af)],0)) fun o=>match o with
 | .ret v=>some v
 | .brk l1=>
 some (([]:List af),l1,4)
def lW (p:aj) (t:Task) (l:(List State)):Int→Option (aN Int (Ex Unit Int)):=
 fun i=>
 bif (decide (i<(l.length:Int)))then
 (dB p (at' l i.toNat) t).bind fun r_1=>
 (bif gB [((!decide (r_1=0)),false)]then qO (at' l i.toNat) t.goal else some default).bind fun r_2=>
 aL (((0:Int)≤i∧i<(l.length:Int))∧(gB [((!decide (r_1=0)),false)]=true→(0:Int)≤i∧i<(l.length:Int))) (
 bif (bif (!decide (r_1=0))then true else r_2)then
 some (.done (.ret 7))
 else
 some (.next (IntKind.wrap .i64 (i+1))))
 else
 some (.done (.brk ()))
def lI (p:aj) (t:Task) (l:(List State)) (i1:Int):Int→Option (aN Int (Ex Unit (aN Int (Ex Unit Int)))):=
 fun kz=>
 bif (decide (kz<(t.allowed.length:Int)))then
 (kH p (at' l i1.toNat) (at' t.allowed kz.toNat)).bind fun r_4=>
 aL (((0:Int)≤i1∧i1<(l.length:Int))∧((0:Int)≤kz∧kz<(t.allowed.length:Int))) (
 (bif gB [((decide (r_4.2=0)),true)]then dB p r_4.1 t else some default).bind fun r_5=>
 (bif gB [((bif (decide (r_4.2=0))then(decide (r_5=0))else false),true)]then nC l r_4.1 else some default).bind fun r_6=>
 bif (bif (bif (decide (r_4.2=0))then(decide (r_5=0))else false)then(decide (r_6<0))else false)then
 some (.done (.ret (.done (.ret 7))))
 else
 some (.next (IntKind.wrap .i64 (kz+1))))
 else
 some (.done (.brk ()))
def lG (p:aj) (t:Task) (l:(List State)):Int→Option (aN Int (Ex Unit Int)):=
 fun i1=>
 bif (decide (i1<(l.length:Int)))then
 Option.bind (aB (lI p t l i1) FUEL (0)) fun o=>match o with
 | .ret v=>some v
 | .brk _=>
 some (.next (IntKind.wrap .i64 (i1+1)))
 else
 some (.done (.brk ()))
def uT (p:aj) (s_:State) (t:Task) (l:(List State)):Option Int:=
 (dB p s_ t).bind fun r_=>
 bif (!decide (r_=0))then
 some r_
 else
 bif (decide (20000<(l.length:Int)))then
 some 2
 else
 Option.bind (aB (lW p t l) FUEL (0)) fun o=>match o with
 | .ret v=>some v
 | .brk _=>
 (nC l s_).bind fun r_3=>
 bif (decide (r_3<0))then
 some 7
 else
 Option.bind (aB (lG p t l) FUEL (0)) fun o=>match o with
 | .ret v=>some v
 | .brk _=>
 some 0
def lZ (p:aj) (t:Task):Int→Option (aN Int (Ex Unit Bool)):=
 fun i=>
 bif (decide (i<(t.fed.length:Int)))then
 aL (((0:Int)≤i∧i<(t.fed.length:Int))∧(gB [((decide ((at' t.fed i.toNat)<0)),false)]=true→(0:Int)≤i∧i<(t.fed.length:Int))) (
 bif (bif (decide ((at' t.fed i.toNat)<0))then true else(decide ((p.racks.length:Int)≤(at' t.fed i.toNat))))then
 some (.done (.ret false))
 else
 some (.next (IntKind.wrap .i64 (i+1))))
 else
 some (.done (.brk ()))
def lU (p:aj) (t:Task):Int→Option (aN Int (Ex Unit Bool)):=
 fun i1=>
 bif (decide (i1<(t.crew.length:Int)))then
 aL (((0:Int)≤i1∧i1<(t.crew.length:Int))∧(gB [((decide ((at' t.crew i1.toNat)<0)),false)]=true→(0:Int)≤i1∧i1<(t.crew.length:Int))) (
 bif (bif (decide ((at' t.crew i1.toNat)<0))then true else(decide (p.buses≤(at' t.crew i1.toNat))))then
 some (.done (.ret false))
 else
 some (.next (IntKind.wrap .i64 (i1+1))))
 else
 some (.done (.brk ()))
def pM (p:aj) (t:Task):Option Bool:=
 Option.bind (aB (lZ p t) FUEL (0)) fun o=>match o with
 | .ret v=>some v
 | .brk _=>
 Option.bind (aB (lU p t) FUEL (0)) fun o=>match o with
 | .ret v=>some v
 | .brk _=>
 some true
def iW (p:aj) (crew:(List Int)) (b:Int) (i:Int):(Bool × Int)→Option (aN (Bool × Int) (Ex Bool (aN Int (Ex Unit Bool)))):=
 fun zz=>match zz with
 |(inside,kz)=>
 bif (decide (kz<(crew.length:Int)))then
 aL (gB [(inside,false)]=true→(0:Int)≤kz∧kz<(crew.length:Int)) (
 some (.next ((bif inside then true else(decide ((at' crew kz.toNat)=(IntKind.wrap .i64 ((IntKind.wrap .i64 (((at' p.links i.toNat).a)+((at' p.links i.toNat).b))) - b))))),(IntKind.wrap .i64 (kz+1)))))
 else
 some (.done (.brk inside))
def lM (p:aj) (s_:State) (crew:(List Int)) (b:Int):Int→Option (aN Int (Ex Unit Bool)):=
 fun i=>
 bif (decide (i<(p.links.length:Int)))then
 aL ((0:Int)≤i∧i<(p.links.length:Int)) (
 bif (bif (!decide (((at' p.links i.toNat).a)=b))then(!decide (((at' p.links i.toNat).b)=b))else false)then
 some (.next (IntKind.wrap .i64 (i+1)))
 else
 Option.bind (aB (iW p crew b i) FUEL (false,0)) fun o=>match o with
 | .ret v=>some v
 | .brk inside1=>
 aL ((gB [((!inside1),true)]=true→(0:Int)≤i∧i<(s_.closed.length:Int))∧(gB [((at' s_.closed i.toNat),false),((!inside1),true)]=true→(0:Int)≤i∧i<(s_.locked.length:Int))) (
 bif (bif (!inside1)then(bif (at' s_.closed i.toNat)then true else(!(at' s_.locked i.toNat)))else false)then
 some (.done (.ret false))
 else
 some (.next (IntKind.wrap .i64 (i+1)))))
 else
 some (.done (.brk ()))
def o7 (p:aj) (s_:State) (crew:(List Int)) (b:Int):Option Bool:=
 Option.bind (aB (lM p s_ crew b) FUEL (0)) fun o=>match o with
 | .ret v=>some v
 | .brk _=>
 some true
def jk (p:aj) (s_:State) (x:af):Option (Bool × Int):=
 (bS p s_).bind fun r_=>
 bif (!decide (r_=0))then
 some (false,r_)
 else
 (jT p x).bind fun r_1=>
 bif (!r_1)then
 some (false,1)
 else
 (kT s_ x).bind fun r_2=>
 some (r_2,0)
def tK (a:State) (b:State):(Int × Int)→Option (aN (Int × Int) (Ex Int (aN (Int × Int) (Ex Int Int)))):=
 fun zz=>match zz with
 |(n2,kz)=>
 bif (decide (kz<(a.closed.length:Int)))then
 aL (((0:Int)≤kz∧kz<(a.closed.length:Int))∧((0:Int)≤kz∧kz<(b.closed.length:Int))) (
 bif (!((at' a.closed kz.toNat)==(at' b.closed kz.toNat)))then
 some (.next ((IntKind.wrap .i64 (n2+1)),(IntKind.wrap .i64 (kz+1))))
 else
 some (.next (n2,(IntKind.wrap .i64 (kz+1)))))
 else
 some (.done (.brk n2))
def uI (a:State) (b:State):(Int × Int)→Option (aN (Int × Int) (Ex Int (aN (Int × Int) (Ex Int Int)))):=
 fun zz=>match zz with
 |(n4,kz1)=>
 bif (decide (kz1<(a.locked.length:Int)))then
 aL (((0:Int)≤kz1∧kz1<(a.locked.length:Int))∧((0:Int)≤kz1∧kz1<(b.locked.length:Int))) (
 bif (!((at' a.locked kz1.toNat)==(at' b.locked kz1.toNat)))then
 some (.next ((IntKind.wrap .i64 (n4+1)),(IntKind.wrap .i64 (kz1+1))))
 else
 some (.next (n4,(IntKind.wrap .i64 (kz1+1)))))
 else
 some (.done (.brk n4))
def sP (a:State) (b:State):(Int × Int)→Option (aN (Int × Int) (Ex Int (aN (Int × Int) (Ex Int Int)))):=
 fun zz=>match zz with
 |(n6,kz2)=>
 bif (decide (kz2<(a.badLink.length:Int)))then
 aL (((0:Int)≤kz2∧kz2<(a.badLink.length:Int))∧((0:Int)≤kz2∧kz2<(b.badLink.length:Int))) (
 bif (!((at' a.badLink kz2.toNat)==(at' b.badLink kz2.toNat)))then
 some (.next ((IntKind.wrap .i64 (n6+1)),(IntKind.wrap .i64 (kz2+1))))
 else
 some (.next (n6,(IntKind.wrap .i64 (kz2+1)))))
 else
 some (.done (.brk n6))
def uH (a:State) (b:State):(Int × Int)→Option (aN (Int × Int) (Ex Int (aN (Int × Int) (Ex Int Int)))):=
 fun zz=>match zz with
 |(n8,kz3)=>
 bif (decide (kz3<(a.on_.length:Int)))then
 aL (((0:Int)≤kz3∧kz3<(a.on_.length:Int))∧((0:Int)≤kz3∧kz3<(b.on_.length:Int))) (
 bif (!((at' a.on_ kz3.toNat)==(at' b.on_ kz3.toNat)))then
 some (.next ((IntKind.wrap .i64 (n8+1)),(IntKind.wrap .i64 (kz3+1))))
 else
 some (.next (n8,(IntKind.wrap .i64 (kz3+1)))))
 else
 some (.done (.brk n8))
def uD (a:State) (b:State):(Int × Int)→Option (aN (Int × Int) (Ex Int (aN (Int × Int) (Ex Int Int)))):=
 fun zz=>match zz with
 |(n10,kz4)=>
 bif (decide (kz4<(a.badSource.length:Int)))then
 aL (((0:Int)≤kz4∧kz4<(a.badSource.length:Int))∧((0:Int)≤kz4∧kz4<(b.badSource.length:Int))) (
 bif (!((at' a.badSource kz4.toNat)==(at' b.badSource kz4.toNat)))then
 some (.next ((IntKind.wrap .i64 (n10+1)),(IntKind.wrap .i64 (kz4+1))))
 else
 some (.next (n10,(IntKind.wrap .i64 (kz4+1)))))
 else
 some (.done (.brk n10))
def uM (a:State) (b:State):(Int × Int)→Option (aN (Int × Int) (Ex Int (aN (Int × Int) (Ex Int Int)))):=
 fun zz=>match zz with
 |(n12,kz5)=>
 bif (decide (kz5<(a.earthed.length:Int)))then
 aL (((0:Int)≤kz5∧kz5<(a.earthed.length:Int))∧((0:Int)≤kz5∧kz5<(b.earthed.length:Int))) (
 bif (!((at' a.earthed kz5.toNat)==(at' b.earthed kz5.toNat)))then
 some (.next ((IntKind.wrap .i64 (n12+1)),(IntKind.wrap .i64 (kz5+1))))
 else
 some (.next (n12,(IntKind.wrap .i64 (kz5+1)))))
 else
 some (.done (.brk n12))
def sS (a:State) (b:State):(Int × Int)→Option (aN (Int × Int) (Ex Int (aN (Int × Int) (Ex Int Int)))):=
 fun zz=>match zz with
 |(n14,kz6)=>
 bif (decide (kz6<(a.badBus.length:Int)))then
 aL (((0:Int)≤kz6∧kz6<(a.badBus.length:Int))∧((0:Int)≤kz6∧kz6<(b.badBus.length:Int))) (
 bif (!((at' a.badBus kz6.toNat)==(at' b.badBus kz6.toNat)))then
 some (.next ((IntKind.wrap .i64 (n14+1)),(IntKind.wrap .i64 (kz6+1))))
 else
 some (.next (n14,(IntKind.wrap .i64 (kz6+1)))))
 else
 some (.done (.brk n14))
def j5 (a:State) (b:State):(Int × Int)→Option (aN (Int × Int) (Ex Int Int)):=
 fun zz=>match zz with
 |(n,i)=>
 bif (decide (i<7))then
 bif (decide (i=0))then
 bif (!decide ((a.closed.length:Int)=(b.closed.length:Int)))then
 some (.done (.ret 100))
 else
 Option.bind (aB (tK a b) FUEL (n,0)) fun o=>match o with
 | .ret v=>some v
 | .brk n3=>
 some (.next (n3,1))
 else
 bif (decide (i=1))then
 bif (!decide ((a.locked.length:Int)=(b.locked.length:Int)))then
 some (.done (.ret 100))
 else
 Option.bind (aB (uI a b) FUEL (n,0)) fun o=>match o with
 | .ret v=>some v
 | .brk n5=>
 some (.next (n5,2))
 else
 bif (decide (i=2))then
 bif (!decide ((a.badLink.length:Int)=(b.badLink.length:Int)))then
 some (.done (.ret 100))
 else
 Option.bind (aB (sP a b) FUEL (n,0)) fun o=>match o with
 | .ret v=>some v
 | .brk n7=>
 some (.next (n7,3))
 else
 bif (decide (i=3))then
 bif (!decide ((a.on_.length:Int)=(b.on_.length:Int)))then
 some (.done (.ret 100))
 else
 Option.bind (aB (uH a b) FUEL (n,0)) fun o=>match o with
 | .ret v=>some v
 | .brk n9=>
 some (.next (n9,4))
 else
 bif (decide (i=4))then
 bif (!decide ((a.badSource.length:Int)=(b.badSource.length:Int)))then
 some (.done (.ret 100))
 else
 Option.bind (aB (uD a b) FUEL (n,0)) fun o=>match o with
 | .ret v=>some v
 | .brk n11=>
 some (.next (n11,5))
 else
 bif (decide (i=5))then
 bif (!decide ((a.earthed.length:Int)=(b.earthed.length:Int)))then
 some (.done (.ret 100))
 else
 Option.bind (aB (uM a b) FUEL (n,0)) fun o=>match o with
 | .ret v=>some v
 | .brk n13=>
 some (.next (n13,6))
 else
 aL (i=6) (
 bif (!decide ((a.badBus.length:Int)=(b.badBus.length:Int)))then
 some (.done (.ret 100))
 else
 Option.bind (aB (sS a b) FUEL (n,0)) fun o=>match o with
 | .ret v=>some v
 | .brk n15=>
 some (.next (n15,7)))
 else
 some (.done (.brk n))
def kM (a:State) (b:State):Option Int:=
 Option.bind (aB (j5 a b) FUEL (0,0)) fun o=>match o with
 | .ret v=>some v
 | .brk n1=>
 some n1
def pX (p:aj) (s_:State):Option (Int × (List Source) × (List Link) × (List aV) × State):=
 some (p.buses,p.sources,p.links,p.racks,s_)
def uQ (x12:(List Link)) (state:State):((List (Int × Int)) × Int)→Option (aN ((List (Int × Int)) × Int) (Ex (List (Int × Int)) aK)):=
 fun zz=>match zz with
 |(o50,t9)=>
 bif (decide (t9<(x12.length:Int)))then
 aL ((0:Int)≤t9∧t9<(x12.length:Int)) (
 bif (bif (bif (bif (at' state.closed t9.toNat)then(!(at' state.badLink t9.toNat))else false)then(!(at' state.badBus (((at' x12 t9.toNat).a).toNat)))else false)then(!(at' state.badBus (((at' x12 t9.toNat).b).toNat)))else false)then
 (ja ((at' x12 t9.toNat).a) ((at' x12 t9.toNat).b) ((at' x12 t9.toNat).kind) ((at' x12 t9.toNat).most) ((at' x12 t9.toNat).ohm) ((at' x12 t9.toNat).trip) (⟨o50⟩:aK)).bind fun r_=>
 aL (((0:Int)≤t9∧t9<(state.closed.length:Int))∧(gB [((at' state.closed t9.toNat),true)]=true→(0:Int)≤t9∧t9<(state.badLink.length:Int))∧(gB [((bif (at' state.closed t9.toNat)then(!(at' state.badLink t9.toNat))else false),true)]=true→(0:Int)≤(at' x12 t9.toNat).a∧(at' x12 t9.toNat).a<(state.badBus.length:Int))∧(gB [((bif (bif (at' state.closed t9.toNat)then(!(at' state.badLink t9.toNat))else false)then(!(at' state.badBus (((at' x12 t9.toNat).a).toNat)))else false),true)]=true→(0:Int)≤(at' x12 t9.toNat).b∧(at' x12 t9.toNat).b<(state.badBus.length:Int))) (
 some (.next (r_.head,(IntKind.wrap .i64 (t9+1)))))
 else
 aL (((0:Int)≤t9∧t9<(state.closed.length:Int))∧(gB [((at' state.closed t9.toNat),true)]=true→(0:Int)≤t9∧t9<(state.badLink.length:Int))∧(gB [((bif (at' state.closed t9.toNat)then(!(at' state.badLink t9.toNat))else false),true)]=true→(0:Int)≤(at' x12 t9.toNat).a∧(at' x12 t9.toNat).a<(state.badBus.length:Int))∧(gB [((bif (bif (at' state.closed t9.toNat)then(!(at' state.badLink t9.toNat))else false)then(!(at' state.badBus (((at' x12 t9.toNat).a).toNat)))else false),true)]=true→(0:Int)≤(at' x12 t9.toNat).b∧(at' x12 t9.toNat).b<(state.badBus.length:Int))) (
 some (.next (o50,(IntKind.wrap .i64 (t9+1))))))
 else
 some (.done (.brk o50))
def oz (x1:Int) (x11:(List Source)) (x12:(List Link)) (x13:(List aV)) (state:State) (o_:aK):Option aK:=
 Option.bind (aB (uQ x12 state) FUEL (o_.head,0)) fun o=>match o with
 | .ret v=>some v
 | .brk o501=>
 some (⟨o501⟩:aK)
def yO (p:aj) (s_:State) (r_1:aK):((List aA) × (List (Int × Int)) × Int)→Option (aN ((List aA) × (List (Int × Int)) × Int) (Ex ((List aA) × (List (Int × Int))) (List aA))):=
 fun zz=>match zz with
 |(out,at_,t32)=>
 bif (decide (t32<p.buses))then
 aL ((0:Int)≤t32∧t32<(s_.badBus.length:Int)) (
 bif (at' s_.badBus t32.toNat)then
 some (.next (out,at_,(IntKind.wrap .i64 (t32+1))))
 else
 (bQ r_1 t32).bind fun r_2=>
 bif (!((aO aQ r_2 at_).isSome))then
 aL (((out.length+[(⟨([]:List Int),([]:List Int)⟩:aA)].length)*48≤140737488355328)∧(out.length+[(⟨([]:List Int),([]:List Int)⟩:aA)].length≤4611686018427387904)) (
 aL (((0:Int)≤((aO aQ r_2 (d9 aQ r_2 (out.length:Int) at_)).getD 0)∧((aO aQ r_2 (d9 aQ r_2 (out.length:Int) at_)).getD 0)<((out++[(⟨([]:List Int),([]:List Int)⟩:aA)]).length:Int))∧((((at' (out++[(⟨([]:List Int),([]:List Int)⟩:aA)]) (((aO aQ r_2 (d9 aQ r_2 (out.length:Int) at_)).getD 0).toNat)).buses).length+[t32].length)*8≤140737488355328)∧(((at' (out++[(⟨([]:List Int),([]:List Int)⟩:aA)]) (((aO aQ r_2 (d9 aQ r_2 (out.length:Int) at_)).getD 0).toNat)).buses).length+[t32].length≤4611686018427387904)) (
 some (.next (((out++[(⟨([]:List Int),([]:List Int)⟩:aA)]).set (((aO aQ r_2 (d9 aQ r_2 (out.length:Int) at_)).getD 0).toNat) (⟨(((at' (out++[(⟨([]:List Int),([]:List Int)⟩:aA)]) (((aO aQ r_2 (d9 aQ r_2 (out.length:Int) at_)).getD 0).toNat)).buses)++[t32]),(at' (out++[(⟨([]:List Int),([]:List Int)⟩:aA)]) (((aO aQ r_2 (d9 aQ r_2 (out.length:Int) at_)).getD 0).toNat)).sources⟩:aA)),(d9 aQ r_2 (out.length:Int) at_),(IntKind.wrap .i64 (t32+1))))))
 else
 aL (((0:Int)≤((aO aQ r_2 at_).getD 0)∧((aO aQ r_2 at_).getD 0)<(out.length:Int))∧((((at' out (((aO aQ r_2 at_).getD 0).toNat)).buses).length+[t32].length)*8≤140737488355328)∧(((at' out (((aO aQ r_2 at_).getD 0).toNat)).buses).length+[t32].length≤4611686018427387904)) (
 some (.next ((out.set (((aO aQ r_2 at_).getD 0).toNat) (⟨(((at' out (((aO aQ r_2 at_).getD 0).toNat)).buses)++[t32]),(at' out (((aO aQ r_2 at_).getD 0).toNat)).sources⟩:aA)),at_,(IntKind.wrap .i64 (t32+1))))))
 else
 some (.done (.brk (out,at_)))
def yI (p:aj) (s_:State) (r_1:aK) (at_1:(List (Int × Int))):((List aA) × Int)→Option (aN ((List aA) × Int) (Ex (List aA) (List aA))):=
 fun zz=>match zz with
 |(out2,t78)=>
 bif (decide (t78<(p.sources.length:Int)))then
 aL ((0:Int)≤t78∧t78<(p.sources.length:Int)) (
 aL (((0:Int)≤t78∧t78<(s_.on_.length:Int))∧(gB [((at' s_.on_ t78.toNat),true)]=true→(0:Int)≤t78∧t78<(s_.badSource.length:Int))∧(gB [((bif (at' s_.on_ t78.toNat)then(!(at' s_.badSource t78.toNat))else false),true)]=true→(0:Int)≤(at' p.sources t78.toNat).bus∧(at' p.sources t78.toNat).bus<(s_.badBus.length:Int))) (
 bif (bif (bif (at' s_.on_ t78.toNat)then(!(at' s_.badSource t78.toNat))else false)then(!(at' s_.badBus (((at' p.sources t78.toNat).bus).toNat)))else false)then
 (bQ r_1 ((at' p.sources t78.toNat).bus)).bind fun r_3=>
 aL (((0:Int)≤((aO aQ r_3 at_1).getD 0)∧((aO aQ r_3 at_1).getD 0)<(out2.length:Int))∧((((at' out2 (((aO aQ r_3 at_1).getD 0).toNat)).sources).length+[t78].length)*8≤140737488355328)∧(((at' out2 (((aO aQ r_3 at_1).getD 0).toNat)).sources).length+[t78].length≤4611686018427387904)) (
 some (.next ((out2.set (((aO aQ r_3 at_1).getD 0).toNat) (⟨(at' out2 (((aO aQ r_3 at_1).getD 0).toNat)).buses,(((at' out2 (((aO aQ r_3 at_1).getD 0).toNat)).sources)++[t78])⟩:aA)),(IntKind.wrap .i64 (t78+1)))))
 else
 some (.next (out2,(IntKind.wrap .i64 (t78+1))))))
 else
 some (.done (.brk out2))
def oh (p:aj) (s_:State):Option (List aA):=
 (pX p s_).bind fun r_=>
 (oz r_.1 r_.2.1 r_.2.2.1 r_.2.2.2.1 s_ (⟨([]:(List (Int × Int)))⟩:aK)).bind fun r_1=>
 Option.bind (aB (yO p s_ r_1) FUEL (([]:List aA),([]:(List (Int × Int))),0)) fun o=>match o with
 | .ret v=>some v
 | .brk (out1,at_1)=>
 Option.bind (aB (yI p s_ r_1 at_1) FUEL (out1,0)) fun o=>match o with
 | .ret v=>some v
 | .brk out3=>
 some out3
def Bo (r_1:(List aA)) (t25:Int):((List Bool) × Int)→Option (aN ((List Bool) × Int) (Ex (List Bool) (aN ((List Bool) × Int) (Ex (List Bool) ((List Bool) × Int))))):=
 fun zz=>match zz with
 |(out2,t32)=>
 bif (decide (t32<(((at' r_1 t25.toNat).buses).length:Int)))then
 aL ((0:Int)≤t32∧t32<(((at' r_1 t25.toNat).buses).length:Int)) (
 aL ((0:Int)≤(at' ((at' r_1 t25.toNat).buses) t32.toNat)∧(at' ((at' r_1 t25.toNat).buses) t32.toNat)<(out2.length:Int)) (
 some (.next ((out2.set ((at' ((at' r_1 t25.toNat).buses) t32.toNat).toNat) (decide (0<(((at' r_1 t25.toNat).sources).length:Int)))),(IntKind.wrap .i64 (t32+1))))))
 else
 some (.done (.brk out2))
def Bc (r_1:(List aA)):((List Bool) × Int)→Option (aN ((List Bool) × Int) (Ex (List Bool) ((List Bool) × Int))):=
 fun zz=>match zz with
 |(out,t25)=>
 bif (decide (t25<(r_1.length:Int)))then
 aL ((0:Int)≤t25∧t25<(r_1.length:Int)) (
 Option.bind (aB (Bo r_1 t25) FUEL (out,0)) fun o=>match o with
 | .ret v=>some v
 | .brk out3=>
 some (.next (out3,(IntKind.wrap .i64 (t25+1)))))
 else
 some (.done (.brk out))
def nO (p:aj) (s_:State):Option ((List Bool) × Int):=
 (bS p s_).bind fun r_=>
 bif (!decide (r_=0))then
 some (([]:List Bool),r_)
 else
 aL (((0:Int)≤p.buses)∧((1:Int)*p.buses≤281474976710656)∧((p.buses:Int)≤9223372036854775807)) (
 (oh p s_).bind fun r_1=>
 Option.bind (aB (Bc r_1) FUEL ((List.replicate p.buses.toNat (false:Bool)),0)) fun o=>match o with
 | .ret v=>some v
 | .brk out1=>
 some (out1,0))
def Cm (p:aj) (r_:((List Bool) × Int)):((List aJ) × Int)→Option (aN ((List aJ) × Int) (Ex (List aJ) ((List aJ) × Int))):=
 fun zz=>match zz with
 |(out,t26)=>
 bif (decide (t26<(p.racks.length:Int)))then
 aL ((0:Int)≤t26∧t26<(p.racks.length:Int)) (
 aL (gB [((decide (0≤(((at' p.racks t26.toNat).feeds).e0))),true)]=true→(0:Int)≤((at' p.racks t26.toNat).feeds).e0∧((at' p.racks t26.toNat).feeds).e0<(r_.1.length:Int)) (
 aL (gB [((decide (0≤(((at' p.racks t26.toNat).feeds).e1))),true)]=true→(0:Int)≤((at' p.racks t26.toNat).feeds).e1∧((at' p.racks t26.toNat).feeds).e1<(r_.1.length:Int)) (
 aL (((out.length+[(⟨(bif (decide (0≤(((at' p.racks t26.toNat).feeds).e0)))then(at' r_.1 ((((at' p.racks t26.toNat).feeds).e0).toNat))else false),(bif (decide (0≤(((at' p.racks t26.toNat).feeds).e1)))then(at' r_.1 ((((at' p.racks t26.toNat).feeds).e1).toNat))else false)⟩:aJ)].length)*2≤140737488355328)∧(out.length+[(⟨(bif (decide (0≤(((at' p.racks t26.toNat).feeds).e0)))then(at' r_.1 ((((at' p.racks t26.toNat).feeds).e0).toNat))else false),(bif (decide (0≤(((at' p.racks t26.toNat).feeds).e1)))then(at' r_.1 ((((at' p.racks t26.toNat).feeds).e1).toNat))else false)⟩:aJ)].length≤4611686018427387904)) (
 some (.next ((out++[(⟨(bif (decide (0≤(((at' p.racks t26.toNat).feeds).e0)))then(at' r_.1 ((((at' p.racks t26.toNat).feeds).e0).toNat))else false),(bif (decide (0≤(((at' p.racks t26.toNat).feeds).e1)))then(at' r_.1 ((((at' p.racks t26.toNat).feeds).e1).toNat))else false)⟩:aJ)]),(IntKind.wrap .i64 (t26+1))))))))
 else
 some (.done (.brk out))
def uP (p:aj) (s_:State):Option ((List aJ) × Int):=
 (nO p s_).bind fun r_=>
 bif (!decide (r_.2=0))then
 some (([]:List aJ),r_.2)
 else
 Option.bind (aB (Cm p r_) FUEL (([]:List aJ),0)) fun o=>match o with
 | .ret v=>some v
 | .brk out1=>
 some (out1,0)
def yN (p:aj) (r_1:(List aA)) (t24:Int) (t31:Int):((List ay) × Int)→Option (aN ((List ay) × Int) (Ex (List ay) (aN ((List ay) × Int) (Ex (List ay) (aN ((List ay) × Int) (Ex (List ay) ((List ay) × Int))))))):=
 fun zz=>match zz with
 |(out4,t42)=>
 bif (decide (t42<(((((at' r_1 t24.toNat).sources).length - ((IntKind.wrap .i64 (t31+1)).toNat)):Nat):Int)))then
 aL ((0:Int)≤t42∧t42<((((at' r_1 t24.toNat).sources).drop ((IntKind.wrap .i64 (t31+1)).toNat)).length:Int)) (
 aL (((0:Int)≤(at' ((at' r_1 t24.toNat).sources) t31.toNat)∧(at' ((at' r_1 t24.toNat).sources) t31.toNat)<(p.sources.length:Int))∧(gB [((decide (((at' p.sources ((at' ((at' r_1 t24.toNat).sources) t31.toNat).toNat)).sync)=0)),false)]=true→(0:Int)≤(at' ((at' r_1 t24.toNat).sources) t31.toNat)∧(at' ((at' r_1 t24.toNat).sources) t31.toNat)<(p.sources.length:Int))∧(gB [((decide (((at' p.sources ((at' ((at' r_1 t24.toNat).sources) t31.toNat).toNat)).sync)=0)),false)]=true→(0:Int)≤(at' (((at' r_1 t24.toNat).sources).drop ((IntKind.wrap .i64 (t31+1)).toNat)) t42.toNat)∧(at' (((at' r_1 t24.toNat).sources).drop ((IntKind.wrap .i64 (t31+1)).toNat)) t42.toNat)<(p.sources.length:Int))) (
 bif (bif (decide (((at' p.sources ((at' ((at' r_1 t24.toNat).sources) t31.toNat).toNat)).sync)=0))then true else(!decide (((at' p.sources ((at' ((at' r_1 t24.toNat).sources) t31.toNat).toNat)).sync)=((at' p.sources ((at' (((at' r_1 t24.toNat).sources).drop ((IntKind.wrap .i64 (t31+1)).toNat)) t42.toNat).toNat)).sync))))then
 aL (((out4.length+[(⟨(at' ((at' r_1 t24.toNat).sources) t31.toNat),(at' (((at' r_1 t24.toNat).sources).drop ((IntKind.wrap .i64 (t31+1)).toNat)) t42.toNat)⟩:ay)].length)*16≤140737488355328)∧(out4.length+[(⟨(at' ((at' r_1 t24.toNat).sources) t31.toNat),(at' (((at' r_1 t24.toNat).sources).drop ((IntKind.wrap .i64 (t31+1)).toNat)) t42.toNat)⟩:ay)].length≤4611686018427387904)) (
 some (.next ((out4++[(⟨(at' ((at' r_1 t24.toNat).sources) t31.toNat),(at' (((at' r_1 t24.toNat).sources).drop ((IntKind.wrap .i64 (t31+1)).toNat)) t42.toNat)⟩:ay)]),(IntKind.wrap .i64 (t42+1)))))
 else
 some (.next (out4,(IntKind.wrap .i64 (t42+1))))))
 else
 some (.done (.brk out4))
def yJ (p:aj) (r_1:(List aA)) (t24:Int):((List ay) × Int)→Option (aN ((List ay) × Int) (Ex (List ay) (aN ((List ay) × Int) (Ex (List ay) ((List ay) × Int))))):=
 fun zz=>match zz with
 |(out2,t31)=>
 bif (decide (t31<(((at' r_1 t24.toNat).sources).length:Int)))then
 aL ((0:Int)≤t31∧t31<(((at' r_1 t24.toNat).sources).length:Int)) (
 aL ((0:Int)≤(IntKind.wrap .i64 (t31+1))∧(IntKind.wrap .i64 (t31+1))≤(((at' r_1 t24.toNat).sources).length:Int)) (
 Option.bind (aB (yN p r_1 t24 t31) FUEL (out2,0)) fun o=>match o with
 | .ret v=>some v
 | .brk out5=>
 some (.next (out5,(IntKind.wrap .i64 (t31+1))))))
 else
 some (.done (.brk out2))
def yD (p:aj) (r_1:(List aA)):((List ay) × Int)→Option (aN ((List ay) × Int) (Ex (List ay) ((List ay) × Int))):=
 fun zz=>match zz with
 |(out,t24)=>
 bif (decide (t24<(r_1.length:Int)))then
 aL ((0:Int)≤t24∧t24<(r_1.length:Int)) (
 Option.bind (aB (yJ p r_1 t24) FUEL (out,0)) fun o=>match o with
 | .ret v=>some v
 | .brk out3=>
 some (.next (out3,(IntKind.wrap .i64 (t24+1)))))
 else
 some (.done (.brk out))
def ol (p:aj) (s_:State):Option ((List ay) × Int):=
 (bS p s_).bind fun r_=>
 bif (!decide (r_=0))then
 some (([]:List ay),r_)
 else
 (oh p s_).bind fun r_1=>
 Option.bind (aB (yD p r_1) FUEL (([]:List ay),0)) fun o=>match o with
 | .ret v=>some v
 | .brk out1=>
 (gF out1).bind fun r_2=>
 aL (out1.length=r_2.length) (
 some (r_2,0))
def eX (p:aj) (r_5:(Int × State × Int)) (r_6:((List Bool) × Int)):Int→Option (aN Int (Ex Unit (aN ((List Bool) × (List Bool) × (List Bool) × (List Bool) × (List Bool) × (List Bool) × (List Bool) × Int) (Ex Unit Bool)))):=
 fun b=>
 bif (decide (b<p.buses))then
 aL (((0:Int)≤b∧b<(r_6.1.length:Int))∧(gB [((at' r_6.1 b.toNat),true)]=true→(0:Int)≤b∧b<(r_5.2.1.earthed.length:Int))) (
 bif (bif (at' r_6.1 b.toNat)then(at' r_5.2.1.earthed b.toNat)else false)then
 some (.done (.ret (.done (.ret false))))
 else
 some (.next (IntKind.wrap .i64 (b+1))))
 else
 some (.done (.brk ()))
def gq (t:Task) (r_7:((List aJ) × Int)):Int→Option (aN Int (Ex Unit (aN ((List Bool) × (List Bool) × (List Bool) × (List Bool) × (List Bool) × (List Bool) × (List Bool) × Int) (Ex Unit Bool)))):=
 fun kz=>
 bif (decide (kz<(t.fed.length:Int)))then
 aL (((0:Int)≤kz∧kz<(t.fed.length:Int))∧((0:Int)≤(at' t.fed kz.toNat)∧(at' t.fed kz.toNat)<(r_7.1.length:Int))∧(gB [((!((at' r_7.1 ((at' t.fed kz.toNat).toNat)).e0)),true)]=true→(0:Int)≤kz∧kz<(t.fed.length:Int))∧(gB [((!((at' r_7.1 ((at' t.fed kz.toNat).toNat)).e0)),true)]=true→(0:Int)≤(at' t.fed kz.toNat)∧(at' t.fed kz.toNat)<(r_7.1.length:Int))) (
 bif (bif (!((at' r_7.1 ((at' t.fed kz.toNat).toNat)).e0))then(!((at' r_7.1 ((at' t.fed kz.toNat).toNat)).e1))else false)then
 some (.done (.ret (.done (.ret false))))
 else
 some (.next (IntKind.wrap .i64 (kz+1))))
 else
 some (.done (.brk ()))
def gu (p:aj) (t:Task) (r_5:(Int × State × Int)) (r_6:((List Bool) × Int)):Int→Option (aN Int (Ex Unit (aN ((List Bool) × (List Bool) × (List Bool) × (List Bool) × (List Bool) × (List Bool) × (List Bool) × Int) (Ex Unit Bool)))):=
 fun kz1=>
 bif (decide (kz1<(t.crew.length:Int)))then
 (bif gB [((bif (at' r_6.1 ((at' t.crew kz1.toNat).toNat))then true else(!(at' r_5.2.1.earthed ((at' t.crew kz1.toNat).toNat)))),false)]then o7 p r_5.2.1 t.crew (at' t.crew kz1.toNat)else some default).bind fun r_9=>
 aL (((0:Int)≤kz1∧kz1<(t.crew.length:Int))∧((0:Int)≤(at' t.crew kz1.toNat)∧(at' t.crew kz1.toNat)<(r_6.1.length:Int))∧(gB [((at' r_6.1 ((at' t.crew kz1.toNat).toNat)),false)]=true→(0:Int)≤kz1∧kz1<(t.crew.length:Int))∧(gB [((at' r_6.1 ((at' t.crew kz1.toNat).toNat)),false)]=true→(0:Int)≤(at' t.crew kz1.toNat)∧(at' t.crew kz1.toNat)<(r_5.2.1.earthed.length:Int))∧(gB [((bif (at' r_6.1 ((at' t.crew kz1.toNat).toNat))then true else(!(at' r_5.2.1.earthed ((at' t.crew kz1.toNat).toNat)))),false)]=true→(0:Int)≤kz1∧kz1<(t.crew.length:Int))) (
 bif (bif (bif (at' r_6.1 ((at' t.crew kz1.toNat).toNat))then true else(!(at' r_5.2.1.earthed ((at' t.crew kz1.toNat).toNat))))then true else(!r_9))then
 some (.done (.ret (.done (.ret false))))
 else
 some (.next (IntKind.wrap .i64 (kz1+1))))
 else
 some (.done (.brk ()))
def bZ (p:aj) (t:Task) (l:(List af)) (r_:Task):((List Bool) × (List Bool) × (List Bool) × (List Bool) × (List Bool) × (List Bool) × (List Bool) × Int)→Option (aN ((List Bool) × (List Bool) × (List Bool) × (List Bool) × (List Bool) × (List Bool) × (List Bool) × Int) (Ex Unit Bool)):=
 fun zz=>match zz with
 |(now0,now1,now2,now3,now4,now5,now6,i)=>
 bif (decide (i<(l.length:Int)))then
 (dP p (⟨now0,now1,now2,now3,now4,now5,now6⟩:State) r_ (Fq l i.toNat (((IntKind.wrap .i64 (i+1)).toNat) - i.toNat))).bind fun r_5=>
 aL ((0:Int)≤i∧i≤(IntKind.wrap .i64 (i+1))∧(IntKind.wrap .i64 (i+1))≤(l.length:Int)) (
 bif (!decide (r_5.2.2=0))then
 some (.next (now0,now1,now2,now3,now4,now5,now6,(IntKind.wrap .i64 (i+1))))
 else
 (nO p r_5.2.1).bind fun r_6=>
 (uP p r_5.2.1).bind fun r_7=>
 (ol p r_5.2.1).bind fun r_8=>
 bif (bif (bif (bif (bif (bif (bif (bif (!decide (r_6.2=0))then true else(!decide (r_7.2=0)))then true else(!decide (r_8.2=0)))then true else(!decide ((r_8.1.length:Int)=0)))then true else(!decide ((r_6.1.length:Int)=p.buses)))then true else(!decide ((r_7.1.length:Int)=(p.racks.length:Int))))then true else(!decide ((r_5.2.1.earthed.length:Int)=p.buses)))then true else(!decide ((r_5.2.1.closed.length:Int)=(p.links.length:Int))))then
 some (.done (.ret false))
 else
 Option.bind (aB (eX p r_5 r_6) FUEL (0)) fun o=>match o with
 | .ret v=>some v
 | .brk _=>
 Option.bind (aB (gq t r_7) FUEL (0)) fun o=>match o with
 | .ret v=>some v
 | .brk _=>
 Option.bind (aB (gu p t r_5 r_6) FUEL (0)) fun o=>match o with
 | .ret v=>some v
 | .brk _=>
 (jk p r_5.2.1 (at' l i.toNat)).bind fun r_10=>
 aL ((0:Int)≤i∧i<(l.length:Int)) (
 (jk p (⟨now0,now1,now2,now3,now4,now5,now6⟩:State) (at' l i.toNat)).bind fun r_11=>
 aL ((0:Int)≤i∧i<(l.length:Int)) (
 (bif gB [((bif (bif (bif (!decide (r_10.2=0))then true else(!decide (r_11.2=0)))then true else(!r_10.1))then true else r_11.1),false)]then kM (⟨now0,now1,now2,now3,now4,now5,now6⟩:State) r_5.2.1 else some default).bind fun r_12=>
 bif (bif (bif (bif (bif (!decide (r_10.2=0))then true else(!decide (r_11.2=0)))then true else(!r_10.1))then true else r_11.1)then true else(!decide (r_12=1)))then
 some (.done (.ret false))
 else
 some (.next (r_5.2.1.closed,r_5.2.1.locked,r_5.2.1.badLink,r_5.2.1.on_,r_5.2.1.badSource,r_5.2.1.earthed,r_5.2.1.badBus,(IntKind.wrap .i64 (i+1)))))))
 else
 some (.done (.brk ()))
def lV (p:aj) (s_:State) (t:Task) (l:(List af)):Option Bool:=
 (uZ t).bind fun r_=>
 (zx p t).bind fun r_1=>
 (bif gB [(r_1,false)]then pM p t else some default).bind fun r_2=>
 (bif gB [((bif (bif r_1 then true else(!r_2))then true else(decide (40<(l.length:Int)))),false)]then eH p s_ r_ else some default).bind fun r_3=>
 bif (bif (bif (bif r_1 then true else(!r_2))then true else(decide (40<(l.length:Int))))then true else(!decide (r_3=0)))then
 (nJ).bind fun r_4=>
 some r_4
 else
 Option.bind (aB (bZ p t l r_) FUEL (s_.closed,s_.locked,s_.badLink,s_.on_,s_.badSource,s_.earthed,s_.badBus,0)) fun o=>match o with
 | .ret v=>some v
 | .brk _=>
 (nJ).bind fun r_13=>
 some r_13
def ji (p:aj) (t:Task) (l:(List af)):((List Bool) × (List Bool) × (List Bool) × (List Bool) × (List Bool) × (List Bool) × (List Bool) × Int)→Option (aN ((List Bool) × (List Bool) × (List Bool) × (List Bool) × (List Bool) × (List Bool) × (List Bool) × Int) (Ex ((List Bool) × (List Bool) × (List Bool) × (List Bool) × (List Bool) × (List Bool) × (List Bool)) (Int × State × Int))):=
 fun zz=>match zz with
 |(now0,now1,now2,now3,now4,now5,now6,i)=>
 bif (decide (i<(l.length:Int)))then
 (kH p (⟨now0,now1,now2,now3,now4,now5,now6⟩:State) (at' l i.toNat)).bind fun r_1=>
 aL ((0:Int)≤i∧i<(l.length:Int)) (
 bif (decide (r_1.2=0))then
 (dB p r_1.1 t).bind fun r_2=>
 bif (!decide (r_2=0))then
 some (.done (.ret (i,(⟨([]:List Bool),([]:List Bool),([]:List Bool),([]:List Bool),([]:List Bool),([]:List Bool),([]:List Bool)⟩:State),r_2)))
 else
 some (.next (r_1.1.closed,r_1.1.locked,r_1.1.badLink,r_1.1.on_,r_1.1.badSource,r_1.1.earthed,r_1.1.badBus,(IntKind.wrap .i64 (i+1))))
 else
 bif (!decide (r_1.2=0))then
 some (.done (.ret (i,(⟨([]:List Bool),([]:List Bool),([]:List Bool),([]:List Bool),([]:List Bool),([]:List Bool),([]:List Bool)⟩:State),r_1.2)))
 else
 some (.next (r_1.1.closed,r_1.1.locked,r_1.1.badLink,r_1.1.on_,r_1.1.badSource,r_1.1.earthed,r_1.1.badBus,(IntKind.wrap .i64 (i+1)))))
 else
 some (.done (.brk (now0,now1,now2,now3,now4,now5,now6)))
def pG (p:aj) (s_:State) (t:Task) (l:(List af)):Option (Int × State × Int):=
 (dB p s_ t).bind fun r_=>
 bif (!decide (r_=0))then
 some (0,(⟨([]:List Bool),([]:List Bool),([]:List Bool),([]:List Bool),([]:List Bool),([]:List Bool),([]:List Bool)⟩:State),r_)
 else
 bif (decide (256<(l.length:Int)))then
 some (0,(⟨([]:List Bool),([]:List Bool),([]:List Bool),([]:List Bool),([]:List Bool),([]:List Bool),([]:List Bool)⟩:State),2)
 else
 Option.bind (aB (ji p t l) FUEL (s_.closed,s_.locked,s_.badLink,s_.on_,s_.badSource,s_.earthed,s_.badBus,0)) fun o=>match o with
 | .ret v=>some v
 | .brk (now01,now11,now21,now31,now41,now51,now61)=>
 some ((l.length:Int),(⟨now01,now11,now21,now31,now41,now51,now61⟩:State),0)
end Sg
