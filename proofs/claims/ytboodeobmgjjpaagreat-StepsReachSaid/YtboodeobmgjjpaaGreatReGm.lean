import Derived.Test.YtboodeobmgjjpaaGreatReLd
set_option linter.all false
namespace Sg
open Go
structure Source where
 bus:Int
 kind:Int
 power:Int
 sync:Int
 ohm:Int
instance:Inhabited Source:=⟨⟨default,default,default,default,default⟩⟩
def Source.cell (x:Source):Nat→DV
 |0=>(.int .i64 x.bus)
 |1=>(.int .i64 x.kind)
 |2=>(.int .i64 x.power)
 |3=>(.int .i64 x.sync)
 |4=>(.int .i64 x.ohm)
 |_=> .nilp
structure oF where
 amps:Int
 millis:Int
instance:Inhabited oF:=⟨⟨default,default⟩⟩
def oF.cell (x:oF):Nat→DV
 |0=>(.int .i64 x.amps)
 |1=>(.int .i64 x.millis)
 |_=> .nilp
structure Link where
 a:Int
 b:Int
 kind:Int
 most:Int
 ohm:Int
 trip:(List oF)
instance:Inhabited Link:=⟨⟨default,default,default,default,default,default⟩⟩
def Link.cell (x:Link):Nat→DV
 |0=>(.int .i64 x.a)
 |1=>(.int .i64 x.b)
 |2=>(.int .i64 x.kind)
 |3=>(.int .i64 x.most)
 |4=>(.int .i64 x.ohm)
 |5=>(bB none 2 oF.cell x.trip)
 |_=> .nilp
structure aC where
 e0:Int
 e1:Int
instance:Inhabited aC:=⟨⟨default,default⟩⟩
def aC.cell (x:aC):Nat→DV
 |0=>(.int .i64 x.e0)
 |1=>(.int .i64 x.e1)
 |_=> .nilp
structure aU where
 feeds:aC
 power:Int
 paths:Int
instance:Inhabited aU:=⟨⟨default,default,default⟩⟩
def aU.cell (x:aU):Nat→DV
 |0=>(.int .i64 x.feeds.e0)
 |1=>(.int .i64 x.feeds.e1)
 |2=>(.int .i64 x.power)
 |3=>(.int .i64 x.paths)
 |_=> .nilp
structure aj where
 buses:Int
 sources:(List Source)
 links:(List Link)
 racks:(List aU)
instance:Inhabited aj:=⟨⟨default,default,default,default⟩⟩
def aj.cell (x:aj):Nat→DV
 |0=>(.int .i64 x.buses)
 |1=>(bB none 5 Source.cell x.sources)
 |2=>(bB none 6 Link.cell x.links)
 |3=>(bB none 4 aU.cell x.racks)
 |_=> .nilp
structure af where
 deed:Int
 index:Int
instance:Inhabited af:=⟨⟨default,default⟩⟩
def af.cell (x:af):Nat→DV
 |0=>(.int .i64 x.deed)
 |1=>(.int .i64 x.index)
 |_=> .nilp
structure Task where
 fed:(List Int)
 crew:(List Int)
 allowed:(List af)
 goal:(List af)
instance:Inhabited Task:=⟨⟨default,default,default,default⟩⟩
def Task.cell (x:Task):Nat→DV
 |0=>(bB none 1 (bL .i64) x.fed)
 |1=>(bB none 1 (bL .i64) x.crew)
 |2=>(bB none 2 af.cell x.allowed)
 |3=>(bB none 2 af.cell x.goal)
 |_=> .nilp
structure State where
 closed:(List Bool)
 locked:(List Bool)
 badLink:(List Bool)
 on_:(List Bool)
 badSource:(List Bool)
 earthed:(List Bool)
 badBus:(List Bool)
instance:Inhabited State:=⟨⟨default,default,default,default,default,default,default⟩⟩
def State.cell (x:State):Nat→DV
 |0=>(bB none 1 ai x.closed)
 |1=>(bB none 1 ai x.locked)
 |2=>(bB none 1 ai x.badLink)
 |3=>(bB none 1 ai x.on_)
 |4=>(bB none 1 ai x.badSource)
 |5=>(bB none 1 ai x.earthed)
 |6=>(bB none 1 ai x.badBus)
 |_=> .nilp
structure dm where
 l:(List Bool)
 n:Int
instance:Inhabited dm:=⟨⟨default,default⟩⟩
def dm.cell (x:dm):Nat→DV
 |0=>(bB none 1 ai x.l)
 |1=>(.int .i64 x.n)
 |_=> .nilp
structure aR where
 head:(List (Int × Int))
instance:Inhabited aR:=⟨⟨default⟩⟩
def aR.cell (x:aR):Nat→DV
 |0=> .nilp
 |_=> .nilp
structure aI where
 buses:(List Int)
 sources:(List Int)
instance:Inhabited aI:=⟨⟨default,default⟩⟩
def aI.cell (x:aI):Nat→DV
 |0=>(bB none 1 (bL .i64) x.buses)
 |1=>(bB none 1 (bL .i64) x.sources)
 |_=> .nilp
structure aV where
 e0:Bool
 e1:Bool
instance:Inhabited aV:=⟨⟨default,default⟩⟩
def aV.cell (x:aV):Nat→DV
 |0=>(.bool x.e0)
 |1=>(.bool x.e1)
 |_=> .nilp
structure Reached where
 s_:State
 from_:Int
 by_:af
instance:Inhabited Reached:=⟨⟨default,default,default⟩⟩
def Reached.cell (x:Reached):Nat→DV
 |0=>(bB none 1 ai x.s_.closed)
 |1=>(bB none 1 ai x.s_.locked)
 |2=>(bB none 1 ai x.s_.badLink)
 |3=>(bB none 1 ai x.s_.on_)
 |4=>(bB none 1 ai x.s_.badSource)
 |5=>(bB none 1 ai x.s_.earthed)
 |6=>(bB none 1 ai x.s_.badBus)
 |7=>(.int .i64 x.from_)
 |8=>(.int .i64 x.by_.deed)
 |9=>(.int .i64 x.by_.index)
 |_=> .nilp
structure Search where
 l:(List Reached)
 known:(List ((List Bool) × Bool))
instance:Inhabited Search:=⟨⟨default,default⟩⟩
def Search.cell (x:Search):Nat→DV
 |0=>(bB none 10 Reached.cell x.l)
 |1=> .nilp
 |_=> .nilp
def aI.ev (x:aI):Nat→EV
 |0=> .row 3 1 x.buses.length (ay (bL .i64) x.buses)
 |1=> .row 3 1 x.sources.length (ay (bL .i64) x.sources)
 |_=> .d .nilp
def yx (p:aj) (t:Task):Option Bool:=
 some (bif (bif (bif (bif (bif (bif (decide (60<(p.sources.length:Int)))then true else(decide (60<(p.links.length:Int))))then true else(decide (60<(p.racks.length:Int))))then true else(decide (60<(t.fed.length:Int))))then true else(decide (60<(t.crew.length:Int))))then true else(decide (60<(t.allowed.length:Int))))then true else(decide (60<(t.goal.length:Int))))
def aS (n:Int) (first:Int) (last:Int):Option Bool:=
 some (bif (decide (first≤n))then(decide (n≤last))else false)
def tV (p:aj):Option (Int × (List Source) × (List Link) × (List aU)):=
 some (p.buses,p.sources,p.links,p.racks)
def xg (p:aj):Option (Int × (List Source) × (List Link) × (List aU)):=
 some (p.buses,p.sources,p.links,p.racks)
def wR (p:aj):Option (Int × (List Source) × (List Link) × (List aU)):=
 some (p.buses,p.sources,p.links,p.racks)
def mo (x:Source) (x1:Int) (x11:(List Source)) (x12:(List Link)) (x13:(List aU)):Option Bool:=
 (aS x.bus 0 (IntKind.wrap .i64 (x1 - 1))).bind fun r_=>
 (bif gB [(r_,true)]then aS x.kind 1 3 else some default).bind fun r_1=>
 (bif gB [((bif r_ then r_1 else false),true)]then aS x.power 1 100000 else some default).bind fun r_2=>
 (bif gB [((bif (bif r_ then r_1 else false)then r_2 else false),true)]then aS x.sync 0 8 else some default).bind fun r_3=>
 (bif gB [((bif (bif (bif r_ then r_1 else false)then r_2 else false)then r_3 else false),true)]then aS x.ohm 10 100000 else some default).bind fun r_4=>
 some (bif (bif (bif (bif r_ then r_1 else false)then r_2 else false)then r_3 else false)then r_4 else false)
def sW (x:Source) (x1:Int) (x11:(List Source)) (x12:(List Link)) (x13:(List aU)):Option Bool:=
 (mo x x1 x11 x12 x13).bind fun r_=>
 some (!r_)
def kN (s_:(List Source)) (f_:Int) (f_1:(List Source)) (f_2:(List Link)) (f_3:(List aU)):Int→Option (bn Int (Ex Unit Int)):=
 fun t8=>
 bif (decide (t8<(s_.length:Int)))then
 (sW (at' s_ t8.toNat) f_ f_1 f_2 f_3).bind fun r_=>
 aJ ((0:Int)≤t8∧t8<(s_.length:Int)) (
 bif r_ then
 some (.done (.ret t8))
 else
 some (.next (IntKind.wrap .i64 (t8+1))))
 else
 some (.done (.brk ()))
def nW (s_:(List Source)) (f_:Int) (f_1:(List Source)) (f_2:(List Link)) (f_3:(List aU)):Option Int:=
 Option.bind (aA (kN s_ f_ f_1 f_2 f_3) FUEL (0)) fun o=>match o with
 | .ret v=>some v
 | .brk _=>
 some (-1)
def iF (s_:(List Source)) (f_:Int) (f_1:(List Source)) (f_2:(List Link)) (f_3:(List aU)):Option Bool:=
 (nW s_ f_ f_1 f_2 f_3).bind fun r_=>
 some (decide (0≤r_))
def rW (l:(List Source)) (most:Int) (right:Int) (right1:(List Source)) (right2:(List Link)) (right3:(List aU)):Option Bool:=
 (bif gB [((decide ((l.length:Int)≤most)),true)]then iF l right right1 right2 right3 else some default).bind fun r_=>
 some (bif (decide ((l.length:Int)≤most))then(!r_)else false)
def lq (x:Link):Int→Option (bn Int (Ex Unit Bool)):=
 fun t50=>
 bif (decide (t50<(x.trip.length:Int)))then
 aJ ((0:Int)≤t50∧t50<(x.trip.length:Int)) (
 (aS ((at' x.trip t50.toNat).amps) 1 1000000).bind fun r_5=>
 (bif gB [((!r_5),false)]then aS ((at' x.trip t50.toNat).millis) 1 100000 else some default).bind fun r_6=>
 aJ ((gB [((decide (0<t50)),true),((bif (!r_5)then true else(!r_6)),false)]=true→(0:Int)≤(IntKind.wrap .i64 (t50 - 1))∧(IntKind.wrap .i64 (t50 - 1))<(x.trip.length:Int))∧(gB [((decide (((at' x.trip t50.toNat).amps)≤((at' x.trip ((IntKind.wrap .i64 (t50 - 1)).toNat)).amps))),false),((decide (0<t50)),true),((bif (!r_5)then true else(!r_6)),false)]=true→(0:Int)≤(IntKind.wrap .i64 (t50 - 1))∧(IntKind.wrap .i64 (t50 - 1))<(x.trip.length:Int))) (
 bif (bif (bif (!r_5)then true else(!r_6))then true else(bif (decide (0<t50))then(bif (decide (((at' x.trip t50.toNat).amps)≤((at' x.trip ((IntKind.wrap .i64 (t50 - 1)).toNat)).amps)))then true else(decide (((at' x.trip ((IntKind.wrap .i64 (t50 - 1)).toNat)).millis)≤((at' x.trip t50.toNat).millis))))else false))then
 some (.done (.ret false))
 else
 some (.next (IntKind.wrap .i64 (t50+1)))))
 else
 some (.done (.brk ()))
def oM (x:Link) (x1:Int) (x11:(List Source)) (x12:(List Link)) (x13:(List aU)):Option Bool:=
 (aS x.a 0 (IntKind.wrap .i64 (x1 - 1))).bind fun r_=>
 (bif gB [((!r_),false)]then aS x.b 0 (IntKind.wrap .i64 (x1 - 1))else some default).bind fun r_1=>
 (bif gB [((bif (bif (!r_)then true else(!r_1))then true else(decide (x.a=x.b))),false)]then aS x.kind 1 3 else some default).bind fun r_2=>
 (bif gB [((bif (bif (bif (!r_)then true else(!r_1))then true else(decide (x.a=x.b)))then true else(!r_2)),false)]then aS x.most 1 100000 else some default).bind fun r_3=>
 (bif gB [((bif (bif (bif (bif (!r_)then true else(!r_1))then true else(decide (x.a=x.b)))then true else(!r_2))then true else(!r_3)),false)]then aS x.ohm 10 100000 else some default).bind fun r_4=>
 bif (bif (bif (bif (bif (bif (!r_)then true else(!r_1))then true else(decide (x.a=x.b)))then true else(!r_2))then true else(!r_3))then true else(!r_4))then
 some false
 else
 Option.bind (aA (lq x) FUEL (0)) fun o=>match o with
 | .ret v=>some v
 | .brk _=>
 some (bif (decide ((x.trip.length:Int)≤6))then(bif (decide ((x.trip.length:Int)=0))then true else(decide (x.kind=3)))else false)
def oG (x:Link) (x1:Int) (x11:(List Source)) (x12:(List Link)) (x13:(List aU)):Option Bool:=
 (oM x x1 x11 x12 x13).bind fun r_=>
 some (!r_)
def jw (s_:(List Link)) (f_:Int) (f_1:(List Source)) (f_2:(List Link)) (f_3:(List aU)):Int→Option (bn Int (Ex Unit Int)):=
 fun t8=>
 bif (decide (t8<(s_.length:Int)))then
 (oG (at' s_ t8.toNat) f_ f_1 f_2 f_3).bind fun r_=>
 aJ ((0:Int)≤t8∧t8<(s_.length:Int)) (
 bif r_ then
 some (.done (.ret t8))
 else
 some (.next (IntKind.wrap .i64 (t8+1))))
 else
 some (.done (.brk ()))
def kS (s_:(List Link)) (f_:Int) (f_1:(List Source)) (f_2:(List Link)) (f_3:(List aU)):Option Int:=
 Option.bind (aA (jw s_ f_ f_1 f_2 f_3) FUEL (0)) fun o=>match o with
 | .ret v=>some v
 | .brk _=>
 some (-1)
def fZ (s_:(List Link)) (f_:Int) (f_1:(List Source)) (f_2:(List Link)) (f_3:(List aU)):Option Bool:=
 (kS s_ f_ f_1 f_2 f_3).bind fun r_=>
 some (decide (0≤r_))
def oP (l:(List Link)) (most:Int) (right:Int) (right1:(List Source)) (right2:(List Link)) (right3:(List aU)):Option Bool:=
 (bif gB [((decide ((l.length:Int)≤most)),true)]then fZ l right right1 right2 right3 else some default).bind fun r_=>
 some (bif (decide ((l.length:Int)≤most))then(!r_)else false)
def ql (x:aU):Option Int:=
 bif (decide (x.feeds.e1=(-1)))then
 some 1
 else
 some 2
def pu (x:aU) (x1:Int) (x11:(List Source)) (x12:(List Link)) (x13:(List aU)):Option Bool:=
 (aS x.feeds.e0 0 (IntKind.wrap .i64 (x1 - 1))).bind fun r_=>
 (bif gB [(r_,true)]then aS x.feeds.e1 (-1) (IntKind.wrap .i64 (x1 - 1))else some default).bind fun r_1=>
 (bif gB [((bif (bif r_ then r_1 else false)then(!decide (x.feeds.e0=x.feeds.e1))else false),true)]then aS x.power 1 100000 else some default).bind fun r_2=>
 (bif gB [((bif (bif (bif r_ then r_1 else false)then(!decide (x.feeds.e0=x.feeds.e1))else false)then r_2 else false),true)]then ql x else some default).bind fun r_3=>
 (bif gB [((bif (bif (bif r_ then r_1 else false)then(!decide (x.feeds.e0=x.feeds.e1))else false)then r_2 else false),true)]then aS x.paths 0 r_3 else some default).bind fun r_4=>
 some (bif (bif (bif (bif r_ then r_1 else false)then(!decide (x.feeds.e0=x.feeds.e1))else false)then r_2 else false)then r_4 else false)
def o8 (x:aU) (x1:Int) (x11:(List Source)) (x12:(List Link)) (x13:(List aU)):Option Bool:=
 (pu x x1 x11 x12 x13).bind fun r_=>
 some (!r_)
def jg (s_:(List aU)) (f_:Int) (f_1:(List Source)) (f_2:(List Link)) (f_3:(List aU)):Int→Option (bn Int (Ex Unit Int)):=
 fun t8=>
 bif (decide (t8<(s_.length:Int)))then
 (o8 (⟨((at' s_ t8.toNat).feeds),(at' s_ t8.toNat).power,(at' s_ t8.toNat).paths⟩:aU) f_ f_1 f_2 f_3).bind fun r_=>
 aJ ((0:Int)≤t8∧t8<(s_.length:Int)) (
 bif r_ then
 some (.done (.ret t8))
 else
 some (.next (IntKind.wrap .i64 (t8+1))))
 else
 some (.done (.brk ()))
def kM (s_:(List aU)) (f_:Int) (f_1:(List Source)) (f_2:(List Link)) (f_3:(List aU)):Option Int:=
 Option.bind (aA (jg s_ f_ f_1 f_2 f_3) FUEL (0)) fun o=>match o with
 | .ret v=>some v
 | .brk _=>
 some (-1)
def gm (s_:(List aU)) (f_:Int) (f_1:(List Source)) (f_2:(List Link)) (f_3:(List aU)):Option Bool:=
 (kM s_ f_ f_1 f_2 f_3).bind fun r_=>
 some (decide (0≤r_))
def oC (l:(List aU)) (most:Int) (right:Int) (right1:(List Source)) (right2:(List Link)) (right3:(List aU)):Option Bool:=
 (bif gB [((decide ((l.length:Int)≤most)),true)]then gm l right right1 right2 right3 else some default).bind fun r_=>
 some (bif (decide ((l.length:Int)≤most))then(!r_)else false)
def qw (p:aj):Option Int:=
 (aS p.buses 1 24).bind fun r_=>
 bif (!r_)then
 some 10
 else
 (tV p).bind fun r_1=>
 (rW p.sources 8 r_1.1 r_1.2.1 r_1.2.2.1 r_1.2.2.2).bind fun r_2=>
 bif (!r_2)then
 some 11
 else
 (xg p).bind fun r_3=>
 (oP p.links 40 r_3.1 r_3.2.1 r_3.2.2.1 r_3.2.2.2).bind fun r_4=>
 bif (!r_4)then
 some 12
 else
 (wR p).bind fun r_5=>
 (oC p.racks 24 r_5.1 r_5.2.1 r_5.2.2.1 r_5.2.2.2).bind fun r_6=>
 bif (!r_6)then
 some 13
 else
 some 0
def iG (p:aj) (s_:State):Int→Option (bn Int (Ex Unit Int)):=
 fun t55=>
 bif (decide (t55<([(⟨s_.closed,(p.links.length:Int)⟩:dm),(⟨s_.locked,(p.links.length:Int)⟩:dm),(⟨s_.badLink,(p.links.length:Int)⟩:dm),(⟨s_.on_,(p.sources.length:Int)⟩:dm),(⟨s_.badSource,(p.sources.length:Int)⟩:dm),(⟨s_.earthed,p.buses⟩:dm),(⟨s_.badBus,p.buses⟩:dm)].length:Int)))then
 aJ ((0:Int)≤t55∧t55<([(⟨s_.closed,(p.links.length:Int)⟩:dm),(⟨s_.locked,(p.links.length:Int)⟩:dm),(⟨s_.badLink,(p.links.length:Int)⟩:dm),(⟨s_.on_,(p.sources.length:Int)⟩:dm),(⟨s_.badSource,(p.sources.length:Int)⟩:dm),(⟨s_.earthed,p.buses⟩:dm),(⟨s_.badBus,p.buses⟩:dm)].length:Int)) (
 bif (!decide ((((at' [(⟨s_.closed,(p.links.length:Int)⟩:dm),(⟨s_.locked,(p.links.length:Int)⟩:dm),(⟨s_.badLink,(p.links.length:Int)⟩:dm),(⟨s_.on_,(p.sources.length:Int)⟩:dm),(⟨s_.badSource,(p.sources.length:Int)⟩:dm),(⟨s_.earthed,p.buses⟩:dm),(⟨s_.badBus,p.buses⟩:dm)] t55.toNat).l).length:Int)=((at' [(⟨s_.closed,(p.links.length:Int)⟩:dm),(⟨s_.locked,(p.links.length:Int)⟩:dm),(⟨s_.badLink,(p.links.length:Int)⟩:dm),(⟨s_.on_,(p.sources.length:Int)⟩:dm),(⟨s_.badSource,(p.sources.length:Int)⟩:dm),(⟨s_.earthed,p.buses⟩:dm),(⟨s_.badBus,p.buses⟩:dm)] t55.toNat).n)))then
 some (.done (.ret 9))
 else
 some (.next (IntKind.wrap .i64 (t55+1))))
 else
 some (.done (.brk ()))
def iC (p:aj) (s_:State):Int→Option (bn Int (Ex Unit Int)):=
 fun t69=>
 bif (decide (t69<(p.links.length:Int)))then
 aJ ((0:Int)≤t69∧t69<(p.links.length:Int)) (
 aJ ((gB [((decide (((at' p.links t69.toNat).kind)=1)),true)]=true→(0:Int)≤t69∧t69<(s_.closed.length:Int))∧(gB [((!(at' s_.closed t69.toNat)),false),((decide (((at' p.links t69.toNat).kind)=1)),true)]=true→(0:Int)≤t69∧t69<(s_.locked.length:Int))) (
 bif (bif (decide (((at' p.links t69.toNat).kind)=1))then(bif (!(at' s_.closed t69.toNat))then true else(at' s_.locked t69.toNat))else false)then
 some (.done (.ret 9))
 else
 some (.next (IntKind.wrap .i64 (t69+1)))))
 else
 some (.done (.brk ()))
def dD (p:aj) (s_:State):Option Int:=
 (qw p).bind fun r_=>
 bif (!decide (r_=0))then
 some r_
 else
 Option.bind (aA (iG p s_) FUEL (0)) fun o=>match o with
 | .ret v=>some v
 | .brk _=>
 Option.bind (aA (iC p s_) FUEL (0)) fun o=>match o with
 | .ret v=>some v
 | .brk _=>
 some 0
def nO (i:Int) (x1:Int):Option Bool:=
 some (bif (decide (i<0))then true else(decide (x1≤i)))
def jh (s_:(List Int)) (f_:Int):Int→Option (bn Int (Ex Unit Int)):=
 fun t8=>
 bif (decide (t8<(s_.length:Int)))then
 (nO (at' s_ t8.toNat) f_).bind fun r_=>
 aJ ((0:Int)≤t8∧t8<(s_.length:Int)) (
 bif r_ then
 some (.done (.ret t8))
 else
 some (.next (IntKind.wrap .i64 (t8+1))))
 else
 some (.done (.brk ()))
def kQ (s_:(List Int)) (f_:Int):Option Int:=
 Option.bind (aA (jh s_ f_) FUEL (0)) fun o=>match o with
 | .ret v=>some v
 | .brk _=>
 some (-1)
def gF (s_:(List Int)) (f_:Int):Option Bool:=
 (kQ s_ f_).bind fun r_=>
 some (decide (0≤r_))
def jM (l:(List Int)) (n:Int):Option Bool:=
 (bif gB [((decide ((l.length:Int)≤24)),true)]then gF l n else some default).bind fun r_=>
 some (bif (decide ((l.length:Int)≤24))then(!r_)else false)
def jF (p:aj) (x:af):Option Bool:=
 bif (decide (x.deed=1))then
 bif (decide (x.deed=1))then
 aJ (gB [((bif (decide (0≤x.index))then(decide (x.index<(p.links.length:Int)))else false),true)]=true→(0:Int)≤x.index∧x.index<(p.links.length:Int)) (
 some (bif (bif (decide (0≤x.index))then(decide (x.index<(p.links.length:Int)))else false)then(!decide (((at' p.links x.index.toNat).kind)=1))else false))
 else
 bif (decide (x.deed=3))then
 bif (decide (x.deed=3))then
 some (bif (decide (0≤x.index))then(decide (x.index<p.buses))else false)
 else
 bif (decide (x.deed=7))then
 bif (decide (x.deed=7))then
 some (bif (decide (0≤x.index))then(decide (x.index<(p.sources.length:Int)))else false)
 else
 aJ (gB [((bif (decide (0≤x.index))then(decide (x.index<0))else false),true)]=true→(0:Int)≤x.index∧x.index<(p.links.length:Int)) (
 some (bif (bif (decide (0≤x.index))then(decide (x.index<0))else false)then(!decide (((at' p.links x.index.toNat).kind)=1))else false))
 else
 bif (decide (x.deed=8))then
 some (bif (decide (0≤x.index))then(decide (x.index<(p.sources.length:Int)))else false)
 else
 aJ (gB [((bif (decide (0≤x.index))then(decide (x.index<0))else false),true)]=true→(0:Int)≤x.index∧x.index<(p.links.length:Int)) (
 some (bif (bif (decide (0≤x.index))then(decide (x.index<0))else false)then(!decide (((at' p.links x.index.toNat).kind)=1))else false))
 else
 bif (decide (x.deed=4))then
 some (bif (decide (0≤x.index))then(decide (x.index<p.buses))else false)
 else
 bif (decide (x.deed=7))then
 bif (decide (x.deed=7))then
 some (bif (decide (0≤x.index))then(decide (x.index<(p.sources.length:Int)))else false)
 else
 aJ (gB [((bif (decide (0≤x.index))then(decide (x.index<0))else false),true)]=true→(0:Int)≤x.index∧x.index<(p.links.length:Int)) (
 some (bif (bif (decide (0≤x.index))then(decide (x.index<0))else false)then(!decide (((at' p.links x.index.toNat).kind)=1))else false))
 else
 bif (decide (x.deed=8))then
 some (bif (decide (0≤x.index))then(decide (x.index<(p.sources.length:Int)))else false)
 else
 aJ (gB [((bif (decide (0≤x.index))then(decide (x.index<0))else false),true)]=true→(0:Int)≤x.index∧x.index<(p.links.length:Int)) (
 some (bif (bif (decide (0≤x.index))then(decide (x.index<0))else false)then(!decide (((at' p.links x.index.toNat).kind)=1))else false))
 else
 bif (decide (x.deed=2))then
 bif (decide (x.deed=2))then
 aJ (gB [((bif (decide (0≤x.index))then(decide (x.index<(p.links.length:Int)))else false),true)]=true→(0:Int)≤x.index∧x.index<(p.links.length:Int)) (
 some (bif (bif (decide (0≤x.index))then(decide (x.index<(p.links.length:Int)))else false)then(!decide (((at' p.links x.index.toNat).kind)=1))else false))
 else
 bif (decide (x.deed=3))then
 bif (decide (x.deed=3))then
 some (bif (decide (0≤x.index))then(decide (x.index<p.buses))else false)
 else
 bif (decide (x.deed=7))then
 bif (decide (x.deed=7))then
 some (bif (decide (0≤x.index))then(decide (x.index<(p.sources.length:Int)))else false)
 else
 aJ (gB [((bif (decide (0≤x.index))then(decide (x.index<0))else false),true)]=true→(0:Int)≤x.index∧x.index<(p.links.length:Int)) (
 some (bif (bif (decide (0≤x.index))then(decide (x.index<0))else false)then(!decide (((at' p.links x.index.toNat).kind)=1))else false))
 else
 bif (decide (x.deed=8))then
 some (bif (decide (0≤x.index))then(decide (x.index<(p.sources.length:Int)))else false)
 else
 aJ (gB [((bif (decide (0≤x.index))then(decide (x.index<0))else false),true)]=true→(0:Int)≤x.index∧x.index<(p.links.length:Int)) (
 some (bif (bif (decide (0≤x.index))then(decide (x.index<0))else false)then(!decide (((at' p.links x.index.toNat).kind)=1))else false))
 else
 bif (decide (x.deed=4))then
 some (bif (decide (0≤x.index))then(decide (x.index<p.buses))else false)
 else
 bif (decide (x.deed=7))then
 bif (decide (x.deed=7))then
 some (bif (decide (0≤x.index))then(decide (x.index<(p.sources.length:Int)))else false)
 else
 aJ (gB [((bif (decide (0≤x.index))then(decide (x.index<0))else false),true)]=true→(0:Int)≤x.index∧x.index<(p.links.length:Int)) (
 some (bif (bif (decide (0≤x.index))then(decide (x.index<0))else false)then(!decide (((at' p.links x.index.toNat).kind)=1))else false))
 else
 bif (decide (x.deed=8))then
 some (bif (decide (0≤x.index))then(decide (x.index<(p.sources.length:Int)))else false)
 else
 aJ (gB [((bif (decide (0≤x.index))then(decide (x.index<0))else false),true)]=true→(0:Int)≤x.index∧x.index<(p.links.length:Int)) (
 some (bif (bif (decide (0≤x.index))then(decide (x.index<0))else false)then(!decide (((at' p.links x.index.toNat).kind)=1))else false))
 else
 bif (decide (x.deed=5))then
 bif (decide (x.deed=5))then
 aJ (gB [((bif (decide (0≤x.index))then(decide (x.index<(p.links.length:Int)))else false),true)]=true→(0:Int)≤x.index∧x.index<(p.links.length:Int)) (
 some (bif (bif (decide (0≤x.index))then(decide (x.index<(p.links.length:Int)))else false)then(!decide (((at' p.links x.index.toNat).kind)=1))else false))
 else
 bif (decide (x.deed=3))then
 bif (decide (x.deed=3))then
 some (bif (decide (0≤x.index))then(decide (x.index<p.buses))else false)
 else
 bif (decide (x.deed=7))then
 bif (decide (x.deed=7))then
 some (bif (decide (0≤x.index))then(decide (x.index<(p.sources.length:Int)))else false)
 else
 aJ (gB [((bif (decide (0≤x.index))then(decide (x.index<0))else false),true)]=true→(0:Int)≤x.index∧x.index<(p.links.length:Int)) (
 some (bif (bif (decide (0≤x.index))then(decide (x.index<0))else false)then(!decide (((at' p.links x.index.toNat).kind)=1))else false))
 else
 bif (decide (x.deed=8))then
 some (bif (decide (0≤x.index))then(decide (x.index<(p.sources.length:Int)))else false)
 else
 aJ (gB [((bif (decide (0≤x.index))then(decide (x.index<0))else false),true)]=true→(0:Int)≤x.index∧x.index<(p.links.length:Int)) (
 some (bif (bif (decide (0≤x.index))then(decide (x.index<0))else false)then(!decide (((at' p.links x.index.toNat).kind)=1))else false))
 else
 bif (decide (x.deed=4))then
 some (bif (decide (0≤x.index))then(decide (x.index<p.buses))else false)
 else
 bif (decide (x.deed=7))then
 bif (decide (x.deed=7))then
 some (bif (decide (0≤x.index))then(decide (x.index<(p.sources.length:Int)))else false)
 else
 aJ (gB [((bif (decide (0≤x.index))then(decide (x.index<0))else false),true)]=true→(0:Int)≤x.index∧x.index<(p.links.length:Int)) (
 some (bif (bif (decide (0≤x.index))then(decide (x.index<0))else false)then(!decide (((at' p.links x.index.toNat).kind)=1))else false))
 else
 bif (decide (x.deed=8))then
 some (bif (decide (0≤x.index))then(decide (x.index<(p.sources.length:Int)))else false)
 else
 aJ (gB [((bif (decide (0≤x.index))then(decide (x.index<0))else false),true)]=true→(0:Int)≤x.index∧x.index<(p.links.length:Int)) (
 some (bif (bif (decide (0≤x.index))then(decide (x.index<0))else false)then(!decide (((at' p.links x.index.toNat).kind)=1))else false))
 else
 bif (decide (x.deed=6))then
 aJ (gB [((bif (decide (0≤x.index))then(decide (x.index<(p.links.length:Int)))else false),true)]=true→(0:Int)≤x.index∧x.index<(p.links.length:Int)) (
 some (bif (bif (decide (0≤x.index))then(decide (x.index<(p.links.length:Int)))else false)then(!decide (((at' p.links x.index.toNat).kind)=1))else false))
 else
 bif (decide (x.deed=3))then
 bif (decide (x.deed=3))then
 some (bif (decide (0≤x.index))then(decide (x.index<p.buses))else false)
 else
 bif (decide (x.deed=7))then
 bif (decide (x.deed=7))then
 some (bif (decide (0≤x.index))then(decide (x.index<(p.sources.length:Int)))else false)
 else
 aJ (gB [((bif (decide (0≤x.index))then(decide (x.index<0))else false),true)]=true→(0:Int)≤x.index∧x.index<(p.links.length:Int)) (
 some (bif (bif (decide (0≤x.index))then(decide (x.index<0))else false)then(!decide (((at' p.links x.index.toNat).kind)=1))else false))
 else
 bif (decide (x.deed=8))then
 some (bif (decide (0≤x.index))then(decide (x.index<(p.sources.length:Int)))else false)
 else
 aJ (gB [((bif (decide (0≤x.index))then(decide (x.index<0))else false),true)]=true→(0:Int)≤x.index∧x.index<(p.links.length:Int)) (
 some (bif (bif (decide (0≤x.index))then(decide (x.index<0))else false)then(!decide (((at' p.links x.index.toNat).kind)=1))else false))
 else
 bif (decide (x.deed=4))then
 some (bif (decide (0≤x.index))then(decide (x.index<p.buses))else false)
 else
 bif (decide (x.deed=7))then
 bif (decide (x.deed=7))then
 some (bif (decide (0≤x.index))then(decide (x.index<(p.sources.length:Int)))else false)
 else
 aJ (gB [((bif (decide (0≤x.index))then(decide (x.index<0))else false),true)]=true→(0:Int)≤x.index∧x.index<(p.links.length:Int)) (
 some (bif (bif (decide (0≤x.index))then(decide (x.index<0))else false)then(!decide (((at' p.links x.index.toNat).kind)=1))else false))
 else
 bif (decide (x.deed=8))then
 some (bif (decide (0≤x.index))then(decide (x.index<(p.sources.length:Int)))else false)
 else
 aJ (gB [((bif (decide (0≤x.index))then(decide (x.index<0))else false),true)]=true→(0:Int)≤x.index∧x.index<(p.links.length:Int)) (
 some (bif (bif (decide (0≤x.index))then(decide (x.index<0))else false)then(!decide (((at' p.links x.index.toNat).kind)=1))else false))
def nQ (x:af) (x1:Int) (x11:(List Source)) (x12:(List Link)) (x13:(List aU)):Option Bool:=
 (jF (⟨x1,x11,x12,x13⟩:aj) x).bind fun r_=>
 some (!r_)
def jl (s_:(List af)) (f_:Int) (f_1:(List Source)) (f_2:(List Link)) (f_3:(List aU)):Int→Option (bn Int (Ex Unit Int)):=
 fun t8=>
 bif (decide (t8<(s_.length:Int)))then
 (nQ (at' s_ t8.toNat) f_ f_1 f_2 f_3).bind fun r_=>
 aJ ((0:Int)≤t8∧t8<(s_.length:Int)) (
 bif r_ then
 some (.done (.ret t8))
 else
 some (.next (IntKind.wrap .i64 (t8+1))))
 else
 some (.done (.brk ()))
def kR (s_:(List af)) (f_:Int) (f_1:(List Source)) (f_2:(List Link)) (f_3:(List aU)):Option Int:=
 Option.bind (aA (jl s_ f_ f_1 f_2 f_3) FUEL (0)) fun o=>match o with
 | .ret v=>some v
 | .brk _=>
 some (-1)
def gH (s_:(List af)) (f_:Int) (f_1:(List Source)) (f_2:(List Link)) (f_3:(List aU)):Option Bool:=
 (kR s_ f_ f_1 f_2 f_3).bind fun r_=>
 some (decide (0≤r_))
def jH (l:(List af)) (x1:Int) (x11:(List Source)) (x12:(List Link)) (x13:(List aU)):Option Bool:=
 (bif gB [((decide ((l.length:Int)≤24)),true)]then gH l x1 x11 x12 x13 else some default).bind fun r_=>
 some (bif (decide ((l.length:Int)≤24))then(!r_)else false)
def oz (p:aj) (t:Task):Option Bool:=
 (jM t.fed (p.racks.length:Int)).bind fun r_=>
 (bif gB [(r_,true)]then jM t.crew p.buses else some default).bind fun r_1=>
 (bif gB [((bif r_ then r_1 else false),true)]then jH t.allowed p.buses p.sources p.links p.racks else some default).bind fun r_2=>
 (bif gB [((bif (bif r_ then r_1 else false)then r_2 else false),true)]then jH t.goal p.buses p.sources p.links p.racks else some default).bind fun r_3=>
 some (bif (bif (bif r_ then r_1 else false)then r_2 else false)then r_3 else false)
def jV (p:aj) (s_:State):Option (Int × (List Source) × (List Link) × (List aU) × (List Bool) × (List Bool) × (List Bool) × (List Bool) × (List Bool) × (List Bool) × (List Bool)):=
 some (p.buses,p.sources,p.links,p.racks,s_.closed,s_.locked,s_.badLink,s_.on_,s_.badSource,s_.earthed,s_.badBus)
def eY (g:aR):Int→Option (bn Int (Ex Unit Int)):=
 fun x1=>
 bif (!((aZ aW x1 g.head).isSome))then
 some (.done (.ret x1))
 else
 some (.next ((aZ aW x1 g.head).getD 0))
def dB (g:aR) (x:Int):Option Int:=
 Option.bind (aA (eY g) FUEL (x)) fun o=>match o with
 | .ret v=>some v
 | .brk _=>none
def jC (g:aR) (a:Int) (b:Int):Option (List (Int × Int)):=
 (dB g a).bind fun r_=>
 (dB g b).bind fun r_1=>
 bif (!decide (r_=r_1))then
 some (fE aW r_ r_1 g.head)
 else
 some g.head
def lQ (x22:Int) (x221:Int) (x222:Int) (x223:Int) (x224:Int) (x225:(List oF)) (o_:aR):Option aR:=
 (jC o_ x22 x221).bind fun r_=>
 some (⟨r_⟩:aR)
def dM (x12:(List Link)) (x2:(List Bool)) (x22:(List Bool)) (x26:(List Bool)):((List (Int × Int)) × Int)→Option (bn ((List (Int × Int)) × Int) (Ex (List (Int × Int)) aR)):=
 fun zz=>match zz with
 |(o50,t9)=>
 bif (decide (t9<(x12.length:Int)))then
 aJ ((0:Int)≤t9∧t9<(x12.length:Int)) (
 bif (bif (bif (bif (at' x2 t9.toNat)then(!(at' x22 t9.toNat))else false)then(!(at' x26 (((at' x12 t9.toNat).a).toNat)))else false)then(!(at' x26 (((at' x12 t9.toNat).b).toNat)))else false)then
 (lQ ((at' x12 t9.toNat).a) ((at' x12 t9.toNat).b) ((at' x12 t9.toNat).kind) ((at' x12 t9.toNat).most) ((at' x12 t9.toNat).ohm) ((at' x12 t9.toNat).trip) (⟨o50⟩:aR)).bind fun r_=>
 aJ (((0:Int)≤t9∧t9<(x2.length:Int))∧(gB [((at' x2 t9.toNat),true)]=true→(0:Int)≤t9∧t9<(x22.length:Int))∧(gB [((bif (at' x2 t9.toNat)then(!(at' x22 t9.toNat))else false),true)]=true→(0:Int)≤(at' x12 t9.toNat).a∧(at' x12 t9.toNat).a<(x26.length:Int))∧(gB [((bif (bif (at' x2 t9.toNat)then(!(at' x22 t9.toNat))else false)then(!(at' x26 (((at' x12 t9.toNat).a).toNat)))else false),true)]=true→(0:Int)≤(at' x12 t9.toNat).b∧(at' x12 t9.toNat).b<(x26.length:Int))) (
 some (.next (r_.head,(IntKind.wrap .i64 (t9+1)))))
 else
 aJ (((0:Int)≤t9∧t9<(x2.length:Int))∧(gB [((at' x2 t9.toNat),true)]=true→(0:Int)≤t9∧t9<(x22.length:Int))∧(gB [((bif (at' x2 t9.toNat)then(!(at' x22 t9.toNat))else false),true)]=true→(0:Int)≤(at' x12 t9.toNat).a∧(at' x12 t9.toNat).a<(x26.length:Int))∧(gB [((bif (bif (at' x2 t9.toNat)then(!(at' x22 t9.toNat))else false)then(!(at' x26 (((at' x12 t9.toNat).a).toNat)))else false),true)]=true→(0:Int)≤(at' x12 t9.toNat).b∧(at' x12 t9.toNat).b<(x26.length:Int))) (
 some (.next (o50,(IntKind.wrap .i64 (t9+1))))))
 else
 some (.done (.brk o50))
def lZ (x1:Int) (x11:(List Source)) (x12:(List Link)) (x13:(List aU)) (x2:(List Bool)) (x21:(List Bool)) (x22:(List Bool)) (x23:(List Bool)) (x24:(List Bool)) (x25:(List Bool)) (x26:(List Bool)) (o_:aR):Option aR:=
 Option.bind (aA (dM x12 x2 x22 x26) FUEL (o_.head,0)) fun o=>match o with
 | .ret v=>some v
 | .brk o501=>
 some (⟨o501⟩:aR)
def bP (p:aj) (s_:State) (r_1:aR):((List aI) × (List (Int × Int)) × Int)→Option (bn ((List aI) × (List (Int × Int)) × Int) (Ex ((List aI) × (List (Int × Int))) (List aI))):=
 fun zz=>match zz with
 |(out,at_,t32)=>
 bif (decide (t32<p.buses))then
 aJ ((0:Int)≤t32∧t32<(s_.badBus.length:Int)) (
 bif (at' s_.badBus t32.toNat)then
 some (.next (out,at_,(IntKind.wrap .i64 (t32+1))))
 else
 (dB r_1 t32).bind fun r_2=>
 bif (!((aZ aW r_2 at_).isSome))then
 aJ (((out.length+[(⟨([]:List Int),([]:List Int)⟩:aI)].length)*48≤140737488355328)∧(out.length+[(⟨([]:List Int),([]:List Int)⟩:aI)].length≤4611686018427387904)) (
 aJ (((0:Int)≤((aZ aW r_2 (fE aW r_2 (out.length:Int) at_)).getD 0)∧((aZ aW r_2 (fE aW r_2 (out.length:Int) at_)).getD 0)<((out++[(⟨([]:List Int),([]:List Int)⟩:aI)]).length:Int))∧((((at' (out++[(⟨([]:List Int),([]:List Int)⟩:aI)]) (((aZ aW r_2 (fE aW r_2 (out.length:Int) at_)).getD 0).toNat)).buses).length+[t32].length)*8≤140737488355328)∧(((at' (out++[(⟨([]:List Int),([]:List Int)⟩:aI)]) (((aZ aW r_2 (fE aW r_2 (out.length:Int) at_)).getD 0).toNat)).buses).length+[t32].length≤4611686018427387904)) (
 some (.next (((out++[(⟨([]:List Int),([]:List Int)⟩:aI)]).set (((aZ aW r_2 (fE aW r_2 (out.length:Int) at_)).getD 0).toNat) (⟨(((at' (out++[(⟨([]:List Int),([]:List Int)⟩:aI)]) (((aZ aW r_2 (fE aW r_2 (out.length:Int) at_)).getD 0).toNat)).buses)++[t32]),(at' (out++[(⟨([]:List Int),([]:List Int)⟩:aI)]) (((aZ aW r_2 (fE aW r_2 (out.length:Int) at_)).getD 0).toNat)).sources⟩:aI)),(fE aW r_2 (out.length:Int) at_),(IntKind.wrap .i64 (t32+1))))))
 else
 aJ (((0:Int)≤((aZ aW r_2 at_).getD 0)∧((aZ aW r_2 at_).getD 0)<(out.length:Int))∧((((at' out (((aZ aW r_2 at_).getD 0).toNat)).buses).length+[t32].length)*8≤140737488355328)∧(((at' out (((aZ aW r_2 at_).getD 0).toNat)).buses).length+[t32].length≤4611686018427387904)) (
 some (.next ((out.set (((aZ aW r_2 at_).getD 0).toNat) (⟨(((at' out (((aZ aW r_2 at_).getD 0).toNat)).buses)++[t32]),(at' out (((aZ aW r_2 at_).getD 0).toNat)).sources⟩:aI)),at_,(IntKind.wrap .i64 (t32+1))))))
 else
 some (.done (.brk (out,at_)))
def bO (p:aj) (s_:State) (r_1:aR) (at_1:(List (Int × Int))):((List aI) × Int)→Option (bn ((List aI) × Int) (Ex (List aI) (List aI))):=
 fun zz=>match zz with
 |(out2,t78)=>
 bif (decide (t78<(p.sources.length:Int)))then
 aJ ((0:Int)≤t78∧t78<(p.sources.length:Int)) (
 aJ (((0:Int)≤t78∧t78<(s_.on_.length:Int))∧(gB [((at' s_.on_ t78.toNat),true)]=true→(0:Int)≤t78∧t78<(s_.badSource.length:Int))∧(gB [((bif (at' s_.on_ t78.toNat)then(!(at' s_.badSource t78.toNat))else false),true)]=true→(0:Int)≤(at' p.sources t78.toNat).bus∧(at' p.sources t78.toNat).bus<(s_.badBus.length:Int))) (
 bif (bif (bif (at' s_.on_ t78.toNat)then(!(at' s_.badSource t78.toNat))else false)then(!(at' s_.badBus (((at' p.sources t78.toNat).bus).toNat)))else false)then
 (dB r_1 ((at' p.sources t78.toNat).bus)).bind fun r_3=>
 aJ (((0:Int)≤((aZ aW r_3 at_1).getD 0)∧((aZ aW r_3 at_1).getD 0)<(out2.length:Int))∧((((at' out2 (((aZ aW r_3 at_1).getD 0).toNat)).sources).length+[t78].length)*8≤140737488355328)∧(((at' out2 (((aZ aW r_3 at_1).getD 0).toNat)).sources).length+[t78].length≤4611686018427387904)) (
 some (.next ((out2.set (((aZ aW r_3 at_1).getD 0).toNat) (⟨(at' out2 (((aZ aW r_3 at_1).getD 0).toNat)).buses,(((at' out2 (((aZ aW r_3 at_1).getD 0).toNat)).sources)++[t78])⟩:aI)),(IntKind.wrap .i64 (t78+1)))))
 else
 some (.next (out2,(IntKind.wrap .i64 (t78+1))))))
 else
 some (.done (.brk out2))
def fG (p:aj) (s_:State):Option (List aI):=
 (jV p s_).bind fun r_=>
 (lZ r_.1 r_.2.1 r_.2.2.1 r_.2.2.2.1 r_.2.2.2.2.1 r_.2.2.2.2.2.1 r_.2.2.2.2.2.2.1 r_.2.2.2.2.2.2.2.1 r_.2.2.2.2.2.2.2.2.1 r_.2.2.2.2.2.2.2.2.2.1 r_.2.2.2.2.2.2.2.2.2.2 (⟨([]:(List (Int × Int)))⟩:aR)).bind fun r_1=>
 Option.bind (aA (bP p s_ r_1) FUEL (([]:List aI),([]:(List (Int × Int))),0)) fun o=>match o with
 | .ret v=>some v
 | .brk (out1,at_1)=>
 Option.bind (aA (bO p s_ r_1 at_1) FUEL (out1,0)) fun o=>match o with
 | .ret v=>some v
 | .brk out3=>
 some out3
def kI (r_1:(List aI)) (t25:Int):((List Bool) × Int)→Option (bn ((List Bool) × Int) (Ex (List Bool) (bn ((List Bool) × Int) (Ex (List Bool) ((List Bool) × Int))))):=
 fun zz=>match zz with
 |(out2,t32)=>
 bif (decide (t32<(((at' r_1 t25.toNat).buses).length:Int)))then
 aJ ((0:Int)≤t32∧t32<(((at' r_1 t25.toNat).buses).length:Int)) (
 aJ ((0:Int)≤(at' ((at' r_1 t25.toNat).buses) t32.toNat)∧(at' ((at' r_1 t25.toNat).buses) t32.toNat)<(out2.length:Int)) (
 some (.next ((out2.set ((at' ((at' r_1 t25.toNat).buses) t32.toNat).toNat) (decide (0<(((at' r_1 t25.toNat).sources).length:Int)))),(IntKind.wrap .i64 (t32+1))))))
 else
 some (.done (.brk out2))
def kE (r_1:(List aI)):((List Bool) × Int)→Option (bn ((List Bool) × Int) (Ex (List Bool) ((List Bool) × Int))):=
 fun zz=>match zz with
 |(out,t25)=>
 bif (decide (t25<(r_1.length:Int)))then
 aJ ((0:Int)≤t25∧t25<(r_1.length:Int)) (
 Option.bind (aA (kI r_1 t25) FUEL (out,0)) fun o=>match o with
 | .ret v=>some v
 | .brk out3=>
 some (.next (out3,(IntKind.wrap .i64 (t25+1)))))
 else
 some (.done (.brk out))
def fV (p:aj) (s_:State):Option ((List Bool) × Int):=
 (dD p s_).bind fun r_=>
 bif (!decide (r_=0))then
 some (([]:List Bool),r_)
 else
 aJ (((0:Int)≤p.buses)∧((1:Int)*p.buses≤281474976710656)∧((p.buses:Int)≤9223372036854775807)) (
 (fG p s_).bind fun r_1=>
 Option.bind (aA (kE r_1) FUEL ((List.replicate p.buses.toNat (false:Bool)),0)) fun o=>match o with
 | .ret v=>some v
 | .brk out1=>
 some (out1,0))
def jL (p:aj) (r_:((List Bool) × Int)):((List aV) × Int)→Option (bn ((List aV) × Int) (Ex (List aV) ((List aV) × Int))):=
 fun zz=>match zz with
 |(out,t26)=>
 bif (decide (t26<(p.racks.length:Int)))then
 aJ ((0:Int)≤t26∧t26<(p.racks.length:Int)) (
 aJ (gB [((decide (0≤(((at' p.racks t26.toNat).feeds).e0))),true)]=true→(0:Int)≤((at' p.racks t26.toNat).feeds).e0∧((at' p.racks t26.toNat).feeds).e0<(r_.1.length:Int)) (
 aJ (gB [((decide (0≤(((at' p.racks t26.toNat).feeds).e1))),true)]=true→(0:Int)≤((at' p.racks t26.toNat).feeds).e1∧((at' p.racks t26.toNat).feeds).e1<(r_.1.length:Int)) (
 aJ (((out.length+[(⟨(bif (decide (0≤(((at' p.racks t26.toNat).feeds).e0)))then(at' r_.1 ((((at' p.racks t26.toNat).feeds).e0).toNat))else false),(bif (decide (0≤(((at' p.racks t26.toNat).feeds).e1)))then(at' r_.1 ((((at' p.racks t26.toNat).feeds).e1).toNat))else false)⟩:aV)].length)*2≤140737488355328)∧(out.length+[(⟨(bif (decide (0≤(((at' p.racks t26.toNat).feeds).e0)))then(at' r_.1 ((((at' p.racks t26.toNat).feeds).e0).toNat))else false),(bif (decide (0≤(((at' p.racks t26.toNat).feeds).e1)))then(at' r_.1 ((((at' p.racks t26.toNat).feeds).e1).toNat))else false)⟩:aV)].length≤4611686018427387904)) (
 some (.next ((out++[(⟨(bif (decide (0≤(((at' p.racks t26.toNat).feeds).e0)))then(at' r_.1 ((((at' p.racks t26.toNat).feeds).e0).toNat))else false),(bif (decide (0≤(((at' p.racks t26.toNat).feeds).e1)))then(at' r_.1 ((((at' p.racks t26.toNat).feeds).e1).toNat))else false)⟩:aV)]),(IntKind.wrap .i64 (t26+1))))))))
 else
 some (.done (.brk out))
def uP (p:aj) (s_:State):Option ((List aV) × Int):=
 (fV p s_).bind fun r_=>
 bif (!decide (r_.2=0))then
 some (([]:List aV),r_.2)
 else
 Option.bind (aA (jL p r_) FUEL (([]:List aV),0)) fun o=>match o with
 | .ret v=>some v
 | .brk out1=>
 some (out1,0)
def uI (x:Int):Option Bool:=
 some (!decide (x=x))
def qo (x:Int) (y:Int):Option Int:=
 (uI x).bind fun r_=>
 (uI y).bind fun r_1=>
 bif r_ then
 bif r_1 then
 some 0
 else
 some (-1)
 else
 bif r_1 then
 some 1
 else
 bif (decide (x<y))then
 some (-1)
 else
 bif (decide (y<x))then
 some 1
 else
 some 0
def q9 (s1:(List Int)) (s2:(List Int)):Int→Option (bn Int (Ex Unit Int)):=
 fun t11=>
 bif (decide (t11<(s1.length:Int)))then
 aJ ((0:Int)≤t11∧t11<(s1.length:Int)) (
 bif (decide ((s2.length:Int)≤t11))then
 some (.done (.ret 1))
 else
 aJ ((0:Int)≤t11∧t11<(s2.length:Int)) (
 (qo (at' s1 t11.toNat) (at' s2 t11.toNat)).bind fun r_=>
 bif (!decide (r_=0))then
 some (.done (.ret r_))
 else
 some (.next (IntKind.wrap .i64 (t11+1)))))
 else
 some (.done (.brk ()))
def qh (s1:(List Int)) (s2:(List Int)):Option Int:=
 Option.bind (aA (q9 s1 s2) FUEL (0)) fun o=>match o with
 | .ret v=>some v
 | .brk _=>
 bif (decide ((s1.length:Int)<(s2.length:Int)))then
 some (-1)
 else
 some 0
def iV (a:aC) (b:aC):Option Int:=
 (qh [a.e0,a.e1] [b.e0,b.e1]).bind fun r_=>
 some r_
def aY (x y:aC):Int:=(iV x y).getD 0
def iY (s:(List aC)):Option (List aC):=match s with
 |[]=>some []
 |x::xs=>bif decide ((x::xs).length<4611686018427387904)then some ((x::xs).mergeSort fun x y=> !decide (aY y x<0))else none
def j3 (p:aj) (r_1:(List aI)) (t24:Int) (t31:Int):((List aC) × Int)→Option (bn ((List aC) × Int) (Ex (List aC) (bn ((List aC) × Int) (Ex (List aC) (bn ((List aC) × Int) (Ex (List aC) ((List aC) × Int))))))):=
 fun zz=>match zz with
 |(out4,t42)=>
 bif (decide (t42<(((((at' r_1 t24.toNat).sources).length - ((IntKind.wrap .i64 (t31+1)).toNat)):Nat):Int)))then
 aJ ((0:Int)≤t42∧t42<((((at' r_1 t24.toNat).sources).drop ((IntKind.wrap .i64 (t31+1)).toNat)).length:Int)) (
 aJ (((0:Int)≤(at' ((at' r_1 t24.toNat).sources) t31.toNat)∧(at' ((at' r_1 t24.toNat).sources) t31.toNat)<(p.sources.length:Int))∧(gB [((decide (((at' p.sources ((at' ((at' r_1 t24.toNat).sources) t31.toNat).toNat)).sync)=0)),false)]=true→(0:Int)≤(at' ((at' r_1 t24.toNat).sources) t31.toNat)∧(at' ((at' r_1 t24.toNat).sources) t31.toNat)<(p.sources.length:Int))∧(gB [((decide (((at' p.sources ((at' ((at' r_1 t24.toNat).sources) t31.toNat).toNat)).sync)=0)),false)]=true→(0:Int)≤(at' (((at' r_1 t24.toNat).sources).drop ((IntKind.wrap .i64 (t31+1)).toNat)) t42.toNat)∧(at' (((at' r_1 t24.toNat).sources).drop ((IntKind.wrap .i64 (t31+1)).toNat)) t42.toNat)<(p.sources.length:Int))) (
 bif (bif (decide (((at' p.sources ((at' ((at' r_1 t24.toNat).sources) t31.toNat).toNat)).sync)=0))then true else(!decide (((at' p.sources ((at' ((at' r_1 t24.toNat).sources) t31.toNat).toNat)).sync)=((at' p.sources ((at' (((at' r_1 t24.toNat).sources).drop ((IntKind.wrap .i64 (t31+1)).toNat)) t42.toNat).toNat)).sync))))then
 aJ (((out4.length+[(⟨(at' ((at' r_1 t24.toNat).sources) t31.toNat),(at' (((at' r_1 t24.toNat).sources).drop ((IntKind.wrap .i64 (t31+1)).toNat)) t42.toNat)⟩:aC)].length)*16≤140737488355328)∧(out4.length+[(⟨(at' ((at' r_1 t24.toNat).sources) t31.toNat),(at' (((at' r_1 t24.toNat).sources).drop ((IntKind.wrap .i64 (t31+1)).toNat)) t42.toNat)⟩:aC)].length≤4611686018427387904)) (
 some (.next ((out4++[(⟨(at' ((at' r_1 t24.toNat).sources) t31.toNat),(at' (((at' r_1 t24.toNat).sources).drop ((IntKind.wrap .i64 (t31+1)).toNat)) t42.toNat)⟩:aC)]),(IntKind.wrap .i64 (t42+1)))))
 else
 some (.next (out4,(IntKind.wrap .i64 (t42+1))))))
 else
 some (.done (.brk out4))
def j6 (p:aj) (r_1:(List aI)) (t24:Int):((List aC) × Int)→Option (bn ((List aC) × Int) (Ex (List aC) (bn ((List aC) × Int) (Ex (List aC) ((List aC) × Int))))):=
 fun zz=>match zz with
 |(out2,t31)=>
 bif (decide (t31<(((at' r_1 t24.toNat).sources).length:Int)))then
 aJ ((0:Int)≤t31∧t31<(((at' r_1 t24.toNat).sources).length:Int)) (
 aJ ((0:Int)≤(IntKind.wrap .i64 (t31+1))∧(IntKind.wrap .i64 (t31+1))≤(((at' r_1 t24.toNat).sources).length:Int)) (
 Option.bind (aA (j3 p r_1 t24 t31) FUEL (out2,0)) fun o=>match o with
 | .ret v=>some v
 | .brk out5=>
 some (.next (out5,(IntKind.wrap .i64 (t31+1))))))
 else
 some (.done (.brk out2))
def ig (p:aj) (r_1:(List aI)):((List aC) × Int)→Option (bn ((List aC) × Int) (Ex (List aC) ((List aC) × Int))):=
 fun zz=>match zz with
 |(out,t24)=>
 bif (decide (t24<(r_1.length:Int)))then
 aJ ((0:Int)≤t24∧t24<(r_1.length:Int)) (
 Option.bind (aA (j6 p r_1 t24) FUEL (out,0)) fun o=>match o with
 | .ret v=>some v
 | .brk out3=>
 some (.next (out3,(IntKind.wrap .i64 (t24+1)))))
 else
 some (.done (.brk out))
def nG (p:aj) (s_:State):Option ((List aC) × Int):=
 (dD p s_).bind fun r_=>
 bif (!decide (r_=0))then
 some (([]:List aC),r_)
 else
 (fG p s_).bind fun r_1=>
 Option.bind (aA (ig p r_1) FUEL (([]:List aC),0)) fun o=>match o with
 | .ret v=>some v
 | .brk out1=>
 (iY out1).bind fun r_2=>
 aJ (out1.length=r_2.length) (
 some (r_2,0))
def qK (r_:Int) (x1:(List aV)):Option Bool:=
 aJ (((0:Int)≤r_∧r_<(x1.length:Int))∧(gB [((!((at' x1 r_.toNat).e0)),true)]=true→(0:Int)≤r_∧r_<(x1.length:Int))) (
 some (bif (!((at' x1 r_.toNat).e0))then(!((at' x1 r_.toNat).e1))else false))
def gT (s_:(List Int)) (f_:(List aV)):Int→Option (bn Int (Ex Unit Int)):=
 fun t8=>
 bif (decide (t8<(s_.length:Int)))then
 (qK (at' s_ t8.toNat) f_).bind fun r_=>
 aJ ((0:Int)≤t8∧t8<(s_.length:Int)) (
 bif r_ then
 some (.done (.ret t8))
 else
 some (.next (IntKind.wrap .i64 (t8+1))))
 else
 some (.done (.brk ()))
def jy (s_:(List Int)) (f_:(List aV)):Option Int:=
 Option.bind (aA (gT s_ f_) FUEL (0)) fun o=>match o with
 | .ret v=>some v
 | .brk _=>
 some (-1)
def fq (s_:(List Int)) (f_:(List aV)):Option Bool:=
 (jy s_ f_).bind fun r_=>
 some (decide (0≤r_))
def oV (s_:(List Int)) (v_:Int):Int→Option (bn Int (Ex Unit Int)):=
 fun t8=>
 bif (decide (t8<(s_.length:Int)))then
 aJ ((0:Int)≤t8∧t8<(s_.length:Int)) (
 bif (decide (v_=(at' s_ t8.toNat)))then
 some (.done (.ret t8))
 else
 some (.next (IntKind.wrap .i64 (t8+1))))
 else
 some (.done (.brk ()))
def tF (s_:(List Int)) (v_:Int):Option Int:=
 Option.bind (aA (oV s_ v_) FUEL (0)) fun o=>match o with
 | .ret v=>some v
 | .brk _=>
 some (-1)
def iR (s_:(List Int)) (v_:Int):Option Bool:=
 (tF s_ v_).bind fun r_=>
 some (decide (0≤r_))
def qY (p:aj) (s_:State) (b:Int):Int→Option (bn Int (Ex Unit Bool)):=
 fun t22=>
 bif (decide (t22<(p.sources.length:Int)))then
 aJ ((0:Int)≤t22∧t22<(p.sources.length:Int)) (
 aJ (gB [((decide (((at' p.sources t22.toNat).bus)=b)),true)]=true→(0:Int)≤t22∧t22<(s_.on_.length:Int)) (
 bif (bif (decide (((at' p.sources t22.toNat).bus)=b))then(at' s_.on_ t22.toNat)else false)then
 some (.done (.ret false))
 else
 some (.next (IntKind.wrap .i64 (t22+1)))))
 else
 some (.done (.brk ()))
def qV (p:aj) (s_:State) (t:Task) (b:Int):Int→Option (bn Int (Ex Unit Bool)):=
 fun t42=>
 bif (decide (t42<(p.links.length:Int)))then
 aJ ((0:Int)≤t42∧t42<(p.links.length:Int)) (
 (bif gB [((bif (!decide (((at' p.links t42.toNat).a)=b))then(!decide (((at' p.links t42.toNat).b)=b))else false),false)]then iR t.crew (IntKind.wrap .i64 ((IntKind.wrap .i64 (((at' p.links t42.toNat).a)+((at' p.links t42.toNat).b))) - b))else some default).bind fun r_=>
 bif (bif (bif (!decide (((at' p.links t42.toNat).a)=b))then(!decide (((at' p.links t42.toNat).b)=b))else false)then true else r_)then
 some (.next (IntKind.wrap .i64 (t42+1)))
 else
 aJ ((gB [((decide (((at' p.links t42.toNat).kind)=1)),false)]=true→(0:Int)≤t42∧t42<(s_.closed.length:Int))∧(gB [((bif (decide (((at' p.links t42.toNat).kind)=1))then true else(at' s_.closed t42.toNat)),false)]=true→(0:Int)≤t42∧t42<(s_.locked.length:Int))) (
 bif (bif (bif (decide (((at' p.links t42.toNat).kind)=1))then true else(at' s_.closed t42.toNat))then true else(!(at' s_.locked t42.toNat)))then
 some (.done (.ret false))
 else
 some (.next (IntKind.wrap .i64 (t42+1)))))
 else
 some (.done (.brk ()))
def rE (p:aj) (s_:State) (t:Task) (b:Int):Option Bool:=
 aJ ((0:Int)≤b∧b<(s_.earthed.length:Int)) (
 bif (!(at' s_.earthed b.toNat))then
 some false
 else
 Option.bind (aA (qY p s_ b) FUEL (0)) fun o=>match o with
 | .ret v=>some v
 | .brk _=>
 Option.bind (aA (qV p s_ t b) FUEL (0)) fun o=>match o with
 | .ret v=>some v
 | .brk _=>
 some true)
def qO (b:Int) (x1:Int) (x11:(List Source)) (x12:(List Link)) (x13:(List aU)) (x2:(List Bool)) (x21:(List Bool)) (x22:(List Bool)) (x23:(List Bool)) (x24:(List Bool)) (x25:(List Bool)) (x26:(List Bool)) (x3:(List Int)) (x31:(List Int)) (x32:(List af)) (x33:(List af)):Option Bool:=
 (rE (⟨x1,x11,x12,x13⟩:aj) (⟨x2,x21,x22,x23,x24,x25,x26⟩:State) (⟨x3,x31,x32,x33⟩:Task) b).bind fun r_=>
 some (!r_)
def gN (s_:(List Int)) (f_:Int) (f_1:(List Source)) (f_2:(List Link)) (f_3:(List aU)) (f_4:(List Bool)) (f_5:(List Bool)) (f_6:(List Bool)) (f_7:(List Bool)) (f_8:(List Bool)) (f_9:(List Bool)) (f_10:(List Bool)) (f_11:(List Int)) (f_12:(List Int)) (f_13:(List af)) (f_14:(List af)):Int→Option (bn Int (Ex Unit Int)):=
 fun t8=>
 bif (decide (t8<(s_.length:Int)))then
 (qO (at' s_ t8.toNat) f_ f_1 f_2 f_3 f_4 f_5 f_6 f_7 f_8 f_9 f_10 f_11 f_12 f_13 f_14).bind fun r_=>
 aJ ((0:Int)≤t8∧t8<(s_.length:Int)) (
 bif r_ then
 some (.done (.ret t8))
 else
 some (.next (IntKind.wrap .i64 (t8+1))))
 else
 some (.done (.brk ()))
def jr (s_:(List Int)) (f_:Int) (f_1:(List Source)) (f_2:(List Link)) (f_3:(List aU)) (f_4:(List Bool)) (f_5:(List Bool)) (f_6:(List Bool)) (f_7:(List Bool)) (f_8:(List Bool)) (f_9:(List Bool)) (f_10:(List Bool)) (f_11:(List Int)) (f_12:(List Int)) (f_13:(List af)) (f_14:(List af)):Option Int:=
 Option.bind (aA (gN s_ f_ f_1 f_2 f_3 f_4 f_5 f_6 f_7 f_8 f_9 f_10 f_11 f_12 f_13 f_14) FUEL (0)) fun o=>match o with
 | .ret v=>some v
 | .brk _=>
 some (-1)
def fA (s_:(List Int)) (f_:Int) (f_1:(List Source)) (f_2:(List Link)) (f_3:(List aU)) (f_4:(List Bool)) (f_5:(List Bool)) (f_6:(List Bool)) (f_7:(List Bool)) (f_8:(List Bool)) (f_9:(List Bool)) (f_10:(List Bool)) (f_11:(List Int)) (f_12:(List Int)) (f_13:(List af)) (f_14:(List af)):Option Bool:=
 (jr s_ f_ f_1 f_2 f_3 f_4 f_5 f_6 f_7 f_8 f_9 f_10 f_11 f_12 f_13 f_14).bind fun r_=>
 some (decide (0≤r_))
def l9 (s_:State) (r_:((List Bool) × Int)):Int→Option (bn Int (Ex Unit Int)):=
 fun t23=>
 bif (decide (t23<(r_.1.length:Int)))then
 aJ ((0:Int)≤t23∧t23<(r_.1.length:Int)) (
 aJ (gB [((at' r_.1 t23.toNat),true)]=true→(0:Int)≤t23∧t23<(s_.earthed.length:Int)) (
 bif (bif (at' r_.1 t23.toNat)then(at' s_.earthed t23.toNat)else false)then
 some (.done (.ret 40))
 else
 some (.next (IntKind.wrap .i64 (t23+1)))))
 else
 some (.done (.brk ()))
def nu (p:aj) (s_:State) (t:Task):Option Int:=
 (fV p s_).bind fun r_=>
 Option.bind (aA (l9 s_ r_) FUEL (0)) fun o=>match o with
 | .ret v=>some v
 | .brk _=>
 (nG p s_).bind fun r_1=>
 bif (decide (0<(r_1.1.length:Int)))then
 some 41
 else
 (uP p s_).bind fun r_2=>
 (fq t.fed r_2.1).bind fun r_3=>
 bif r_3 then
 some 42
 else
 (fA t.crew p.buses p.sources p.links p.racks s_.closed s_.locked s_.badLink s_.on_ s_.badSource s_.earthed s_.badBus t.fed t.crew t.allowed t.goal).bind fun r_4=>
 bif r_4 then
 some 45
 else
 some 0
def eG (p:aj) (s_:State) (t:Task):Option Int:=
 (dD p s_).bind fun r_=>
 bif (!decide (r_=0))then
 some r_
 else
 (oz p t).bind fun r_1=>
 bif (!r_1)then
 some 1
 else
 (nu p s_ t).bind fun r_2=>
 some r_2
def ni (s_:State):Option (List Bool):=
 some (FY 280 (FY 280 (FY 280 (FY 280 (FY 280 (FY 280 (FY 280 (List.replicate 280 false) 0 s_.closed (Nat.min s_.closed.length 280)) 40 s_.locked (Nat.min s_.locked.length 240)) 80 s_.badLink (Nat.min s_.badLink.length 200)) 120 s_.on_ (Nat.min s_.on_.length 160)) 160 s_.badSource (Nat.min s_.badSource.length 120)) 200 s_.earthed (Nat.min s_.earthed.length 80)) 240 s_.badBus (Nat.min s_.badBus.length 40))
def pE (s_:(List Bool)) (s_nn:Bool):Option (List Bool):=
 bif (!s_nn)then
 some ([]:List Bool)
 else
 aJ (((([]:List Bool).length+s_.length)*1≤140737488355328)∧(([]:List Bool).length+s_.length≤4611686018427387904)) (
 some (([]:List Bool)++s_))
def au (s:(List Bool)):Option (List Bool):=pE s true
def jI (s_:State):Option State:=
 aJ ((0:Int)≤0∧0<(7:Int)) (
 (au s_.closed).bind fun r_=>
 aJ ((0:Int)≤1∧1<(7:Int)) (
 (au s_.locked).bind fun r_1=>
 aJ ((0:Int)≤2∧2<(7:Int)) (
 (au s_.badLink).bind fun r_2=>
 aJ ((0:Int)≤3∧3<(7:Int)) (
 (au s_.on_).bind fun r_3=>
 aJ ((0:Int)≤4∧4<(7:Int)) (
 (au s_.badSource).bind fun r_4=>
 aJ ((0:Int)≤5∧5<(7:Int)) (
 (au s_.earthed).bind fun r_5=>
 aJ ((0:Int)≤6∧6<(7:Int)) (
 (au s_.badBus).bind fun r_6=>
 some (⟨r_,r_1,r_2,r_3,r_4,r_5,r_6⟩:State))))))))
def mU:Option Unit:=
 some ()
def nD (s_:(List Bool)) (s_1:(List Bool)) (s_2:(List Bool)) (s_3:(List Bool)) (s_4:(List Bool)) (s_5:(List Bool)) (s_6:(List Bool)):Option ((List Bool) × (List Bool) × (List Bool) × (List Bool) × (List Bool) × (List Bool) × (List Bool)):=
 some (s_,s_1,s_2,s_3,s_4,s_5,s_6)
def nL (s_:(List Bool)) (s_1:(List Bool)) (s_2:(List Bool)) (s_3:(List Bool)) (s_4:(List Bool)) (s_5:(List Bool)) (s_6:(List Bool)):Option ((List Bool) × (List Bool) × (List Bool) × (List Bool) × (List Bool) × (List Bool) × (List Bool)):=
 some (s_,s_1,s_2,s_3,s_4,s_5,s_6)
def nI (s_:(List Bool)) (s_1:(List Bool)) (s_2:(List Bool)) (s_3:(List Bool)) (s_4:(List Bool)) (s_5:(List Bool)) (s_6:(List Bool)):Option ((List Bool) × (List Bool) × (List Bool) × (List Bool) × (List Bool) × (List Bool) × (List Bool)):=
 some (s_,s_1,s_2,s_3,s_4,s_5,s_6)
def nH (s_:(List Bool)) (s_1:(List Bool)) (s_2:(List Bool)) (s_3:(List Bool)) (s_4:(List Bool)) (s_5:(List Bool)) (s_6:(List Bool)):Option ((List Bool) × (List Bool) × (List Bool) × (List Bool) × (List Bool) × (List Bool) × (List Bool)):=
 some (s_,s_1,s_2,s_3,s_4,s_5,s_6)
def kJ (s_:State) (x:af):Option Bool:=
 (mU).bind fun r_=>
 bif (aW x.deed 1)then
 (nD s_.closed s_.locked s_.badLink s_.on_ s_.badSource s_.earthed s_.badBus).bind fun r_1=>
 aJ ((0:Int)≤x.index∧x.index<(r_1.1.length:Int)) (
 some ((at' r_1.1 x.index.toNat)==false))
 else
 bif (aW x.deed 2)then
 (nD s_.closed s_.locked s_.badLink s_.on_ s_.badSource s_.earthed s_.badBus).bind fun r_2=>
 aJ ((0:Int)≤x.index∧x.index<(r_2.1.length:Int)) (
 some ((at' r_2.1 x.index.toNat)==true))
 else
 bif (aW x.deed 3)then
 (nL s_.closed s_.locked s_.badLink s_.on_ s_.badSource s_.earthed s_.badBus).bind fun r_3=>
 aJ ((0:Int)≤x.index∧x.index<(r_3.2.2.2.2.2.1.length:Int)) (
 some ((at' r_3.2.2.2.2.2.1 x.index.toNat)==true))
 else
 bif (aW x.deed 4)then
 (nL s_.closed s_.locked s_.badLink s_.on_ s_.badSource s_.earthed s_.badBus).bind fun r_4=>
 aJ ((0:Int)≤x.index∧x.index<(r_4.2.2.2.2.2.1.length:Int)) (
 some ((at' r_4.2.2.2.2.2.1 x.index.toNat)==false))
 else
 bif (aW x.deed 5)then
 (nI s_.closed s_.locked s_.badLink s_.on_ s_.badSource s_.earthed s_.badBus).bind fun r_5=>
 aJ ((0:Int)≤x.index∧x.index<(r_5.2.1.length:Int)) (
 some ((at' r_5.2.1 x.index.toNat)==true))
 else
 bif (aW x.deed 6)then
 (nI s_.closed s_.locked s_.badLink s_.on_ s_.badSource s_.earthed s_.badBus).bind fun r_6=>
 aJ ((0:Int)≤x.index∧x.index<(r_6.2.1.length:Int)) (
 some ((at' r_6.2.1 x.index.toNat)==false))
 else
 bif (aW x.deed 7)then
 (nH s_.closed s_.locked s_.badLink s_.on_ s_.badSource s_.earthed s_.badBus).bind fun r_7=>
 aJ ((0:Int)≤x.index∧x.index<(r_7.2.2.2.1.length:Int)) (
 some ((at' r_7.2.2.2.1 x.index.toNat)==true))
 else
 bif (aW x.deed 8)then
 (nH s_.closed s_.locked s_.badLink s_.on_ s_.badSource s_.earthed s_.badBus).bind fun r_8=>
 aJ ((0:Int)≤x.index∧x.index<(r_8.2.2.2.1.length:Int)) (
 some ((at' r_8.2.2.2.1 x.index.toNat)==false))
 else
 none
def uZ (x:af) (x1:(List Bool)) (x11:(List Bool)) (x12:(List Bool)) (x13:(List Bool)) (x14:(List Bool)) (x15:(List Bool)) (x16:(List Bool)):Option Bool:=
 (kJ (⟨x1,x11,x12,x13,x14,x15,x16⟩:State) x).bind fun r_=>
 some (!r_)
def gQ (s_:(List af)) (f_:(List Bool)) (f_1:(List Bool)) (f_2:(List Bool)) (f_3:(List Bool)) (f_4:(List Bool)) (f_5:(List Bool)) (f_6:(List Bool)):Int→Option (bn Int (Ex Unit Int)):=
 fun t8=>
 bif (decide (t8<(s_.length:Int)))then
 (uZ (at' s_ t8.toNat) f_ f_1 f_2 f_3 f_4 f_5 f_6).bind fun r_=>
 aJ ((0:Int)≤t8∧t8<(s_.length:Int)) (
 bif r_ then
 some (.done (.ret t8))
 else
 some (.next (IntKind.wrap .i64 (t8+1))))
 else
 some (.done (.brk ()))
def jm (s_:(List af)) (f_:(List Bool)) (f_1:(List Bool)) (f_2:(List Bool)) (f_3:(List Bool)) (f_4:(List Bool)) (f_5:(List Bool)) (f_6:(List Bool)):Option Int:=
 Option.bind (aA (gQ s_ f_ f_1 f_2 f_3 f_4 f_5 f_6) FUEL (0)) fun o=>match o with
 | .ret v=>some v
 | .brk _=>
 some (-1)
def fw (s_:(List af)) (f_:(List Bool)) (f_1:(List Bool)) (f_2:(List Bool)) (f_3:(List Bool)) (f_4:(List Bool)) (f_5:(List Bool)) (f_6:(List Bool)):Option Bool:=
 (jm s_ f_ f_1 f_2 f_3 f_4 f_5 f_6).bind fun r_=>
 some (decide (0≤r_))
def lN (s_:State) (l:(List af)):Option Bool:=
 (fw l s_.closed s_.locked s_.badLink s_.on_ s_.badSource s_.earthed s_.badBus).bind fun r_=>
 some (!r_)
def dR (s_:State) (from_:Int) (by_:af) (search:Search):Option (Bool × Search):=
 (ni s_).bind fun r_=>
 bif ((aZ (sj 280) r_ search.known).getD false)then
 some (false,search)
 else
 aJ (((search.l.length+[(⟨s_,from_,by_⟩:Reached)].length)*192≤140737488355328)∧(search.l.length+[(⟨s_,from_,by_⟩:Reached)].length≤4611686018427387904)) (
 some (true,(⟨(search.l++[(⟨s_,from_,by_⟩:Reached)]),(fE (sj 280) r_ true search.known)⟩:Search)))
def di (search:Search):Option Unit:=
 some ()
def qQ:Option Unit:=
 some ()
def oK (p:aj) (s_:State) (x:af):Option Bool:=
 (jF p x).bind fun r_=>
 some (!r_)
def pF (p:aj) (s_:State) (x:af):Option Bool:=
 (kJ s_ x).bind fun r_=>
 some r_
def fT (x:af):Option Bool:=
 some (bif (decide (x.deed=1))then true else(decide (x.deed=2)))
def wS (x:af):Option Bool:=
 some (bif (decide (x.deed=7))then true else(decide (x.deed=8)))
def lH (p:aj) (s_:State) (x:af):Option Bool:=
 (fT x).bind fun r_=>
 (bif gB [((bif r_ then(at' s_.badLink x.index.toNat)else false),false)]then wS x else some default).bind fun r_1=>
 aJ ((gB [(r_,true)]=true→(0:Int)≤x.index∧x.index<(s_.badLink.length:Int))∧(gB [(r_1,true),((bif r_ then(at' s_.badLink x.index.toNat)else false),false)]=true→(0:Int)≤x.index∧x.index<(s_.badSource.length:Int))) (
 some (bif (bif r_ then(at' s_.badLink x.index.toNat)else false)then true else(bif r_1 then(at' s_.badSource x.index.toNat)else false)))
def kV (p:aj) (s_:State) (x:af):Option Bool:=
 (fT x).bind fun r_=>
 aJ (gB [(r_,true)]=true→(0:Int)≤x.index∧x.index<(s_.locked.length:Int)) (
 some (bif r_ then(at' s_.locked x.index.toNat)else false))
def jT (state:State):Option Unit:=
 some ()
def jX (state:State):Option Unit:=
 some ()
def j5 (state:State):Option Unit:=
 some ()
def jZ (state:State):Option Unit:=
 some ()
def mr (s_:State) (x:af):Option State:=
 (mU).bind fun r_=>
 bif (aW x.deed 1)then
 aJ ((0:Int)≤0∧0<(7:Int)) (
 (au s_.closed).bind fun r_1=>
 aJ ((0:Int)≤1∧1<(7:Int)) (
 (au s_.locked).bind fun r_2=>
 aJ ((0:Int)≤2∧2<(7:Int)) (
 (au s_.badLink).bind fun r_3=>
 aJ ((0:Int)≤3∧3<(7:Int)) (
 (au s_.on_).bind fun r_4=>
 aJ ((0:Int)≤4∧4<(7:Int)) (
 (au s_.badSource).bind fun r_5=>
 aJ ((0:Int)≤5∧5<(7:Int)) (
 (au s_.earthed).bind fun r_6=>
 aJ ((0:Int)≤6∧6<(7:Int)) (
 (au s_.badBus).bind fun r_7=>
 (jT (⟨r_1,r_2,r_3,r_4,r_5,r_6,r_7⟩:State)).bind fun r_8=>
 aJ ((0:Int)≤x.index∧x.index<(r_1.length:Int)) (
 some (⟨(r_1.set x.index.toNat false),r_2,r_3,r_4,r_5,r_6,r_7⟩:State)))))))))
 else
 bif (aW x.deed 2)then
 aJ ((0:Int)≤0∧0<(7:Int)) (
 (au s_.closed).bind fun r_9=>
 aJ ((0:Int)≤1∧1<(7:Int)) (
 (au s_.locked).bind fun r_10=>
 aJ ((0:Int)≤2∧2<(7:Int)) (
 (au s_.badLink).bind fun r_11=>
 aJ ((0:Int)≤3∧3<(7:Int)) (
 (au s_.on_).bind fun r_12=>
 aJ ((0:Int)≤4∧4<(7:Int)) (
 (au s_.badSource).bind fun r_13=>
 aJ ((0:Int)≤5∧5<(7:Int)) (
 (au s_.earthed).bind fun r_14=>
 aJ ((0:Int)≤6∧6<(7:Int)) (
 (au s_.badBus).bind fun r_15=>
 (jT (⟨r_9,r_10,r_11,r_12,r_13,r_14,r_15⟩:State)).bind fun r_16=>
 aJ ((0:Int)≤x.index∧x.index<(r_9.length:Int)) (
 some (⟨(r_9.set x.index.toNat true),r_10,r_11,r_12,r_13,r_14,r_15⟩:State)))))))))
 else
 bif (aW x.deed 3)then
 aJ ((0:Int)≤0∧0<(7:Int)) (
 (au s_.closed).bind fun r_17=>
 aJ ((0:Int)≤1∧1<(7:Int)) (
 (au s_.locked).bind fun r_18=>
 aJ ((0:Int)≤2∧2<(7:Int)) (
 (au s_.badLink).bind fun r_19=>
 aJ ((0:Int)≤3∧3<(7:Int)) (
 (au s_.on_).bind fun r_20=>
 aJ ((0:Int)≤4∧4<(7:Int)) (
 (au s_.badSource).bind fun r_21=>
 aJ ((0:Int)≤5∧5<(7:Int)) (
 (au s_.earthed).bind fun r_22=>
 aJ ((0:Int)≤6∧6<(7:Int)) (
 (au s_.badBus).bind fun r_23=>
 (jX (⟨r_17,r_18,r_19,r_20,r_21,r_22,r_23⟩:State)).bind fun r_24=>
 aJ ((0:Int)≤x.index∧x.index<(r_22.length:Int)) (
 some (⟨r_17,r_18,r_19,r_20,r_21,(r_22.set x.index.toNat true),r_23⟩:State)))))))))
 else
 bif (aW x.deed 4)then
 aJ ((0:Int)≤0∧0<(7:Int)) (
 (au s_.closed).bind fun r_25=>
 aJ ((0:Int)≤1∧1<(7:Int)) (
 (au s_.locked).bind fun r_26=>
 aJ ((0:Int)≤2∧2<(7:Int)) (
 (au s_.badLink).bind fun r_27=>
 aJ ((0:Int)≤3∧3<(7:Int)) (
 (au s_.on_).bind fun r_28=>
 aJ ((0:Int)≤4∧4<(7:Int)) (
 (au s_.badSource).bind fun r_29=>
 aJ ((0:Int)≤5∧5<(7:Int)) (
 (au s_.earthed).bind fun r_30=>
 aJ ((0:Int)≤6∧6<(7:Int)) (
 (au s_.badBus).bind fun r_31=>
 (jX (⟨r_25,r_26,r_27,r_28,r_29,r_30,r_31⟩:State)).bind fun r_32=>
 aJ ((0:Int)≤x.index∧x.index<(r_30.length:Int)) (
 some (⟨r_25,r_26,r_27,r_28,r_29,(r_30.set x.index.toNat false),r_31⟩:State)))))))))
 else
 bif (aW x.deed 5)then
 aJ ((0:Int)≤0∧0<(7:Int)) (
 (au s_.closed).bind fun r_33=>
 aJ ((0:Int)≤1∧1<(7:Int)) (
 (au s_.locked).bind fun r_34=>
 aJ ((0:Int)≤2∧2<(7:Int)) (
 (au s_.badLink).bind fun r_35=>
 aJ ((0:Int)≤3∧3<(7:Int)) (
 (au s_.on_).bind fun r_36=>
 aJ ((0:Int)≤4∧4<(7:Int)) (
 (au s_.badSource).bind fun r_37=>
 aJ ((0:Int)≤5∧5<(7:Int)) (
 (au s_.earthed).bind fun r_38=>
 aJ ((0:Int)≤6∧6<(7:Int)) (
 (au s_.badBus).bind fun r_39=>
 (j5 (⟨r_33,r_34,r_35,r_36,r_37,r_38,r_39⟩:State)).bind fun r_40=>
 aJ ((0:Int)≤x.index∧x.index<(r_34.length:Int)) (
 some (⟨r_33,(r_34.set x.index.toNat true),r_35,r_36,r_37,r_38,r_39⟩:State)))))))))
 else
 bif (aW x.deed 6)then
 aJ ((0:Int)≤0∧0<(7:Int)) (
 (au s_.closed).bind fun r_41=>
 aJ ((0:Int)≤1∧1<(7:Int)) (
 (au s_.locked).bind fun r_42=>
 aJ ((0:Int)≤2∧2<(7:Int)) (
 (au s_.badLink).bind fun r_43=>
 aJ ((0:Int)≤3∧3<(7:Int)) (
 (au s_.on_).bind fun r_44=>
 aJ ((0:Int)≤4∧4<(7:Int)) (
 (au s_.badSource).bind fun r_45=>
 aJ ((0:Int)≤5∧5<(7:Int)) (
 (au s_.earthed).bind fun r_46=>
 aJ ((0:Int)≤6∧6<(7:Int)) (
 (au s_.badBus).bind fun r_47=>
 (j5 (⟨r_41,r_42,r_43,r_44,r_45,r_46,r_47⟩:State)).bind fun r_48=>
 aJ ((0:Int)≤x.index∧x.index<(r_42.length:Int)) (
 some (⟨r_41,(r_42.set x.index.toNat false),r_43,r_44,r_45,r_46,r_47⟩:State)))))))))
 else
 bif (aW x.deed 7)then
 aJ ((0:Int)≤0∧0<(7:Int)) (
 (au s_.closed).bind fun r_49=>
 aJ ((0:Int)≤1∧1<(7:Int)) (
 (au s_.locked).bind fun r_50=>
 aJ ((0:Int)≤2∧2<(7:Int)) (
 (au s_.badLink).bind fun r_51=>
 aJ ((0:Int)≤3∧3<(7:Int)) (
 (au s_.on_).bind fun r_52=>
 aJ ((0:Int)≤4∧4<(7:Int)) (
 (au s_.badSource).bind fun r_53=>
 aJ ((0:Int)≤5∧5<(7:Int)) (
 (au s_.earthed).bind fun r_54=>
 aJ ((0:Int)≤6∧6<(7:Int)) (
 (au s_.badBus).bind fun r_55=>
 (jZ (⟨r_49,r_50,r_51,r_52,r_53,r_54,r_55⟩:State)).bind fun r_56=>
 aJ ((0:Int)≤x.index∧x.index<(r_52.length:Int)) (
 some (⟨r_49,r_50,r_51,(r_52.set x.index.toNat true),r_53,r_54,r_55⟩:State)))))))))
 else
 bif (aW x.deed 8)then
 aJ ((0:Int)≤0∧0<(7:Int)) (
 (au s_.closed).bind fun r_57=>
 aJ ((0:Int)≤1∧1<(7:Int)) (
 (au s_.locked).bind fun r_58=>
 aJ ((0:Int)≤2∧2<(7:Int)) (
 (au s_.badLink).bind fun r_59=>
 aJ ((0:Int)≤3∧3<(7:Int)) (
 (au s_.on_).bind fun r_60=>
 aJ ((0:Int)≤4∧4<(7:Int)) (
 (au s_.badSource).bind fun r_61=>
 aJ ((0:Int)≤5∧5<(7:Int)) (
 (au s_.earthed).bind fun r_62=>
 aJ ((0:Int)≤6∧6<(7:Int)) (
 (au s_.badBus).bind fun r_63=>
 (jZ (⟨r_57,r_58,r_59,r_60,r_61,r_62,r_63⟩:State)).bind fun r_64=>
 aJ ((0:Int)≤x.index∧x.index<(r_60.length:Int)) (
 some (⟨r_57,r_58,r_59,(r_60.set x.index.toNat false),r_61,r_62,r_63⟩:State)))))))))
 else
 aJ ((0:Int)≤0∧0<(7:Int)) (
 (au s_.closed).bind fun r_65=>
 aJ ((0:Int)≤1∧1<(7:Int)) (
 (au s_.locked).bind fun r_66=>
 aJ ((0:Int)≤2∧2<(7:Int)) (
 (au s_.badLink).bind fun r_67=>
 aJ ((0:Int)≤3∧3<(7:Int)) (
 (au s_.on_).bind fun r_68=>
 aJ ((0:Int)≤4∧4<(7:Int)) (
 (au s_.badSource).bind fun r_69=>
 aJ ((0:Int)≤5∧5<(7:Int)) (
 (au s_.earthed).bind fun r_70=>
 aJ ((0:Int)≤6∧6<(7:Int)) (
 (au s_.badBus).bind fun r_71=>
 none)))))))
def kF (p:aj) (s_:State):Option ((List aI) × Int):=
 (dD p s_).bind fun r_=>
 bif (!decide (r_=0))then
 some (([]:List aI),r_)
 else
 (fG p s_).bind fun r_1=>
 some (r_1,0)
def qb (x:aI) (x1:Int):Option Bool:=
 (iR x.buses x1).bind fun r_=>
 some r_
def gq (s_:(List aI)) (f_:Int):Int→Option (bn Int (Ex Unit Int)):=
 fun t8=>
 bif (decide (t8<(s_.length:Int)))then
 (qb (at' s_ t8.toNat) f_).bind fun r_=>
 aJ ((0:Int)≤t8∧t8<(s_.length:Int)) (
 bif r_ then
 some (.done (.ret t8))
 else
 some (.next (IntKind.wrap .i64 (t8+1))))
 else
 some (.done (.brk ()))
def eF (s_:(List aI)) (f_:Int):Option Int:=
 Option.bind (aA (gq s_ f_) FUEL (0)) fun o=>match o with
 | .ret v=>some v
 | .brk _=>
 some (-1)
def gY (b:Int) (x1:(List aI)):Option Int:=
 (eF x1 b).bind fun r_=>
 some r_
def rT (p:aj) (s_:State) (i:Int):Option Bool:=
 aJ ((0:Int)≤i∧i<(s_.closed.length:Int)) (
 bif (at' s_.closed i.toNat)then
 (mr s_ (⟨1,i⟩:af)).bind fun r_=>
 (kF p r_).bind fun r_1=>
 (gY ((at' p.links i.toNat).a) r_1.1).bind fun r_2=>
 (gY ((at' p.links i.toNat).b) r_1.1).bind fun r_3=>
 aJ ((0:Int)≤i∧i<(p.links.length:Int)) (
 aJ ((gB [((bif (bif (decide (0≤r_2))then(decide (0≤r_3))else false)then(!decide (r_2=r_3))else false),true)]=true→(0:Int)≤r_2∧r_2<(r_1.1.length:Int))∧(gB [((bif (bif (decide (0≤r_2))then(decide (0≤r_3))else false)then(!decide (r_2=r_3))else false),true)]=true→(0:Int)≤r_3∧r_3<(r_1.1.length:Int))) (
 some (bif (bif (bif (decide (0≤r_2))then(decide (0≤r_3))else false)then(!decide (r_2=r_3))else false)then(decide (0<(IntKind.wrap .i64 ((((at' r_1.1 r_2.toNat).sources).length:Int)+(((at' r_1.1 r_3.toNat).sources).length:Int)))))else false)))
 else
 (kF p s_).bind fun r_4=>
 (gY ((at' p.links i.toNat).a) r_4.1).bind fun r_5=>
 (gY ((at' p.links i.toNat).b) r_4.1).bind fun r_6=>
 aJ ((0:Int)≤i∧i<(p.links.length:Int)) (
 aJ ((gB [((bif (bif (decide (0≤r_5))then(decide (0≤r_6))else false)then(!decide (r_5=r_6))else false),true)]=true→(0:Int)≤r_5∧r_5<(r_4.1.length:Int))∧(gB [((bif (bif (decide (0≤r_5))then(decide (0≤r_6))else false)then(!decide (r_5=r_6))else false),true)]=true→(0:Int)≤r_6∧r_6<(r_4.1.length:Int))) (
 some (bif (bif (bif (decide (0≤r_5))then(decide (0≤r_6))else false)then(!decide (r_5=r_6))else false)then(decide (0<(IntKind.wrap .i64 ((((at' r_4.1 r_5.toNat).sources).length:Int)+(((at' r_4.1 r_6.toNat).sources).length:Int)))))else false))))
def lF (p:aj) (s_:State) (x:af):Option Bool:=
 (fT x).bind fun r_=>
 (bif gB [((bif r_ then(decide (((at' p.links x.index.toNat).kind)=2))else false),true)]then rT p s_ x.index else some default).bind fun r_1=>
 aJ (gB [(r_,true)]=true→(0:Int)≤x.index∧x.index<(p.links.length:Int)) (
 some (bif (bif r_ then(decide (((at' p.links x.index.toNat).kind)=2))else false)then r_1 else false))
def tJ (p:aj) (s_:State) (x:af):Option (State × Int):=
 (qQ).bind fun r_=>
 (oK p s_ x).bind fun r_1=>
 bif r_1 then
 some ((⟨([]:List Bool),([]:List Bool),([]:List Bool),([]:List Bool),([]:List Bool),([]:List Bool),([]:List Bool)⟩:State),1)
 else
 (pF p s_ x).bind fun r_2=>
 bif r_2 then
 some ((⟨([]:List Bool),([]:List Bool),([]:List Bool),([]:List Bool),([]:List Bool),([]:List Bool),([]:List Bool)⟩:State),46)
 else
 (lH p s_ x).bind fun r_3=>
 bif r_3 then
 some ((⟨([]:List Bool),([]:List Bool),([]:List Bool),([]:List Bool),([]:List Bool),([]:List Bool),([]:List Bool)⟩:State),47)
 else
 (kV p s_ x).bind fun r_4=>
 bif r_4 then
 some ((⟨([]:List Bool),([]:List Bool),([]:List Bool),([]:List Bool),([]:List Bool),([]:List Bool),([]:List Bool)⟩:State),43)
 else
 (lF p s_ x).bind fun r_5=>
 bif r_5 then
 some ((⟨([]:List Bool),([]:List Bool),([]:List Bool),([]:List Bool),([]:List Bool),([]:List Bool),([]:List Bool)⟩:State),44)
 else
 (mr s_ x).bind fun r_6=>
 some (r_6,0)
def mq (p:aj) (s_:State) (t:Task) (x:af):Option (State × Int):=
 (tJ p s_ x).bind fun r_=>
 bif (decide (r_.2=0))then
 (nu p r_.1 t).bind fun r_1=>
 some (r_.1,r_1)
 else
 some (r_.1,r_.2)
def bN (x50:Int) (x51:(List Bool)) (x511:(List Bool)) (x512:(List Bool)) (x513:(List Bool)) (x514:(List Bool)) (x515:(List Bool)) (x516:(List Bool)) (plant:aj) (task:Task) (int:Int) (step:(List af)) (state:(List State)) (errno:Int):((List Reached) × (List ((List Bool) × Bool)) × Int × Int)→Option (bn ((List Reached) × (List ((List Bool) × Bool)) × Int × Int) (Ex ((List Reached) × (List ((List Bool) × Bool)) × Int) (Nat × (List af) × (List State) × Int × Int × Search))):=
 fun zz=>match zz with
 |(o1200,o1201,o130,t55)=>
 bif (decide (t55<(task.allowed.length:Int)))then
 aJ ((0:Int)≤t55∧t55<(task.allowed.length:Int)) (
 bif (decide (0≤o130))then
 some (.done (.ret (2,step,state,errno,o130,(⟨o1200,o1201⟩:Search))))
 else
 (mq plant (⟨x51,x511,x512,x513,x514,x515,x516⟩:State) task (at' task.allowed t55.toNat)).bind fun r_=>
 bif (!decide (r_.2=0))then
 some (.next (o1200,o1201,o130,(IntKind.wrap .i64 (t55+1))))
 else
 (dR r_.1 x50 (at' task.allowed t55.toNat) (⟨o1200,o1201⟩:Search)).bind fun r_1=>
 bif (!r_1.1)then
 some (.next (r_1.2.l,r_1.2.known,o130,(IntKind.wrap .i64 (t55+1))))
 else
 bif (decide (int<(r_1.2.l.length:Int)))then
 some (.done (.ret (3,([]:List af),([]:List State),8,o130,r_1.2)))
 else
 (lN r_.1 task.goal).bind fun r_2=>
 bif r_2 then
 some (.next (r_1.2.l,r_1.2.known,(IntKind.wrap .i64 ((r_1.2.l.length:Int) - 1)),(IntKind.wrap .i64 (t55+1))))
 else
 some (.next (r_1.2.l,r_1.2.known,o130,(IntKind.wrap .i64 (t55+1)))))
 else
 some (.done (.brk (o1200,o1201,o130)))
def dz (x50:Int) (x51:(List Bool)) (x511:(List Bool)) (x512:(List Bool)) (x513:(List Bool)) (x514:(List Bool)) (x515:(List Bool)) (x516:(List Bool)) (plant:aj) (task:Task) (int:Int) (step:(List af)) (state:(List State)) (errno:Int) (int1:Int) (search:Search):Option (Nat × (List af) × (List State) × Int × Int × Search):=
 Option.bind (aA (bN x50 x51 x511 x512 x513 x514 x515 x516 plant task int step state errno) FUEL (search.l,search.known,int1,0)) fun o=>match o with
 | .ret v=>some v
 | .brk (o12001,o12011,o1301)=>
 some (0,step,state,errno,o1301,(⟨o12001,o12011⟩:Search))
def aX (plant:aj) (task:Task) (int:Int):((List af) × (List State) × Int × (List Reached) × (List ((List Bool) × Bool)) × Int × Int)→Option (bn ((List af) × (List State) × Int × (List Reached) × (List ((List Bool) × Bool)) × Int × Int) (Ex ((List af) × (List State) × Int × (List Reached) × (List ((List Bool) × Bool)) × Int) (Nat × (List af) × (List State) × Int × Int × Search))):=
 fun zz=>match zz with
 |(o80,o90,o100,o1200,o1201,o130,i)=>
 bif (decide (i<(o1200.length:Int)))then
 (dz i (((at' o1200 i.toNat).s_).closed) (((at' o1200 i.toNat).s_).locked) (((at' o1200 i.toNat).s_).badLink) (((at' o1200 i.toNat).s_).on_) (((at' o1200 i.toNat).s_).badSource) (((at' o1200 i.toNat).s_).earthed) (((at' o1200 i.toNat).s_).badBus) plant task int o80 o90 o100 o130 (⟨o1200,o1201⟩:Search)).bind fun r_=>
 bif (Nat.beq r_.1 0)then
 aJ ((0:Int)≤i∧i<(o1200.length:Int)) (
 some (.next (r_.2.1,r_.2.2.1,r_.2.2.2.1,r_.2.2.2.2.2.l,r_.2.2.2.2.2.known,r_.2.2.2.2.1,(IntKind.wrap .i64 (i+1)))))
 else
 aJ ((0:Int)≤i∧i<(o1200.length:Int)) (
 some (.done (.ret (r_.1,r_.2.1,r_.2.2.1,r_.2.2.2.1,r_.2.2.2.2.1,r_.2.2.2.2.2))))
 else
 some (.done (.brk (o80,o90,o100,o1200,o1201,o130)))
def bR (plant:aj) (task:Task) (int:Int) (step:(List af)) (state:(List State)) (errno:Int) (int1:Int) (search:Search):Option (Nat × (List af) × (List State) × Int × Int × Search):=
 Option.bind (aA (aX plant task int) FUEL (step,state,errno,search.l,search.known,int1,0)) fun o=>match o with
 | .ret v=>some v
 | .brk (o801,o901,o1001,o12001,o12011,o1301)=>
 some (0,o801,o901,o1001,o1301,(⟨o12001,o12011⟩:Search))
def dW  :((List af) × Int × Int)→Option (bn ((List af) × Int × Int) (Ex (List af) (List af))):=
 fun zz=>match zz with
 |(o_,i,j)=>
 bif (decide (i<j))then
 aJ (((0:Int)≤j∧j<(o_.length:Int))∧((0:Int)≤i∧i<(o_.length:Int))) (
 some (.next (((o_.set i.toNat (at' o_ j.toNat)).set j.toNat (at' o_ i.toNat)),(IntKind.wrap .i64 (i+1)),(IntKind.wrap .i64 (j - 1)))))
 else
 some (.done (.brk o_))
def jA (s_:(List af)):Option (List af):=
 Option.bind (aA dW FUEL (s_,0,(IntKind.wrap .i64 ((s_.length:Int) - 1)))) fun o=>match o with
 | .ret v=>some v
 | .brk o_1=>
 some o_1
def dY (search:Search):(Int × (List af))→Option (bn (Int × (List af)) (Ex (List af) (List af))):=
 fun zz=>match zz with
 |(i1,out)=>
 bif (decide (0<i1))then
 aJ (((0:Int)≤i1∧i1<(search.l.length:Int))∧((out.length+[((at' search.l i1.toNat).by_)].length)*16≤140737488355328)∧(out.length+[((at' search.l i1.toNat).by_)].length≤4611686018427387904)) (
 aJ ((0:Int)≤i1∧i1<(search.l.length:Int)) (
 some (.next ((at' search.l i1.toNat).from_,(out++[((at' search.l i1.toNat).by_)])))))
 else
 some (.done (.brk out))
def bY (i:Int) (search:Search):Option (List af):=
 Option.bind (aA (dY search) FUEL (i,([]:List af))) fun o=>match o with
 | .ret v=>some v
 | .brk out1=>
 (jA out1).bind fun r_=>
 aJ (out1.length=r_.length) (
 some r_)
def oN (x104:Int) (x105:(List Bool)) (x1051:(List Bool)) (x1052:(List Bool)) (x1053:(List Bool)) (x1054:(List Bool)) (x1055:(List Bool)) (x1056:(List Bool)) (state:(List State)):Option (List State):=
 aJ (((state.length+[(⟨x105,x1051,x1052,x1053,x1054,x1055,x1056⟩:State)].length)*168≤140737488355328)∧(state.length+[(⟨x105,x1051,x1052,x1053,x1054,x1055,x1056⟩:State)].length≤4611686018427387904)) (
 some (state++[(⟨x105,x1051,x1052,x1053,x1054,x1055,x1056⟩:State)]))
def cK (search:Search):((List State) × Int)→Option (bn ((List State) × Int) (Ex (List State) (List State))):=
 fun zz=>match zz with
 |(o200,i)=>
 bif (decide (i<(search.l.length:Int)))then
 (oN i (((at' search.l i.toNat).s_).closed) (((at' search.l i.toNat).s_).locked) (((at' search.l i.toNat).s_).badLink) (((at' search.l i.toNat).s_).on_) (((at' search.l i.toNat).s_).badSource) (((at' search.l i.toNat).s_).earthed) (((at' search.l i.toNat).s_).badBus) o200).bind fun r_=>
 aJ ((0:Int)≤i∧i<(search.l.length:Int)) (
 some (.next (r_,(IntKind.wrap .i64 (i+1)))))
 else
 some (.done (.brk o200))
def bZ (state:(List State)) (search:Search):Option (List State):=
 Option.bind (aA (cK search) FUEL (state,0)) fun o=>match o with
 | .ret v=>some v
 | .brk o2001=>
 some o2001
def fB (p:aj) (s_:State) (t:Task) (most:Int):Option ((List af) × (List State) × Int):=
 (eG p s_ t).bind fun r_=>
 bif (!decide (r_=0))then
 some (([]:List af),([]:List State),r_)
 else
 bif (bif (decide (most<1))then true else(decide (20000<most)))then
 some (([]:List af),([]:List State),1)
 else
 (jI s_).bind fun r_1=>
 (dR r_1 (-1) (⟨0,0⟩:af) (⟨([]:List Reached),([]:(List ((List Bool) × Bool)))⟩:Search)).bind fun r_2=>
 (lN s_ t.goal).bind fun r_3=>
 bif r_3 then
 (di r_2.2).bind fun r_4=>
 (bR p t most ([]:List af) ([]:List State) 0 0 r_2.2).bind fun r_5=>
 bif Nat.beq r_5.1 0 then
 bif (decide (0≤r_5.2.2.2.2.1))then
 (bY r_5.2.2.2.2.1 r_5.2.2.2.2.2).bind fun r_6=>
 some (r_6,([]:List State),0)
 else
 (di r_5.2.2.2.2.2).bind fun r_7=>
 (bZ ([]:List State) r_5.2.2.2.2.2).bind fun r_8=>
 some (([]:List af),r_8,4)
 else
 bif Nat.beq r_5.1 2 then
 bif (decide (0≤r_5.2.2.2.2.1))then
 (bY r_5.2.2.2.2.1 r_5.2.2.2.2.2).bind fun r_9=>
 some (r_9,([]:List State),0)
 else
 (di r_5.2.2.2.2.2).bind fun r_10=>
 (bZ ([]:List State) r_5.2.2.2.2.2).bind fun r_11=>
 some (([]:List af),r_11,4)
 else
 aJ (r_5.1=3) (
 some (r_5.2.1,r_5.2.2.1,r_5.2.2.2.1))
 else
 (di r_2.2).bind fun r_12=>
 (bR p t most ([]:List af) ([]:List State) 0 (-1) r_2.2).bind fun r_13=>
 bif Nat.beq r_13.1 0 then
 bif (decide (0≤r_13.2.2.2.2.1))then
 (bY r_13.2.2.2.2.1 r_13.2.2.2.2.2).bind fun r_14=>
 some (r_14,([]:List State),0)
 else
 (di r_13.2.2.2.2.2).bind fun r_15=>
 (bZ ([]:List State) r_13.2.2.2.2.2).bind fun r_16=>
 some (([]:List af),r_16,4)
 else
 bif Nat.beq r_13.1 2 then
 bif (decide (0≤r_13.2.2.2.2.1))then
 (bY r_13.2.2.2.2.1 r_13.2.2.2.2.2).bind fun r_17=>
 some (r_17,([]:List State),0)
 else
 (di r_13.2.2.2.2.2).bind fun r_18=>
 (bZ ([]:List State) r_13.2.2.2.2.2).bind fun r_19=>
 some (([]:List af),r_19,4)
 else
 aJ (r_13.1=3) (
 some (r_13.2.1,r_13.2.2.1,r_13.2.2.2.1))
def Ap (a:(List af)) (b:(List af)):Int→Option (bn Int (Ex Unit Bool)):=
 fun i=>
 bif (decide (i<(a.length:Int)))then
 aJ (((0:Int)≤i∧i<(a.length:Int))∧((0:Int)≤i∧i<(b.length:Int))) (
 bif (!((decide (((at' a i.toNat).deed)=((at' b i.toNat).deed))) && ((decide (((at' a i.toNat).index)=((at' b i.toNat).index))) && true)))then
 some (.done (.ret false))
 else
 some (.next (IntKind.wrap .i64 (i+1))))
 else
 some (.done (.brk ()))
def qP (a:(List af)) (b:(List af)):Option Bool:=
 bif (!decide ((a.length:Int)=(b.length:Int)))then
 some false
 else
 Option.bind (aA (Ap a b) FUEL (0)) fun o=>match o with
 | .ret v=>some v
 | .brk _=>
 some true
def dw (p:aj) (t:Task) (l:(List State)):((List Reached) × (List ((List Bool) × Bool)) × Int)→Option (bn ((List Reached) × (List ((List Bool) × Bool)) × Int) (Ex ((List Reached) × (List ((List Bool) × Bool))) Int)):=
 fun zz=>match zz with
 |(x0,x1,t34)=>
 bif (decide (t34<(l.length:Int)))then
 aJ ((0:Int)≤t34∧t34<(l.length:Int)) (
 (eG p (at' l t34.toNat) t).bind fun r_1=>
 (bif gB [((!decide (r_1=0)),false)]then lN (at' l t34.toNat) t.goal else some default).bind fun r_2=>
 bif (bif (!decide (r_1=0))then true else r_2)then
 some (.done (.ret 7))
 else
 (dR (at' l t34.toNat) (-1) (⟨0,0⟩:af) (⟨x0,x1⟩:Search)).bind fun r_3=>
 some (.next (r_3.2.l,r_3.2.known,(IntKind.wrap .i64 (t34+1)))))
 else
 some (.done (.brk (x0,x1)))
def kW (p:aj) (t:Task) (l:(List State)) (x11:(List ((List Bool) × Bool))) (t64:Int):Int→Option (bn Int (Ex Unit (bn Int (Ex Unit Int)))):=
 fun t71=>
 bif (decide (t71<(t.allowed.length:Int)))then
 aJ ((0:Int)≤t71∧t71<(t.allowed.length:Int)) (
 (mq p (at' l t64.toNat) t (at' t.allowed t71.toNat)).bind fun r_5=>
 (bif gB [((decide (r_5.2=0)),true)]then ni r_5.1 else some default).bind fun r_6=>
 bif (bif (decide (r_5.2=0))then(!((aZ (sj 280) r_6 x11).getD false))else false)then
 some (.done (.ret (.done (.ret 7))))
 else
 some (.next (IntKind.wrap .i64 (t71+1))))
 else
 some (.done (.brk ()))
def lI (p:aj) (t:Task) (l:(List State)) (x11:(List ((List Bool) × Bool))):Int→Option (bn Int (Ex Unit Int)):=
 fun t64=>
 bif (decide (t64<(l.length:Int)))then
 aJ ((0:Int)≤t64∧t64<(l.length:Int)) (
 Option.bind (aA (kW p t l x11 t64) FUEL (0)) fun o=>match o with
 | .ret v=>some v
 | .brk _=>
 some (.next (IntKind.wrap .i64 (t64+1))))
 else
 some (.done (.brk ()))
def fo (p:aj) (s_:State) (t:Task) (l:(List State)):Option Int:=
 (eG p s_ t).bind fun r_=>
 bif (!decide (r_=0))then
 some r_
 else
 bif (decide (20000<(l.length:Int)))then
 some 2
 else
 Option.bind (aA (dw p t l) FUEL (([]:List Reached),([]:(List ((List Bool) × Bool))),0)) fun o=>match o with
 | .ret v=>some v
 | .brk (x01,x11)=>
 (ni s_).bind fun r_4=>
 bif (!((aZ (sj 280) r_4 x11).getD false))then
 some 7
 else
 Option.bind (aA (lI p t l x11) FUEL (0)) fun o=>match o with
 | .ret v=>some v
 | .brk _=>
 some 0
def qN:Option (aj × State):=
 aJ (((0:Int)≤2)∧((1:Int)*2≤281474976710656)∧((2:Int)≤9223372036854775807)∧((0:Int)≤1)∧((1:Int)*1≤281474976710656)∧((1:Int)≤9223372036854775807)∧((0:Int)≤3)∧((1:Int)*3≤281474976710656)∧((3:Int)≤9223372036854775807)) (
 some ((⟨3,[(⟨0,1,500,0,20⟩:Source)],[(⟨0,1,3,400,10,([]:List oF)⟩:Link),(⟨1,2,2,400,10,([]:List oF)⟩:Link)],[(⟨(⟨2,(-1)⟩:aC),100,1⟩:aU)]⟩:aj),(⟨[true,true],(List.replicate 2 (false:Bool)),(List.replicate 2 (false:Bool)),[true],(List.replicate 1 (false:Bool)),(List.replicate 3 (false:Bool)),(List.replicate 3 (false:Bool))⟩:State)))
def j4 (p:aj) (s_:State) (x:af):Option (State × Int):=
 (dD p s_).bind fun r_=>
 bif (!decide (r_=0))then
 some ((⟨([]:List Bool),([]:List Bool),([]:List Bool),([]:List Bool),([]:List Bool),([]:List Bool),([]:List Bool)⟩:State),r_)
 else
 (tJ p s_ x).bind fun r_1=>
 some (r_1.1,r_1.2)
def iT (p:aj) (t:Task) (l:(List af)):((List Bool) × (List Bool) × (List Bool) × (List Bool) × (List Bool) × (List Bool) × (List Bool) × Int)→Option (bn ((List Bool) × (List Bool) × (List Bool) × (List Bool) × (List Bool) × (List Bool) × (List Bool) × Int) (Ex ((List Bool) × (List Bool) × (List Bool) × (List Bool) × (List Bool) × (List Bool) × (List Bool)) (Int × State × Int))):=
 fun zz=>match zz with
 |(s0,s1,s2,s3,s4,s5,s6,t31)=>
 bif (decide (t31<(l.length:Int)))then
 aJ ((0:Int)≤t31∧t31<(l.length:Int)) (
 (mq p (⟨s0,s1,s2,s3,s4,s5,s6⟩:State) t (at' l t31.toNat)).bind fun r_2=>
 bif (!decide (r_2.2=0))then
 some (.done (.ret (t31,(⟨([]:List Bool),([]:List Bool),([]:List Bool),([]:List Bool),([]:List Bool),([]:List Bool),([]:List Bool)⟩:State),r_2.2)))
 else
 some (.next (r_2.1.closed,r_2.1.locked,r_2.1.badLink,r_2.1.on_,r_2.1.badSource,r_2.1.earthed,r_2.1.badBus,(IntKind.wrap .i64 (t31+1)))))
 else
 some (.done (.brk (s0,s1,s2,s3,s4,s5,s6)))
def bW (p:aj) (s_:State) (t:Task) (l:(List af)):Option (Int × State × Int):=
 (eG p s_ t).bind fun r_=>
 bif (!decide (r_=0))then
 some (0,(⟨([]:List Bool),([]:List Bool),([]:List Bool),([]:List Bool),([]:List Bool),([]:List Bool),([]:List Bool)⟩:State),r_)
 else
 bif (decide (256<(l.length:Int)))then
 some (0,(⟨([]:List Bool),([]:List Bool),([]:List Bool),([]:List Bool),([]:List Bool),([]:List Bool),([]:List Bool)⟩:State),2)
 else
 (jI s_).bind fun r_1=>
 Option.bind (aA (iT p t l) FUEL (r_1.closed,r_1.locked,r_1.badLink,r_1.on_,r_1.badSource,r_1.earthed,r_1.badBus,0)) fun o=>match o with
 | .ret v=>some v
 | .brk (s01,s11,s21,s31,s41,s51,s61)=>
 some ((l.length:Int),(⟨s01,s11,s21,s31,s41,s51,s61⟩:State),0)
def jB (a:(List Bool)) (b:(List Bool)):Int→Option (bn Int (Ex Unit Bool)):=
 fun i=>
 bif (decide (i<(a.length:Int)))then
 aJ (((0:Int)≤i∧i<(a.length:Int))∧((0:Int)≤i∧i<(b.length:Int))) (
 bif (!((at' a i.toNat)==(at' b i.toNat)))then
 some (.done (.ret false))
 else
 some (.next (IntKind.wrap .i64 (i+1))))
 else
 some (.done (.brk ()))
def bV (a:(List Bool)) (b:(List Bool)):Option Bool:=
 bif (!decide ((a.length:Int)=(b.length:Int)))then
 some false
 else
 Option.bind (aA (jB a b) FUEL (0)) fun o=>match o with
 | .ret v=>some v
 | .brk _=>
 some true
def eZ:Option Bool:=
 (qN).bind fun r_=>
 (fB r_.1 r_.2 (⟨([]:List Int),([]:List Int),[(⟨1,0⟩:af),(⟨2,0⟩:af),(⟨1,1⟩:af),(⟨2,1⟩:af)],[(⟨1,1⟩:af)]⟩:Task) 100).bind fun r_1=>
 (j4 r_.1 r_.2 (⟨1,1⟩:af)).bind fun r_2=>
 bif (bif (bif (!decide (r_1.2.2=0))then true else(!decide (r_2.2=44)))then true else(!decide ((r_1.2.1.length:Int)=0)))then
 some false
 else
 (qP r_1.1 [(⟨1,0⟩:af),(⟨1,1⟩:af)]).bind fun r_3=>
 bif (!r_3)then
 some false
 else
 (bW r_.1 r_.2 (⟨([]:List Int),([]:List Int),([]:List af),([]:List af)⟩:Task) r_1.1).bind fun r_4=>
 bif (bif (!decide (r_4.2.2=0))then true else(!decide (r_4.1=2)))then
 some false
 else
 (bV r_4.2.1.closed [false,false]).bind fun r_5=>
 bif (bif (bif (!r_5)then true else(!decide ((r_4.2.1.locked.length:Int)=2)))then true else(!decide ((r_4.2.1.earthed.length:Int)=3)))then
 some false
 else
 (fB r_.1 r_.2 (⟨[0],([]:List Int),[(⟨1,0⟩:af),(⟨2,0⟩:af),(⟨1,1⟩:af),(⟨2,1⟩:af)],[(⟨1,1⟩:af)]⟩:Task) 100).bind fun r_6=>
 bif (bif (!decide (r_6.2.2=4))then true else(!decide ((r_6.2.1.length:Int)=1)))then
 some false
 else
 (fo r_.1 r_.2 (⟨[0],([]:List Int),[(⟨1,0⟩:af),(⟨2,0⟩:af),(⟨1,1⟩:af),(⟨2,1⟩:af)],[(⟨1,1⟩:af)]⟩:Task) r_6.2.1).bind fun r_7=>
 bif (!decide (r_7=0))then
 some false
 else
 aJ (((0:Int)≤1∧1<(r_4.2.1.locked.length:Int))∧((0:Int)≤2∧2<(r_4.2.1.earthed.length:Int))) (
 (j4 r_.1 (⟨r_4.2.1.closed,(r_4.2.1.locked.set 1 true),r_4.2.1.badLink,r_4.2.1.on_,r_4.2.1.badSource,(r_4.2.1.earthed.set 2 true),r_4.2.1.badBus⟩:State) (⟨2,1⟩:af)).bind fun r_8=>
 (bW r_.1 (⟨r_4.2.1.closed,(r_4.2.1.locked.set 1 true),r_4.2.1.badLink,r_4.2.1.on_,r_4.2.1.badSource,(r_4.2.1.earthed.set 2 true),r_4.2.1.badBus⟩:State) (⟨([]:List Int),[2],([]:List af),([]:List af)⟩:Task) [(⟨6,1⟩:af)]).bind fun r_9=>
 bif (bif (bif (decide (r_8.2=43))then(decide (r_9.1=0))else false)then(decide (r_9.2.2=45))else false)then
 (eG r_.1 (⟨r_4.2.1.closed,(r_4.2.1.locked.set 1 true),r_4.2.1.badLink,r_4.2.1.on_,r_4.2.1.badSource,(r_4.2.1.earthed.set 2 true),r_4.2.1.badBus⟩:State) (⟨([]:List Int),[2],([]:List af),([]:List af)⟩:Task)).bind fun r_10=>
 some (decide (r_10=0))
 else
 some false)
def gI (l:(List af)):Option (List af):=
 aJ ((l.length*16≤140737488355328)∧(l.length≤4611686018427387904)) (
 some l)
def oH (l:(List Int)):Option (List Int):=
 aJ ((l.length*8≤140737488355328)∧(l.length≤4611686018427387904)) (
 some l)
def uN (t:Task):Option Task:=
 (oH t.fed).bind fun r_=>
 (oH t.crew).bind fun r_1=>
 (gI t.allowed).bind fun r_2=>
 (gI t.goal).bind fun r_3=>
 some (⟨r_,r_1,r_2,r_3⟩:Task)
def nM (x:Link):Int→Option (bn Int (Ex Unit Bool)):=
 fun i=>
 bif (decide (i<(x.trip.length:Int)))then
 aJ ((0:Int)≤i∧i<(x.trip.length:Int)) (
 bif (bif (bif (bif (decide (((at' x.trip i.toNat).amps)<1))then true else(decide (1000000<((at' x.trip i.toNat).amps))))then true else(decide (((at' x.trip i.toNat).millis)<1)))then true else(decide (100000<((at' x.trip i.toNat).millis))))then
 some (.done (.ret false))
 else
 aJ ((gB [((decide (0<i)),true)]=true→(0:Int)≤(IntKind.wrap .i64 (i - 1))∧(IntKind.wrap .i64 (i - 1))<(x.trip.length:Int))∧(gB [((decide (((at' x.trip i.toNat).amps)≤((at' x.trip ((IntKind.wrap .i64 (i - 1)).toNat)).amps))),false),((decide (0<i)),true)]=true→(0:Int)≤(IntKind.wrap .i64 (i - 1))∧(IntKind.wrap .i64 (i - 1))<(x.trip.length:Int))) (
 bif (bif (decide (0<i))then(bif (decide (((at' x.trip i.toNat).amps)≤((at' x.trip ((IntKind.wrap .i64 (i - 1)).toNat)).amps)))then true else(decide (((at' x.trip ((IntKind.wrap .i64 (i - 1)).toNat)).millis)≤((at' x.trip i.toNat).millis))))else false)then
 some (.done (.ret false))
 else
 some (.next (IntKind.wrap .i64 (i+1)))))
 else
 some (.done (.brk ()))
def wN (p:aj) (x:Link):Option Bool:=
 bif (bif (bif (bif (bif (bif (bif (bif (bif (bif (bif (decide (x.a<0))then true else(decide (p.buses≤x.a)))then true else(decide (x.b<0)))then true else(decide (p.buses≤x.b)))then true else(decide (x.a=x.b)))then true else(decide (x.kind<1)))then true else(decide (3<x.kind)))then true else(decide (x.most<1)))then true else(decide (100000<x.most)))then true else(decide (x.ohm<10)))then true else(decide (100000<x.ohm)))then
 some false
 else
 bif (bif (decide (6<(x.trip.length:Int)))then true else(bif (decide (0<(x.trip.length:Int)))then(!decide (x.kind=3))else false))then
 some false
 else
 Option.bind (aA (nM x) FUEL (0)) fun o=>match o with
 | .ret v=>some v
 | .brk _=>
 some true
def mF (p:aj):Int→Option (bn Int (Ex Unit Int)):=
 fun i=>
 bif (decide (i<(p.sources.length:Int)))then
 aJ ((0:Int)≤i∧i<(p.sources.length:Int)) (
 bif (bif (bif (bif (bif (bif (bif (bif (bif (bif (decide (((at' p.sources i.toNat).bus)<0))then true else(decide (p.buses≤((at' p.sources i.toNat).bus))))then true else(decide (((at' p.sources i.toNat).kind)<1)))then true else(decide (3<((at' p.sources i.toNat).kind))))then true else(decide (((at' p.sources i.toNat).power)<1)))then true else(decide (100000<((at' p.sources i.toNat).power))))then true else(decide (((at' p.sources i.toNat).sync)<0)))then true else(decide (8<((at' p.sources i.toNat).sync))))then true else(decide (((at' p.sources i.toNat).ohm)<10)))then true else(decide (100000<((at' p.sources i.toNat).ohm))))then
 some (.done (.ret 11))
 else
 some (.next (IntKind.wrap .i64 (i+1))))
 else
 some (.done (.brk ()))
def mG (p:aj):Int→Option (bn Int (Ex Unit Int)):=
 fun i1=>
 bif (decide (i1<(p.links.length:Int)))then
 (wN p (at' p.links i1.toNat)).bind fun r_=>
 aJ ((0:Int)≤i1∧i1<(p.links.length:Int)) (
 bif (!r_)then
 some (.done (.ret 12))
 else
 some (.next (IntKind.wrap .i64 (i1+1))))
 else
 some (.done (.brk ()))
def mK (p:aj):Int→Option (bn Int (Ex Unit Int)):=
 fun i2=>
 bif (decide (i2<(p.racks.length:Int)))then
 aJ ((0:Int)≤i2∧i2<(p.racks.length:Int)) (
 bif (decide ((((at' p.racks i2.toNat).feeds).e1)=(-1)))then
 bif (bif (bif (bif (bif (bif (bif (bif (bif (decide ((((at' p.racks i2.toNat).feeds).e0)<0))then true else(decide (p.buses≤(((at' p.racks i2.toNat).feeds).e0))))then true else(decide ((((at' p.racks i2.toNat).feeds).e1)<(-1))))then true else(decide (p.buses≤(((at' p.racks i2.toNat).feeds).e1))))then true else(decide ((((at' p.racks i2.toNat).feeds).e0)=(((at' p.racks i2.toNat).feeds).e1))))then true else(decide (((at' p.racks i2.toNat).power)<1)))then true else(decide (100000<((at' p.racks i2.toNat).power))))then true else(decide (((at' p.racks i2.toNat).paths)<0)))then true else(decide (1<((at' p.racks i2.toNat).paths))))then
 some (.done (.ret 13))
 else
 some (.next (IntKind.wrap .i64 (i2+1)))
 else
 bif (bif (bif (bif (bif (bif (bif (bif (bif (decide ((((at' p.racks i2.toNat).feeds).e0)<0))then true else(decide (p.buses≤(((at' p.racks i2.toNat).feeds).e0))))then true else(decide ((((at' p.racks i2.toNat).feeds).e1)<(-1))))then true else(decide (p.buses≤(((at' p.racks i2.toNat).feeds).e1))))then true else(decide ((((at' p.racks i2.toNat).feeds).e0)=(((at' p.racks i2.toNat).feeds).e1))))then true else(decide (((at' p.racks i2.toNat).power)<1)))then true else(decide (100000<((at' p.racks i2.toNat).power))))then true else(decide (((at' p.racks i2.toNat).paths)<0)))then true else(decide (2<((at' p.racks i2.toNat).paths))))then
 some (.done (.ret 13))
 else
 some (.next (IntKind.wrap .i64 (i2+1))))
 else
 some (.done (.brk ()))
def vv (p:aj):Option Int:=
 bif (bif (decide (p.buses<1))then true else(decide (24<p.buses)))then
 some 10
 else
 bif (decide (8<(p.sources.length:Int)))then
 some 11
 else
 Option.bind (aA (mF p) FUEL (0)) fun o=>match o with
 | .ret v=>some v
 | .brk _=>
 bif (decide (40<(p.links.length:Int)))then
 some 12
 else
 Option.bind (aA (mG p) FUEL (0)) fun o=>match o with
 | .ret v=>some v
 | .brk _=>
 bif (decide (24<(p.racks.length:Int)))then
 some 13
 else
 Option.bind (aA (mK p) FUEL (0)) fun o=>match o with
 | .ret v=>some v
 | .brk _=>
 some 0
def mM (p:aj) (s_:State):Int→Option (bn Int (Ex Unit Bool)):=
 fun i=>
 bif (decide (i<(p.links.length:Int)))then
 aJ (((0:Int)≤i∧i<(p.links.length:Int))∧(gB [((decide (((at' p.links i.toNat).kind)=1)),true)]=true→(0:Int)≤i∧i<(s_.closed.length:Int))∧(gB [((!(at' s_.closed i.toNat)),false),((decide (((at' p.links i.toNat).kind)=1)),true)]=true→(0:Int)≤i∧i<(s_.locked.length:Int))) (
 bif (bif (decide (((at' p.links i.toNat).kind)=1))then(bif (!(at' s_.closed i.toNat))then true else(at' s_.locked i.toNat))else false)then
 some (.done (.ret false))
 else
 some (.next (IntKind.wrap .i64 (i+1))))
 else
 some (.done (.brk ()))
def vN (p:aj) (s_:State):Option Bool:=
 bif (bif (bif (bif (bif (bif (bif (!decide ((s_.closed.length:Int)=(p.links.length:Int)))then true else(!decide ((s_.locked.length:Int)=(p.links.length:Int))))then true else(!decide ((s_.badLink.length:Int)=(p.links.length:Int))))then true else(!decide ((s_.on_.length:Int)=(p.sources.length:Int))))then true else(!decide ((s_.badSource.length:Int)=(p.sources.length:Int))))then true else(!decide ((s_.earthed.length:Int)=p.buses)))then true else(!decide ((s_.badBus.length:Int)=p.buses)))then
 some false
 else
 Option.bind (aA (mM p s_) FUEL (0)) fun o=>match o with
 | .ret v=>some v
 | .brk _=>
 some true
def fO (p:aj) (s_:State):Option Int:=
 (vv p).bind fun r_=>
 (bif gB [((decide (r_=0)),true)]then vN p s_ else some default).bind fun r_1=>
 bif (bif (decide (r_=0))then(!r_1)else false)then
 some 9
 else
 some r_
def nU (l:(List Int)) (n:Int):Int→Option (bn Int (Ex Unit Bool)):=
 fun i=>
 bif (decide (i<(l.length:Int)))then
 aJ (((0:Int)≤i∧i<(l.length:Int))∧(gB [((decide ((at' l i.toNat)<0)),false)]=true→(0:Int)≤i∧i<(l.length:Int))) (
 bif (bif (decide ((at' l i.toNat)<0))then true else(decide (n≤(at' l i.toNat))))then
 some (.done (.ret false))
 else
 some (.next (IntKind.wrap .i64 (i+1))))
 else
 some (.done (.brk ()))
def nJ (l:(List Int)) (n:Int):Option Bool:=
 Option.bind (aA (nU l n) FUEL (0)) fun o=>match o with
 | .ret v=>some v
 | .brk _=>
 some (decide ((l.length:Int)≤24))
def oZ (p:aj) (x:af):Option Bool:=
 bif (decide (x.index<0))then
 some false
 else
 bif (decide (x.deed=1))then
 bif (decide (x.deed=1))then
 aJ (gB [((decide (x.index<(p.links.length:Int))),true)]=true→(0:Int)≤x.index∧x.index<(p.links.length:Int)) (
 some (bif (decide (x.index<(p.links.length:Int)))then(!decide (((at' p.links x.index.toNat).kind)=1))else false))
 else
 bif (decide (x.deed=3))then
 bif (decide (x.deed=3))then
 some (decide (x.index<p.buses))
 else
 bif (decide (x.deed=7))then
 bif (decide (x.deed=7))then
 some (decide (x.index<(p.sources.length:Int)))
 else
 some false
 else
 bif (decide (x.deed=8))then
 some (decide (x.index<(p.sources.length:Int)))
 else
 some false
 else
 bif (decide (x.deed=4))then
 some (decide (x.index<p.buses))
 else
 bif (decide (x.deed=7))then
 bif (decide (x.deed=7))then
 some (decide (x.index<(p.sources.length:Int)))
 else
 some false
 else
 bif (decide (x.deed=8))then
 some (decide (x.index<(p.sources.length:Int)))
 else
 some false
 else
 bif (decide (x.deed=2))then
 bif (decide (x.deed=2))then
 aJ (gB [((decide (x.index<(p.links.length:Int))),true)]=true→(0:Int)≤x.index∧x.index<(p.links.length:Int)) (
 some (bif (decide (x.index<(p.links.length:Int)))then(!decide (((at' p.links x.index.toNat).kind)=1))else false))
 else
 bif (decide (x.deed=3))then
 bif (decide (x.deed=3))then
 some (decide (x.index<p.buses))
 else
 bif (decide (x.deed=7))then
 bif (decide (x.deed=7))then
 some (decide (x.index<(p.sources.length:Int)))
 else
 some false
 else
 bif (decide (x.deed=8))then
 some (decide (x.index<(p.sources.length:Int)))
 else
 some false
 else
 bif (decide (x.deed=4))then
 some (decide (x.index<p.buses))
 else
 bif (decide (x.deed=7))then
 bif (decide (x.deed=7))then
 some (decide (x.index<(p.sources.length:Int)))
 else
 some false
 else
 bif (decide (x.deed=8))then
 some (decide (x.index<(p.sources.length:Int)))
 else
 some false
 else
 bif (decide (x.deed=5))then
 bif (decide (x.deed=5))then
 aJ (gB [((decide (x.index<(p.links.length:Int))),true)]=true→(0:Int)≤x.index∧x.index<(p.links.length:Int)) (
 some (bif (decide (x.index<(p.links.length:Int)))then(!decide (((at' p.links x.index.toNat).kind)=1))else false))
 else
 bif (decide (x.deed=3))then
 bif (decide (x.deed=3))then
 some (decide (x.index<p.buses))
 else
 bif (decide (x.deed=7))then
 bif (decide (x.deed=7))then
 some (decide (x.index<(p.sources.length:Int)))
 else
 some false
 else
 bif (decide (x.deed=8))then
 some (decide (x.index<(p.sources.length:Int)))
 else
 some false
 else
 bif (decide (x.deed=4))then
 some (decide (x.index<p.buses))
 else
 bif (decide (x.deed=7))then
 bif (decide (x.deed=7))then
 some (decide (x.index<(p.sources.length:Int)))
 else
 some false
 else
 bif (decide (x.deed=8))then
 some (decide (x.index<(p.sources.length:Int)))
 else
 some false
 else
 bif (decide (x.deed=6))then
 aJ (gB [((decide (x.index<(p.links.length:Int))),true)]=true→(0:Int)≤x.index∧x.index<(p.links.length:Int)) (
 some (bif (decide (x.index<(p.links.length:Int)))then(!decide (((at' p.links x.index.toNat).kind)=1))else false))
 else
 bif (decide (x.deed=3))then
 bif (decide (x.deed=3))then
 some (decide (x.index<p.buses))
 else
 bif (decide (x.deed=7))then
 bif (decide (x.deed=7))then
 some (decide (x.index<(p.sources.length:Int)))
 else
 some false
 else
 bif (decide (x.deed=8))then
 some (decide (x.index<(p.sources.length:Int)))
 else
 some false
 else
 bif (decide (x.deed=4))then
 some (decide (x.index<p.buses))
 else
 bif (decide (x.deed=7))then
 bif (decide (x.deed=7))then
 some (decide (x.index<(p.sources.length:Int)))
 else
 some false
 else
 bif (decide (x.deed=8))then
 some (decide (x.index<(p.sources.length:Int)))
 else
 some false
def qc (p:aj) (l:(List af)):Int→Option (bn Int (Ex Unit Bool)):=
 fun i=>
 bif (decide (i<(l.length:Int)))then
 (oZ p (at' l i.toNat)).bind fun r_=>
 aJ ((0:Int)≤i∧i<(l.length:Int)) (
 bif (!r_)then
 some (.done (.ret false))
 else
 some (.next (IntKind.wrap .i64 (i+1))))
 else
 some (.done (.brk ()))
def qy (p:aj) (l:(List af)):Option Bool:=
 Option.bind (aA (qc p l) FUEL (0)) fun o=>match o with
 | .ret v=>some v
 | .brk _=>
 some (decide ((l.length:Int)≤24))
def tH (p:aj) (t:Task):Option Bool:=
 (nJ t.fed (p.racks.length:Int)).bind fun r_=>
 (bif gB [(r_,true)]then nJ t.crew p.buses else some default).bind fun r_1=>
 (bif gB [((bif r_ then r_1 else false),true)]then qy p t.allowed else some default).bind fun r_2=>
 (bif gB [((bif (bif r_ then r_1 else false)then r_2 else false),true)]then qy p t.goal else some default).bind fun r_3=>
 some (bif (bif (bif r_ then r_1 else false)then r_2 else false)then r_3 else false)
def mR (p:aj) (s_:State) (kz:Int):Option Bool:=
 aJ (((0:Int)≤kz∧kz<(s_.on_.length:Int))∧(gB [((at' s_.on_ kz.toNat),true)]=true→(0:Int)≤kz∧kz<(s_.badSource.length:Int))∧(gB [((bif (at' s_.on_ kz.toNat)then(!(at' s_.badSource kz.toNat))else false),true)]=true→(0:Int)≤kz∧kz<(p.sources.length:Int))∧(gB [((bif (at' s_.on_ kz.toNat)then(!(at' s_.badSource kz.toNat))else false),true)]=true→(0:Int)≤(at' p.sources kz.toNat).bus∧(at' p.sources kz.toNat).bus<(s_.badBus.length:Int))) (
 some (bif (bif (at' s_.on_ kz.toNat)then(!(at' s_.badSource kz.toNat))else false)then(!(at' s_.badBus (((at' p.sources kz.toNat).bus).toNat)))else false))
def pO (p:aj) (s_:State) (i:Int):Option Bool:=
 aJ (((0:Int)≤i∧i<(s_.closed.length:Int))∧(gB [((at' s_.closed i.toNat),true)]=true→(0:Int)≤i∧i<(s_.badLink.length:Int))∧(gB [((bif (at' s_.closed i.toNat)then(!(at' s_.badLink i.toNat))else false),true)]=true→(0:Int)≤i∧i<(p.links.length:Int))∧(gB [((bif (at' s_.closed i.toNat)then(!(at' s_.badLink i.toNat))else false),true)]=true→(0:Int)≤(at' p.links i.toNat).a∧(at' p.links i.toNat).a<(s_.badBus.length:Int))∧(gB [((bif (bif (at' s_.closed i.toNat)then(!(at' s_.badLink i.toNat))else false)then(!(at' s_.badBus (((at' p.links i.toNat).a).toNat)))else false),true)]=true→(0:Int)≤i∧i<(p.links.length:Int))∧(gB [((bif (bif (at' s_.closed i.toNat)then(!(at' s_.badLink i.toNat))else false)then(!(at' s_.badBus (((at' p.links i.toNat).a).toNat)))else false),true)]=true→(0:Int)≤(at' p.links i.toNat).b∧(at' p.links i.toNat).b<(s_.badBus.length:Int))) (
 some (bif (bif (bif (at' s_.closed i.toNat)then(!(at' s_.badLink i.toNat))else false)then(!(at' s_.badBus (((at' p.links i.toNat).a).toNat)))else false)then(!(at' s_.badBus (((at' p.links i.toNat).b).toNat)))else false))
def jJ (p:aj) (s_:State) (b:Int):((List Bool) × Int)→Option (bn ((List Bool) × Int) (Ex (List Bool) (bn ((List Bool) × Int) (Ex (List Bool) (List Bool))))):=
 fun zz=>match zz with
 |(out2,i)=>
 bif (decide (i<(p.links.length:Int)))then
 aJ ((0:Int)≤i∧i<(p.links.length:Int)) (
 (pO p s_ i).bind fun r_=>
 aJ ((gB [(r_,true)]=true→(0:Int)≤(at' p.links i.toNat).a∧(at' p.links i.toNat).a<(out2.length:Int))∧(gB [((at' out2 (((at' p.links i.toNat).a).toNat)),false),(r_,true)]=true→(0:Int)≤(at' p.links i.toNat).b∧(at' p.links i.toNat).b<(out2.length:Int))) (
 bif (bif r_ then(bif (at' out2 (((at' p.links i.toNat).a).toNat))then true else(at' out2 (((at' p.links i.toNat).b).toNat)))else false)then
 aJ ((0:Int)≤(at' p.links i.toNat).a∧(at' p.links i.toNat).a<(out2.length:Int)) (
 aJ ((0:Int)≤(at' p.links i.toNat).b∧(at' p.links i.toNat).b<((out2.set (((at' p.links i.toNat).a).toNat) true).length:Int)) (
 some (.next (((out2.set (((at' p.links i.toNat).a).toNat) true).set (((at' p.links i.toNat).b).toNat) true),(IntKind.wrap .i64 (i+1))))))
 else
 some (.next (out2,(IntKind.wrap .i64 (i+1))))))
 else
 some (.done (.brk out2))
def jK (p:aj) (s_:State) (b:Int):((List Bool) × Int)→Option (bn ((List Bool) × Int) (Ex (List Bool) (List Bool))):=
 fun zz=>match zz with
 |(out,n)=>
 bif (decide (n<p.buses))then
 Option.bind (aA (jJ p s_ b) FUEL (out,0)) fun o=>match o with
 | .ret v=>some v
 | .brk out3=>
 some (.next (out3,(IntKind.wrap .i64 (n+1))))
 else
 some (.done (.brk out))
def dS (p:aj) (s_:State) (b:Int):Option (List Bool):=
 aJ (((0:Int)≤p.buses)∧((1:Int)*p.buses≤281474976710656)∧((p.buses:Int)≤9223372036854775807)) (
 aJ ((0:Int)≤b∧b<((List.replicate p.buses.toNat (false:Bool)).length:Int)) (
 Option.bind (aA (jK p s_ b) FUEL (((List.replicate p.buses.toNat (false:Bool)).set b.toNat true),0)) fun o=>match o with
 | .ret v=>some v
 | .brk out1=>
 some out1))
def iN (p:aj) (r_2:(List Bool)):((List Bool) × Int)→Option (bn ((List Bool) × Int) (Ex (List Bool) (bn ((List Bool) × Int) (Ex (List Bool) ((List Bool) × Int))))):=
 fun zz=>match zz with
 |(out2,b)=>
 bif (decide (b<p.buses))then
 aJ (((0:Int)≤b∧b<(out2.length:Int))∧(gB [((at' out2 b.toNat),false)]=true→(0:Int)≤b∧b<(r_2.length:Int))) (
 some (.next ((out2.set b.toNat (bif (at' out2 b.toNat)then true else(at' r_2 b.toNat))),(IntKind.wrap .i64 (b+1)))))
 else
 some (.done (.brk out2))
def iP (p:aj) (s_:State):((List Bool) × Int)→Option (bn ((List Bool) × Int) (Ex (List Bool) ((List Bool) × Int))):=
 fun zz=>match zz with
 |(out,kz)=>
 bif (decide (kz<(p.sources.length:Int)))then
 (mR p s_ kz).bind fun r_1=>
 bif (!r_1)then
 some (.next (out,(IntKind.wrap .i64 (kz+1))))
 else
 (dS p s_ ((at' p.sources kz.toNat).bus)).bind fun r_2=>
 aJ ((0:Int)≤kz∧kz<(p.sources.length:Int)) (
 Option.bind (aA (iN p r_2) FUEL (out,0)) fun o=>match o with
 | .ret v=>some v
 | .brk out3=>
 some (.next (out3,(IntKind.wrap .i64 (kz+1)))))
 else
 some (.done (.brk out))
def jU (p:aj) (s_:State):Option ((List Bool) × Int):=
 (fO p s_).bind fun r_=>
 bif (!decide (r_=0))then
 some (([]:List Bool),r_)
 else
 aJ (((0:Int)≤p.buses)∧((1:Int)*p.buses≤281474976710656)∧((p.buses:Int)≤9223372036854775807)) (
 Option.bind (aA (iP p s_) FUEL ((List.replicate p.buses.toNat (false:Bool)),0)) fun o=>match o with
 | .ret v=>some v
 | .brk out1=>
 some (out1,0))
def vC (a:Source) (b:Source):Option Bool:=
 some (bif (!decide (a.sync=b.sync))then true else(decide (a.sync=0)))
def ko (p:aj) (s_:State) (i:Int):((List aC) × Int)→Option (bn ((List aC) × Int) (Ex (List aC) (bn ((List aC) × Int) (Ex (List aC) ((List aC) × Int))))):=
 fun zz=>match zz with
 |(out2,kz)=>
 bif (decide (kz<(p.sources.length:Int)))then
 (mR p s_ i).bind fun r_1=>
 (bif gB [(r_1,true)]then mR p s_ kz else some default).bind fun r_2=>
 (bif gB [((bif r_1 then r_2 else false),true)]then dS p s_ ((at' p.sources i.toNat).bus)else some default).bind fun r_3=>
 (bif gB [((bif (bif r_1 then r_2 else false)then(at' r_3 (((at' p.sources kz.toNat).bus).toNat))else false),true)]then vC (at' p.sources i.toNat) (at' p.sources kz.toNat)else some default).bind fun r_4=>
 aJ ((gB [((bif r_1 then r_2 else false),true)]=true→(0:Int)≤i∧i<(p.sources.length:Int))∧(gB [((bif r_1 then r_2 else false),true)]=true→(0:Int)≤kz∧kz<(p.sources.length:Int))∧(gB [((bif r_1 then r_2 else false),true)]=true→(0:Int)≤(at' p.sources kz.toNat).bus∧(at' p.sources kz.toNat).bus<(r_3.length:Int))∧(gB [((bif (bif r_1 then r_2 else false)then(at' r_3 (((at' p.sources kz.toNat).bus).toNat))else false),true)]=true→(0:Int)≤i∧i<(p.sources.length:Int))∧(gB [((bif (bif r_1 then r_2 else false)then(at' r_3 (((at' p.sources kz.toNat).bus).toNat))else false),true)]=true→(0:Int)≤kz∧kz<(p.sources.length:Int))) (
 bif (bif (bif (bif r_1 then r_2 else false)then(at' r_3 (((at' p.sources kz.toNat).bus).toNat))else false)then r_4 else false)then
 aJ (((out2.length+[(⟨i,kz⟩:aC)].length)*16≤140737488355328)∧(out2.length+[(⟨i,kz⟩:aC)].length≤4611686018427387904)) (
 some (.next ((out2++[(⟨i,kz⟩:aC)]),(IntKind.wrap .i64 (kz+1)))))
 else
 some (.next (out2,(IntKind.wrap .i64 (kz+1)))))
 else
 some (.done (.brk out2))
def gX (p:aj) (s_:State):((List aC) × Int)→Option (bn ((List aC) × Int) (Ex (List aC) ((List aC) × Int))):=
 fun zz=>match zz with
 |(out,i)=>
 bif (decide (i<(p.sources.length:Int)))then
 Option.bind (aA (ko p s_ i) FUEL (out,(IntKind.wrap .i64 (i+1)))) fun o=>match o with
 | .ret v=>some v
 | .brk out3=>
 some (.next (out3,(IntKind.wrap .i64 (i+1))))
 else
 some (.done (.brk out))
def qL (p:aj) (s_:State):Option ((List aC) × Int):=
 (fO p s_).bind fun r_=>
 bif (!decide (r_=0))then
 some (([]:List aC),r_)
 else
 Option.bind (aA (gX p s_) FUEL (([]:List aC),0)) fun o=>match o with
 | .ret v=>some v
 | .brk out1=>
 some (out1,0)
def uS (l:(List Int)) (n:Int):Int→Option (bn Int (Ex Unit Bool)):=
 fun i=>
 bif (decide (i<(l.length:Int)))then
 aJ ((0:Int)≤i∧i<(l.length:Int)) (
 bif (decide ((at' l i.toNat)=n))then
 some (.done (.ret true))
 else
 some (.next (IntKind.wrap .i64 (i+1))))
 else
 some (.done (.brk ()))
def sJ (l:(List Int)) (n:Int):Option Bool:=
 Option.bind (aA (uS l n) FUEL (0)) fun o=>match o with
 | .ret v=>some v
 | .brk _=>
 some false
def oL (p:aj) (s_:State) (b:Int):Int→Option (bn Int (Ex Unit Bool)):=
 fun kz=>
 bif (decide (kz<(p.sources.length:Int)))then
 aJ (((0:Int)≤kz∧kz<(p.sources.length:Int))∧(gB [((decide (((at' p.sources kz.toNat).bus)=b)),true)]=true→(0:Int)≤kz∧kz<(s_.on_.length:Int))) (
 bif (bif (decide (((at' p.sources kz.toNat).bus)=b))then(at' s_.on_ kz.toNat)else false)then
 some (.done (.ret true))
 else
 some (.next (IntKind.wrap .i64 (kz+1))))
 else
 some (.done (.brk ()))
def o6 (p:aj) (s_:State) (crew:(List Int)) (b:Int):Int→Option (bn Int (Ex Unit Bool)):=
 fun i=>
 bif (decide (i<(p.links.length:Int)))then
 Option.bind (α:=(Ex Unit (bn Int (Ex Unit Bool)))) (
 aJ ((0:Int)≤i∧i<(p.links.length:Int)) (
 bif (decide (((at' p.links i.toNat).a)=b))then
 bif (decide (((at' p.links i.toNat).b)=b))then
 (bif gB [((decide (0≤((at' p.links i.toNat).a))),true)]then sJ crew ((at' p.links i.toNat).a)else some default).bind fun r_=>
 aJ ((gB [((decide (((at' p.links i.toNat).kind)=1)),false),((bif (decide (0≤((at' p.links i.toNat).a)))then(!r_)else false),true)]=true→(0:Int)≤i∧i<(s_.closed.length:Int))∧(gB [((bif (decide (((at' p.links i.toNat).kind)=1))then true else(at' s_.closed i.toNat)),false),((bif (decide (0≤((at' p.links i.toNat).a)))then(!r_)else false),true)]=true→(0:Int)≤i∧i<(s_.locked.length:Int))) (
 bif (bif (bif (decide (0≤((at' p.links i.toNat).a)))then(!r_)else false)then(bif (bif (decide (((at' p.links i.toNat).kind)=1))then true else(at' s_.closed i.toNat))then true else(!(at' s_.locked i.toNat)))else false)then
 some (.ret (.done (.ret true)))
 else
 some (.brk ()))
 else
 (bif gB [((decide (0≤((at' p.links i.toNat).b))),true)]then sJ crew ((at' p.links i.toNat).b)else some default).bind fun r_1=>
 aJ ((gB [((decide (((at' p.links i.toNat).kind)=1)),false),((bif (decide (0≤((at' p.links i.toNat).b)))then(!r_1)else false),true)]=true→(0:Int)≤i∧i<(s_.closed.length:Int))∧(gB [((bif (decide (((at' p.links i.toNat).kind)=1))then true else(at' s_.closed i.toNat)),false),((bif (decide (0≤((at' p.links i.toNat).b)))then(!r_1)else false),true)]=true→(0:Int)≤i∧i<(s_.locked.length:Int))) (
 bif (bif (bif (decide (0≤((at' p.links i.toNat).b)))then(!r_1)else false)then(bif (bif (decide (((at' p.links i.toNat).kind)=1))then true else(at' s_.closed i.toNat))then true else(!(at' s_.locked i.toNat)))else false)then
 some (.ret (.done (.ret true)))
 else
 some (.brk ()))
 else
 bif (decide (((at' p.links i.toNat).b)=b))then
 (bif gB [((decide (0≤((at' p.links i.toNat).a))),true)]then sJ crew ((at' p.links i.toNat).a)else some default).bind fun r_2=>
 aJ ((gB [((decide (((at' p.links i.toNat).kind)=1)),false),((bif (decide (0≤((at' p.links i.toNat).a)))then(!r_2)else false),true)]=true→(0:Int)≤i∧i<(s_.closed.length:Int))∧(gB [((bif (decide (((at' p.links i.toNat).kind)=1))then true else(at' s_.closed i.toNat)),false),((bif (decide (0≤((at' p.links i.toNat).a)))then(!r_2)else false),true)]=true→(0:Int)≤i∧i<(s_.locked.length:Int))) (
 bif (bif (bif (decide (0≤((at' p.links i.toNat).a)))then(!r_2)else false)then(bif (bif (decide (((at' p.links i.toNat).kind)=1))then true else(at' s_.closed i.toNat))then true else(!(at' s_.locked i.toNat)))else false)then
 some (.ret (.done (.ret true)))
 else
 some (.brk ()))
 else
 some (.brk ()))) fun o=>match o with
 | .ret v=>some v
 | .brk _=>
 some (.next (IntKind.wrap .i64 (i+1)))
 else
 some (.done (.brk ()))
def tX (p:aj) (s_:State) (crew:(List Int)) (b:Int):Option Bool:=
 aJ ((0:Int)≤b∧b<(s_.earthed.length:Int)) (
 bif (!(at' s_.earthed b.toNat))then
 some true
 else
 Option.bind (aA (oL p s_ b) FUEL (0)) fun o=>match o with
 | .ret v=>some v
 | .brk _=>
 Option.bind (aA (o6 p s_ crew b) FUEL (0)) fun o=>match o with
 | .ret v=>some v
 | .brk _=>
 some false)
def l8 (p:aj) (s_:State) (r_2:((List Bool) × Int)):Int→Option (bn Int (Ex Unit Int)):=
 fun b=>
 bif (decide (b<p.buses))then
 aJ (((0:Int)≤b∧b<(r_2.1.length:Int))∧(gB [((at' r_2.1 b.toNat),true)]=true→(0:Int)≤b∧b<(s_.earthed.length:Int))) (
 bif (bif (at' r_2.1 b.toNat)then(at' s_.earthed b.toNat)else false)then
 some (.done (.ret 40))
 else
 some (.next (IntKind.wrap .i64 (b+1))))
 else
 some (.done (.brk ()))
def qj (p:aj) (t:Task) (r_2:((List Bool) × Int)):Int→Option (bn Int (Ex Unit Int)):=
 fun i=>
 bif (decide (i<(t.fed.length:Int)))then
 aJ (((0:Int)≤i∧i<(t.fed.length:Int))∧((0:Int)≤(at' t.fed i.toNat)∧(at' t.fed i.toNat)<(p.racks.length:Int))) (
 aJ (((0:Int)≤((at' p.racks ((at' t.fed i.toNat).toNat)).feeds).e0∧((at' p.racks ((at' t.fed i.toNat).toNat)).feeds).e0<(r_2.1.length:Int))∧(gB [((decide (0≤(((at' p.racks ((at' t.fed i.toNat).toNat)).feeds).e1))),true),((!(at' r_2.1 ((((at' p.racks ((at' t.fed i.toNat).toNat)).feeds).e0).toNat))),true)]=true→(0:Int)≤(if((at' p.racks ((at' t.fed i.toNat).toNat)).feeds).e1<0 then 0 else((at' p.racks ((at' t.fed i.toNat).toNat)).feeds).e1)∧(if((at' p.racks ((at' t.fed i.toNat).toNat)).feeds).e1<0 then 0 else((at' p.racks ((at' t.fed i.toNat).toNat)).feeds).e1)<(r_2.1.length:Int))) (
 bif (bif (!(at' r_2.1 ((((at' p.racks ((at' t.fed i.toNat).toNat)).feeds).e0).toNat)))then(!(bif (decide (0≤(((at' p.racks ((at' t.fed i.toNat).toNat)).feeds).e1)))then(at' r_2.1 ((if((at' p.racks ((at' t.fed i.toNat).toNat)).feeds).e1<0 then 0 else((at' p.racks ((at' t.fed i.toNat).toNat)).feeds).e1).toNat))else false))else false)then
 some (.done (.ret 42))
 else
 some (.next (IntKind.wrap .i64 (i+1)))))
 else
 some (.done (.brk ()))
def p8 (p:aj) (s_:State) (t:Task):Int→Option (bn Int (Ex Unit Int)):=
 fun i1=>
 bif (decide (i1<(t.crew.length:Int)))then
 (tX p s_ t.crew (at' t.crew i1.toNat)).bind fun r_4=>
 aJ ((0:Int)≤i1∧i1<(t.crew.length:Int)) (
 bif r_4 then
 some (.done (.ret 45))
 else
 some (.next (IntKind.wrap .i64 (i1+1))))
 else
 some (.done (.brk ()))
def dF (p:aj) (s_:State) (t:Task):Option Int:=
 (fO p s_).bind fun r_=>
 bif (!decide (r_=0))then
 some r_
 else
 (tH p t).bind fun r_1=>
 bif (!r_1)then
 some 1
 else
 (jU p s_).bind fun r_2=>
 Option.bind (aA (l8 p s_ r_2) FUEL (0)) fun o=>match o with
 | .ret v=>some v
 | .brk _=>
 (qL p s_).bind fun r_3=>
 bif (decide (0<(r_3.1.length:Int)))then
 some 41
 else
 Option.bind (aA (qj p t r_2) FUEL (0)) fun o=>match o with
 | .ret v=>some v
 | .brk _=>
 Option.bind (aA (p8 p s_ t) FUEL (0)) fun o=>match o with
 | .ret v=>some v
 | .brk _=>
 some 0
def qm (s_:State) (x:af):Option Bool:=
 bif (decide (x.deed=1))then
 aJ ((0:Int)≤x.index∧x.index<(s_.closed.length:Int)) (
 some (!(at' s_.closed x.index.toNat)))
 else
 bif (decide (x.deed=2))then
 aJ ((0:Int)≤x.index∧x.index<(s_.closed.length:Int)) (
 some (at' s_.closed x.index.toNat))
 else
 bif (decide (x.deed=3))then
 aJ ((0:Int)≤x.index∧x.index<(s_.earthed.length:Int)) (
 some (at' s_.earthed x.index.toNat))
 else
 bif (decide (x.deed=4))then
 aJ ((0:Int)≤x.index∧x.index<(s_.earthed.length:Int)) (
 some (!(at' s_.earthed x.index.toNat)))
 else
 bif (decide (x.deed=5))then
 aJ ((0:Int)≤x.index∧x.index<(s_.locked.length:Int)) (
 some (at' s_.locked x.index.toNat))
 else
 bif (decide (x.deed=6))then
 aJ ((0:Int)≤x.index∧x.index<(s_.locked.length:Int)) (
 some (!(at' s_.locked x.index.toNat)))
 else
 bif (decide (x.deed=7))then
 aJ ((0:Int)≤x.index∧x.index<(s_.on_.length:Int)) (
 some (at' s_.on_ x.index.toNat))
 else
 aJ ((0:Int)≤x.index∧x.index<(s_.on_.length:Int)) (
 some (!(at' s_.on_ x.index.toNat)))
def dV (l:(List Bool)):Option (List Bool):=
 aJ ((l.length*1≤140737488355328)∧(l.length≤4611686018427387904)) (
 some l)
def nC (x:State):Option State:=
 (dV x.closed).bind fun r_=>
 (dV x.locked).bind fun r_1=>
 (dV x.badLink).bind fun r_2=>
 (dV x.on_).bind fun r_3=>
 (dV x.badSource).bind fun r_4=>
 (dV x.earthed).bind fun r_5=>
 (dV x.badBus).bind fun r_6=>
 some (⟨r_,r_1,r_2,r_3,r_4,r_5,r_6⟩:State)
def yR (p:aj) (s_:State) (i:Int):Option Bool:=
 (nC s_).bind fun r_=>
 aJ ((0:Int)≤i∧i<(r_.closed.length:Int)) (
 aJ ((0:Int)≤i∧i<(p.links.length:Int)) (
 aJ (((0:Int)≤(at' p.links i.toNat).a∧(at' p.links i.toNat).a<(r_.badBus.length:Int))∧(gB [((at' r_.badBus (((at' p.links i.toNat).a).toNat)),false)]=true→(0:Int)≤(at' p.links i.toNat).b∧(at' p.links i.toNat).b<(r_.badBus.length:Int))) (
 bif (bif (at' r_.badBus (((at' p.links i.toNat).a).toNat))then true else(at' r_.badBus (((at' p.links i.toNat).b).toNat)))then
 some false
 else
 (jU p (⟨(r_.closed.set i.toNat false),r_.locked,r_.badLink,r_.on_,r_.badSource,r_.earthed,r_.badBus⟩:State)).bind fun r_1=>
 (dS p (⟨(r_.closed.set i.toNat false),r_.locked,r_.badLink,r_.on_,r_.badSource,r_.earthed,r_.badBus⟩:State) ((at' p.links i.toNat).a)).bind fun r_2=>
 aJ (((0:Int)≤(at' p.links i.toNat).b∧(at' p.links i.toNat).b<(r_2.length:Int))∧(gB [((!(at' r_2 (((at' p.links i.toNat).b).toNat))),true)]=true→(0:Int)≤(at' p.links i.toNat).a∧(at' p.links i.toNat).a<(r_1.1.length:Int))∧(gB [((at' r_1.1 (((at' p.links i.toNat).a).toNat)),false),((!(at' r_2 (((at' p.links i.toNat).b).toNat))),true)]=true→(0:Int)≤(at' p.links i.toNat).b∧(at' p.links i.toNat).b<(r_1.1.length:Int))) (
 some (bif (!(at' r_2 (((at' p.links i.toNat).b).toNat)))then(bif (at' r_1.1 (((at' p.links i.toNat).a).toNat))then true else(at' r_1.1 (((at' p.links i.toNat).b).toNat)))else false)))))
def vo (s_:State) (x:af):Option State:=
 (nC s_).bind fun r_=>
 bif (decide (x.deed=1))then
 bif (decide (x.deed=1))then
 aJ ((0:Int)≤x.index∧x.index<(r_.closed.length:Int)) (
 some (⟨(r_.closed.set x.index.toNat (decide (x.deed=2))),r_.locked,r_.badLink,r_.on_,r_.badSource,r_.earthed,r_.badBus⟩:State))
 else
 bif (decide (x.deed=3))then
 bif (decide (x.deed=3))then
 aJ ((0:Int)≤x.index∧x.index<(r_.earthed.length:Int)) (
 some (⟨r_.closed,r_.locked,r_.badLink,r_.on_,r_.badSource,(r_.earthed.set x.index.toNat (decide (x.deed=3))),r_.badBus⟩:State))
 else
 bif (decide (x.deed=5))then
 bif (decide (x.deed=5))then
 aJ ((0:Int)≤x.index∧x.index<(r_.locked.length:Int)) (
 some (⟨r_.closed,(r_.locked.set x.index.toNat (decide (x.deed=5))),r_.badLink,r_.on_,r_.badSource,r_.earthed,r_.badBus⟩:State))
 else
 bif (decide (x.deed=7))then
 bif (decide (x.deed=7))then
 aJ ((0:Int)≤x.index∧x.index<(r_.on_.length:Int)) (
 some (⟨r_.closed,r_.locked,r_.badLink,(r_.on_.set x.index.toNat (decide (x.deed=7))),r_.badSource,r_.earthed,r_.badBus⟩:State))
 else
 some r_
 else
 bif (decide (x.deed=8))then
 aJ ((0:Int)≤x.index∧x.index<(r_.on_.length:Int)) (
 some (⟨r_.closed,r_.locked,r_.badLink,(r_.on_.set x.index.toNat (decide (x.deed=7))),r_.badSource,r_.earthed,r_.badBus⟩:State))
 else
 some r_
 else
 bif (decide (x.deed=6))then
 aJ ((0:Int)≤x.index∧x.index<(r_.locked.length:Int)) (
 some (⟨r_.closed,(r_.locked.set x.index.toNat (decide (x.deed=5))),r_.badLink,r_.on_,r_.badSource,r_.earthed,r_.badBus⟩:State))
 else
 bif (decide (x.deed=7))then
 bif (decide (x.deed=7))then
 aJ ((0:Int)≤x.index∧x.index<(r_.on_.length:Int)) (
 some (⟨r_.closed,r_.locked,r_.badLink,(r_.on_.set x.index.toNat (decide (x.deed=7))),r_.badSource,r_.earthed,r_.badBus⟩:State))
 else
 some r_
 else
 bif (decide (x.deed=8))then
 aJ ((0:Int)≤x.index∧x.index<(r_.on_.length:Int)) (
 some (⟨r_.closed,r_.locked,r_.badLink,(r_.on_.set x.index.toNat (decide (x.deed=7))),r_.badSource,r_.earthed,r_.badBus⟩:State))
 else
 some r_
 else
 bif (decide (x.deed=4))then
 aJ ((0:Int)≤x.index∧x.index<(r_.earthed.length:Int)) (
 some (⟨r_.closed,r_.locked,r_.badLink,r_.on_,r_.badSource,(r_.earthed.set x.index.toNat (decide (x.deed=3))),r_.badBus⟩:State))
 else
 bif (decide (x.deed=5))then
 bif (decide (x.deed=5))then
 aJ ((0:Int)≤x.index∧x.index<(r_.locked.length:Int)) (
 some (⟨r_.closed,(r_.locked.set x.index.toNat (decide (x.deed=5))),r_.badLink,r_.on_,r_.badSource,r_.earthed,r_.badBus⟩:State))
 else
 bif (decide (x.deed=7))then
 bif (decide (x.deed=7))then
 aJ ((0:Int)≤x.index∧x.index<(r_.on_.length:Int)) (
 some (⟨r_.closed,r_.locked,r_.badLink,(r_.on_.set x.index.toNat (decide (x.deed=7))),r_.badSource,r_.earthed,r_.badBus⟩:State))
 else
 some r_
 else
 bif (decide (x.deed=8))then
 aJ ((0:Int)≤x.index∧x.index<(r_.on_.length:Int)) (
 some (⟨r_.closed,r_.locked,r_.badLink,(r_.on_.set x.index.toNat (decide (x.deed=7))),r_.badSource,r_.earthed,r_.badBus⟩:State))
 else
 some r_
 else
 bif (decide (x.deed=6))then
 aJ ((0:Int)≤x.index∧x.index<(r_.locked.length:Int)) (
 some (⟨r_.closed,(r_.locked.set x.index.toNat (decide (x.deed=5))),r_.badLink,r_.on_,r_.badSource,r_.earthed,r_.badBus⟩:State))
 else
 bif (decide (x.deed=7))then
 bif (decide (x.deed=7))then
 aJ ((0:Int)≤x.index∧x.index<(r_.on_.length:Int)) (
 some (⟨r_.closed,r_.locked,r_.badLink,(r_.on_.set x.index.toNat (decide (x.deed=7))),r_.badSource,r_.earthed,r_.badBus⟩:State))
 else
 some r_
 else
 bif (decide (x.deed=8))then
 aJ ((0:Int)≤x.index∧x.index<(r_.on_.length:Int)) (
 some (⟨r_.closed,r_.locked,r_.badLink,(r_.on_.set x.index.toNat (decide (x.deed=7))),r_.badSource,r_.earthed,r_.badBus⟩:State))
 else
 some r_
 else
 bif (decide (x.deed=2))then
 aJ ((0:Int)≤x.index∧x.index<(r_.closed.length:Int)) (
 some (⟨(r_.closed.set x.index.toNat (decide (x.deed=2))),r_.locked,r_.badLink,r_.on_,r_.badSource,r_.earthed,r_.badBus⟩:State))
 else
 bif (decide (x.deed=3))then
 bif (decide (x.deed=3))then
 aJ ((0:Int)≤x.index∧x.index<(r_.earthed.length:Int)) (
 some (⟨r_.closed,r_.locked,r_.badLink,r_.on_,r_.badSource,(r_.earthed.set x.index.toNat (decide (x.deed=3))),r_.badBus⟩:State))
 else
 bif (decide (x.deed=5))then
 bif (decide (x.deed=5))then
 aJ ((0:Int)≤x.index∧x.index<(r_.locked.length:Int)) (
 some (⟨r_.closed,(r_.locked.set x.index.toNat (decide (x.deed=5))),r_.badLink,r_.on_,r_.badSource,r_.earthed,r_.badBus⟩:State))
 else
 bif (decide (x.deed=7))then
 bif (decide (x.deed=7))then
 aJ ((0:Int)≤x.index∧x.index<(r_.on_.length:Int)) (
 some (⟨r_.closed,r_.locked,r_.badLink,(r_.on_.set x.index.toNat (decide (x.deed=7))),r_.badSource,r_.earthed,r_.badBus⟩:State))
 else
 some r_
 else
 bif (decide (x.deed=8))then
 aJ ((0:Int)≤x.index∧x.index<(r_.on_.length:Int)) (
 some (⟨r_.closed,r_.locked,r_.badLink,(r_.on_.set x.index.toNat (decide (x.deed=7))),r_.badSource,r_.earthed,r_.badBus⟩:State))
 else
 some r_
 else
 bif (decide (x.deed=6))then
 aJ ((0:Int)≤x.index∧x.index<(r_.locked.length:Int)) (
 some (⟨r_.closed,(r_.locked.set x.index.toNat (decide (x.deed=5))),r_.badLink,r_.on_,r_.badSource,r_.earthed,r_.badBus⟩:State))
 else
 bif (decide (x.deed=7))then
 bif (decide (x.deed=7))then
 aJ ((0:Int)≤x.index∧x.index<(r_.on_.length:Int)) (
 some (⟨r_.closed,r_.locked,r_.badLink,(r_.on_.set x.index.toNat (decide (x.deed=7))),r_.badSource,r_.earthed,r_.badBus⟩:State))
 else
 some r_
 else
 bif (decide (x.deed=8))then
 aJ ((0:Int)≤x.index∧x.index<(r_.on_.length:Int)) (
 some (⟨r_.closed,r_.locked,r_.badLink,(r_.on_.set x.index.toNat (decide (x.deed=7))),r_.badSource,r_.earthed,r_.badBus⟩:State))
 else
 some r_
 else
 bif (decide (x.deed=4))then
 aJ ((0:Int)≤x.index∧x.index<(r_.earthed.length:Int)) (
 some (⟨r_.closed,r_.locked,r_.badLink,r_.on_,r_.badSource,(r_.earthed.set x.index.toNat (decide (x.deed=3))),r_.badBus⟩:State))
 else
 bif (decide (x.deed=5))then
 bif (decide (x.deed=5))then
 aJ ((0:Int)≤x.index∧x.index<(r_.locked.length:Int)) (
 some (⟨r_.closed,(r_.locked.set x.index.toNat (decide (x.deed=5))),r_.badLink,r_.on_,r_.badSource,r_.earthed,r_.badBus⟩:State))
 else
 bif (decide (x.deed=7))then
 bif (decide (x.deed=7))then
 aJ ((0:Int)≤x.index∧x.index<(r_.on_.length:Int)) (
 some (⟨r_.closed,r_.locked,r_.badLink,(r_.on_.set x.index.toNat (decide (x.deed=7))),r_.badSource,r_.earthed,r_.badBus⟩:State))
 else
 some r_
 else
 bif (decide (x.deed=8))then
 aJ ((0:Int)≤x.index∧x.index<(r_.on_.length:Int)) (
 some (⟨r_.closed,r_.locked,r_.badLink,(r_.on_.set x.index.toNat (decide (x.deed=7))),r_.badSource,r_.earthed,r_.badBus⟩:State))
 else
 some r_
 else
 bif (decide (x.deed=6))then
 aJ ((0:Int)≤x.index∧x.index<(r_.locked.length:Int)) (
 some (⟨r_.closed,(r_.locked.set x.index.toNat (decide (x.deed=5))),r_.badLink,r_.on_,r_.badSource,r_.earthed,r_.badBus⟩:State))
 else
 bif (decide (x.deed=7))then
 bif (decide (x.deed=7))then
 aJ ((0:Int)≤x.index∧x.index<(r_.on_.length:Int)) (
 some (⟨r_.closed,r_.locked,r_.badLink,(r_.on_.set x.index.toNat (decide (x.deed=7))),r_.badSource,r_.earthed,r_.badBus⟩:State))
 else
 some r_
 else
 bif (decide (x.deed=8))then
 aJ ((0:Int)≤x.index∧x.index<(r_.on_.length:Int)) (
 some (⟨r_.closed,r_.locked,r_.badLink,(r_.on_.set x.index.toNat (decide (x.deed=7))),r_.badSource,r_.earthed,r_.badBus⟩:State))
 else
 some r_
def jS (p:aj) (s_:State) (x:af):Option (State × Int):=
 (fO p s_).bind fun r_=>
 bif (!decide (r_=0))then
 some ((⟨([]:List Bool),([]:List Bool),([]:List Bool),([]:List Bool),([]:List Bool),([]:List Bool),([]:List Bool)⟩:State),r_)
 else
 Option.bind (α:=Int) (
 (oZ p x).bind fun r_1=>
 bif (!r_1)then
 some 1
 else
 (qm s_ x).bind fun r_2=>
 bif r_2 then
 some 46
 else
 aJ ((gB [((bif (decide (x.deed=1))then true else(decide (x.deed=2))),true)]=true→(0:Int)≤x.index∧x.index<(s_.badLink.length:Int))∧(gB [((decide (7≤x.deed)),true),((bif (bif (decide (x.deed=1))then true else(decide (x.deed=2)))then(at' s_.badLink x.index.toNat)else false),false)]=true→(0:Int)≤x.index∧x.index<(s_.badSource.length:Int))) (
 bif (bif (bif (bif (decide (x.deed=1))then true else(decide (x.deed=2)))then(at' s_.badLink x.index.toNat)else false)then true else(bif (decide (7≤x.deed))then(at' s_.badSource x.index.toNat)else false))then
 some 47
 else
 aJ (gB [((bif (decide (x.deed=1))then true else(decide (x.deed=2))),true)]=true→(0:Int)≤x.index∧x.index<(s_.locked.length:Int)) (
 bif (bif (bif (decide (x.deed=1))then true else(decide (x.deed=2)))then(at' s_.locked x.index.toNat)else false)then
 some 43
 else
 (bif gB [((bif (bif (decide (x.deed=1))then true else(decide (x.deed=2)))then(decide (((at' p.links x.index.toNat).kind)=2))else false),true)]then yR p s_ x.index else some default).bind fun r_3=>
 aJ (gB [((bif (decide (x.deed=1))then true else(decide (x.deed=2))),true)]=true→(0:Int)≤x.index∧x.index<(p.links.length:Int)) (
 bif (bif (bif (bif (decide (x.deed=1))then true else(decide (x.deed=2)))then(decide (((at' p.links x.index.toNat).kind)=2))else false)then r_3 else false)then
 some 44
 else
 some r_)))) fun e_=>
 bif (!decide (e_=0))then
 some ((⟨([]:List Bool),([]:List Bool),([]:List Bool),([]:List Bool),([]:List Bool),([]:List Bool),([]:List Bool)⟩:State),e_)
 else
 (vo s_ x).bind fun r_4=>
 some (r_4,0)
def tQ (s_:State) (l:(List af)):Int→Option (bn Int (Ex Unit Bool)):=
 fun i=>
 bif (decide (i<(l.length:Int)))then
 (qm s_ (at' l i.toNat)).bind fun r_=>
 aJ ((0:Int)≤i∧i<(l.length:Int)) (
 bif (!r_)then
 some (.done (.ret false))
 else
 some (.next (IntKind.wrap .i64 (i+1))))
 else
 some (.done (.brk ()))
def qE (s_:State) (l:(List af)):Option Bool:=
 Option.bind (aA (tQ s_ l) FUEL (0)) fun o=>match o with
 | .ret v=>some v
 | .brk _=>
 some true
def qW (a:State) (b:State):Option Bool:=
 (bV a.closed b.closed).bind fun r_=>
 (bif gB [(r_,true)]then bV a.locked b.locked else some default).bind fun r_1=>
 (bif gB [((bif r_ then r_1 else false),true)]then bV a.badLink b.badLink else some default).bind fun r_2=>
 (bif gB [((bif (bif r_ then r_1 else false)then r_2 else false),true)]then bV a.on_ b.on_ else some default).bind fun r_3=>
 (bif gB [((bif (bif (bif r_ then r_1 else false)then r_2 else false)then r_3 else false),true)]then bV a.badSource b.badSource else some default).bind fun r_4=>
 (bif gB [((bif (bif (bif (bif r_ then r_1 else false)then r_2 else false)then r_3 else false)then r_4 else false),true)]then bV a.earthed b.earthed else some default).bind fun r_5=>
 (bif gB [((bif (bif (bif (bif (bif r_ then r_1 else false)then r_2 else false)then r_3 else false)then r_4 else false)then r_5 else false),true)]then bV a.badBus b.badBus else some default).bind fun r_6=>
 some (bif (bif (bif (bif (bif (bif r_ then r_1 else false)then r_2 else false)then r_3 else false)then r_4 else false)then r_5 else false)then r_6 else false)
def qi (l:(List State)) (s_:State):Int→Option (bn Int (Ex Unit Int)):=
 fun i=>
 bif (decide (i<(l.length:Int)))then
 (qW (at' l i.toNat) s_).bind fun r_=>
 aJ ((0:Int)≤i∧i<(l.length:Int)) (
 bif r_ then
 some (.done (.ret i))
 else
 some (.next (IntKind.wrap .i64 (i+1))))
 else
 some (.done (.brk ()))
def mV (l:(List State)) (s_:State):Option Int:=
 Option.bind (aA (qi l s_) FUEL (0)) fun o=>match o with
 | .ret v=>some v
 | .brk _=>
 some (-1)
def gK (p:aj) (t:Task) (most:Int) (i:Int):((List State) × (List (List af)) × Int)→Option (bn ((List State) × (List (List af)) × Int) (Ex ((List State) × (List (List af))) (bn ((List State) × (List (List af)) × Int) (Ex (List State) ((List af) × (List State) × Int))))):=
 fun zz=>match zz with
 |(l2,programs1,kz)=>
 bif (decide (kz<(t.allowed.length:Int)))then
 (jS p (at' l2 i.toNat) (at' t.allowed kz.toNat)).bind fun r_2=>
 aJ (((0:Int)≤i∧i<(l2.length:Int))∧((0:Int)≤kz∧kz<(t.allowed.length:Int))) (
 (bif gB [((!decide (r_2.2=0)),false)]then dF p r_2.1 t else some default).bind fun r_3=>
 (bif gB [((bif (!decide (r_2.2=0))then true else(!decide (r_3=0))),false)]then mV l2 r_2.1 else some default).bind fun r_4=>
 bif (bif (bif (!decide (r_2.2=0))then true else(!decide (r_3=0)))then true else(decide (0≤r_4)))then
 some (.next (l2,programs1,(IntKind.wrap .i64 (kz+1))))
 else
 aJ (((l2.length+[r_2.1].length)*168≤140737488355328)∧(l2.length+[r_2.1].length≤4611686018427387904)) (
 (gI (at' programs1 i.toNat)).bind fun r_5=>
 aJ (((0:Int)≤i∧i<(programs1.length:Int))∧((0:Int)≤kz∧kz<(t.allowed.length:Int))∧((r_5.length+[(at' t.allowed kz.toNat)].length)*16≤140737488355328)∧(r_5.length+[(at' t.allowed kz.toNat)].length≤4611686018427387904)) (
 aJ (((programs1.length+[(r_5++[(at' t.allowed kz.toNat)])].length)*24≤140737488355328)∧(programs1.length+[(r_5++[(at' t.allowed kz.toNat)])].length≤4611686018427387904)) (
 bif (decide (most<((l2++[r_2.1]).length:Int)))then
 some (.done (.ret (.done (.ret (([]:List af),([]:List State),8)))))
 else
 (qE r_2.1 t.goal).bind fun r_6=>
 bif r_6 then
 some (.done (.ret (.done (.ret ((r_5++[(at' t.allowed kz.toNat)]),([]:List State),0)))))
 else
 some (.next ((l2++[r_2.1]),(programs1++[(r_5++[(at' t.allowed kz.toNat)])]),(IntKind.wrap .i64 (kz+1))))))))
 else
 some (.done (.brk (l2,programs1)))
def fF (p:aj) (t:Task) (most:Int):((List State) × (List (List af)) × Int)→Option (bn ((List State) × (List (List af)) × Int) (Ex (List State) ((List af) × (List State) × Int))):=
 fun zz=>match zz with
 |(l,programs,i)=>
 bif (decide (i<(l.length:Int)))then
 Option.bind (aA (gK p t most i) FUEL (l,programs,0)) fun o=>match o with
 | .ret v=>some v
 | .brk (l3,programs2)=>
 some (.next (l3,programs2,(IntKind.wrap .i64 (i+1))))
 else
 some (.done (.brk l))
def rM (p:aj) (s_:State) (t:Task) (most:Int):Option ((List af) × (List State) × Int):=
 (dF p s_ t).bind fun r_=>
 bif (!decide (r_=0))then
 some (([]:List af),([]:List State),r_)
 else
 bif (bif (decide (most<1))then true else(decide (20000<most)))then
 some (([]:List af),([]:List State),1)
 else
 (qE s_ t.goal).bind fun r_1=>
 bif r_1 then
 some (([]:List af),([]:List State),0)
 else
 Option.bind (aA (fF p t most) FUEL ([s_],[([]:List af)],0)) fun o=>match o with
 | .ret v=>some v
 | .brk l1=>
 some (([]:List af),l1,4)
def lG (p:aj) (t:Task) (l:(List State)):Int→Option (bn Int (Ex Unit Int)):=
 fun i=>
 bif (decide (i<(l.length:Int)))then
 (dF p (at' l i.toNat) t).bind fun r_1=>
 (bif gB [((!decide (r_1=0)),false)]then qE (at' l i.toNat) t.goal else some default).bind fun r_2=>
 aJ (((0:Int)≤i∧i<(l.length:Int))∧(gB [((!decide (r_1=0)),false)]=true→(0:Int)≤i∧i<(l.length:Int))) (
 bif (bif (!decide (r_1=0))then true else r_2)then
 some (.done (.ret 7))
 else
 some (.next (IntKind.wrap .i64 (i+1))))
 else
 some (.done (.brk ()))
def lJ (p:aj) (t:Task) (l:(List State)) (i1:Int):Int→Option (bn Int (Ex Unit (bn Int (Ex Unit Int)))):=
 fun kz=>
 bif (decide (kz<(t.allowed.length:Int)))then
 (jS p (at' l i1.toNat) (at' t.allowed kz.toNat)).bind fun r_4=>
 aJ (((0:Int)≤i1∧i1<(l.length:Int))∧((0:Int)≤kz∧kz<(t.allowed.length:Int))) (
 (bif gB [((decide (r_4.2=0)),true)]then dF p r_4.1 t else some default).bind fun r_5=>
 (bif gB [((bif (decide (r_4.2=0))then(decide (r_5=0))else false),true)]then mV l r_4.1 else some default).bind fun r_6=>
 bif (bif (bif (decide (r_4.2=0))then(decide (r_5=0))else false)then(decide (r_6<0))else false)then
 some (.done (.ret (.done (.ret 7))))
 else
 some (.next (IntKind.wrap .i64 (kz+1))))
 else
 some (.done (.brk ()))
def lD (p:aj) (t:Task) (l:(List State)):Int→Option (bn Int (Ex Unit Int)):=
 fun i1=>
 bif (decide (i1<(l.length:Int)))then
 Option.bind (aA (lJ p t l i1) FUEL (0)) fun o=>match o with
 | .ret v=>some v
 | .brk _=>
 some (.next (IntKind.wrap .i64 (i1+1)))
 else
 some (.done (.brk ()))
def sG (p:aj) (s_:State) (t:Task) (l:(List State)):Option Int:=
 (dF p s_ t).bind fun r_=>
 bif (!decide (r_=0))then
 some r_
 else
 bif (decide (20000<(l.length:Int)))then
 some 2
 else
 Option.bind (aA (lG p t l) FUEL (0)) fun o=>match o with
 | .ret v=>some v
 | .brk _=>
 (mV l s_).bind fun r_3=>
 bif (decide (r_3<0))then
 some 7
 else
 Option.bind (aA (lD p t l) FUEL (0)) fun o=>match o with
 | .ret v=>some v
 | .brk _=>
 some 0
def kX (p:aj) (t:Task):Int→Option (bn Int (Ex Unit Bool)):=
 fun i=>
 bif (decide (i<(t.fed.length:Int)))then
 aJ (((0:Int)≤i∧i<(t.fed.length:Int))∧(gB [((decide ((at' t.fed i.toNat)<0)),false)]=true→(0:Int)≤i∧i<(t.fed.length:Int))) (
 bif (bif (decide ((at' t.fed i.toNat)<0))then true else(decide ((p.racks.length:Int)≤(at' t.fed i.toNat))))then
 some (.done (.ret false))
 else
 some (.next (IntKind.wrap .i64 (i+1))))
 else
 some (.done (.brk ()))
def lg (p:aj) (t:Task):Int→Option (bn Int (Ex Unit Bool)):=
 fun i1=>
 bif (decide (i1<(t.crew.length:Int)))then
 aJ (((0:Int)≤i1∧i1<(t.crew.length:Int))∧(gB [((decide ((at' t.crew i1.toNat)<0)),false)]=true→(0:Int)≤i1∧i1<(t.crew.length:Int))) (
 bif (bif (decide ((at' t.crew i1.toNat)<0))then true else(decide (p.buses≤(at' t.crew i1.toNat))))then
 some (.done (.ret false))
 else
 some (.next (IntKind.wrap .i64 (i1+1))))
 else
 some (.done (.brk ()))
def oQ (p:aj) (t:Task):Option Bool:=
 Option.bind (aA (kX p t) FUEL (0)) fun o=>match o with
 | .ret v=>some v
 | .brk _=>
 Option.bind (aA (lg p t) FUEL (0)) fun o=>match o with
 | .ret v=>some v
 | .brk _=>
 some true
def ny (p:aj) (s_:State) (x:af):Option (Bool × Int):=
 (dD p s_).bind fun r_=>
 bif (!decide (r_=0))then
 some (false,r_)
 else
 (jF p x).bind fun r_1=>
 bif (!r_1)then
 some (false,1)
 else
 (kJ s_ x).bind fun r_2=>
 some (r_2,0)
def o7 (p:aj) (s_:State) (l:(List af)):Int→Option (bn Int (Ex Unit Bool)):=
 fun i=>
 bif (decide (i<(l.length:Int)))then
 (ny p s_ (at' l i.toNat)).bind fun r_=>
 aJ ((0:Int)≤i∧i<(l.length:Int)) (
 bif (bif (!decide (r_.2=0))then true else(!r_.1))then
 some (.done (.ret false))
 else
 some (.next (IntKind.wrap .i64 (i+1))))
 else
 some (.done (.brk ()))
def oh (p:aj) (s_:State) (l:(List af)):Option Bool:=
 Option.bind (aA (o7 p s_ l) FUEL (0)) fun o=>match o with
 | .ret v=>some v
 | .brk _=>
 some true
def wY (x:Int) (n:Int):Option Int:=
 bif (decide (n<1))then
 some 0
 else
 aJ (n≠(0:Int)) (
 bif (decide ((Int.tmod x n)<0))then
 some (IntKind.wrap .i64 ((Int.tmod x n)+n))
 else
 some (Int.tmod x n))
def bQ (p:aj) (s_:State) (r_:Task) (r_5:((List af) × (List State) × Int)):Int→Option (bn Int (Ex Unit Bool)):=
 fun i=>
 bif (bif (decide (i<(r_5.2.1.length:Int)))then(decide (i<30))else false)then
 aJ (((0:Int)≤i∧i≤(r_5.2.1.length:Int))∧(i.toNat*168≤140737488355328)∧(i.toNat≤4611686018427387904)) (
 aJ (((0:Int)≤(IntKind.wrap .i64 (i+1))∧(IntKind.wrap .i64 (i+1))≤(r_5.2.1.length:Int))∧(((nR r_5.2.1 0 i.toNat).length+(r_5.2.1.length - ((IntKind.wrap .i64 (i+1)).toNat)))*168≤140737488355328)∧((nR r_5.2.1 0 i.toNat).length+(r_5.2.1.length - ((IntKind.wrap .i64 (i+1)).toNat))≤4611686018427387904)) (
 (fo p s_ r_ ((nR r_5.2.1 0 i.toNat)++(r_5.2.1.drop ((IntKind.wrap .i64 (i+1)).toNat)))).bind fun r_7=>
 bif (!decide (r_7=7))then
 some (.done (.ret false))
 else
 some (.next (IntKind.wrap .i64 (i+1)))))
 else
 some (.done (.brk ()))
def fJ (t:Task) (r_5:((List af) × (List State) × Int)) (i1:Int):(Bool × Int)→Option (bn (Bool × Int) (Ex Bool (bn Int (Ex Unit Bool)))):=
 fun zz=>match zz with
 |(found,kz)=>
 bif (decide (kz<(t.allowed.length:Int)))then
 aJ ((gB [(found,false)]=true→(0:Int)≤kz∧kz<(t.allowed.length:Int))∧(gB [(found,false)]=true→(0:Int)≤i1∧i1<(r_5.1.length:Int))) (
 some (.next ((bif found then true else((decide (((at' t.allowed kz.toNat).deed)=((at' r_5.1 i1.toNat).deed))) && ((decide (((at' t.allowed kz.toNat).index)=((at' r_5.1 i1.toNat).index))) && true))),(IntKind.wrap .i64 (kz+1)))))
 else
 some (.done (.brk found))
def cZ (t:Task) (r_5:((List af) × (List State) × Int)):Int→Option (bn Int (Ex Unit Bool)):=
 fun i1=>
 bif (decide (i1<(r_5.1.length:Int)))then
 Option.bind (aA (fJ t r_5 i1) FUEL (false,0)) fun o=>match o with
 | .ret v=>some v
 | .brk found1=>
 bif (!found1)then
 some (.done (.ret false))
 else
 some (.next (IntKind.wrap .i64 (i1+1)))
 else
 some (.done (.brk ()))
def aN (p:aj) (t:Task) (other:(List Int)) (r_:Task) (r_5:((List af) × (List State) × Int)):((List Bool) × (List Bool) × (List Bool) × (List Bool) × (List Bool) × (List Bool) × (List Bool) × Int × Int)→Option (bn ((List Bool) × (List Bool) × (List Bool) × (List Bool) × (List Bool) × (List Bool) × (List Bool) × Int × Int) (Ex Unit Bool)):=
 fun zz=>match zz with
 |(now0,now1,now2,now3,now4,now5,now6,many,i2)=>
 bif (bif (decide (i2<(other.length:Int)))then(decide (0<(t.allowed.length:Int)))else false)then
 (oh p (⟨now0,now1,now2,now3,now4,now5,now6⟩:State) t.goal).bind fun r_12=>
 bif (bif r_12 then(decide (many<(r_5.1.length:Int)))else false)then
 some (.done (.ret false))
 else
 (wY (at' other i2.toNat) (t.allowed.length:Int)).bind fun r_13=>
 aJ ((0:Int)≤i2∧i2<(other.length:Int)) (
 (bW p (⟨now0,now1,now2,now3,now4,now5,now6⟩:State) r_ (nR t.allowed r_13.toNat (((IntKind.wrap .i64 (r_13+1)).toNat) - r_13.toNat))).bind fun r_14=>
 aJ ((0:Int)≤r_13∧r_13≤(IntKind.wrap .i64 (r_13+1))∧(IntKind.wrap .i64 (r_13+1))≤(t.allowed.length:Int)) (
 bif (decide (r_14.2.2=0))then
 some (.next (r_14.2.1.closed,r_14.2.1.locked,r_14.2.1.badLink,r_14.2.1.on_,r_14.2.1.badSource,r_14.2.1.earthed,r_14.2.1.badBus,(IntKind.wrap .i64 (many+1)),(IntKind.wrap .i64 (i2+1))))
 else
 some (.next (now0,now1,now2,now3,now4,now5,now6,many,(IntKind.wrap .i64 (i2+1))))))
 else
 some (.done (.brk ()))
def jR (p:aj) (s_:State) (t:Task) (other:(List Int)):Option Bool:=
 (uN t).bind fun r_=>
 (yx p t).bind fun r_1=>
 (bif gB [(r_1,false)]then oQ p t else some default).bind fun r_2=>
 (bif gB [((bif (bif (bif r_1 then true else(!r_2))then true else(decide (8<(t.allowed.length:Int))))then true else(decide (20<(other.length:Int)))),false)]then eG p s_ r_ else some default).bind fun r_3=>
 bif (bif (bif (bif (bif r_1 then true else(!r_2))then true else(decide (8<(t.allowed.length:Int))))then true else(decide (20<(other.length:Int))))then true else(!decide (r_3=0)))then
 (eZ).bind fun r_4=>
 some r_4
 else
 (fB p s_ r_ 300).bind fun r_5=>
 bif (decide (r_5.2.2=4))then
 (bif gB [((!decide ((r_5.1.length:Int)=0)),false)]then fo p s_ r_ r_5.2.1 else some default).bind fun r_6=>
 bif (bif (!decide ((r_5.1.length:Int)=0))then true else(!decide (r_6=0)))then
 some false
 else
 Option.bind (aA (bQ p s_ r_ r_5) FUEL (0)) fun o=>match o with
 | .ret v=>some v
 | .brk _=>
 (eZ).bind fun r_8=>
 some r_8
 else
 bif (decide (r_5.2.2=8))then
 (bif gB [((decide ((IntKind.wrap .i64 ((r_5.1.length:Int)+(r_5.2.1.length:Int)))=0)),true)]then eZ else some default).bind fun r_9=>
 some (bif (decide ((IntKind.wrap .i64 ((r_5.1.length:Int)+(r_5.2.1.length:Int)))=0))then r_9 else false)
 else
 (bW p s_ r_ r_5.1).bind fun r_10=>
 (bif gB [((bif (bif (!decide (r_5.2.2=0))then true else(!decide (r_10.2.2=0)))then true else(!decide (r_10.1=(r_5.1.length:Int)))),false)]then oh p r_10.2.1 t.goal else some default).bind fun r_11=>
 bif (bif (bif (bif (!decide (r_5.2.2=0))then true else(!decide (r_10.2.2=0)))then true else(!decide (r_10.1=(r_5.1.length:Int))))then true else(!r_11))then
 some false
 else
 Option.bind (aA (cZ t r_5) FUEL (0)) fun o=>match o with
 | .ret v=>some v
 | .brk _=>
 Option.bind (aA (aN p t other r_ r_5) FUEL (s_.closed,s_.locked,s_.badLink,s_.on_,s_.badSource,s_.earthed,s_.badBus,0,0)) fun o=>match o with
 | .ret v=>some v
 | .brk _=>
 (eZ).bind fun r_15=>
 some r_15
def jb (p:aj) (t:Task) (l:(List af)):((List Bool) × (List Bool) × (List Bool) × (List Bool) × (List Bool) × (List Bool) × (List Bool) × Int)→Option (bn ((List Bool) × (List Bool) × (List Bool) × (List Bool) × (List Bool) × (List Bool) × (List Bool) × Int) (Ex ((List Bool) × (List Bool) × (List Bool) × (List Bool) × (List Bool) × (List Bool) × (List Bool)) (Int × State × Int))):=
 fun zz=>match zz with
 |(now0,now1,now2,now3,now4,now5,now6,i)=>
 bif (decide (i<(l.length:Int)))then
 (jS p (⟨now0,now1,now2,now3,now4,now5,now6⟩:State) (at' l i.toNat)).bind fun r_1=>
 aJ ((0:Int)≤i∧i<(l.length:Int)) (
 bif (decide (r_1.2=0))then
 (dF p r_1.1 t).bind fun r_2=>
 bif (!decide (r_2=0))then
 some (.done (.ret (i,(⟨([]:List Bool),([]:List Bool),([]:List Bool),([]:List Bool),([]:List Bool),([]:List Bool),([]:List Bool)⟩:State),r_2)))
 else
 some (.next (r_1.1.closed,r_1.1.locked,r_1.1.badLink,r_1.1.on_,r_1.1.badSource,r_1.1.earthed,r_1.1.badBus,(IntKind.wrap .i64 (i+1))))
 else
 bif (!decide (r_1.2=0))then
 some (.done (.ret (i,(⟨([]:List Bool),([]:List Bool),([]:List Bool),([]:List Bool),([]:List Bool),([]:List Bool),([]:List Bool)⟩:State),r_1.2)))
 else
 some (.next (r_1.1.closed,r_1.1.locked,r_1.1.badLink,r_1.1.on_,r_1.1.badSource,r_1.1.earthed,r_1.1.badBus,(IntKind.wrap .i64 (i+1)))))
 else
 some (.done (.brk (now0,now1,now2,now3,now4,now5,now6)))
def oJ (p:aj) (s_:State) (t:Task) (l:(List af)):Option (Int × State × Int):=
 (dF p s_ t).bind fun r_=>
 bif (!decide (r_=0))then
 some (0,(⟨([]:List Bool),([]:List Bool),([]:List Bool),([]:List Bool),([]:List Bool),([]:List Bool),([]:List Bool)⟩:State),r_)
 else
 bif (decide (256<(l.length:Int)))then
 some (0,(⟨([]:List Bool),([]:List Bool),([]:List Bool),([]:List Bool),([]:List Bool),([]:List Bool),([]:List Bool)⟩:State),2)
 else
 Option.bind (aA (jb p t l) FUEL (s_.closed,s_.locked,s_.badLink,s_.on_,s_.badSource,s_.earthed,s_.badBus,0)) fun o=>match o with
 | .ret v=>some v
 | .brk (now01,now11,now21,now31,now41,now51,now61)=>
 some ((l.length:Int),(⟨now01,now11,now21,now31,now41,now51,now61⟩:State),0)
end Sg
