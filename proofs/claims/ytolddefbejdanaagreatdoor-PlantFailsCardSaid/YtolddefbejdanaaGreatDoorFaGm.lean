import Derived.Test.YtolddefbejdanaaGreatDoorFaLc
import Derived.Test.YtolddefbejdanaaGreatDoorFaLd
set_option linter.all false
namespace Sg
open Go
structure Source where
 bus:Int
 kind:Int
 power:Int
 sync:Int
 ohm:Int
instance:Inhabited Source:=⟨⟨default,default,default,default,default⟩⟩
def Source.cell (x:Source):Nat→DV
 |0=>(.int .i64 x.bus)
 |1=>(.int .i64 x.kind)
 |2=>(.int .i64 x.power)
 |3=>(.int .i64 x.sync)
 |4=>(.int .i64 x.ohm)
 |_=> .nilp
structure dG where
 amps:Int
 millis:Int
instance:Inhabited dG:=⟨⟨default,default⟩⟩
def dG.cell (x:dG):Nat→DV
 |0=>(.int .i64 x.amps)
 |1=>(.int .i64 x.millis)
 |_=> .nilp
structure Link where
 a:Int
 b:Int
 kind:Int
 most:Int
 ohm:Int
 trip:(List dG)
instance:Inhabited Link:=⟨⟨default,default,default,default,default,default⟩⟩
def Link.cell (x:Link):Nat→DV
 |0=>(.int .i64 x.a)
 |1=>(.int .i64 x.b)
 |2=>(.int .i64 x.kind)
 |3=>(.int .i64 x.most)
 |4=>(.int .i64 x.ohm)
 |5=>(bg none 2 dG.cell x.trip)
 |_=> .nilp
structure aj where
 e0:Int
 e1:Int
instance:Inhabited aj:=⟨⟨default,default⟩⟩
def aj.cell (x:aj):Nat→DV
 |0=>(.int .i64 x.e0)
 |1=>(.int .i64 x.e1)
 |_=> .nilp
structure aL where
 feeds:aj
 power:Int
 paths:Int
instance:Inhabited aL:=⟨⟨default,default,default⟩⟩
def aL.cell (x:aL):Nat→DV
 |0=>(.int .i64 x.feeds.e0)
 |1=>(.int .i64 x.feeds.e1)
 |2=>(.int .i64 x.power)
 |3=>(.int .i64 x.paths)
 |_=> .nilp
structure au where
 buses:Int
 sources:(List Source)
 links:(List Link)
 racks:(List aL)
instance:Inhabited au:=⟨⟨default,default,default,default⟩⟩
def au.cell (x:au):Nat→DV
 |0=>(.int .i64 x.buses)
 |1=>(bg none 5 Source.cell x.sources)
 |2=>(bg none 6 Link.cell x.links)
 |3=>(bg none 4 aL.cell x.racks)
 |_=> .nilp
structure State where
 closed:(List Bool)
 locked:(List Bool)
 badLink:(List Bool)
 on_:(List Bool)
 badSource:(List Bool)
 earthed:(List Bool)
 badBus:(List Bool)
instance:Inhabited State:=⟨⟨default,default,default,default,default,default,default⟩⟩
def State.cell (x:State):Nat→DV
 |0=>(bg none 1 af x.closed)
 |1=>(bg none 1 af x.locked)
 |2=>(bg none 1 af x.badLink)
 |3=>(bg none 1 af x.on_)
 |4=>(bg none 1 af x.badSource)
 |5=>(bg none 1 af x.earthed)
 |6=>(bg none 1 af x.badBus)
 |_=> .nilp
structure aX where
 l:(List Bool)
 n:Int
instance:Inhabited aX:=⟨⟨default,default⟩⟩
def aX.cell (x:aX):Nat→DV
 |0=>(bg none 1 af x.l)
 |1=>(.int .i64 x.n)
 |_=> .nilp
structure aA where
 head:(List (Int × Int))
instance:Inhabited aA:=⟨⟨default⟩⟩
def aA.cell (x:aA):Nat→DV
 |0=> .nilp
 |_=> .nilp
structure ah where
 buses:(List Int)
 sources:(List Int)
instance:Inhabited ah:=⟨⟨default,default⟩⟩
def ah.cell (x:ah):Nat→DV
 |0=>(bg none 1 (aG .i64) x.buses)
 |1=>(bg none 1 (aG .i64) x.sources)
 |_=> .nilp
structure aH where
 e0:Bool
 e1:Bool
instance:Inhabited aH:=⟨⟨default,default⟩⟩
def aH.cell (x:aH):Nat→DV
 |0=>(.bool x.e0)
 |1=>(.bool x.e1)
 |_=> .nilp
structure Part where
 kind:Int
 index:Int
instance:Inhabited Part:=⟨⟨default,default⟩⟩
def Part.cell (x:Part):Nat→DV
 |0=>(.int .i64 x.kind)
 |1=>(.int .i64 x.index)
 |_=> .nilp
def ah.ev (x:ah):Nat→EV
 |0=> .row 3 1 x.buses.length (av (aG .i64) x.buses)
 |1=> .row 3 1 x.sources.length (av (aG .i64) x.sources)
 |_=> .d .nilp
def jJ (p:au):Int→Option (bT Int (Ex Unit Bool)):=
 fun i=>
 bif (decide (i<(p.links.length:Int)))then
 dI ((0:Int)≤i∧i<(p.links.length:Int)) (
 bif (decide (20<(((at' p.links i.toNat).trip).length:Int)))then
 some (.done (.ret true))
 else
 some (.next (IntKind.wrap .i64 (i+1))))
 else
 some (.done (.brk ()))
def mE (p:au):Option Bool:=
 bif (bif (bif (decide (60<(p.sources.length:Int)))then true else(decide (60<(p.links.length:Int))))then true else(decide (60<(p.racks.length:Int))))then
 some true
 else
 Option.bind (aI (jJ p) FUEL (0)) fun o=>match o with
 | .ret v=>some v
 | .brk _=>
 some false
def aF (n:Int) (first:Int) (last:Int):Option Bool:=
 some (bif (decide (first≤n))then(decide (n≤last))else false)
def lV (p:au):Option (Int × (List Source) × (List Link) × (List aL)):=
 some (p.buses,p.sources,p.links,p.racks)
def oL (p:au):Option (Int × (List Source) × (List Link) × (List aL)):=
 some (p.buses,p.sources,p.links,p.racks)
def om (p:au):Option (Int × (List Source) × (List Link) × (List aL)):=
 some (p.buses,p.sources,p.links,p.racks)
def iO (x:Source) (x1:Int) (x11:(List Source)) (x12:(List Link)) (x13:(List aL)):Option Bool:=
 (aF x.bus 0 (IntKind.wrap .i64 (x1 - 1))).bind fun r_=>
 (bif gB [(r_,true)]then aF x.kind 1 3 else some default).bind fun r_1=>
 (bif gB [((bif r_ then r_1 else false),true)]then aF x.power 1 100000 else some default).bind fun r_2=>
 (bif gB [((bif (bif r_ then r_1 else false)then r_2 else false),true)]then aF x.sync 0 8 else some default).bind fun r_3=>
 (bif gB [((bif (bif (bif r_ then r_1 else false)then r_2 else false)then r_3 else false),true)]then aF x.ohm 10 100000 else some default).bind fun r_4=>
 some (bif (bif (bif (bif r_ then r_1 else false)then r_2 else false)then r_3 else false)then r_4 else false)
def mo (x:Source) (x1:Int) (x11:(List Source)) (x12:(List Link)) (x13:(List aL)):Option Bool:=
 (iO x x1 x11 x12 x13).bind fun r_=>
 some (!r_)
def gU (s_:(List Source)) (f_:Int) (f_1:(List Source)) (f_2:(List Link)) (f_3:(List aL)):Int→Option (bT Int (Ex Unit Int)):=
 fun t8=>
 bif (decide (t8<(s_.length:Int)))then
 (mo (at' s_ t8.toNat) f_ f_1 f_2 f_3).bind fun r_=>
 dI ((0:Int)≤t8∧t8<(s_.length:Int)) (
 bif r_ then
 some (.done (.ret t8))
 else
 some (.next (IntKind.wrap .i64 (t8+1))))
 else
 some (.done (.brk ()))
def jg (s_:(List Source)) (f_:Int) (f_1:(List Source)) (f_2:(List Link)) (f_3:(List aL)):Option Int:=
 Option.bind (aI (gU s_ f_ f_1 f_2 f_3) FUEL (0)) fun o=>match o with
 | .ret v=>some v
 | .brk _=>
 some (-1)
def eD (s_:(List Source)) (f_:Int) (f_1:(List Source)) (f_2:(List Link)) (f_3:(List aL)):Option Bool:=
 (jg s_ f_ f_1 f_2 f_3).bind fun r_=>
 some (decide (0≤r_))
def lm (l:(List Source)) (most:Int) (right:Int) (right1:(List Source)) (right2:(List Link)) (right3:(List aL)):Option Bool:=
 (bif gB [((decide ((l.length:Int)≤most)),true)]then eD l right right1 right2 right3 else some default).bind fun r_=>
 some (bif (decide ((l.length:Int)≤most))then(!r_)else false)
def gW (x:Link):Int→Option (bT Int (Ex Unit Bool)):=
 fun t50=>
 bif (decide (t50<(x.trip.length:Int)))then
 dI ((0:Int)≤t50∧t50<(x.trip.length:Int)) (
 (aF ((at' x.trip t50.toNat).amps) 1 1000000).bind fun r_5=>
 (bif gB [((!r_5),false)]then aF ((at' x.trip t50.toNat).millis) 1 100000 else some default).bind fun r_6=>
 dI ((gB [((decide (0<t50)),true),((bif (!r_5)then true else(!r_6)),false)]=true→(0:Int)≤(IntKind.wrap .i64 (t50 - 1))∧(IntKind.wrap .i64 (t50 - 1))<(x.trip.length:Int))∧(gB [((decide (((at' x.trip t50.toNat).amps)≤((at' x.trip ((IntKind.wrap .i64 (t50 - 1)).toNat)).amps))),false),((decide (0<t50)),true),((bif (!r_5)then true else(!r_6)),false)]=true→(0:Int)≤(IntKind.wrap .i64 (t50 - 1))∧(IntKind.wrap .i64 (t50 - 1))<(x.trip.length:Int))) (
 bif (bif (bif (!r_5)then true else(!r_6))then true else(bif (decide (0<t50))then(bif (decide (((at' x.trip t50.toNat).amps)≤((at' x.trip ((IntKind.wrap .i64 (t50 - 1)).toNat)).amps)))then true else(decide (((at' x.trip ((IntKind.wrap .i64 (t50 - 1)).toNat)).millis)≤((at' x.trip t50.toNat).millis))))else false))then
 some (.done (.ret false))
 else
 some (.next (IntKind.wrap .i64 (t50+1)))))
 else
 some (.done (.brk ()))
def jA (x:Link) (x1:Int) (x11:(List Source)) (x12:(List Link)) (x13:(List aL)):Option Bool:=
 (aF x.a 0 (IntKind.wrap .i64 (x1 - 1))).bind fun r_=>
 (bif gB [((!r_),false)]then aF x.b 0 (IntKind.wrap .i64 (x1 - 1))else some default).bind fun r_1=>
 (bif gB [((bif (bif (!r_)then true else(!r_1))then true else(decide (x.a=x.b))),false)]then aF x.kind 1 3 else some default).bind fun r_2=>
 (bif gB [((bif (bif (bif (!r_)then true else(!r_1))then true else(decide (x.a=x.b)))then true else(!r_2)),false)]then aF x.most 1 100000 else some default).bind fun r_3=>
 (bif gB [((bif (bif (bif (bif (!r_)then true else(!r_1))then true else(decide (x.a=x.b)))then true else(!r_2))then true else(!r_3)),false)]then aF x.ohm 10 100000 else some default).bind fun r_4=>
 bif (bif (bif (bif (bif (bif (!r_)then true else(!r_1))then true else(decide (x.a=x.b)))then true else(!r_2))then true else(!r_3))then true else(!r_4))then
 some false
 else
 Option.bind (aI (gW x) FUEL (0)) fun o=>match o with
 | .ret v=>some v
 | .brk _=>
 some (bif (decide ((x.trip.length:Int)≤6))then(bif (decide ((x.trip.length:Int)=0))then true else(decide (x.kind=3)))else false)
def jM (x:Link) (x1:Int) (x11:(List Source)) (x12:(List Link)) (x13:(List aL)):Option Bool:=
 (jA x x1 x11 x12 x13).bind fun r_=>
 some (!r_)
def fq (s_:(List Link)) (f_:Int) (f_1:(List Source)) (f_2:(List Link)) (f_3:(List aL)):Int→Option (bT Int (Ex Unit Int)):=
 fun t8=>
 bif (decide (t8<(s_.length:Int)))then
 (jM (at' s_ t8.toNat) f_ f_1 f_2 f_3).bind fun r_=>
 dI ((0:Int)≤t8∧t8<(s_.length:Int)) (
 bif r_ then
 some (.done (.ret t8))
 else
 some (.next (IntKind.wrap .i64 (t8+1))))
 else
 some (.done (.brk ()))
def gT (s_:(List Link)) (f_:Int) (f_1:(List Source)) (f_2:(List Link)) (f_3:(List aL)):Option Int:=
 Option.bind (aI (fq s_ f_ f_1 f_2 f_3) FUEL (0)) fun o=>match o with
 | .ret v=>some v
 | .brk _=>
 some (-1)
def dz (s_:(List Link)) (f_:Int) (f_1:(List Source)) (f_2:(List Link)) (f_3:(List aL)):Option Bool:=
 (gT s_ f_ f_1 f_2 f_3).bind fun r_=>
 some (decide (0≤r_))
def jX (l:(List Link)) (most:Int) (right:Int) (right1:(List Source)) (right2:(List Link)) (right3:(List aL)):Option Bool:=
 (bif gB [((decide ((l.length:Int)≤most)),true)]then dz l right right1 right2 right3 else some default).bind fun r_=>
 some (bif (decide ((l.length:Int)≤most))then(!r_)else false)
def kD (x:aL):Option Int:=
 bif (decide (x.feeds.e1=(-1)))then
 some 1
 else
 some 2
def jB (x:aL) (x1:Int) (x11:(List Source)) (x12:(List Link)) (x13:(List aL)):Option Bool:=
 (aF x.feeds.e0 0 (IntKind.wrap .i64 (x1 - 1))).bind fun r_=>
 (bif gB [(r_,true)]then aF x.feeds.e1 (-1) (IntKind.wrap .i64 (x1 - 1))else some default).bind fun r_1=>
 (bif gB [((bif (bif r_ then r_1 else false)then(!decide (x.feeds.e0=x.feeds.e1))else false),true)]then aF x.power 1 100000 else some default).bind fun r_2=>
 (bif gB [((bif (bif (bif r_ then r_1 else false)then(!decide (x.feeds.e0=x.feeds.e1))else false)then r_2 else false),true)]then kD x else some default).bind fun r_3=>
 (bif gB [((bif (bif (bif r_ then r_1 else false)then(!decide (x.feeds.e0=x.feeds.e1))else false)then r_2 else false),true)]then aF x.paths 0 r_3 else some default).bind fun r_4=>
 some (bif (bif (bif (bif r_ then r_1 else false)then(!decide (x.feeds.e0=x.feeds.e1))else false)then r_2 else false)then r_4 else false)
def jO (x:aL) (x1:Int) (x11:(List Source)) (x12:(List Link)) (x13:(List aL)):Option Bool:=
 (jB x x1 x11 x12 x13).bind fun r_=>
 some (!r_)
def fA (s_:(List aL)) (f_:Int) (f_1:(List Source)) (f_2:(List Link)) (f_3:(List aL)):Int→Option (bT Int (Ex Unit Int)):=
 fun t8=>
 bif (decide (t8<(s_.length:Int)))then
 (jO (⟨((at' s_ t8.toNat).feeds),(at' s_ t8.toNat).power,(at' s_ t8.toNat).paths⟩:aL) f_ f_1 f_2 f_3).bind fun r_=>
 dI ((0:Int)≤t8∧t8<(s_.length:Int)) (
 bif r_ then
 some (.done (.ret t8))
 else
 some (.next (IntKind.wrap .i64 (t8+1))))
 else
 some (.done (.brk ()))
def gN (s_:(List aL)) (f_:Int) (f_1:(List Source)) (f_2:(List Link)) (f_3:(List aL)):Option Int:=
 Option.bind (aI (fA s_ f_ f_1 f_2 f_3) FUEL (0)) fun o=>match o with
 | .ret v=>some v
 | .brk _=>
 some (-1)
def dA (s_:(List aL)) (f_:Int) (f_1:(List Source)) (f_2:(List Link)) (f_3:(List aL)):Option Bool:=
 (gN s_ f_ f_1 f_2 f_3).bind fun r_=>
 some (decide (0≤r_))
def jC (l:(List aL)) (most:Int) (right:Int) (right1:(List Source)) (right2:(List Link)) (right3:(List aL)):Option Bool:=
 (bif gB [((decide ((l.length:Int)≤most)),true)]then dA l right right1 right2 right3 else some default).bind fun r_=>
 some (bif (decide ((l.length:Int)≤most))then(!r_)else false)
def dO (p:au):Option Int:=
 (aF p.buses 1 24).bind fun r_=>
 bif (!r_)then
 some 10
 else
 (lV p).bind fun r_1=>
 (lm p.sources 8 r_1.1 r_1.2.1 r_1.2.2.1 r_1.2.2.2).bind fun r_2=>
 bif (!r_2)then
 some 11
 else
 (oL p).bind fun r_3=>
 (jX p.links 40 r_3.1 r_3.2.1 r_3.2.2.1 r_3.2.2.2).bind fun r_4=>
 bif (!r_4)then
 some 12
 else
 (om p).bind fun r_5=>
 (jC p.racks 24 r_5.1 r_5.2.1 r_5.2.2.1 r_5.2.2.2).bind fun r_6=>
 bif (!r_6)then
 some 13
 else
 some 0
def eB (p:au) (s_:State):Int→Option (bT Int (Ex Unit Int)):=
 fun t55=>
 bif (decide (t55<([(⟨s_.closed,(p.links.length:Int)⟩:aX),(⟨s_.locked,(p.links.length:Int)⟩:aX),(⟨s_.badLink,(p.links.length:Int)⟩:aX),(⟨s_.on_,(p.sources.length:Int)⟩:aX),(⟨s_.badSource,(p.sources.length:Int)⟩:aX),(⟨s_.earthed,p.buses⟩:aX),(⟨s_.badBus,p.buses⟩:aX)].length:Int)))then
 dI ((0:Int)≤t55∧t55<([(⟨s_.closed,(p.links.length:Int)⟩:aX),(⟨s_.locked,(p.links.length:Int)⟩:aX),(⟨s_.badLink,(p.links.length:Int)⟩:aX),(⟨s_.on_,(p.sources.length:Int)⟩:aX),(⟨s_.badSource,(p.sources.length:Int)⟩:aX),(⟨s_.earthed,p.buses⟩:aX),(⟨s_.badBus,p.buses⟩:aX)].length:Int)) (
 bif (!decide ((((at' [(⟨s_.closed,(p.links.length:Int)⟩:aX),(⟨s_.locked,(p.links.length:Int)⟩:aX),(⟨s_.badLink,(p.links.length:Int)⟩:aX),(⟨s_.on_,(p.sources.length:Int)⟩:aX),(⟨s_.badSource,(p.sources.length:Int)⟩:aX),(⟨s_.earthed,p.buses⟩:aX),(⟨s_.badBus,p.buses⟩:aX)] t55.toNat).l).length:Int)=((at' [(⟨s_.closed,(p.links.length:Int)⟩:aX),(⟨s_.locked,(p.links.length:Int)⟩:aX),(⟨s_.badLink,(p.links.length:Int)⟩:aX),(⟨s_.on_,(p.sources.length:Int)⟩:aX),(⟨s_.badSource,(p.sources.length:Int)⟩:aX),(⟨s_.earthed,p.buses⟩:aX),(⟨s_.badBus,p.buses⟩:aX)] t55.toNat).n)))then
 some (.done (.ret 9))
 else
 some (.next (IntKind.wrap .i64 (t55+1))))
 else
 some (.done (.brk ()))
def eu (p:au) (s_:State):Int→Option (bT Int (Ex Unit Int)):=
 fun t69=>
 bif (decide (t69<(p.links.length:Int)))then
 dI ((0:Int)≤t69∧t69<(p.links.length:Int)) (
 dI ((gB [((decide (((at' p.links t69.toNat).kind)=1)),true)]=true→(0:Int)≤t69∧t69<(s_.closed.length:Int))∧(gB [((!(at' s_.closed t69.toNat)),false),((decide (((at' p.links t69.toNat).kind)=1)),true)]=true→(0:Int)≤t69∧t69<(s_.locked.length:Int))) (
 bif (bif (decide (((at' p.links t69.toNat).kind)=1))then(bif (!(at' s_.closed t69.toNat))then true else(at' s_.locked t69.toNat))else false)then
 some (.done (.ret 9))
 else
 some (.next (IntKind.wrap .i64 (t69+1)))))
 else
 some (.done (.brk ()))
def bA (p:au) (s_:State):Option Int:=
 (dO p).bind fun r_=>
 bif (!decide (r_=0))then
 some r_
 else
 Option.bind (aI (eB p s_) FUEL (0)) fun o=>match o with
 | .ret v=>some v
 | .brk _=>
 Option.bind (aI (eu p s_) FUEL (0)) fun o=>match o with
 | .ret v=>some v
 | .brk _=>
 some 0
def lM (p:au) (s_:State):Option (Int × (List Source) × (List Link) × (List aL) × (List Bool) × (List Bool) × (List Bool) × (List Bool) × (List Bool) × (List Bool) × (List Bool)):=
 some (p.buses,p.sources,p.links,p.racks,s_.closed,s_.locked,s_.badLink,s_.on_,s_.badSource,s_.earthed,s_.badBus)
def ny (g:aA):Int→Option (bT Int (Ex Unit Int)):=
 fun x1=>
 bif (!((aN bH x1 g.head).isSome))then
 some (.done (.ret x1))
 else
 some (.next ((aN bH x1 g.head).getD 0))
def bL (g:aA) (x:Int):Option Int:=
 Option.bind (aI (ny g) FUEL (x)) fun o=>match o with
 | .ret v=>some v
 | .brk _=>none
def kW (g:aA) (a:Int) (b:Int):Option (List (Int × Int)):=
 (bL g a).bind fun r_=>
 (bL g b).bind fun r_1=>
 bif (!decide (r_=r_1))then
 some (fo bH r_ r_1 g.head)
 else
 some g.head
def iD (x22:Int) (x221:Int) (x222:Int) (x223:Int) (x224:Int) (x225:(List dG)) (o_:aA):Option aA:=
 (kW o_ x22 x221).bind fun r_=>
 some (⟨r_⟩:aA)
def nu (x12:(List Link)) (x2:(List Bool)) (x22:(List Bool)) (x26:(List Bool)):((List (Int × Int)) × Int)→Option (bT ((List (Int × Int)) × Int) (Ex (List (Int × Int)) aA)):=
 fun zz=>match zz with
 |(o50,t9)=>
 bif (decide (t9<(x12.length:Int)))then
 dI ((0:Int)≤t9∧t9<(x12.length:Int)) (
 bif (bif (bif (bif (at' x2 t9.toNat)then(!(at' x22 t9.toNat))else false)then(!(at' x26 (((at' x12 t9.toNat).a).toNat)))else false)then(!(at' x26 (((at' x12 t9.toNat).b).toNat)))else false)then
 (iD ((at' x12 t9.toNat).a) ((at' x12 t9.toNat).b) ((at' x12 t9.toNat).kind) ((at' x12 t9.toNat).most) ((at' x12 t9.toNat).ohm) ((at' x12 t9.toNat).trip) (⟨o50⟩:aA)).bind fun r_=>
 dI (((0:Int)≤t9∧t9<(x2.length:Int))∧(gB [((at' x2 t9.toNat),true)]=true→(0:Int)≤t9∧t9<(x22.length:Int))∧(gB [((bif (at' x2 t9.toNat)then(!(at' x22 t9.toNat))else false),true)]=true→(0:Int)≤(at' x12 t9.toNat).a∧(at' x12 t9.toNat).a<(x26.length:Int))∧(gB [((bif (bif (at' x2 t9.toNat)then(!(at' x22 t9.toNat))else false)then(!(at' x26 (((at' x12 t9.toNat).a).toNat)))else false),true)]=true→(0:Int)≤(at' x12 t9.toNat).b∧(at' x12 t9.toNat).b<(x26.length:Int))) (
 some (.next (r_.head,(IntKind.wrap .i64 (t9+1)))))
 else
 dI (((0:Int)≤t9∧t9<(x2.length:Int))∧(gB [((at' x2 t9.toNat),true)]=true→(0:Int)≤t9∧t9<(x22.length:Int))∧(gB [((bif (at' x2 t9.toNat)then(!(at' x22 t9.toNat))else false),true)]=true→(0:Int)≤(at' x12 t9.toNat).a∧(at' x12 t9.toNat).a<(x26.length:Int))∧(gB [((bif (bif (at' x2 t9.toNat)then(!(at' x22 t9.toNat))else false)then(!(at' x26 (((at' x12 t9.toNat).a).toNat)))else false),true)]=true→(0:Int)≤(at' x12 t9.toNat).b∧(at' x12 t9.toNat).b<(x26.length:Int))) (
 some (.next (o50,(IntKind.wrap .i64 (t9+1))))))
 else
 some (.done (.brk o50))
def kK (x1:Int) (x11:(List Source)) (x12:(List Link)) (x13:(List aL)) (x2:(List Bool)) (x21:(List Bool)) (x22:(List Bool)) (x23:(List Bool)) (x24:(List Bool)) (x25:(List Bool)) (x26:(List Bool)) (o_:aA):Option aA:=
 Option.bind (aI (nu x12 x2 x22 x26) FUEL (o_.head,0)) fun o=>match o with
 | .ret v=>some v
 | .brk o501=>
 some (⟨o501⟩:aA)
def sH (p:au) (s_:State) (r_1:aA):((List ah) × (List (Int × Int)) × Int)→Option (bT ((List ah) × (List (Int × Int)) × Int) (Ex ((List ah) × (List (Int × Int))) (List ah))):=
 fun zz=>match zz with
 |(out,at_,t32)=>
 bif (decide (t32<p.buses))then
 dI ((0:Int)≤t32∧t32<(s_.badBus.length:Int)) (
 bif (at' s_.badBus t32.toNat)then
 some (.next (out,at_,(IntKind.wrap .i64 (t32+1))))
 else
 (bL r_1 t32).bind fun r_2=>
 bif (!((aN bH r_2 at_).isSome))then
 dI (((out.length+[(⟨([]:List Int),([]:List Int)⟩:ah)].length)*48≤140737488355328)∧(out.length+[(⟨([]:List Int),([]:List Int)⟩:ah)].length≤4611686018427387904)) (
 dI (((0:Int)≤((aN bH r_2 (fo bH r_2 (out.length:Int) at_)).getD 0)∧((aN bH r_2 (fo bH r_2 (out.length:Int) at_)).getD 0)<((out++[(⟨([]:List Int),([]:List Int)⟩:ah)]).length:Int))∧((((at' (out++[(⟨([]:List Int),([]:List Int)⟩:ah)]) (((aN bH r_2 (fo bH r_2 (out.length:Int) at_)).getD 0).toNat)).buses).length+[t32].length)*8≤140737488355328)∧(((at' (out++[(⟨([]:List Int),([]:List Int)⟩:ah)]) (((aN bH r_2 (fo bH r_2 (out.length:Int) at_)).getD 0).toNat)).buses).length+[t32].length≤4611686018427387904)) (
 some (.next (((out++[(⟨([]:List Int),([]:List Int)⟩:ah)]).set (((aN bH r_2 (fo bH r_2 (out.length:Int) at_)).getD 0).toNat) (⟨(((at' (out++[(⟨([]:List Int),([]:List Int)⟩:ah)]) (((aN bH r_2 (fo bH r_2 (out.length:Int) at_)).getD 0).toNat)).buses)++[t32]),(at' (out++[(⟨([]:List Int),([]:List Int)⟩:ah)]) (((aN bH r_2 (fo bH r_2 (out.length:Int) at_)).getD 0).toNat)).sources⟩:ah)),(fo bH r_2 (out.length:Int) at_),(IntKind.wrap .i64 (t32+1))))))
 else
 dI (((0:Int)≤((aN bH r_2 at_).getD 0)∧((aN bH r_2 at_).getD 0)<(out.length:Int))∧((((at' out (((aN bH r_2 at_).getD 0).toNat)).buses).length+[t32].length)*8≤140737488355328)∧(((at' out (((aN bH r_2 at_).getD 0).toNat)).buses).length+[t32].length≤4611686018427387904)) (
 some (.next ((out.set (((aN bH r_2 at_).getD 0).toNat) (⟨(((at' out (((aN bH r_2 at_).getD 0).toNat)).buses)++[t32]),(at' out (((aN bH r_2 at_).getD 0).toNat)).sources⟩:ah)),at_,(IntKind.wrap .i64 (t32+1))))))
 else
 some (.done (.brk (out,at_)))
def rT (p:au) (s_:State) (r_1:aA) (at_1:(List (Int × Int))):((List ah) × Int)→Option (bT ((List ah) × Int) (Ex (List ah) (List ah))):=
 fun zz=>match zz with
 |(out2,t78)=>
 bif (decide (t78<(p.sources.length:Int)))then
 dI ((0:Int)≤t78∧t78<(p.sources.length:Int)) (
 dI (((0:Int)≤t78∧t78<(s_.on_.length:Int))∧(gB [((at' s_.on_ t78.toNat),true)]=true→(0:Int)≤t78∧t78<(s_.badSource.length:Int))∧(gB [((bif (at' s_.on_ t78.toNat)then(!(at' s_.badSource t78.toNat))else false),true)]=true→(0:Int)≤(at' p.sources t78.toNat).bus∧(at' p.sources t78.toNat).bus<(s_.badBus.length:Int))) (
 bif (bif (bif (at' s_.on_ t78.toNat)then(!(at' s_.badSource t78.toNat))else false)then(!(at' s_.badBus (((at' p.sources t78.toNat).bus).toNat)))else false)then
 (bL r_1 ((at' p.sources t78.toNat).bus)).bind fun r_3=>
 dI (((0:Int)≤((aN bH r_3 at_1).getD 0)∧((aN bH r_3 at_1).getD 0)<(out2.length:Int))∧((((at' out2 (((aN bH r_3 at_1).getD 0).toNat)).sources).length+[t78].length)*8≤140737488355328)∧(((at' out2 (((aN bH r_3 at_1).getD 0).toNat)).sources).length+[t78].length≤4611686018427387904)) (
 some (.next ((out2.set (((aN bH r_3 at_1).getD 0).toNat) (⟨(at' out2 (((aN bH r_3 at_1).getD 0).toNat)).buses,(((at' out2 (((aN bH r_3 at_1).getD 0).toNat)).sources)++[t78])⟩:ah)),(IntKind.wrap .i64 (t78+1)))))
 else
 some (.next (out2,(IntKind.wrap .i64 (t78+1))))))
 else
 some (.done (.brk out2))
def gy (p:au) (s_:State):Option (List ah):=
 (lM p s_).bind fun r_=>
 (kK r_.1 r_.2.1 r_.2.2.1 r_.2.2.2.1 r_.2.2.2.2.1 r_.2.2.2.2.2.1 r_.2.2.2.2.2.2.1 r_.2.2.2.2.2.2.2.1 r_.2.2.2.2.2.2.2.2.1 r_.2.2.2.2.2.2.2.2.2.1 r_.2.2.2.2.2.2.2.2.2.2 (⟨([]:(List (Int × Int)))⟩:aA)).bind fun r_1=>
 Option.bind (aI (sH p s_ r_1) FUEL (([]:List ah),([]:(List (Int × Int))),0)) fun o=>match o with
 | .ret v=>some v
 | .brk (out1,at_1)=>
 Option.bind (aI (rT p s_ r_1 at_1) FUEL (out1,0)) fun o=>match o with
 | .ret v=>some v
 | .brk out3=>
 some out3
def oM (p:au) (s_:State):Option ((List ah) × Int):=
 (bA p s_).bind fun r_=>
 bif (!decide (r_=0))then
 some (([]:List ah),r_)
 else
 (gy p s_).bind fun r_1=>
 some (r_1,0)
def uQ (a:(List Int)) (b:(List Int)):Int→Option (bT Int (Ex Unit Bool)):=
 fun i=>
 bif (decide (i<(a.length:Int)))then
 dI (((0:Int)≤i∧i<(a.length:Int))∧((0:Int)≤i∧i<(b.length:Int))) (
 bif (!decide ((at' a i.toNat)=(at' b i.toNat)))then
 some (.done (.ret false))
 else
 some (.next (IntKind.wrap .i64 (i+1))))
 else
 some (.done (.brk ()))
def l9 (a:(List Int)) (b:(List Int)):Option Bool:=
 bif (!decide ((a.length:Int)=(b.length:Int)))then
 some false
 else
 Option.bind (aI (uQ a b) FUEL (0)) fun o=>match o with
 | .ret v=>some v
 | .brk _=>
 some true
def ol (a:(List ah)) (b:(List ah)):Int→Option (bT Int (Ex Unit Bool)):=
 fun i=>
 bif (decide (i<(a.length:Int)))then
 (l9 ((at' a i.toNat).buses) ((at' b i.toNat).buses)).bind fun r_=>
 (bif gB [((!r_),false)]then l9 ((at' a i.toNat).sources) ((at' b i.toNat).sources)else some default).bind fun r_1=>
 dI (((0:Int)≤i∧i<(a.length:Int))∧((0:Int)≤i∧i<(b.length:Int))∧(gB [((!r_),false)]=true→(0:Int)≤i∧i<(a.length:Int))∧(gB [((!r_),false)]=true→(0:Int)≤i∧i<(b.length:Int))) (
 bif (bif (!r_)then true else(!r_1))then
 some (.done (.ret false))
 else
 some (.next (IntKind.wrap .i64 (i+1))))
 else
 some (.done (.brk ()))
def iR (a:(List ah)) (b:(List ah)):Option Bool:=
 bif (!decide ((a.length:Int)=(b.length:Int)))then
 some false
 else
 Option.bind (aI (ol a b) FUEL (0)) fun o=>match o with
 | .ret v=>some v
 | .brk _=>
 some true
def wU (r_1:(List ah)) (t25:Int):((List Bool) × Int)→Option (bT ((List Bool) × Int) (Ex (List Bool) (bT ((List Bool) × Int) (Ex (List Bool) ((List Bool) × Int))))):=
 fun zz=>match zz with
 |(out2,t32)=>
 bif (decide (t32<(((at' r_1 t25.toNat).buses).length:Int)))then
 dI ((0:Int)≤t32∧t32<(((at' r_1 t25.toNat).buses).length:Int)) (
 dI ((0:Int)≤(at' ((at' r_1 t25.toNat).buses) t32.toNat)∧(at' ((at' r_1 t25.toNat).buses) t32.toNat)<(out2.length:Int)) (
 some (.next ((out2.set ((at' ((at' r_1 t25.toNat).buses) t32.toNat).toNat) (decide (0<(((at' r_1 t25.toNat).sources).length:Int)))),(IntKind.wrap .i64 (t32+1))))))
 else
 some (.done (.brk out2))
def wZ (r_1:(List ah)):((List Bool) × Int)→Option (bT ((List Bool) × Int) (Ex (List Bool) ((List Bool) × Int))):=
 fun zz=>match zz with
 |(out,t25)=>
 bif (decide (t25<(r_1.length:Int)))then
 dI ((0:Int)≤t25∧t25<(r_1.length:Int)) (
 Option.bind (aI (wU r_1 t25) FUEL (out,0)) fun o=>match o with
 | .ret v=>some v
 | .brk out3=>
 some (.next (out3,(IntKind.wrap .i64 (t25+1)))))
 else
 some (.done (.brk out))
def uo (p:au) (s_:State):Option ((List Bool) × Int):=
 (bA p s_).bind fun r_=>
 bif (!decide (r_=0))then
 some (([]:List Bool),r_)
 else
 dI (((0:Int)≤p.buses)∧((1:Int)*p.buses≤281474976710656)∧((p.buses:Int)≤9223372036854775807)) (
 (gy p s_).bind fun r_1=>
 Option.bind (aI (wZ r_1) FUEL ((List.replicate p.buses.toNat (false:Bool)),0)) fun o=>match o with
 | .ret v=>some v
 | .brk out1=>
 some (out1,0))
def yX (p:au) (r_:((List Bool) × Int)):((List aH) × Int)→Option (bT ((List aH) × Int) (Ex (List aH) ((List aH) × Int))):=
 fun zz=>match zz with
 |(out,t26)=>
 bif (decide (t26<(p.racks.length:Int)))then
 dI ((0:Int)≤t26∧t26<(p.racks.length:Int)) (
 dI (gB [((decide (0≤(((at' p.racks t26.toNat).feeds).e0))),true)]=true→(0:Int)≤((at' p.racks t26.toNat).feeds).e0∧((at' p.racks t26.toNat).feeds).e0<(r_.1.length:Int)) (
 dI (gB [((decide (0≤(((at' p.racks t26.toNat).feeds).e1))),true)]=true→(0:Int)≤((at' p.racks t26.toNat).feeds).e1∧((at' p.racks t26.toNat).feeds).e1<(r_.1.length:Int)) (
 dI (((out.length+[(⟨(bif (decide (0≤(((at' p.racks t26.toNat).feeds).e0)))then(at' r_.1 ((((at' p.racks t26.toNat).feeds).e0).toNat))else false),(bif (decide (0≤(((at' p.racks t26.toNat).feeds).e1)))then(at' r_.1 ((((at' p.racks t26.toNat).feeds).e1).toNat))else false)⟩:aH)].length)*2≤140737488355328)∧(out.length+[(⟨(bif (decide (0≤(((at' p.racks t26.toNat).feeds).e0)))then(at' r_.1 ((((at' p.racks t26.toNat).feeds).e0).toNat))else false),(bif (decide (0≤(((at' p.racks t26.toNat).feeds).e1)))then(at' r_.1 ((((at' p.racks t26.toNat).feeds).e1).toNat))else false)⟩:aH)].length≤4611686018427387904)) (
 some (.next ((out++[(⟨(bif (decide (0≤(((at' p.racks t26.toNat).feeds).e0)))then(at' r_.1 ((((at' p.racks t26.toNat).feeds).e0).toNat))else false),(bif (decide (0≤(((at' p.racks t26.toNat).feeds).e1)))then(at' r_.1 ((((at' p.racks t26.toNat).feeds).e1).toNat))else false)⟩:aH)]),(IntKind.wrap .i64 (t26+1))))))))
 else
 some (.done (.brk out))
def wm (p:au) (s_:State):Option ((List aH) × Int):=
 (uo p s_).bind fun r_=>
 bif (!decide (r_.2=0))then
 some (([]:List aH),r_.2)
 else
 Option.bind (aI (yX p r_) FUEL (([]:List aH),0)) fun o=>match o with
 | .ret v=>some v
 | .brk out1=>
 some (out1,0)
def bU (x y:aj):Int:=if x.e0<y.e0 then -1 else if y.e0<x.e0 then 1 else if x.e1<y.e1 then -1 else if y.e1<x.e1 then 1 else 0
def mI (s:(List aj)):Option (List aj):=match s with
 |[]=>some []
 |x::xs=>bif decide ((x::xs).length<4611686018427387904)then some ((x::xs).mergeSort fun x y=> !decide (bU y x<0))else none
def si (p:au) (r_1:(List ah)) (t24:Int) (t31:Int):((List aj) × Int)→Option (bT ((List aj) × Int) (Ex (List aj) (bT ((List aj) × Int) (Ex (List aj) (bT ((List aj) × Int) (Ex (List aj) ((List aj) × Int))))))):=
 fun zz=>match zz with
 |(out4,t42)=>
 bif (decide (t42<(((((at' r_1 t24.toNat).sources).length - ((IntKind.wrap .i64 (t31+1)).toNat)):Nat):Int)))then
 dI ((0:Int)≤t42∧t42<((((at' r_1 t24.toNat).sources).drop ((IntKind.wrap .i64 (t31+1)).toNat)).length:Int)) (
 dI (((0:Int)≤(at' ((at' r_1 t24.toNat).sources) t31.toNat)∧(at' ((at' r_1 t24.toNat).sources) t31.toNat)<(p.sources.length:Int))∧(gB [((decide (((at' p.sources ((at' ((at' r_1 t24.toNat).sources) t31.toNat).toNat)).sync)=0)),false)]=true→(0:Int)≤(at' ((at' r_1 t24.toNat).sources) t31.toNat)∧(at' ((at' r_1 t24.toNat).sources) t31.toNat)<(p.sources.length:Int))∧(gB [((decide (((at' p.sources ((at' ((at' r_1 t24.toNat).sources) t31.toNat).toNat)).sync)=0)),false)]=true→(0:Int)≤(at' (((at' r_1 t24.toNat).sources).drop ((IntKind.wrap .i64 (t31+1)).toNat)) t42.toNat)∧(at' (((at' r_1 t24.toNat).sources).drop ((IntKind.wrap .i64 (t31+1)).toNat)) t42.toNat)<(p.sources.length:Int))) (
 bif (bif (decide (((at' p.sources ((at' ((at' r_1 t24.toNat).sources) t31.toNat).toNat)).sync)=0))then true else(!decide (((at' p.sources ((at' ((at' r_1 t24.toNat).sources) t31.toNat).toNat)).sync)=((at' p.sources ((at' (((at' r_1 t24.toNat).sources).drop ((IntKind.wrap .i64 (t31+1)).toNat)) t42.toNat).toNat)).sync))))then
 dI (((out4.length+[(⟨(at' ((at' r_1 t24.toNat).sources) t31.toNat),(at' (((at' r_1 t24.toNat).sources).drop ((IntKind.wrap .i64 (t31+1)).toNat)) t42.toNat)⟩:aj)].length)*16≤140737488355328)∧(out4.length+[(⟨(at' ((at' r_1 t24.toNat).sources) t31.toNat),(at' (((at' r_1 t24.toNat).sources).drop ((IntKind.wrap .i64 (t31+1)).toNat)) t42.toNat)⟩:aj)].length≤4611686018427387904)) (
 some (.next ((out4++[(⟨(at' ((at' r_1 t24.toNat).sources) t31.toNat),(at' (((at' r_1 t24.toNat).sources).drop ((IntKind.wrap .i64 (t31+1)).toNat)) t42.toNat)⟩:aj)]),(IntKind.wrap .i64 (t42+1)))))
 else
 some (.next (out4,(IntKind.wrap .i64 (t42+1))))))
 else
 some (.done (.brk out4))
def rE (p:au) (r_1:(List ah)) (t24:Int):((List aj) × Int)→Option (bT ((List aj) × Int) (Ex (List aj) (bT ((List aj) × Int) (Ex (List aj) ((List aj) × Int))))):=
 fun zz=>match zz with
 |(out2,t31)=>
 bif (decide (t31<(((at' r_1 t24.toNat).sources).length:Int)))then
 dI ((0:Int)≤t31∧t31<(((at' r_1 t24.toNat).sources).length:Int)) (
 dI ((0:Int)≤(IntKind.wrap .i64 (t31+1))∧(IntKind.wrap .i64 (t31+1))≤(((at' r_1 t24.toNat).sources).length:Int)) (
 Option.bind (aI (si p r_1 t24 t31) FUEL (out2,0)) fun o=>match o with
 | .ret v=>some v
 | .brk out5=>
 some (.next (out5,(IntKind.wrap .i64 (t31+1))))))
 else
 some (.done (.brk out2))
def sS (p:au) (r_1:(List ah)):((List aj) × Int)→Option (bT ((List aj) × Int) (Ex (List aj) ((List aj) × Int))):=
 fun zz=>match zz with
 |(out,t24)=>
 bif (decide (t24<(r_1.length:Int)))then
 dI ((0:Int)≤t24∧t24<(r_1.length:Int)) (
 Option.bind (aI (rE p r_1 t24) FUEL (out,0)) fun o=>match o with
 | .ret v=>some v
 | .brk out3=>
 some (.next (out3,(IntKind.wrap .i64 (t24+1)))))
 else
 some (.done (.brk out))
def oP (p:au) (s_:State):Option ((List aj) × Int):=
 (bA p s_).bind fun r_=>
 bif (!decide (r_=0))then
 some (([]:List aj),r_)
 else
 (gy p s_).bind fun r_1=>
 Option.bind (aI (sS p r_1) FUEL (([]:List aj),0)) fun o=>match o with
 | .ret v=>some v
 | .brk out1=>
 (mI out1).bind fun r_2=>
 dI (out1.length=r_2.length) (
 some (r_2,0))
def pR (a:(List aj)) (b:(List aj)):Int→Option (bT Int (Ex Unit Bool)):=
 fun i=>
 bif (decide (i<(a.length:Int)))then
 dI (((0:Int)≤i∧i<(a.length:Int))∧((0:Int)≤i∧i<(b.length:Int))) (
 bif (!((decide (((at' a i.toNat).e0)=((at' b i.toNat).e0))) && ((decide (((at' a i.toNat).e1)=((at' b i.toNat).e1))) && true)))then
 some (.done (.ret false))
 else
 some (.next (IntKind.wrap .i64 (i+1))))
 else
 some (.done (.brk ()))
def mD (a:(List aj)) (b:(List aj)):Option Bool:=
 bif (!decide ((a.length:Int)=(b.length:Int)))then
 some false
 else
 Option.bind (aI (pR a b) FUEL (0)) fun o=>match o with
 | .ret v=>some v
 | .brk _=>
 some true
def aY (n:Int):Option (List Bool):=
 dI (((0:Int)≤n)∧((1:Int)*n≤281474976710656)∧((n:Int)≤9223372036854775807)) (
 some (List.replicate n.toNat (false:Bool)))
def dZ (p:au):((List Bool) × Int)→Option (bT ((List Bool) × Int) (Ex (List Bool) (State × Int))):=
 fun zz=>match zz with
 |(s0,t50)=>
 bif (decide (t50<(p.links.length:Int)))then
 dI ((0:Int)≤t50∧t50<(p.links.length:Int)) (
 dI ((0:Int)≤t50∧t50<(s0.length:Int)) (
 some (.next ((s0.set t50.toNat (decide (((at' p.links t50.toNat).kind)=1))),(IntKind.wrap .i64 (t50+1))))))
 else
 some (.done (.brk s0))
def eP (p:au):Option (State × Int):=
 (dO p).bind fun r_=>
 bif (!decide (r_=0))then
 some ((⟨([]:List Bool),([]:List Bool),([]:List Bool),([]:List Bool),([]:List Bool),([]:List Bool),([]:List Bool)⟩:State),r_)
 else
 (aY (p.links.length:Int)).bind fun r_1=>
 (aY (p.links.length:Int)).bind fun r_2=>
 (aY (p.links.length:Int)).bind fun r_3=>
 (aY (p.sources.length:Int)).bind fun r_4=>
 (aY (p.sources.length:Int)).bind fun r_5=>
 (aY p.buses).bind fun r_6=>
 (aY p.buses).bind fun r_7=>
 Option.bind (aI (dZ p) FUEL (r_1,0)) fun o=>match o with
 | .ret v=>some v
 | .brk s01=>
 some ((⟨s01,r_2,r_3,r_4,r_5,r_6,r_7⟩:State),0)
def lK (s_:(List Bool)) (s_nn:Bool):Option (List Bool):=
 bif (!s_nn)then
 some ([]:List Bool)
 else
 dI (((([]:List Bool).length+s_.length)*1≤140737488355328)∧(([]:List Bool).length+s_.length≤4611686018427387904)) (
 some (([]:List Bool)++s_))
def bG (s:(List Bool)):Option (List Bool):=lK s true
def jU (s_:State):Option State:=
 dI ((0:Int)≤0∧0<(7:Int)) (
 (bG s_.closed).bind fun r_=>
 dI ((0:Int)≤1∧1<(7:Int)) (
 (bG s_.locked).bind fun r_1=>
 dI ((0:Int)≤2∧2<(7:Int)) (
 (bG s_.badLink).bind fun r_2=>
 dI ((0:Int)≤3∧3<(7:Int)) (
 (bG s_.on_).bind fun r_3=>
 dI ((0:Int)≤4∧4<(7:Int)) (
 (bG s_.badSource).bind fun r_4=>
 dI ((0:Int)≤5∧5<(7:Int)) (
 (bG s_.earthed).bind fun r_5=>
 dI ((0:Int)≤6∧6<(7:Int)) (
 (bG s_.badBus).bind fun r_6=>
 some (⟨r_,r_1,r_2,r_3,r_4,r_5,r_6⟩:State))))))))
def cB (p:au) (s_:State) (x:Part) (is:Bool):Option (State × Int):=
 (bA p s_).bind fun r_=>
 bif (!decide (r_=0))then
 some ((⟨([]:List Bool),([]:List Bool),([]:List Bool),([]:List Bool),([]:List Bool),([]:List Bool),([]:List Bool)⟩:State),r_)
 else
 (jU s_).bind fun r_1=>
 bif (bH x.kind 1)then
 (aF x.index 0 (IntKind.wrap .i64 ((r_1.badBus.length:Int) - 1))).bind fun r_2=>
 bif (!r_2)then
 some ((⟨([]:List Bool),([]:List Bool),([]:List Bool),([]:List Bool),([]:List Bool),([]:List Bool),([]:List Bool)⟩:State),14)
 else
 dI ((0:Int)≤x.index∧x.index<(r_1.badBus.length:Int)) (
 some ((⟨r_1.closed,r_1.locked,r_1.badLink,r_1.on_,r_1.badSource,r_1.earthed,(r_1.badBus.set x.index.toNat is)⟩:State),0))
 else
 bif (bH x.kind 2)then
 (aF x.index 0 (IntKind.wrap .i64 ((r_1.badSource.length:Int) - 1))).bind fun r_3=>
 bif (!r_3)then
 some ((⟨([]:List Bool),([]:List Bool),([]:List Bool),([]:List Bool),([]:List Bool),([]:List Bool),([]:List Bool)⟩:State),14)
 else
 dI ((0:Int)≤x.index∧x.index<(r_1.badSource.length:Int)) (
 some ((⟨r_1.closed,r_1.locked,r_1.badLink,r_1.on_,(r_1.badSource.set x.index.toNat is),r_1.earthed,r_1.badBus⟩:State),0))
 else
 bif (bH x.kind 3)then
 (aF x.index 0 (IntKind.wrap .i64 ((r_1.badLink.length:Int) - 1))).bind fun r_4=>
 bif (!r_4)then
 some ((⟨([]:List Bool),([]:List Bool),([]:List Bool),([]:List Bool),([]:List Bool),([]:List Bool),([]:List Bool)⟩:State),14)
 else
 dI ((0:Int)≤x.index∧x.index<(r_1.badLink.length:Int)) (
 some ((⟨r_1.closed,r_1.locked,(r_1.badLink.set x.index.toNat is),r_1.on_,r_1.badSource,r_1.earthed,r_1.badBus⟩:State),0))
 else
 (aF x.index 0 (-1)).bind fun r_5=>
 bif (!r_5)then
 some ((⟨([]:List Bool),([]:List Bool),([]:List Bool),([]:List Bool),([]:List Bool),([]:List Bool),([]:List Bool)⟩:State),14)
 else
 none
def iU (p:au) (s_:State) (x:Part):Option (State × Int):=
 (cB p s_ x true).bind fun r_=>
 some (r_.1,r_.2)
def oN:Option au:=
 some (⟨3,[(⟨0,1,500,0,20⟩:Source),(⟨2,2,300,0,40⟩:Source)],[(⟨0,1,3,400,10,[(⟨1000,400⟩:dG),(⟨5000,50⟩:dG)]⟩:Link),(⟨1,2,3,400,10,([]:List dG)⟩:Link)],[(⟨(⟨1,(-1)⟩:aj),100,1⟩:aL)]⟩:au)
def Ow:DV→Int
 | .int _ n=>n
 |_=>0
def fmtS (p:au) (i j:Nat):Int:=Ow (Source.cell (at' p.sources i) j)
def L9 (p:au) (i j:Nat):Int:=Ow (Link.cell (at' p.links i) j)
def LD (p:au) (i:Nat):Nat:=(at' p.links i).trip.length
def LF (p:au) (i j:Nat):Int:=Ow (aL.cell (at' p.racks i) j)
def LA (p:au) (i g j:Nat):Int:=Ow (dG.cell (at' (at' p.links i).trip g) j)
def Np (p:au):List UInt8:=IZ p.buses p.sources.length p.links.length p.racks.length (fmtS p) (L9 p) (LF p) (LD p) (LA p)
def l7 (p:au):Option (ByteArray × Int):=
 (dO p).bind fun c=>bif decide (c=0)then(bif fmtG p.buses p.sources.length p.links.length p.racks.length (fmtS p) (L9 p) (LF p) (LD p) (LA p)then some (sb (Np p),0)else none)else none
def j4 (p:au) (s_:State):Option (Int × (List Source) × (List Link) × (List aL) × State):=
 some (p.buses,p.sources,p.links,p.racks,s_)
def lW (x12:(List Link)) (state:State):((List (Int × Int)) × Int)→Option (bT ((List (Int × Int)) × Int) (Ex (List (Int × Int)) aA)):=
 fun zz=>match zz with
 |(o50,t9)=>
 bif (decide (t9<(x12.length:Int)))then
 dI ((0:Int)≤t9∧t9<(x12.length:Int)) (
 bif (bif (bif (bif (at' state.closed t9.toNat)then(!(at' state.badLink t9.toNat))else false)then(!(at' state.badBus (((at' x12 t9.toNat).a).toNat)))else false)then(!(at' state.badBus (((at' x12 t9.toNat).b).toNat)))else false)then
 (iD ((at' x12 t9.toNat).a) ((at' x12 t9.toNat).b) ((at' x12 t9.toNat).kind) ((at' x12 t9.toNat).most) ((at' x12 t9.toNat).ohm) ((at' x12 t9.toNat).trip) (⟨o50⟩:aA)).bind fun r_=>
 dI (((0:Int)≤t9∧t9<(state.closed.length:Int))∧(gB [((at' state.closed t9.toNat),true)]=true→(0:Int)≤t9∧t9<(state.badLink.length:Int))∧(gB [((bif (at' state.closed t9.toNat)then(!(at' state.badLink t9.toNat))else false),true)]=true→(0:Int)≤(at' x12 t9.toNat).a∧(at' x12 t9.toNat).a<(state.badBus.length:Int))∧(gB [((bif (bif (at' state.closed t9.toNat)then(!(at' state.badLink t9.toNat))else false)then(!(at' state.badBus (((at' x12 t9.toNat).a).toNat)))else false),true)]=true→(0:Int)≤(at' x12 t9.toNat).b∧(at' x12 t9.toNat).b<(state.badBus.length:Int))) (
 some (.next (r_.head,(IntKind.wrap .i64 (t9+1)))))
 else
 dI (((0:Int)≤t9∧t9<(state.closed.length:Int))∧(gB [((at' state.closed t9.toNat),true)]=true→(0:Int)≤t9∧t9<(state.badLink.length:Int))∧(gB [((bif (at' state.closed t9.toNat)then(!(at' state.badLink t9.toNat))else false),true)]=true→(0:Int)≤(at' x12 t9.toNat).a∧(at' x12 t9.toNat).a<(state.badBus.length:Int))∧(gB [((bif (bif (at' state.closed t9.toNat)then(!(at' state.badLink t9.toNat))else false)then(!(at' state.badBus (((at' x12 t9.toNat).a).toNat)))else false),true)]=true→(0:Int)≤(at' x12 t9.toNat).b∧(at' x12 t9.toNat).b<(state.badBus.length:Int))) (
 some (.next (o50,(IntKind.wrap .i64 (t9+1))))))
 else
 some (.done (.brk o50))
def jr (x1:Int) (x11:(List Source)) (x12:(List Link)) (x13:(List aL)) (state:State) (o_:aA):Option aA:=
 Option.bind (aI (lW x12 state) FUEL (o_.head,0)) fun o=>match o with
 | .ret v=>some v
 | .brk o501=>
 some (⟨o501⟩:aA)
def pF (p:au) (s_:State) (r_1:aA):((List ah) × (List (Int × Int)) × Int)→Option (bT ((List ah) × (List (Int × Int)) × Int) (Ex ((List ah) × (List (Int × Int))) (List ah))):=
 fun zz=>match zz with
 |(out,at_,t32)=>
 bif (decide (t32<p.buses))then
 dI ((0:Int)≤t32∧t32<(s_.badBus.length:Int)) (
 bif (at' s_.badBus t32.toNat)then
 some (.next (out,at_,(IntKind.wrap .i64 (t32+1))))
 else
 (bL r_1 t32).bind fun r_2=>
 bif (!((aN bH r_2 at_).isSome))then
 dI (((out.length+[(⟨([]:List Int),([]:List Int)⟩:ah)].length)*48≤140737488355328)∧(out.length+[(⟨([]:List Int),([]:List Int)⟩:ah)].length≤4611686018427387904)) (
 dI (((0:Int)≤((aN bH r_2 (fo bH r_2 (out.length:Int) at_)).getD 0)∧((aN bH r_2 (fo bH r_2 (out.length:Int) at_)).getD 0)<((out++[(⟨([]:List Int),([]:List Int)⟩:ah)]).length:Int))∧((((at' (out++[(⟨([]:List Int),([]:List Int)⟩:ah)]) (((aN bH r_2 (fo bH r_2 (out.length:Int) at_)).getD 0).toNat)).buses).length+[t32].length)*8≤140737488355328)∧(((at' (out++[(⟨([]:List Int),([]:List Int)⟩:ah)]) (((aN bH r_2 (fo bH r_2 (out.length:Int) at_)).getD 0).toNat)).buses).length+[t32].length≤4611686018427387904)) (
 some (.next (((out++[(⟨([]:List Int),([]:List Int)⟩:ah)]).set (((aN bH r_2 (fo bH r_2 (out.length:Int) at_)).getD 0).toNat) (⟨(((at' (out++[(⟨([]:List Int),([]:List Int)⟩:ah)]) (((aN bH r_2 (fo bH r_2 (out.length:Int) at_)).getD 0).toNat)).buses)++[t32]),(at' (out++[(⟨([]:List Int),([]:List Int)⟩:ah)]) (((aN bH r_2 (fo bH r_2 (out.length:Int) at_)).getD 0).toNat)).sources⟩:ah)),(fo bH r_2 (out.length:Int) at_),(IntKind.wrap .i64 (t32+1))))))
 else
 dI (((0:Int)≤((aN bH r_2 at_).getD 0)∧((aN bH r_2 at_).getD 0)<(out.length:Int))∧((((at' out (((aN bH r_2 at_).getD 0).toNat)).buses).length+[t32].length)*8≤140737488355328)∧(((at' out (((aN bH r_2 at_).getD 0).toNat)).buses).length+[t32].length≤4611686018427387904)) (
 some (.next ((out.set (((aN bH r_2 at_).getD 0).toNat) (⟨(((at' out (((aN bH r_2 at_).getD 0).toNat)).buses)++[t32]),(at' out (((aN bH r_2 at_).getD 0).toNat)).sources⟩:ah)),at_,(IntKind.wrap .i64 (t32+1))))))
 else
 some (.done (.brk (out,at_)))
def pI (p:au) (s_:State) (r_1:aA) (at_1:(List (Int × Int))):((List ah) × Int)→Option (bT ((List ah) × Int) (Ex (List ah) (List ah))):=
 fun zz=>match zz with
 |(out2,t78)=>
 bif (decide (t78<(p.sources.length:Int)))then
 dI ((0:Int)≤t78∧t78<(p.sources.length:Int)) (
 dI (((0:Int)≤t78∧t78<(s_.on_.length:Int))∧(gB [((at' s_.on_ t78.toNat),true)]=true→(0:Int)≤t78∧t78<(s_.badSource.length:Int))∧(gB [((bif (at' s_.on_ t78.toNat)then(!(at' s_.badSource t78.toNat))else false),true)]=true→(0:Int)≤(at' p.sources t78.toNat).bus∧(at' p.sources t78.toNat).bus<(s_.badBus.length:Int))) (
 bif (bif (bif (at' s_.on_ t78.toNat)then(!(at' s_.badSource t78.toNat))else false)then(!(at' s_.badBus (((at' p.sources t78.toNat).bus).toNat)))else false)then
 (bL r_1 ((at' p.sources t78.toNat).bus)).bind fun r_3=>
 dI (((0:Int)≤((aN bH r_3 at_1).getD 0)∧((aN bH r_3 at_1).getD 0)<(out2.length:Int))∧((((at' out2 (((aN bH r_3 at_1).getD 0).toNat)).sources).length+[t78].length)*8≤140737488355328)∧(((at' out2 (((aN bH r_3 at_1).getD 0).toNat)).sources).length+[t78].length≤4611686018427387904)) (
 some (.next ((out2.set (((aN bH r_3 at_1).getD 0).toNat) (⟨(at' out2 (((aN bH r_3 at_1).getD 0).toNat)).buses,(((at' out2 (((aN bH r_3 at_1).getD 0).toNat)).sources)++[t78])⟩:ah)),(IntKind.wrap .i64 (t78+1)))))
 else
 some (.next (out2,(IntKind.wrap .i64 (t78+1))))))
 else
 some (.done (.brk out2))
def fZ (p:au) (s_:State):Option (List ah):=
 (j4 p s_).bind fun r_=>
 (jr r_.1 r_.2.1 r_.2.2.1 r_.2.2.2.1 s_ (⟨([]:(List (Int × Int)))⟩:aA)).bind fun r_1=>
 Option.bind (aI (pF p s_ r_1) FUEL (([]:List ah),([]:(List (Int × Int))),0)) fun o=>match o with
 | .ret v=>some v
 | .brk (out1,at_1)=>
 Option.bind (aI (pI p s_ r_1 at_1) FUEL (out1,0)) fun o=>match o with
 | .ret v=>some v
 | .brk out3=>
 some out3
def lJ (p:au) (s_:State):Option ((List ah) × Int):=
 (bA p s_).bind fun r_=>
 bif (!decide (r_=0))then
 some (([]:List ah),r_)
 else
 (fZ p s_).bind fun r_1=>
 some (r_1,0)
def rP (r_1:(List ah)) (t25:Int):((List Bool) × Int)→Option (bT ((List Bool) × Int) (Ex (List Bool) (bT ((List Bool) × Int) (Ex (List Bool) ((List Bool) × Int))))):=
 fun zz=>match zz with
 |(out2,t32)=>
 bif (decide (t32<(((at' r_1 t25.toNat).buses).length:Int)))then
 dI ((0:Int)≤t32∧t32<(((at' r_1 t25.toNat).buses).length:Int)) (
 dI ((0:Int)≤(at' ((at' r_1 t25.toNat).buses) t32.toNat)∧(at' ((at' r_1 t25.toNat).buses) t32.toNat)<(out2.length:Int)) (
 some (.next ((out2.set ((at' ((at' r_1 t25.toNat).buses) t32.toNat).toNat) (decide (0<(((at' r_1 t25.toNat).sources).length:Int)))),(IntKind.wrap .i64 (t32+1))))))
 else
 some (.done (.brk out2))
def rX (r_1:(List ah)):((List Bool) × Int)→Option (bT ((List Bool) × Int) (Ex (List Bool) ((List Bool) × Int))):=
 fun zz=>match zz with
 |(out,t25)=>
 bif (decide (t25<(r_1.length:Int)))then
 dI ((0:Int)≤t25∧t25<(r_1.length:Int)) (
 Option.bind (aI (rP r_1 t25) FUEL (out,0)) fun o=>match o with
 | .ret v=>some v
 | .brk out3=>
 some (.next (out3,(IntKind.wrap .i64 (t25+1)))))
 else
 some (.done (.brk out))
def oZ (p:au) (s_:State):Option ((List Bool) × Int):=
 (bA p s_).bind fun r_=>
 bif (!decide (r_=0))then
 some (([]:List Bool),r_)
 else
 dI (((0:Int)≤p.buses)∧((1:Int)*p.buses≤281474976710656)∧((p.buses:Int)≤9223372036854775807)) (
 (fZ p s_).bind fun r_1=>
 Option.bind (aI (rX r_1) FUEL ((List.replicate p.buses.toNat (false:Bool)),0)) fun o=>match o with
 | .ret v=>some v
 | .brk out1=>
 some (out1,0))
def tK (p:au) (r_:((List Bool) × Int)):((List aH) × Int)→Option (bT ((List aH) × Int) (Ex (List aH) ((List aH) × Int))):=
 fun zz=>match zz with
 |(out,t26)=>
 bif (decide (t26<(p.racks.length:Int)))then
 dI ((0:Int)≤t26∧t26<(p.racks.length:Int)) (
 dI (gB [((decide (0≤(((at' p.racks t26.toNat).feeds).e0))),true)]=true→(0:Int)≤((at' p.racks t26.toNat).feeds).e0∧((at' p.racks t26.toNat).feeds).e0<(r_.1.length:Int)) (
 dI (gB [((decide (0≤(((at' p.racks t26.toNat).feeds).e1))),true)]=true→(0:Int)≤((at' p.racks t26.toNat).feeds).e1∧((at' p.racks t26.toNat).feeds).e1<(r_.1.length:Int)) (
 dI (((out.length+[(⟨(bif (decide (0≤(((at' p.racks t26.toNat).feeds).e0)))then(at' r_.1 ((((at' p.racks t26.toNat).feeds).e0).toNat))else false),(bif (decide (0≤(((at' p.racks t26.toNat).feeds).e1)))then(at' r_.1 ((((at' p.racks t26.toNat).feeds).e1).toNat))else false)⟩:aH)].length)*2≤140737488355328)∧(out.length+[(⟨(bif (decide (0≤(((at' p.racks t26.toNat).feeds).e0)))then(at' r_.1 ((((at' p.racks t26.toNat).feeds).e0).toNat))else false),(bif (decide (0≤(((at' p.racks t26.toNat).feeds).e1)))then(at' r_.1 ((((at' p.racks t26.toNat).feeds).e1).toNat))else false)⟩:aH)].length≤4611686018427387904)) (
 some (.next ((out++[(⟨(bif (decide (0≤(((at' p.racks t26.toNat).feeds).e0)))then(at' r_.1 ((((at' p.racks t26.toNat).feeds).e0).toNat))else false),(bif (decide (0≤(((at' p.racks t26.toNat).feeds).e1)))then(at' r_.1 ((((at' p.racks t26.toNat).feeds).e1).toNat))else false)⟩:aH)]),(IntKind.wrap .i64 (t26+1))))))))
 else
 some (.done (.brk out))
def qp (p:au) (s_:State):Option ((List aH) × Int):=
 (oZ p s_).bind fun r_=>
 bif (!decide (r_.2=0))then
 some (([]:List aH),r_.2)
 else
 Option.bind (aI (tK p r_) FUEL (([]:List aH),0)) fun o=>match o with
 | .ret v=>some v
 | .brk out1=>
 some (out1,0)
def kC:Option Bool:=
 (oN).bind fun r_=>
 (eP r_).bind fun r_1=>
 bif (bif (bif (bif (!decide (r_1.2=0))then true else(!decide ((r_1.1.on_.length:Int)=2)))then true else(!decide ((r_1.1.closed.length:Int)=2)))then true else(!decide ((r_1.1.badBus.length:Int)=3)))then
 some false
 else
 (lJ r_ (⟨[true,false],r_1.1.locked,r_1.1.badLink,[true,true],r_1.1.badSource,r_1.1.earthed,r_1.1.badBus⟩:State)).bind fun r_2=>
 (qp r_ (⟨[true,false],r_1.1.locked,r_1.1.badLink,[true,true],r_1.1.badSource,r_1.1.earthed,r_1.1.badBus⟩:State)).bind fun r_3=>
 bif (bif (bif (bif (!decide (r_2.2=0))then true else(!decide (r_3.2=0)))then true else(!decide ((r_3.1.length:Int)=1)))then true else(!((at' r_3.1 0).e0)))then
 dI (gB [((bif (bif (!decide (r_2.2=0))then true else(!decide (r_3.2=0)))then true else(!decide ((r_3.1.length:Int)=1))),false)]=true→(0:Int)≤0∧0<(r_3.1.length:Int)) (
 some false)
 else
 (iR r_2.1 [(⟨[0,1],[0]⟩:ah),(⟨[2],[1]⟩:ah)]).bind fun r_4=>
 dI (gB [((bif (bif (!decide (r_2.2=0))then true else(!decide (r_3.2=0)))then true else(!decide ((r_3.1.length:Int)=1))),false)]=true→(0:Int)≤0∧0<(r_3.1.length:Int)) (
 bif (!r_4)then
 some false
 else
 dI ((0:Int)≤1∧1<([true,false].length:Int)) (
 (oP r_ (⟨([true,false].set 1 true),r_1.1.locked,r_1.1.badLink,[true,true],r_1.1.badSource,r_1.1.earthed,r_1.1.badBus⟩:State)).bind fun r_5=>
 (iU r_ (⟨([true,false].set 1 true),r_1.1.locked,r_1.1.badLink,[true,true],r_1.1.badSource,r_1.1.earthed,r_1.1.badBus⟩:State) (⟨3,0⟩:Part)).bind fun r_6=>
 (oM r_ r_6.1).bind fun r_7=>
 bif (bif (bif (!decide (r_5.2=0))then true else(!decide (r_6.2=0)))then true else(!decide (r_7.2=0)))then
 some false
 else
 (mD r_5.1 [(⟨0,1⟩:aj)]).bind fun r_8=>
 bif (!r_8)then
 some false
 else
 (iR r_7.1 [(⟨[0],[0]⟩:ah),(⟨[1,2],[1]⟩:ah)]).bind fun r_9=>
 bif (!r_9)then
 some false
 else
 (iU r_ (⟨([true,false].set 1 true),r_1.1.locked,r_1.1.badLink,[true,true],r_1.1.badSource,r_1.1.earthed,r_1.1.badBus⟩:State) (⟨1,1⟩:Part)).bind fun r_10=>
 (wm r_ r_10.1).bind fun r_11=>
 (l7 r_).bind fun r_12=>
 dI (gB [((bif (bif (bif (decide (r_10.2=0))then(decide (r_11.2=0))else false)then(decide (r_12.2=0))else false)then(decide ((r_11.1.length:Int)=1))else false),true)]=true→(0:Int)≤0∧0<(r_11.1.length:Int)) (
 some (bif (bif (bif (bif (bif (decide (r_10.2=0))then(decide (r_11.2=0))else false)then(decide (r_12.2=0))else false)then(decide ((r_11.1.length:Int)=1))else false)then(!((at' r_11.1 0).e0))else false)then((r_12.1:ByteArray).toList==(⟨#[112,108,97,110,116,32,51,10,115,111,117,114,99,101,32,48,32,103,114,105,100,32,53,48,48,32,48,32,50,48,10,115,111,117,114,99,101,32,50,32,103,101,110,101,114,97,116,111,114,32,51,48,48,32,48,32,52,48,10,108,105,110,107,32,48,32,49,32,98,114,101,97,107,101,114,32,52,48,48,32,49,48,32,49,48,48,48,58,52,48,48,32,53,48,48,48,58,53,48,10,108,105,110,107,32,49,32,50,32,98,114,101,97,107,101,114,32,52,48,48,32,49,48,10,114,97,99,107,32,49,32,45,49,32,49,48,48,32,49,10]⟩:ByteArray).toList)else false))))
def bE (l:(List Bool)):Option (List Bool):=
 dI ((l.length*1≤140737488355328)∧(l.length≤4611686018427387904)) (
 some l)
def ja (x:State):Option State:=
 (bE x.closed).bind fun r_=>
 (bE x.locked).bind fun r_1=>
 (bE x.badLink).bind fun r_2=>
 (bE x.on_).bind fun r_3=>
 (bE x.badSource).bind fun r_4=>
 (bE x.earthed).bind fun r_5=>
 (bE x.badBus).bind fun r_6=>
 some (⟨r_,r_1,r_2,r_3,r_4,r_5,r_6⟩:State)
def jb (x:Link):Int→Option (bT Int (Ex Unit Bool)):=
 fun i=>
 bif (decide (i<(x.trip.length:Int)))then
 dI ((0:Int)≤i∧i<(x.trip.length:Int)) (
 bif (bif (bif (bif (decide (((at' x.trip i.toNat).amps)<1))then true else(decide (1000000<((at' x.trip i.toNat).amps))))then true else(decide (((at' x.trip i.toNat).millis)<1)))then true else(decide (100000<((at' x.trip i.toNat).millis))))then
 some (.done (.ret false))
 else
 dI ((gB [((decide (0<i)),true)]=true→(0:Int)≤(IntKind.wrap .i64 (i - 1))∧(IntKind.wrap .i64 (i - 1))<(x.trip.length:Int))∧(gB [((decide (((at' x.trip i.toNat).amps)≤((at' x.trip ((IntKind.wrap .i64 (i - 1)).toNat)).amps))),false),((decide (0<i)),true)]=true→(0:Int)≤(IntKind.wrap .i64 (i - 1))∧(IntKind.wrap .i64 (i - 1))<(x.trip.length:Int))) (
 bif (bif (decide (0<i))then(bif (decide (((at' x.trip i.toNat).amps)≤((at' x.trip ((IntKind.wrap .i64 (i - 1)).toNat)).amps)))then true else(decide (((at' x.trip ((IntKind.wrap .i64 (i - 1)).toNat)).millis)≤((at' x.trip i.toNat).millis))))else false)then
 some (.done (.ret false))
 else
 some (.next (IntKind.wrap .i64 (i+1)))))
 else
 some (.done (.brk ()))
def lq (p:au) (x:Link):Option Bool:=
 bif (bif (bif (bif (bif (bif (bif (bif (bif (bif (bif (decide (x.a<0))then true else(decide (p.buses≤x.a)))then true else(decide (x.b<0)))then true else(decide (p.buses≤x.b)))then true else(decide (x.a=x.b)))then true else(decide (x.kind<1)))then true else(decide (3<x.kind)))then true else(decide (x.most<1)))then true else(decide (100000<x.most)))then true else(decide (x.ohm<10)))then true else(decide (100000<x.ohm)))then
 some false
 else
 bif (bif (decide (6<(x.trip.length:Int)))then true else(bif (decide (0<(x.trip.length:Int)))then(!decide (x.kind=3))else false))then
 some false
 else
 Option.bind (aI (jb x) FUEL (0)) fun o=>match o with
 | .ret v=>some v
 | .brk _=>
 some true
def iH (p:au):Int→Option (bT Int (Ex Unit Int)):=
 fun i=>
 bif (decide (i<(p.sources.length:Int)))then
 dI ((0:Int)≤i∧i<(p.sources.length:Int)) (
 bif (bif (bif (bif (bif (bif (bif (bif (bif (bif (decide (((at' p.sources i.toNat).bus)<0))then true else(decide (p.buses≤((at' p.sources i.toNat).bus))))then true else(decide (((at' p.sources i.toNat).kind)<1)))then true else(decide (3<((at' p.sources i.toNat).kind))))then true else(decide (((at' p.sources i.toNat).power)<1)))then true else(decide (100000<((at' p.sources i.toNat).power))))then true else(decide (((at' p.sources i.toNat).sync)<0)))then true else(decide (8<((at' p.sources i.toNat).sync))))then true else(decide (((at' p.sources i.toNat).ohm)<10)))then true else(decide (100000<((at' p.sources i.toNat).ohm))))then
 some (.done (.ret 11))
 else
 some (.next (IntKind.wrap .i64 (i+1))))
 else
 some (.done (.brk ()))
def iJ (p:au):Int→Option (bT Int (Ex Unit Int)):=
 fun i1=>
 bif (decide (i1<(p.links.length:Int)))then
 (lq p (at' p.links i1.toNat)).bind fun r_=>
 dI ((0:Int)≤i1∧i1<(p.links.length:Int)) (
 bif (!r_)then
 some (.done (.ret 12))
 else
 some (.next (IntKind.wrap .i64 (i1+1))))
 else
 some (.done (.brk ()))
def iK (p:au):Int→Option (bT Int (Ex Unit Int)):=
 fun i2=>
 bif (decide (i2<(p.racks.length:Int)))then
 dI ((0:Int)≤i2∧i2<(p.racks.length:Int)) (
 bif (decide ((((at' p.racks i2.toNat).feeds).e1)=(-1)))then
 bif (bif (bif (bif (bif (bif (bif (bif (bif (decide ((((at' p.racks i2.toNat).feeds).e0)<0))then true else(decide (p.buses≤(((at' p.racks i2.toNat).feeds).e0))))then true else(decide ((((at' p.racks i2.toNat).feeds).e1)<(-1))))then true else(decide (p.buses≤(((at' p.racks i2.toNat).feeds).e1))))then true else(decide ((((at' p.racks i2.toNat).feeds).e0)=(((at' p.racks i2.toNat).feeds).e1))))then true else(decide (((at' p.racks i2.toNat).power)<1)))then true else(decide (100000<((at' p.racks i2.toNat).power))))then true else(decide (((at' p.racks i2.toNat).paths)<0)))then true else(decide (1<((at' p.racks i2.toNat).paths))))then
 some (.done (.ret 13))
 else
 some (.next (IntKind.wrap .i64 (i2+1)))
 else
 bif (bif (bif (bif (bif (bif (bif (bif (bif (decide ((((at' p.racks i2.toNat).feeds).e0)<0))then true else(decide (p.buses≤(((at' p.racks i2.toNat).feeds).e0))))then true else(decide ((((at' p.racks i2.toNat).feeds).e1)<(-1))))then true else(decide (p.buses≤(((at' p.racks i2.toNat).feeds).e1))))then true else(decide ((((at' p.racks i2.toNat).feeds).e0)=(((at' p.racks i2.toNat).feeds).e1))))then true else(decide (((at' p.racks i2.toNat).power)<1)))then true else(decide (100000<((at' p.racks i2.toNat).power))))then true else(decide (((at' p.racks i2.toNat).paths)<0)))then true else(decide (2<((at' p.racks i2.toNat).paths))))then
 some (.done (.ret 13))
 else
 some (.next (IntKind.wrap .i64 (i2+1))))
 else
 some (.done (.brk ()))
def gK (p:au):Option Int:=
 bif (bif (decide (p.buses<1))then true else(decide (24<p.buses)))then
 some 10
 else
 bif (decide (8<(p.sources.length:Int)))then
 some 11
 else
 Option.bind (aI (iH p) FUEL (0)) fun o=>match o with
 | .ret v=>some v
 | .brk _=>
 bif (decide (40<(p.links.length:Int)))then
 some 12
 else
 Option.bind (aI (iJ p) FUEL (0)) fun o=>match o with
 | .ret v=>some v
 | .brk _=>
 bif (decide (24<(p.racks.length:Int)))then
 some 13
 else
 Option.bind (aI (iK p) FUEL (0)) fun o=>match o with
 | .ret v=>some v
 | .brk _=>
 some 0
def iG (p:au) (s_:State):Int→Option (bT Int (Ex Unit Bool)):=
 fun i=>
 bif (decide (i<(p.links.length:Int)))then
 dI (((0:Int)≤i∧i<(p.links.length:Int))∧(gB [((decide (((at' p.links i.toNat).kind)=1)),true)]=true→(0:Int)≤i∧i<(s_.closed.length:Int))∧(gB [((!(at' s_.closed i.toNat)),false),((decide (((at' p.links i.toNat).kind)=1)),true)]=true→(0:Int)≤i∧i<(s_.locked.length:Int))) (
 bif (bif (decide (((at' p.links i.toNat).kind)=1))then(bif (!(at' s_.closed i.toNat))then true else(at' s_.locked i.toNat))else false)then
 some (.done (.ret false))
 else
 some (.next (IntKind.wrap .i64 (i+1))))
 else
 some (.done (.brk ()))
def kE (p:au) (s_:State):Option Bool:=
 bif (bif (bif (bif (bif (bif (bif (!decide ((s_.closed.length:Int)=(p.links.length:Int)))then true else(!decide ((s_.locked.length:Int)=(p.links.length:Int))))then true else(!decide ((s_.badLink.length:Int)=(p.links.length:Int))))then true else(!decide ((s_.on_.length:Int)=(p.sources.length:Int))))then true else(!decide ((s_.badSource.length:Int)=(p.sources.length:Int))))then true else(!decide ((s_.earthed.length:Int)=p.buses)))then true else(!decide ((s_.badBus.length:Int)=p.buses)))then
 some false
 else
 Option.bind (aI (iG p s_) FUEL (0)) fun o=>match o with
 | .ret v=>some v
 | .brk _=>
 some true
def fT (p:au) (s_:State):Option Int:=
 (gK p).bind fun r_=>
 (bif gB [((decide (r_=0)),true)]then kE p s_ else some default).bind fun r_1=>
 bif (bif (decide (r_=0))then(!r_1)else false)then
 some 9
 else
 some r_
def fD (a:(List Bool)) (b:(List Bool)):Int→Option (bT Int (Ex Unit Bool)):=
 fun i=>
 bif (decide (i<(a.length:Int)))then
 dI (((0:Int)≤i∧i<(a.length:Int))∧((0:Int)≤i∧i<(b.length:Int))) (
 bif (!((at' a i.toNat)==(at' b i.toNat)))then
 some (.done (.ret false))
 else
 some (.next (IntKind.wrap .i64 (i+1))))
 else
 some (.done (.brk ()))
def bC (a:(List Bool)) (b:(List Bool)):Option Bool:=
 bif (!decide ((a.length:Int)=(b.length:Int)))then
 some false
 else
 Option.bind (aI (fD a b) FUEL (0)) fun o=>match o with
 | .ret v=>some v
 | .brk _=>
 some true
def dF (a:State) (b:State):Option Bool:=
 (bC a.closed b.closed).bind fun r_=>
 (bif gB [(r_,true)]then bC a.locked b.locked else some default).bind fun r_1=>
 (bif gB [((bif r_ then r_1 else false),true)]then bC a.badLink b.badLink else some default).bind fun r_2=>
 (bif gB [((bif (bif r_ then r_1 else false)then r_2 else false),true)]then bC a.on_ b.on_ else some default).bind fun r_3=>
 (bif gB [((bif (bif (bif r_ then r_1 else false)then r_2 else false)then r_3 else false),true)]then bC a.badSource b.badSource else some default).bind fun r_4=>
 (bif gB [((bif (bif (bif (bif r_ then r_1 else false)then r_2 else false)then r_3 else false)then r_4 else false),true)]then bC a.earthed b.earthed else some default).bind fun r_5=>
 (bif gB [((bif (bif (bif (bif (bif r_ then r_1 else false)then r_2 else false)then r_3 else false)then r_4 else false)then r_5 else false),true)]then bC a.badBus b.badBus else some default).bind fun r_6=>
 some (bif (bif (bif (bif (bif (bif r_ then r_1 else false)then r_2 else false)then r_3 else false)then r_4 else false)then r_5 else false)then r_6 else false)
def dU (p:au):((List Bool) × Int)→Option (bT ((List Bool) × Int) (Ex (List Bool) (State × Int))):=
 fun zz=>match zz with
 |(s0,i)=>
 bif (decide (i<(p.links.length:Int)))then
 dI ((0:Int)≤i∧i<(p.links.length:Int)) (
 bif (decide (((at' p.links i.toNat).kind)=1))then
 dI ((0:Int)≤i∧i<(s0.length:Int)) (
 some (.next ((s0.set i.toNat true),(IntKind.wrap .i64 (i+1)))))
 else
 some (.next (s0,(IntKind.wrap .i64 (i+1)))))
 else
 some (.done (.brk s0))
def gF (p:au):Option (State × Int):=
 (gK p).bind fun r_=>
 bif (!decide (r_=0))then
 some ((⟨([]:List Bool),([]:List Bool),([]:List Bool),([]:List Bool),([]:List Bool),([]:List Bool),([]:List Bool)⟩:State),r_)
 else
 dI (((0:Int)≤(p.links.length:Int))∧((1:Int)*(p.links.length:Int)≤281474976710656)∧(((p.links.length:Int):Int)≤9223372036854775807)∧((0:Int)≤(p.sources.length:Int))∧((1:Int)*(p.sources.length:Int)≤281474976710656)∧(((p.sources.length:Int):Int)≤9223372036854775807)∧((0:Int)≤p.buses)∧((1:Int)*p.buses≤281474976710656)∧((p.buses:Int)≤9223372036854775807)) (
 Option.bind (aI (dU p) FUEL ((List.replicate ((p.links.length:Int).toNat) (false:Bool)),0)) fun o=>match o with
 | .ret v=>some v
 | .brk s01=>
 some ((⟨s01,(List.replicate ((p.links.length:Int).toNat) (false:Bool)),(List.replicate ((p.links.length:Int).toNat) (false:Bool)),(List.replicate ((p.sources.length:Int).toNat) (false:Bool)),(List.replicate ((p.sources.length:Int).toNat) (false:Bool)),(List.replicate p.buses.toNat (false:Bool)),(List.replicate p.buses.toNat (false:Bool))⟩:State),0))
def fG (p:au) (t24:Int):((List Part) × Int)→Option (bT ((List Part) × Int) (Ex (List Part) (bT ((List Part) × Int) (Ex (List Part) ((List Part) × Int))))):=
 fun zz=>match zz with
 |(out2,t30)=>
 bif (decide (t30<(at' [p.buses,(p.sources.length:Int),(p.links.length:Int)] t24.toNat)))then
 dI (((out2.length+[(⟨(IntKind.wrap .i64 (t24+1)),t30⟩:Part)].length)*16≤140737488355328)∧(out2.length+[(⟨(IntKind.wrap .i64 (t24+1)),t30⟩:Part)].length≤4611686018427387904)) (
 some (.next ((out2++[(⟨(IntKind.wrap .i64 (t24+1)),t30⟩:Part)]),(IntKind.wrap .i64 (t30+1)))))
 else
 some (.done (.brk out2))
def dQ (p:au):((List Part) × Int)→Option (bT ((List Part) × Int) (Ex (List Part) ((List Part) × Int))):=
 fun zz=>match zz with
 |(out,t24)=>
 bif (decide (t24<([p.buses,(p.sources.length:Int),(p.links.length:Int)].length:Int)))then
 dI ((0:Int)≤t24∧t24<([p.buses,(p.sources.length:Int),(p.links.length:Int)].length:Int)) (
 Option.bind (aI (fG p t24) FUEL (out,0)) fun o=>match o with
 | .ret v=>some v
 | .brk out3=>
 some (.next (out3,(IntKind.wrap .i64 (t24+1)))))
 else
 some (.done (.brk out))
def gI (p:au):Option ((List Part) × Int):=
 (dO p).bind fun r_=>
 bif (!decide (r_=0))then
 some (([]:List Part),r_)
 else
 Option.bind (aI (dQ p) FUEL (([]:List Part),0)) fun o=>match o with
 | .ret v=>some v
 | .brk out1=>
 some (out1,0)
def dS (p:au):((List Part) × Int)→Option (bT ((List Part) × Int) (Ex (List Part) ((List Part) × Int))):=
 fun zz=>match zz with
 |(out,i)=>
 bif (decide (i<p.buses))then
 dI (((out.length+[(⟨1,i⟩:Part)].length)*16≤140737488355328)∧(out.length+[(⟨1,i⟩:Part)].length≤4611686018427387904)) (
 some (.next ((out++[(⟨1,i⟩:Part)]),(IntKind.wrap .i64 (i+1)))))
 else
 some (.done (.brk out))
def fJ (p:au):((List Part) × Int)→Option (bT ((List Part) × Int) (Ex (List Part) ((List Part) × Int))):=
 fun zz=>match zz with
 |(out2,i1)=>
 bif (decide (i1<(p.sources.length:Int)))then
 dI (((out2.length+[(⟨2,i1⟩:Part)].length)*16≤140737488355328)∧(out2.length+[(⟨2,i1⟩:Part)].length≤4611686018427387904)) (
 some (.next ((out2++[(⟨2,i1⟩:Part)]),(IntKind.wrap .i64 (i1+1)))))
 else
 some (.done (.brk out2))
def fH (p:au):((List Part) × Int)→Option (bT ((List Part) × Int) (Ex (List Part) ((List Part) × Int))):=
 fun zz=>match zz with
 |(out4,i2)=>
 bif (decide (i2<(p.links.length:Int)))then
 dI (((out4.length+[(⟨3,i2⟩:Part)].length)*16≤140737488355328)∧(out4.length+[(⟨3,i2⟩:Part)].length≤4611686018427387904)) (
 some (.next ((out4++[(⟨3,i2⟩:Part)]),(IntKind.wrap .i64 (i2+1)))))
 else
 some (.done (.brk out4))
def iX (p:au):Option ((List Part) × Int):=
 (gK p).bind fun r_=>
 bif (!decide (r_=0))then
 some (([]:List Part),r_)
 else
 Option.bind (aI (dS p) FUEL (([]:List Part),0)) fun o=>match o with
 | .ret v=>some v
 | .brk out1=>
 Option.bind (aI (fJ p) FUEL (out1,0)) fun o=>match o with
 | .ret v=>some v
 | .brk out3=>
 Option.bind (aI (fH p) FUEL (out3,0)) fun o=>match o with
 | .ret v=>some v
 | .brk out5=>
 some (out5,0)
def gq (a:(List Part)) (b:(List Part)):Int→Option (bT Int (Ex Unit Bool)):=
 fun i=>
 bif (decide (i<(a.length:Int)))then
 dI (((0:Int)≤i∧i<(a.length:Int))∧((0:Int)≤i∧i<(b.length:Int))) (
 bif (!((decide (((at' a i.toNat).kind)=((at' b i.toNat).kind))) && ((decide (((at' a i.toNat).index)=((at' b i.toNat).index))) && true)))then
 some (.done (.ret false))
 else
 some (.next (IntKind.wrap .i64 (i+1))))
 else
 some (.done (.brk ()))
def jd (a:(List Part)) (b:(List Part)):Option Bool:=
 bif (!decide ((a.length:Int)=(b.length:Int)))then
 some false
 else
 Option.bind (aI (gq a b) FUEL (0)) fun o=>match o with
 | .ret v=>some v
 | .brk _=>
 some true
def iN (l:(List Bool)) (i:Int) (is:Bool):Option (List Bool):=
 dI (((([]:List Bool).length+l.length)*1≤140737488355328)∧(([]:List Bool).length+l.length≤4611686018427387904)) (
 dI ((0:Int)≤i∧i<((([]:List Bool)++l).length:Int)) (
 some ((([]:List Bool)++l).set i.toNat is)))
def cK (p:au) (s_:State) (x:Part) (is:Bool):Option (State × Int):=
 (fT p s_).bind fun r_=>
 bif (!decide (r_=0))then
 some ((⟨([]:List Bool),([]:List Bool),([]:List Bool),([]:List Bool),([]:List Bool),([]:List Bool),([]:List Bool)⟩:State),r_)
 else
 bif (decide (x.index<0))then
 some ((⟨([]:List Bool),([]:List Bool),([]:List Bool),([]:List Bool),([]:List Bool),([]:List Bool),([]:List Bool)⟩:State),14)
 else
 bif (bif (decide (x.kind=1))then(decide (x.index<p.buses))else false)then
 (iN s_.badBus x.index is).bind fun r_1=>
 some ((⟨s_.closed,s_.locked,s_.badLink,s_.on_,s_.badSource,s_.earthed,r_1⟩:State),0)
 else
 bif (bif (decide (x.kind=2))then(decide (x.index<(p.sources.length:Int)))else false)then
 (iN s_.badSource x.index is).bind fun r_2=>
 some ((⟨s_.closed,s_.locked,s_.badLink,s_.on_,r_2,s_.earthed,s_.badBus⟩:State),0)
 else
 bif (bif (decide (x.kind=3))then(decide (x.index<(p.links.length:Int)))else false)then
 (iN s_.badLink x.index is).bind fun r_3=>
 some ((⟨s_.closed,s_.locked,r_3,s_.on_,s_.badSource,s_.earthed,s_.badBus⟩:State),0)
 else
 some ((⟨([]:List Bool),([]:List Bool),([]:List Bool),([]:List Bool),([]:List Bool),([]:List Bool),([]:List Bool)⟩:State),14)
def oK (p:au) (s_:State) (x:Part):Option (State × Int):=
 (cB p s_ x false).bind fun r_=>
 some (r_.1,r_.2)
def dm  :((List Bool) × Int)→Option (bT ((List Bool) × Int) (Ex (List Bool) Bool)):=
 fun zz=>match zz with
 |(c0,i)=>
 bif (decide (i<(c0.length:Int)))then
 dI ((0:Int)≤i∧i<(c0.length:Int)) (
 some (.next ((c0.set i.toNat (!(at' c0 i.toNat))),(IntKind.wrap .i64 (i+1)))))
 else
 some (.done (.brk c0))
def di  :((List Bool) × Int)→Option (bT ((List Bool) × Int) (Ex (List Bool) Bool)):=
 fun zz=>match zz with
 |(c6,i1)=>
 bif (decide (i1<(c6.length:Int)))then
 dI ((0:Int)≤i1∧i1<(c6.length:Int)) (
 some (.next ((c6.set i1.toNat (!(at' c6 i1.toNat))),(IntKind.wrap .i64 (i1+1)))))
 else
 some (.done (.brk c6))
def gm (p:au) (s_:State) (x:Part):Option Bool:=
 (mE p).bind fun r_=>
 bif r_ then
 (kC).bind fun r_1=>
 some r_1
 else
 (eP p).bind fun r_2=>
 (gF p).bind fun r_3=>
 (gI p).bind fun r_4=>
 (iX p).bind fun r_5=>
 (bif gB [((bif (!decide (r_2.2=r_3.2))then true else(!decide (r_4.2=r_5.2))),false)]then dF r_2.1 r_3.1 else some default).bind fun r_6=>
 (bif gB [((bif (bif (!decide (r_2.2=r_3.2))then true else(!decide (r_4.2=r_5.2)))then true else(!r_6)),false)]then jd r_4.1 r_5.1 else some default).bind fun r_7=>
 bif (bif (bif (bif (!decide (r_2.2=r_3.2))then true else(!decide (r_4.2=r_5.2)))then true else(!r_6))then true else(!r_7))then
 some false
 else
 (ja s_).bind fun r_8=>
 (iU p r_8 x).bind fun r_9=>
 (cK p s_ x true).bind fun r_10=>
 (bif gB [((!decide (r_9.2=r_10.2)),false)]then dF r_9.1 r_10.1 else some default).bind fun r_11=>
 bif (bif (!decide (r_9.2=r_10.2))then true else(!r_11))then
 some false
 else
 Option.bind (aI dm FUEL (r_9.1.closed,0)) fun o=>match o with
 | .ret v=>some v
 | .brk c01=>
 Option.bind (aI di FUEL (r_9.1.badBus,0)) fun o=>match o with
 | .ret v=>some v
 | .brk c61=>
 (oK p r_8 x).bind fun r_12=>
 (cK p s_ x false).bind fun r_13=>
 (bif gB [((decide (r_12.2=r_13.2)),true)]then dF r_12.1 r_13.1 else some default).bind fun r_14=>
 (bif gB [((bif (decide (r_12.2=r_13.2))then r_14 else false),true)]then dF r_8 s_ else some default).bind fun r_15=>
 (bif gB [((bif (bif (decide (r_12.2=r_13.2))then r_14 else false)then r_15 else false),true)]then kC else some default).bind fun r_16=>
 some (bif (bif (bif (decide (r_12.2=r_13.2))then r_14 else false)then r_15 else false)then r_16 else false)
end Sg
