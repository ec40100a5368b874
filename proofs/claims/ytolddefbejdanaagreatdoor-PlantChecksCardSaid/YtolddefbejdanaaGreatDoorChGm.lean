import Derived.Test.YtolddefbejdanaaGreatDoorChLc
import Derived.Test.YtolddefbejdanaaGreatDoorChLd
set_option linter.all false
namespace Sg
open Go
structure Source where
 bus:Int
 kind:Int
 power:Int
 sync:Int
 ohm:Int
instance:Inhabited Source:=⟨⟨default,default,default,default,default⟩⟩
def Source.cell (x:Source):Nat→DV
 |0=>(.int .i64 x.bus)
 |1=>(.int .i64 x.kind)
 |2=>(.int .i64 x.power)
 |3=>(.int .i64 x.sync)
 |4=>(.int .i64 x.ohm)
 |_=> .nilp
structure bX where
 amps:Int
 millis:Int
instance:Inhabited bX:=⟨⟨default,default⟩⟩
def bX.cell (x:bX):Nat→DV
 |0=>(.int .i64 x.amps)
 |1=>(.int .i64 x.millis)
 |_=> .nilp
structure Link where
 a:Int
 b:Int
 kind:Int
 most:Int
 ohm:Int
 trip:(List bX)
instance:Inhabited Link:=⟨⟨default,default,default,default,default,default⟩⟩
def Link.cell (x:Link):Nat→DV
 |0=>(.int .i64 x.a)
 |1=>(.int .i64 x.b)
 |2=>(.int .i64 x.kind)
 |3=>(.int .i64 x.most)
 |4=>(.int .i64 x.ohm)
 |5=>(aX none 2 bX.cell x.trip)
 |_=> .nilp
structure ah where
 e0:Int
 e1:Int
instance:Inhabited ah:=⟨⟨default,default⟩⟩
def ah.cell (x:ah):Nat→DV
 |0=>(.int .i64 x.e0)
 |1=>(.int .i64 x.e1)
 |_=> .nilp
structure aN where
 feeds:ah
 power:Int
 paths:Int
instance:Inhabited aN:=⟨⟨default,default,default⟩⟩
def aN.cell (x:aN):Nat→DV
 |0=>(.int .i64 x.feeds.e0)
 |1=>(.int .i64 x.feeds.e1)
 |2=>(.int .i64 x.power)
 |3=>(.int .i64 x.paths)
 |_=> .nilp
structure ai where
 buses:Int
 sources:(List Source)
 links:(List Link)
 racks:(List aN)
instance:Inhabited ai:=⟨⟨default,default,default,default⟩⟩
def ai.cell (x:ai):Nat→DV
 |0=>(.int .i64 x.buses)
 |1=>(aX none 5 Source.cell x.sources)
 |2=>(aX none 6 Link.cell x.links)
 |3=>(aX none 4 aN.cell x.racks)
 |_=> .nilp
structure State where
 closed:(List Bool)
 locked:(List Bool)
 badLink:(List Bool)
 on_:(List Bool)
 badSource:(List Bool)
 earthed:(List Bool)
 badBus:(List Bool)
instance:Inhabited State:=⟨⟨default,default,default,default,default,default,default⟩⟩
def State.cell (x:State):Nat→DV
 |0=>(aX none 1 aj x.closed)
 |1=>(aX none 1 aj x.locked)
 |2=>(aX none 1 aj x.badLink)
 |3=>(aX none 1 aj x.on_)
 |4=>(aX none 1 aj x.badSource)
 |5=>(aX none 1 aj x.earthed)
 |6=>(aX none 1 aj x.badBus)
 |_=> .nilp
structure bD where
 l:(List Bool)
 n:Int
instance:Inhabited bD:=⟨⟨default,default⟩⟩
def bD.cell (x:bD):Nat→DV
 |0=>(aX none 1 aj x.l)
 |1=>(.int .i64 x.n)
 |_=> .nilp
structure aF where
 head:(List (Int × Int))
instance:Inhabited aF:=⟨⟨default⟩⟩
def aF.cell (x:aF):Nat→DV
 |0=> .nilp
 |_=> .nilp
structure af where
 buses:(List Int)
 sources:(List Int)
instance:Inhabited af:=⟨⟨default,default⟩⟩
def af.cell (x:af):Nat→DV
 |0=>(aX none 1 (aH .i64) x.buses)
 |1=>(aX none 1 (aH .i64) x.sources)
 |_=> .nilp
structure av where
 e0:Bool
 e1:Bool
instance:Inhabited av:=⟨⟨default,default⟩⟩
def av.cell (x:av):Nat→DV
 |0=>(.bool x.e0)
 |1=>(.bool x.e1)
 |_=> .nilp
structure Part where
 kind:Int
 index:Int
instance:Inhabited Part:=⟨⟨default,default⟩⟩
def Part.cell (x:Part):Nat→DV
 |0=>(.int .i64 x.kind)
 |1=>(.int .i64 x.index)
 |_=> .nilp
def af.ev (x:af):Nat→EV
 |0=> .row 3 1 x.buses.length (aB (aH .i64) x.buses)
 |1=> .row 3 1 x.sources.length (aB (aH .i64) x.sources)
 |_=> .d .nilp
def lH (p:ai):Int→Option (bE Int (Ex Unit Bool)):=
 fun i=>
 bif (decide (i<(p.links.length:Int)))then
 dF ((0:Int)≤i∧i<(p.links.length:Int)) (
 bif (decide (20<(((at' p.links i.toNat).trip).length:Int)))then
 some (.done (.ret true))
 else
 some (.next (IntKind.wrap .i64 (i+1))))
 else
 some (.done (.brk ()))
def oH (p:ai):Option Bool:=
 bif (bif (bif (decide (60<(p.sources.length:Int)))then true else(decide (60<(p.links.length:Int))))then true else(decide (60<(p.racks.length:Int))))then
 some true
 else
 Option.bind (aC (lH p) FUEL (0)) fun o=>match o with
 | .ret v=>some v
 | .brk _=>
 some false
def aK (n:Int) (first:Int) (last:Int):Option Bool:=
 some (bif (decide (first≤n))then(decide (n≤last))else false)
def nW (p:ai):Option (Int × (List Source) × (List Link) × (List aN)):=
 some (p.buses,p.sources,p.links,p.racks)
def qB (p:ai):Option (Int × (List Source) × (List Link) × (List aN)):=
 some (p.buses,p.sources,p.links,p.racks)
def qH (p:ai):Option (Int × (List Source) × (List Link) × (List aN)):=
 some (p.buses,p.sources,p.links,p.racks)
def jM (x:Source) (x1:Int) (x11:(List Source)) (x12:(List Link)) (x13:(List aN)):Option Bool:=
 (aK x.bus 0 (IntKind.wrap .i64 (x1 - 1))).bind fun r_=>
 (bif gB [(r_,true)]then aK x.kind 1 3 else some default).bind fun r_1=>
 (bif gB [((bif r_ then r_1 else false),true)]then aK x.power 1 100000 else some default).bind fun r_2=>
 (bif gB [((bif (bif r_ then r_1 else false)then r_2 else false),true)]then aK x.sync 0 8 else some default).bind fun r_3=>
 (bif gB [((bif (bif (bif r_ then r_1 else false)then r_2 else false)then r_3 else false),true)]then aK x.ohm 10 100000 else some default).bind fun r_4=>
 some (bif (bif (bif (bif r_ then r_1 else false)then r_2 else false)then r_3 else false)then r_4 else false)
def nV (x:Source) (x1:Int) (x11:(List Source)) (x12:(List Link)) (x13:(List aN)):Option Bool:=
 (jM x x1 x11 x12 x13).bind fun r_=>
 some (!r_)
def jb (s_:(List Source)) (f_:Int) (f_1:(List Source)) (f_2:(List Link)) (f_3:(List aN)):Int→Option (bE Int (Ex Unit Int)):=
 fun t8=>
 bif (decide (t8<(s_.length:Int)))then
 (nV (at' s_ t8.toNat) f_ f_1 f_2 f_3).bind fun r_=>
 dF ((0:Int)≤t8∧t8<(s_.length:Int)) (
 bif r_ then
 some (.done (.ret t8))
 else
 some (.next (IntKind.wrap .i64 (t8+1))))
 else
 some (.done (.brk ()))
def kC (s_:(List Source)) (f_:Int) (f_1:(List Source)) (f_2:(List Link)) (f_3:(List aN)):Option Int:=
 Option.bind (aC (jb s_ f_ f_1 f_2 f_3) FUEL (0)) fun o=>match o with
 | .ret v=>some v
 | .brk _=>
 some (-1)
def fH (s_:(List Source)) (f_:Int) (f_1:(List Source)) (f_2:(List Link)) (f_3:(List aN)):Option Bool:=
 (kC s_ f_ f_1 f_2 f_3).bind fun r_=>
 some (decide (0≤r_))
def nH (l:(List Source)) (most:Int) (right:Int) (right1:(List Source)) (right2:(List Link)) (right3:(List aN)):Option Bool:=
 (bif gB [((decide ((l.length:Int)≤most)),true)]then fH l right right1 right2 right3 else some default).bind fun r_=>
 some (bif (decide ((l.length:Int)≤most))then(!r_)else false)
def jg (x:Link):Int→Option (bE Int (Ex Unit Bool)):=
 fun t50=>
 bif (decide (t50<(x.trip.length:Int)))then
 dF ((0:Int)≤t50∧t50<(x.trip.length:Int)) (
 (aK ((at' x.trip t50.toNat).amps) 1 1000000).bind fun r_5=>
 (bif gB [((!r_5),false)]then aK ((at' x.trip t50.toNat).millis) 1 100000 else some default).bind fun r_6=>
 dF ((gB [((decide (0<t50)),true),((bif (!r_5)then true else(!r_6)),false)]=true→(0:Int)≤(IntKind.wrap .i64 (t50 - 1))∧(IntKind.wrap .i64 (t50 - 1))<(x.trip.length:Int))∧(gB [((decide (((at' x.trip t50.toNat).amps)≤((at' x.trip ((IntKind.wrap .i64 (t50 - 1)).toNat)).amps))),false),((decide (0<t50)),true),((bif (!r_5)then true else(!r_6)),false)]=true→(0:Int)≤(IntKind.wrap .i64 (t50 - 1))∧(IntKind.wrap .i64 (t50 - 1))<(x.trip.length:Int))) (
 bif (bif (bif (!r_5)then true else(!r_6))then true else(bif (decide (0<t50))then(bif (decide (((at' x.trip t50.toNat).amps)≤((at' x.trip ((IntKind.wrap .i64 (t50 - 1)).toNat)).amps)))then true else(decide (((at' x.trip ((IntKind.wrap .i64 (t50 - 1)).toNat)).millis)≤((at' x.trip t50.toNat).millis))))else false))then
 some (.done (.ret false))
 else
 some (.next (IntKind.wrap .i64 (t50+1)))))
 else
 some (.done (.brk ()))
def lC (x:Link) (x1:Int) (x11:(List Source)) (x12:(List Link)) (x13:(List aN)):Option Bool:=
 (aK x.a 0 (IntKind.wrap .i64 (x1 - 1))).bind fun r_=>
 (bif gB [((!r_),false)]then aK x.b 0 (IntKind.wrap .i64 (x1 - 1))else some default).bind fun r_1=>
 (bif gB [((bif (bif (!r_)then true else(!r_1))then true else(decide (x.a=x.b))),false)]then aK x.kind 1 3 else some default).bind fun r_2=>
 (bif gB [((bif (bif (bif (!r_)then true else(!r_1))then true else(decide (x.a=x.b)))then true else(!r_2)),false)]then aK x.most 1 100000 else some default).bind fun r_3=>
 (bif gB [((bif (bif (bif (bif (!r_)then true else(!r_1))then true else(decide (x.a=x.b)))then true else(!r_2))then true else(!r_3)),false)]then aK x.ohm 10 100000 else some default).bind fun r_4=>
 bif (bif (bif (bif (bif (bif (!r_)then true else(!r_1))then true else(decide (x.a=x.b)))then true else(!r_2))then true else(!r_3))then true else(!r_4))then
 some false
 else
 Option.bind (aC (jg x) FUEL (0)) fun o=>match o with
 | .ret v=>some v
 | .brk _=>
 some (bif (decide ((x.trip.length:Int)≤6))then(bif (decide ((x.trip.length:Int)=0))then true else(decide (x.kind=3)))else false)
def lQ (x:Link) (x1:Int) (x11:(List Source)) (x12:(List Link)) (x13:(List aN)):Option Bool:=
 (lC x x1 x11 x12 x13).bind fun r_=>
 some (!r_)
def gT (s_:(List Link)) (f_:Int) (f_1:(List Source)) (f_2:(List Link)) (f_3:(List aN)):Int→Option (bE Int (Ex Unit Int)):=
 fun t8=>
 bif (decide (t8<(s_.length:Int)))then
 (lQ (at' s_ t8.toNat) f_ f_1 f_2 f_3).bind fun r_=>
 dF ((0:Int)≤t8∧t8<(s_.length:Int)) (
 bif r_ then
 some (.done (.ret t8))
 else
 some (.next (IntKind.wrap .i64 (t8+1))))
 else
 some (.done (.brk ()))
def iY (s_:(List Link)) (f_:Int) (f_1:(List Source)) (f_2:(List Link)) (f_3:(List aN)):Option Int:=
 Option.bind (aC (gT s_ f_ f_1 f_2 f_3) FUEL (0)) fun o=>match o with
 | .ret v=>some v
 | .brk _=>
 some (-1)
def dQ (s_:(List Link)) (f_:Int) (f_1:(List Source)) (f_2:(List Link)) (f_3:(List aN)):Option Bool:=
 (iY s_ f_ f_1 f_2 f_3).bind fun r_=>
 some (decide (0≤r_))
def lg (l:(List Link)) (most:Int) (right:Int) (right1:(List Source)) (right2:(List Link)) (right3:(List aN)):Option Bool:=
 (bif gB [((decide ((l.length:Int)≤most)),true)]then dQ l right right1 right2 right3 else some default).bind fun r_=>
 some (bif (decide ((l.length:Int)≤most))then(!r_)else false)
def mG (x:aN):Option Int:=
 bif (decide (x.feeds.e1=(-1)))then
 some 1
 else
 some 2
def lD (x:aN) (x1:Int) (x11:(List Source)) (x12:(List Link)) (x13:(List aN)):Option Bool:=
 (aK x.feeds.e0 0 (IntKind.wrap .i64 (x1 - 1))).bind fun r_=>
 (bif gB [(r_,true)]then aK x.feeds.e1 (-1) (IntKind.wrap .i64 (x1 - 1))else some default).bind fun r_1=>
 (bif gB [((bif (bif r_ then r_1 else false)then(!decide (x.feeds.e0=x.feeds.e1))else false),true)]then aK x.power 1 100000 else some default).bind fun r_2=>
 (bif gB [((bif (bif (bif r_ then r_1 else false)then(!decide (x.feeds.e0=x.feeds.e1))else false)then r_2 else false),true)]then mG x else some default).bind fun r_3=>
 (bif gB [((bif (bif (bif r_ then r_1 else false)then(!decide (x.feeds.e0=x.feeds.e1))else false)then r_2 else false),true)]then aK x.paths 0 r_3 else some default).bind fun r_4=>
 some (bif (bif (bif (bif r_ then r_1 else false)then(!decide (x.feeds.e0=x.feeds.e1))else false)then r_2 else false)then r_4 else false)
def kS (x:aN) (x1:Int) (x11:(List Source)) (x12:(List Link)) (x13:(List aN)):Option Bool:=
 (lD x x1 x11 x12 x13).bind fun r_=>
 some (!r_)
def gN (s_:(List aN)) (f_:Int) (f_1:(List Source)) (f_2:(List Link)) (f_3:(List aN)):Int→Option (bE Int (Ex Unit Int)):=
 fun t8=>
 bif (decide (t8<(s_.length:Int)))then
 (kS (⟨((at' s_ t8.toNat).feeds),(at' s_ t8.toNat).power,(at' s_ t8.toNat).paths⟩:aN) f_ f_1 f_2 f_3).bind fun r_=>
 dF ((0:Int)≤t8∧t8<(s_.length:Int)) (
 bif r_ then
 some (.done (.ret t8))
 else
 some (.next (IntKind.wrap .i64 (t8+1))))
 else
 some (.done (.brk ()))
def ja (s_:(List aN)) (f_:Int) (f_1:(List Source)) (f_2:(List Link)) (f_3:(List aN)):Option Int:=
 Option.bind (aC (gN s_ f_ f_1 f_2 f_3) FUEL (0)) fun o=>match o with
 | .ret v=>some v
 | .brk _=>
 some (-1)
def dO (s_:(List aN)) (f_:Int) (f_1:(List Source)) (f_2:(List Link)) (f_3:(List aN)):Option Bool:=
 (ja s_ f_ f_1 f_2 f_3).bind fun r_=>
 some (decide (0≤r_))
def lu (l:(List aN)) (most:Int) (right:Int) (right1:(List Source)) (right2:(List Link)) (right3:(List aN)):Option Bool:=
 (bif gB [((decide ((l.length:Int)≤most)),true)]then dO l right right1 right2 right3 else some default).bind fun r_=>
 some (bif (decide ((l.length:Int)≤most))then(!r_)else false)
def eH (p:ai):Option Int:=
 (aK p.buses 1 24).bind fun r_=>
 bif (!r_)then
 some 10
 else
 (nW p).bind fun r_1=>
 (nH p.sources 8 r_1.1 r_1.2.1 r_1.2.2.1 r_1.2.2.2).bind fun r_2=>
 bif (!r_2)then
 some 11
 else
 (qB p).bind fun r_3=>
 (lg p.links 40 r_3.1 r_3.2.1 r_3.2.2.1 r_3.2.2.2).bind fun r_4=>
 bif (!r_4)then
 some 12
 else
 (qH p).bind fun r_5=>
 (lu p.racks 24 r_5.1 r_5.2.1 r_5.2.2.1 r_5.2.2.2).bind fun r_6=>
 bif (!r_6)then
 some 13
 else
 some 0
def fE (p:ai) (s_:State):Int→Option (bE Int (Ex Unit Int)):=
 fun t55=>
 bif (decide (t55<([(⟨s_.closed,(p.links.length:Int)⟩:bD),(⟨s_.locked,(p.links.length:Int)⟩:bD),(⟨s_.badLink,(p.links.length:Int)⟩:bD),(⟨s_.on_,(p.sources.length:Int)⟩:bD),(⟨s_.badSource,(p.sources.length:Int)⟩:bD),(⟨s_.earthed,p.buses⟩:bD),(⟨s_.badBus,p.buses⟩:bD)].length:Int)))then
 dF ((0:Int)≤t55∧t55<([(⟨s_.closed,(p.links.length:Int)⟩:bD),(⟨s_.locked,(p.links.length:Int)⟩:bD),(⟨s_.badLink,(p.links.length:Int)⟩:bD),(⟨s_.on_,(p.sources.length:Int)⟩:bD),(⟨s_.badSource,(p.sources.length:Int)⟩:bD),(⟨s_.earthed,p.buses⟩:bD),(⟨s_.badBus,p.buses⟩:bD)].length:Int)) (
 bif (!decide ((((at' [(⟨s_.closed,(p.links.length:Int)⟩:bD),(⟨s_.locked,(p.links.length:Int)⟩:bD),(⟨s_.badLink,(p.links.length:Int)⟩:bD),(⟨s_.on_,(p.sources.length:Int)⟩:bD),(⟨s_.badSource,(p.sources.length:Int)⟩:bD),(⟨s_.earthed,p.buses⟩:bD),(⟨s_.badBus,p.buses⟩:bD)] t55.toNat).l).length:Int)=((at' [(⟨s_.closed,(p.links.length:Int)⟩:bD),(⟨s_.locked,(p.links.length:Int)⟩:bD),(⟨s_.badLink,(p.links.length:Int)⟩:bD),(⟨s_.on_,(p.sources.length:Int)⟩:bD),(⟨s_.badSource,(p.sources.length:Int)⟩:bD),(⟨s_.earthed,p.buses⟩:bD),(⟨s_.badBus,p.buses⟩:bD)] t55.toNat).n)))then
 some (.done (.ret 9))
 else
 some (.next (IntKind.wrap .i64 (t55+1))))
 else
 some (.done (.brk ()))
def fG (p:ai) (s_:State):Int→Option (bE Int (Ex Unit Int)):=
 fun t69=>
 bif (decide (t69<(p.links.length:Int)))then
 dF ((0:Int)≤t69∧t69<(p.links.length:Int)) (
 dF ((gB [((decide (((at' p.links t69.toNat).kind)=1)),true)]=true→(0:Int)≤t69∧t69<(s_.closed.length:Int))∧(gB [((!(at' s_.closed t69.toNat)),false),((decide (((at' p.links t69.toNat).kind)=1)),true)]=true→(0:Int)≤t69∧t69<(s_.locked.length:Int))) (
 bif (bif (decide (((at' p.links t69.toNat).kind)=1))then(bif (!(at' s_.closed t69.toNat))then true else(at' s_.locked t69.toNat))else false)then
 some (.done (.ret 9))
 else
 some (.next (IntKind.wrap .i64 (t69+1)))))
 else
 some (.done (.brk ()))
def bA (p:ai) (s_:State):Option Int:=
 (eH p).bind fun r_=>
 bif (!decide (r_=0))then
 some r_
 else
 Option.bind (aC (fE p s_) FUEL (0)) fun o=>match o with
 | .ret v=>some v
 | .brk _=>
 Option.bind (aC (fG p s_) FUEL (0)) fun o=>match o with
 | .ret v=>some v
 | .brk _=>
 some 0
def iJ (p:ai) (s_:State):Option (Int × (List Source) × (List Link) × (List aN) × (List Bool) × (List Bool) × (List Bool) × (List Bool) × (List Bool) × (List Bool) × (List Bool)):=
 some (p.buses,p.sources,p.links,p.racks,s_.closed,s_.locked,s_.badLink,s_.on_,s_.badSource,s_.earthed,s_.badBus)
def dB (g:aF):Int→Option (bE Int (Ex Unit Int)):=
 fun x1=>
 bif (!((aM bB x1 g.head).isSome))then
 some (.done (.ret x1))
 else
 some (.next ((aM bB x1 g.head).getD 0))
def aS (g:aF) (x:Int):Option Int:=
 Option.bind (aC (dB g) FUEL (x)) fun o=>match o with
 | .ret v=>some v
 | .brk _=>none
def gY (g:aF) (a:Int) (b:Int):Option (List (Int × Int)):=
 (aS g a).bind fun r_=>
 (aS g b).bind fun r_1=>
 bif (!decide (r_=r_1))then
 some (dZ bB r_ r_1 g.head)
 else
 some g.head
def gq (x22:Int) (x221:Int) (x222:Int) (x223:Int) (x224:Int) (x225:(List bX)) (o_:aF):Option aF:=
 (gY o_ x22 x221).bind fun r_=>
 some (⟨r_⟩:aF)
def bT (x12:(List Link)) (x2:(List Bool)) (x22:(List Bool)) (x26:(List Bool)):((List (Int × Int)) × Int)→Option (bE ((List (Int × Int)) × Int) (Ex (List (Int × Int)) aF)):=
 fun zz=>match zz with
 |(o50,t9)=>
 bif (decide (t9<(x12.length:Int)))then
 dF ((0:Int)≤t9∧t9<(x12.length:Int)) (
 bif (bif (bif (bif (at' x2 t9.toNat)then(!(at' x22 t9.toNat))else false)then(!(at' x26 (((at' x12 t9.toNat).a).toNat)))else false)then(!(at' x26 (((at' x12 t9.toNat).b).toNat)))else false)then
 (gq ((at' x12 t9.toNat).a) ((at' x12 t9.toNat).b) ((at' x12 t9.toNat).kind) ((at' x12 t9.toNat).most) ((at' x12 t9.toNat).ohm) ((at' x12 t9.toNat).trip) (⟨o50⟩:aF)).bind fun r_=>
 dF (((0:Int)≤t9∧t9<(x2.length:Int))∧(gB [((at' x2 t9.toNat),true)]=true→(0:Int)≤t9∧t9<(x22.length:Int))∧(gB [((bif (at' x2 t9.toNat)then(!(at' x22 t9.toNat))else false),true)]=true→(0:Int)≤(at' x12 t9.toNat).a∧(at' x12 t9.toNat).a<(x26.length:Int))∧(gB [((bif (bif (at' x2 t9.toNat)then(!(at' x22 t9.toNat))else false)then(!(at' x26 (((at' x12 t9.toNat).a).toNat)))else false),true)]=true→(0:Int)≤(at' x12 t9.toNat).b∧(at' x12 t9.toNat).b<(x26.length:Int))) (
 some (.next (r_.head,(IntKind.wrap .i64 (t9+1)))))
 else
 dF (((0:Int)≤t9∧t9<(x2.length:Int))∧(gB [((at' x2 t9.toNat),true)]=true→(0:Int)≤t9∧t9<(x22.length:Int))∧(gB [((bif (at' x2 t9.toNat)then(!(at' x22 t9.toNat))else false),true)]=true→(0:Int)≤(at' x12 t9.toNat).a∧(at' x12 t9.toNat).a<(x26.length:Int))∧(gB [((bif (bif (at' x2 t9.toNat)then(!(at' x22 t9.toNat))else false)then(!(at' x26 (((at' x12 t9.toNat).a).toNat)))else false),true)]=true→(0:Int)≤(at' x12 t9.toNat).b∧(at' x12 t9.toNat).b<(x26.length:Int))) (
 some (.next (o50,(IntKind.wrap .i64 (t9+1))))))
 else
 some (.done (.brk o50))
def jw (x1:Int) (x11:(List Source)) (x12:(List Link)) (x13:(List aN)) (x2:(List Bool)) (x21:(List Bool)) (x22:(List Bool)) (x23:(List Bool)) (x24:(List Bool)) (x25:(List Bool)) (x26:(List Bool)) (o_:aF):Option aF:=
 Option.bind (aC (bT x12 x2 x22 x26) FUEL (o_.head,0)) fun o=>match o with
 | .ret v=>some v
 | .brk o501=>
 some (⟨o501⟩:aF)
def aU (p:ai) (s_:State) (r_1:aF):((List af) × (List (Int × Int)) × Int)→Option (bE ((List af) × (List (Int × Int)) × Int) (Ex ((List af) × (List (Int × Int))) (List af))):=
 fun zz=>match zz with
 |(out,at_,t32)=>
 bif (decide (t32<p.buses))then
 dF ((0:Int)≤t32∧t32<(s_.badBus.length:Int)) (
 bif (at' s_.badBus t32.toNat)then
 some (.next (out,at_,(IntKind.wrap .i64 (t32+1))))
 else
 (aS r_1 t32).bind fun r_2=>
 bif (!((aM bB r_2 at_).isSome))then
 dF (((out.length+[(⟨([]:List Int),([]:List Int)⟩:af)].length)*48≤140737488355328)∧(out.length+[(⟨([]:List Int),([]:List Int)⟩:af)].length≤4611686018427387904)) (
 dF (((0:Int)≤((aM bB r_2 (dZ bB r_2 (out.length:Int) at_)).getD 0)∧((aM bB r_2 (dZ bB r_2 (out.length:Int) at_)).getD 0)<((out++[(⟨([]:List Int),([]:List Int)⟩:af)]).length:Int))∧((((at' (out++[(⟨([]:List Int),([]:List Int)⟩:af)]) (((aM bB r_2 (dZ bB r_2 (out.length:Int) at_)).getD 0).toNat)).buses).length+[t32].length)*8≤140737488355328)∧(((at' (out++[(⟨([]:List Int),([]:List Int)⟩:af)]) (((aM bB r_2 (dZ bB r_2 (out.length:Int) at_)).getD 0).toNat)).buses).length+[t32].length≤4611686018427387904)) (
 some (.next (((out++[(⟨([]:List Int),([]:List Int)⟩:af)]).set (((aM bB r_2 (dZ bB r_2 (out.length:Int) at_)).getD 0).toNat) (⟨(((at' (out++[(⟨([]:List Int),([]:List Int)⟩:af)]) (((aM bB r_2 (dZ bB r_2 (out.length:Int) at_)).getD 0).toNat)).buses)++[t32]),(at' (out++[(⟨([]:List Int),([]:List Int)⟩:af)]) (((aM bB r_2 (dZ bB r_2 (out.length:Int) at_)).getD 0).toNat)).sources⟩:af)),(dZ bB r_2 (out.length:Int) at_),(IntKind.wrap .i64 (t32+1))))))
 else
 dF (((0:Int)≤((aM bB r_2 at_).getD 0)∧((aM bB r_2 at_).getD 0)<(out.length:Int))∧((((at' out (((aM bB r_2 at_).getD 0).toNat)).buses).length+[t32].length)*8≤140737488355328)∧(((at' out (((aM bB r_2 at_).getD 0).toNat)).buses).length+[t32].length≤4611686018427387904)) (
 some (.next ((out.set (((aM bB r_2 at_).getD 0).toNat) (⟨(((at' out (((aM bB r_2 at_).getD 0).toNat)).buses)++[t32]),(at' out (((aM bB r_2 at_).getD 0).toNat)).sources⟩:af)),at_,(IntKind.wrap .i64 (t32+1))))))
 else
 some (.done (.brk (out,at_)))
def aV (p:ai) (s_:State) (r_1:aF) (at_1:(List (Int × Int))):((List af) × Int)→Option (bE ((List af) × Int) (Ex (List af) (List af))):=
 fun zz=>match zz with
 |(out2,t78)=>
 bif (decide (t78<(p.sources.length:Int)))then
 dF ((0:Int)≤t78∧t78<(p.sources.length:Int)) (
 dF (((0:Int)≤t78∧t78<(s_.on_.length:Int))∧(gB [((at' s_.on_ t78.toNat),true)]=true→(0:Int)≤t78∧t78<(s_.badSource.length:Int))∧(gB [((bif (at' s_.on_ t78.toNat)then(!(at' s_.badSource t78.toNat))else false),true)]=true→(0:Int)≤(at' p.sources t78.toNat).bus∧(at' p.sources t78.toNat).bus<(s_.badBus.length:Int))) (
 bif (bif (bif (at' s_.on_ t78.toNat)then(!(at' s_.badSource t78.toNat))else false)then(!(at' s_.badBus (((at' p.sources t78.toNat).bus).toNat)))else false)then
 (aS r_1 ((at' p.sources t78.toNat).bus)).bind fun r_3=>
 dF (((0:Int)≤((aM bB r_3 at_1).getD 0)∧((aM bB r_3 at_1).getD 0)<(out2.length:Int))∧((((at' out2 (((aM bB r_3 at_1).getD 0).toNat)).sources).length+[t78].length)*8≤140737488355328)∧(((at' out2 (((aM bB r_3 at_1).getD 0).toNat)).sources).length+[t78].length≤4611686018427387904)) (
 some (.next ((out2.set (((aM bB r_3 at_1).getD 0).toNat) (⟨(at' out2 (((aM bB r_3 at_1).getD 0).toNat)).buses,(((at' out2 (((aM bB r_3 at_1).getD 0).toNat)).sources)++[t78])⟩:af)),(IntKind.wrap .i64 (t78+1)))))
 else
 some (.next (out2,(IntKind.wrap .i64 (t78+1))))))
 else
 some (.done (.brk out2))
def dh (p:ai) (s_:State):Option (List af):=
 (iJ p s_).bind fun r_=>
 (jw r_.1 r_.2.1 r_.2.2.1 r_.2.2.2.1 r_.2.2.2.2.1 r_.2.2.2.2.2.1 r_.2.2.2.2.2.2.1 r_.2.2.2.2.2.2.2.1 r_.2.2.2.2.2.2.2.2.1 r_.2.2.2.2.2.2.2.2.2.1 r_.2.2.2.2.2.2.2.2.2.2 (⟨([]:(List (Int × Int)))⟩:aF)).bind fun r_1=>
 Option.bind (aC (aU p s_ r_1) FUEL (([]:List af),([]:(List (Int × Int))),0)) fun o=>match o with
 | .ret v=>some v
 | .brk (out1,at_1)=>
 Option.bind (aC (aV p s_ r_1 at_1) FUEL (out1,0)) fun o=>match o with
 | .ret v=>some v
 | .brk out3=>
 some out3
def fM (p:ai) (s_:State):Option ((List af) × Int):=
 (bA p s_).bind fun r_=>
 bif (!decide (r_=0))then
 some (([]:List af),r_)
 else
 (dh p s_).bind fun r_1=>
 some (r_1,0)
def jm (a:(List Int)) (b:(List Int)):Int→Option (bE Int (Ex Unit Bool)):=
 fun i=>
 bif (decide (i<(a.length:Int)))then
 dF (((0:Int)≤i∧i<(a.length:Int))∧((0:Int)≤i∧i<(b.length:Int))) (
 bif (!decide ((at' a i.toNat)=(at' b i.toNat)))then
 some (.done (.ret false))
 else
 some (.next (IntKind.wrap .i64 (i+1))))
 else
 some (.done (.brk ()))
def jv (a:(List Int)) (b:(List Int)):Option Bool:=
 bif (!decide ((a.length:Int)=(b.length:Int)))then
 some false
 else
 Option.bind (aC (jm a b) FUEL (0)) fun o=>match o with
 | .ret v=>some v
 | .brk _=>
 some true
def eB (a:(List af)) (b:(List af)):Int→Option (bE Int (Ex Unit Bool)):=
 fun i=>
 bif (decide (i<(a.length:Int)))then
 (jv ((at' a i.toNat).buses) ((at' b i.toNat).buses)).bind fun r_=>
 (bif gB [((!r_),false)]then jv ((at' a i.toNat).sources) ((at' b i.toNat).sources)else some default).bind fun r_1=>
 dF (((0:Int)≤i∧i<(a.length:Int))∧((0:Int)≤i∧i<(b.length:Int))∧(gB [((!r_),false)]=true→(0:Int)≤i∧i<(a.length:Int))∧(gB [((!r_),false)]=true→(0:Int)≤i∧i<(b.length:Int))) (
 bif (bif (!r_)then true else(!r_1))then
 some (.done (.ret false))
 else
 some (.next (IntKind.wrap .i64 (i+1))))
 else
 some (.done (.brk ()))
def dG (a:(List af)) (b:(List af)):Option Bool:=
 bif (!decide ((a.length:Int)=(b.length:Int)))then
 some false
 else
 Option.bind (aC (eB a b) FUEL (0)) fun o=>match o with
 | .ret v=>some v
 | .brk _=>
 some true
def iW (r_1:(List af)) (t25:Int):((List Bool) × Int)→Option (bE ((List Bool) × Int) (Ex (List Bool) (bE ((List Bool) × Int) (Ex (List Bool) ((List Bool) × Int))))):=
 fun zz=>match zz with
 |(out2,t32)=>
 bif (decide (t32<(((at' r_1 t25.toNat).buses).length:Int)))then
 dF ((0:Int)≤t32∧t32<(((at' r_1 t25.toNat).buses).length:Int)) (
 dF ((0:Int)≤(at' ((at' r_1 t25.toNat).buses) t32.toNat)∧(at' ((at' r_1 t25.toNat).buses) t32.toNat)<(out2.length:Int)) (
 some (.next ((out2.set ((at' ((at' r_1 t25.toNat).buses) t32.toNat).toNat) (decide (0<(((at' r_1 t25.toNat).sources).length:Int)))),(IntKind.wrap .i64 (t32+1))))))
 else
 some (.done (.brk out2))
def iU (r_1:(List af)):((List Bool) × Int)→Option (bE ((List Bool) × Int) (Ex (List Bool) ((List Bool) × Int))):=
 fun zz=>match zz with
 |(out,t25)=>
 bif (decide (t25<(r_1.length:Int)))then
 dF ((0:Int)≤t25∧t25<(r_1.length:Int)) (
 Option.bind (aC (iW r_1 t25) FUEL (out,0)) fun o=>match o with
 | .ret v=>some v
 | .brk out3=>
 some (.next (out3,(IntKind.wrap .i64 (t25+1)))))
 else
 some (.done (.brk out))
def dR (p:ai) (s_:State):Option ((List Bool) × Int):=
 (bA p s_).bind fun r_=>
 bif (!decide (r_=0))then
 some (([]:List Bool),r_)
 else
 dF (((0:Int)≤p.buses)∧((1:Int)*p.buses≤281474976710656)∧((p.buses:Int)≤9223372036854775807)) (
 (dh p s_).bind fun r_1=>
 Option.bind (aC (iU r_1) FUEL ((List.replicate p.buses.toNat (false:Bool)),0)) fun o=>match o with
 | .ret v=>some v
 | .brk out1=>
 some (out1,0))
def iw (p:ai) (r_:((List Bool) × Int)):((List av) × Int)→Option (bE ((List av) × Int) (Ex (List av) ((List av) × Int))):=
 fun zz=>match zz with
 |(out,t26)=>
 bif (decide (t26<(p.racks.length:Int)))then
 dF ((0:Int)≤t26∧t26<(p.racks.length:Int)) (
 dF (gB [((decide (0≤(((at' p.racks t26.toNat).feeds).e0))),true)]=true→(0:Int)≤((at' p.racks t26.toNat).feeds).e0∧((at' p.racks t26.toNat).feeds).e0<(r_.1.length:Int)) (
 dF (gB [((decide (0≤(((at' p.racks t26.toNat).feeds).e1))),true)]=true→(0:Int)≤((at' p.racks t26.toNat).feeds).e1∧((at' p.racks t26.toNat).feeds).e1<(r_.1.length:Int)) (
 dF (((out.length+[(⟨(bif (decide (0≤(((at' p.racks t26.toNat).feeds).e0)))then(at' r_.1 ((((at' p.racks t26.toNat).feeds).e0).toNat))else false),(bif (decide (0≤(((at' p.racks t26.toNat).feeds).e1)))then(at' r_.1 ((((at' p.racks t26.toNat).feeds).e1).toNat))else false)⟩:av)].length)*2≤140737488355328)∧(out.length+[(⟨(bif (decide (0≤(((at' p.racks t26.toNat).feeds).e0)))then(at' r_.1 ((((at' p.racks t26.toNat).feeds).e0).toNat))else false),(bif (decide (0≤(((at' p.racks t26.toNat).feeds).e1)))then(at' r_.1 ((((at' p.racks t26.toNat).feeds).e1).toNat))else false)⟩:av)].length≤4611686018427387904)) (
 some (.next ((out++[(⟨(bif (decide (0≤(((at' p.racks t26.toNat).feeds).e0)))then(at' r_.1 ((((at' p.racks t26.toNat).feeds).e0).toNat))else false),(bif (decide (0≤(((at' p.racks t26.toNat).feeds).e1)))then(at' r_.1 ((((at' p.racks t26.toNat).feeds).e1).toNat))else false)⟩:av)]),(IntKind.wrap .i64 (t26+1))))))))
 else
 some (.done (.brk out))
def jC (p:ai) (s_:State):Option ((List av) × Int):=
 (dR p s_).bind fun r_=>
 bif (!decide (r_.2=0))then
 some (([]:List av),r_.2)
 else
 Option.bind (aC (iw p r_) FUEL (([]:List av),0)) fun o=>match o with
 | .ret v=>some v
 | .brk out1=>
 some (out1,0)
def aL (x y:ah):Int:=if x.e0<y.e0 then -1 else if y.e0<x.e0 then 1 else if x.e1<y.e1 then -1 else if y.e1<x.e1 then 1 else 0
def gG (s:(List ah)):Option (List ah):=match s with
 |[]=>some []
 |x::xs=>bif decide ((x::xs).length<4611686018427387904)then some ((x::xs).mergeSort fun x y=> !decide (aL y x<0))else none
def iO (p:ai) (r_1:(List af)) (t24:Int) (t31:Int):((List ah) × Int)→Option (bE ((List ah) × Int) (Ex (List ah) (bE ((List ah) × Int) (Ex (List ah) (bE ((List ah) × Int) (Ex (List ah) ((List ah) × Int))))))):=
 fun zz=>match zz with
 |(out4,t42)=>
 bif (decide (t42<(((((at' r_1 t24.toNat).sources).length - ((IntKind.wrap .i64 (t31+1)).toNat)):Nat):Int)))then
 dF ((0:Int)≤t42∧t42<((((at' r_1 t24.toNat).sources).drop ((IntKind.wrap .i64 (t31+1)).toNat)).length:Int)) (
 dF (((0:Int)≤(at' ((at' r_1 t24.toNat).sources) t31.toNat)∧(at' ((at' r_1 t24.toNat).sources) t31.toNat)<(p.sources.length:Int))∧(gB [((decide (((at' p.sources ((at' ((at' r_1 t24.toNat).sources) t31.toNat).toNat)).sync)=0)),false)]=true→(0:Int)≤(at' ((at' r_1 t24.toNat).sources) t31.toNat)∧(at' ((at' r_1 t24.toNat).sources) t31.toNat)<(p.sources.length:Int))∧(gB [((decide (((at' p.sources ((at' ((at' r_1 t24.toNat).sources) t31.toNat).toNat)).sync)=0)),false)]=true→(0:Int)≤(at' (((at' r_1 t24.toNat).sources).drop ((IntKind.wrap .i64 (t31+1)).toNat)) t42.toNat)∧(at' (((at' r_1 t24.toNat).sources).drop ((IntKind.wrap .i64 (t31+1)).toNat)) t42.toNat)<(p.sources.length:Int))) (
 bif (bif (decide (((at' p.sources ((at' ((at' r_1 t24.toNat).sources) t31.toNat).toNat)).sync)=0))then true else(!decide (((at' p.sources ((at' ((at' r_1 t24.toNat).sources) t31.toNat).toNat)).sync)=((at' p.sources ((at' (((at' r_1 t24.toNat).sources).drop ((IntKind.wrap .i64 (t31+1)).toNat)) t42.toNat).toNat)).sync))))then
 dF (((out4.length+[(⟨(at' ((at' r_1 t24.toNat).sources) t31.toNat),(at' (((at' r_1 t24.toNat).sources).drop ((IntKind.wrap .i64 (t31+1)).toNat)) t42.toNat)⟩:ah)].length)*16≤140737488355328)∧(out4.length+[(⟨(at' ((at' r_1 t24.toNat).sources) t31.toNat),(at' (((at' r_1 t24.toNat).sources).drop ((IntKind.wrap .i64 (t31+1)).toNat)) t42.toNat)⟩:ah)].length≤4611686018427387904)) (
 some (.next ((out4++[(⟨(at' ((at' r_1 t24.toNat).sources) t31.toNat),(at' (((at' r_1 t24.toNat).sources).drop ((IntKind.wrap .i64 (t31+1)).toNat)) t42.toNat)⟩:ah)]),(IntKind.wrap .i64 (t42+1)))))
 else
 some (.next (out4,(IntKind.wrap .i64 (t42+1))))))
 else
 some (.done (.brk out4))
def iH (p:ai) (r_1:(List af)) (t24:Int):((List ah) × Int)→Option (bE ((List ah) × Int) (Ex (List ah) (bE ((List ah) × Int) (Ex (List ah) ((List ah) × Int))))):=
 fun zz=>match zz with
 |(out2,t31)=>
 bif (decide (t31<(((at' r_1 t24.toNat).sources).length:Int)))then
 dF ((0:Int)≤t31∧t31<(((at' r_1 t24.toNat).sources).length:Int)) (
 dF ((0:Int)≤(IntKind.wrap .i64 (t31+1))∧(IntKind.wrap .i64 (t31+1))≤(((at' r_1 t24.toNat).sources).length:Int)) (
 Option.bind (aC (iO p r_1 t24 t31) FUEL (out2,0)) fun o=>match o with
 | .ret v=>some v
 | .brk out5=>
 some (.next (out5,(IntKind.wrap .i64 (t31+1))))))
 else
 some (.done (.brk out2))
def fA (p:ai) (r_1:(List af)):((List ah) × Int)→Option (bE ((List ah) × Int) (Ex (List ah) ((List ah) × Int))):=
 fun zz=>match zz with
 |(out,t24)=>
 bif (decide (t24<(r_1.length:Int)))then
 dF ((0:Int)≤t24∧t24<(r_1.length:Int)) (
 Option.bind (aC (iH p r_1 t24) FUEL (out,0)) fun o=>match o with
 | .ret v=>some v
 | .brk out3=>
 some (.next (out3,(IntKind.wrap .i64 (t24+1)))))
 else
 some (.done (.brk out))
def dV (p:ai) (s_:State):Option ((List ah) × Int):=
 (bA p s_).bind fun r_=>
 bif (!decide (r_=0))then
 some (([]:List ah),r_)
 else
 (dh p s_).bind fun r_1=>
 Option.bind (aC (fA p r_1) FUEL (([]:List ah),0)) fun o=>match o with
 | .ret v=>some v
 | .brk out1=>
 (gG out1).bind fun r_2=>
 dF (out1.length=r_2.length) (
 some (r_2,0))
def gD (a:(List ah)) (b:(List ah)):Int→Option (bE Int (Ex Unit Bool)):=
 fun i=>
 bif (decide (i<(a.length:Int)))then
 dF (((0:Int)≤i∧i<(a.length:Int))∧((0:Int)≤i∧i<(b.length:Int))) (
 bif (!((decide (((at' a i.toNat).e0)=((at' b i.toNat).e0))) && ((decide (((at' a i.toNat).e1)=((at' b i.toNat).e1))) && true)))then
 some (.done (.ret false))
 else
 some (.next (IntKind.wrap .i64 (i+1))))
 else
 some (.done (.brk ()))
def gm (a:(List ah)) (b:(List ah)):Option Bool:=
 bif (!decide ((a.length:Int)=(b.length:Int)))then
 some false
 else
 Option.bind (aC (gD a b) FUEL (0)) fun o=>match o with
 | .ret v=>some v
 | .brk _=>
 some true
def cK (n:Int):Option (List Bool):=
 dF (((0:Int)≤n)∧((1:Int)*n≤281474976710656)∧((n:Int)≤9223372036854775807)) (
 some (List.replicate n.toNat (false:Bool)))
def wo (p:ai):((List Bool) × Int)→Option (bE ((List Bool) × Int) (Ex (List Bool) (State × Int))):=
 fun zz=>match zz with
 |(s0,t50)=>
 bif (decide (t50<(p.links.length:Int)))then
 dF ((0:Int)≤t50∧t50<(p.links.length:Int)) (
 dF ((0:Int)≤t50∧t50<(s0.length:Int)) (
 some (.next ((s0.set t50.toNat (decide (((at' p.links t50.toNat).kind)=1))),(IntKind.wrap .i64 (t50+1))))))
 else
 some (.done (.brk s0))
def qX (p:ai):Option (State × Int):=
 (eH p).bind fun r_=>
 bif (!decide (r_=0))then
 some ((⟨([]:List Bool),([]:List Bool),([]:List Bool),([]:List Bool),([]:List Bool),([]:List Bool),([]:List Bool)⟩:State),r_)
 else
 (cK (p.links.length:Int)).bind fun r_1=>
 (cK (p.links.length:Int)).bind fun r_2=>
 (cK (p.links.length:Int)).bind fun r_3=>
 (cK (p.sources.length:Int)).bind fun r_4=>
 (cK (p.sources.length:Int)).bind fun r_5=>
 (cK p.buses).bind fun r_6=>
 (cK p.buses).bind fun r_7=>
 Option.bind (aC (wo p) FUEL (r_1,0)) fun o=>match o with
 | .ret v=>some v
 | .brk s01=>
 some ((⟨s01,r_2,r_3,r_4,r_5,r_6,r_7⟩:State),0)
def sU (s_:(List Bool)) (s_nn:Bool):Option (List Bool):=
 bif (!s_nn)then
 some ([]:List Bool)
 else
 dF (((([]:List Bool).length+s_.length)*1≤140737488355328)∧(([]:List Bool).length+s_.length≤4611686018427387904)) (
 some (([]:List Bool)++s_))
def dD (s:(List Bool)):Option (List Bool):=sU s true
def rW (s_:State):Option State:=
 dF ((0:Int)≤0∧0<(7:Int)) (
 (dD s_.closed).bind fun r_=>
 dF ((0:Int)≤1∧1<(7:Int)) (
 (dD s_.locked).bind fun r_1=>
 dF ((0:Int)≤2∧2<(7:Int)) (
 (dD s_.badLink).bind fun r_2=>
 dF ((0:Int)≤3∧3<(7:Int)) (
 (dD s_.on_).bind fun r_3=>
 dF ((0:Int)≤4∧4<(7:Int)) (
 (dD s_.badSource).bind fun r_4=>
 dF ((0:Int)≤5∧5<(7:Int)) (
 (dD s_.earthed).bind fun r_5=>
 dF ((0:Int)≤6∧6<(7:Int)) (
 (dD s_.badBus).bind fun r_6=>
 some (⟨r_,r_1,r_2,r_3,r_4,r_5,r_6⟩:State))))))))
def tH (p:ai) (s_:State) (x:Part) (is:Bool):Option (State × Int):=
 (bA p s_).bind fun r_=>
 bif (!decide (r_=0))then
 some ((⟨([]:List Bool),([]:List Bool),([]:List Bool),([]:List Bool),([]:List Bool),([]:List Bool),([]:List Bool)⟩:State),r_)
 else
 (rW s_).bind fun r_1=>
 bif (bB x.kind 1)then
 (aK x.index 0 (IntKind.wrap .i64 ((r_1.badBus.length:Int) - 1))).bind fun r_2=>
 bif (!r_2)then
 some ((⟨([]:List Bool),([]:List Bool),([]:List Bool),([]:List Bool),([]:List Bool),([]:List Bool),([]:List Bool)⟩:State),14)
 else
 dF ((0:Int)≤x.index∧x.index<(r_1.badBus.length:Int)) (
 some ((⟨r_1.closed,r_1.locked,r_1.badLink,r_1.on_,r_1.badSource,r_1.earthed,(r_1.badBus.set x.index.toNat is)⟩:State),0))
 else
 bif (bB x.kind 2)then
 (aK x.index 0 (IntKind.wrap .i64 ((r_1.badSource.length:Int) - 1))).bind fun r_3=>
 bif (!r_3)then
 some ((⟨([]:List Bool),([]:List Bool),([]:List Bool),([]:List Bool),([]:List Bool),([]:List Bool),([]:List Bool)⟩:State),14)
 else
 dF ((0:Int)≤x.index∧x.index<(r_1.badSource.length:Int)) (
 some ((⟨r_1.closed,r_1.locked,r_1.badLink,r_1.on_,(r_1.badSource.set x.index.toNat is),r_1.earthed,r_1.badBus⟩:State),0))
 else
 bif (bB x.kind 3)then
 (aK x.index 0 (IntKind.wrap .i64 ((r_1.badLink.length:Int) - 1))).bind fun r_4=>
 bif (!r_4)then
 some ((⟨([]:List Bool),([]:List Bool),([]:List Bool),([]:List Bool),([]:List Bool),([]:List Bool),([]:List Bool)⟩:State),14)
 else
 dF ((0:Int)≤x.index∧x.index<(r_1.badLink.length:Int)) (
 some ((⟨r_1.closed,r_1.locked,(r_1.badLink.set x.index.toNat is),r_1.on_,r_1.badSource,r_1.earthed,r_1.badBus⟩:State),0))
 else
 (aK x.index 0 (-1)).bind fun r_5=>
 bif (!r_5)then
 some ((⟨([]:List Bool),([]:List Bool),([]:List Bool),([]:List Bool),([]:List Bool),([]:List Bool),([]:List Bool)⟩:State),14)
 else
 none
def o7 (p:ai) (s_:State) (x:Part):Option (State × Int):=
 (tH p s_ x true).bind fun r_=>
 some (r_.1,r_.2)
def qO:Option ai:=
 some (⟨3,[(⟨0,1,500,0,20⟩:Source),(⟨2,2,300,0,40⟩:Source)],[(⟨0,1,3,400,10,[(⟨1000,400⟩:bX),(⟨5000,50⟩:bX)]⟩:Link),(⟨1,2,3,400,10,([]:List bX)⟩:Link)],[(⟨(⟨1,(-1)⟩:ah),100,1⟩:aN)]⟩:ai)
def Sr:DV→Int
 | .int _ n=>n
 |_=>0
def fmtS (p:ai) (i j:Nat):Int:=Sr (Source.cell (at' p.sources i) j)
def OG (p:ai) (i j:Nat):Int:=Sr (Link.cell (at' p.links i) j)
def PD (p:ai) (i:Nat):Nat:=(at' p.links i).trip.length
def O9 (p:ai) (i j:Nat):Int:=Sr (aN.cell (at' p.racks i) j)
def Pv (p:ai) (i g j:Nat):Int:=Sr (bX.cell (at' (at' p.links i).trip g) j)
def Q7 (p:ai):List UInt8:=Md p.buses p.sources.length p.links.length p.racks.length (fmtS p) (OG p) (O9 p) (PD p) (Pv p)
def nY (p:ai):Option (ByteArray × Int):=
 (eH p).bind fun c=>bif decide (c=0)then(bif fmtG p.buses p.sources.length p.links.length p.racks.length (fmtS p) (OG p) (O9 p) (PD p) (Pv p)then some (sb (Q7 p),0)else none)else none
def lU (p:ai) (s_:State):Option (Int × (List Source) × (List Link) × (List aN) × State):=
 some (p.buses,p.sources,p.links,p.racks,s_)
def nX (x12:(List Link)) (state:State):((List (Int × Int)) × Int)→Option (bE ((List (Int × Int)) × Int) (Ex (List (Int × Int)) aF)):=
 fun zz=>match zz with
 |(o50,t9)=>
 bif (decide (t9<(x12.length:Int)))then
 dF ((0:Int)≤t9∧t9<(x12.length:Int)) (
 bif (bif (bif (bif (at' state.closed t9.toNat)then(!(at' state.badLink t9.toNat))else false)then(!(at' state.badBus (((at' x12 t9.toNat).a).toNat)))else false)then(!(at' state.badBus (((at' x12 t9.toNat).b).toNat)))else false)then
 (gq ((at' x12 t9.toNat).a) ((at' x12 t9.toNat).b) ((at' x12 t9.toNat).kind) ((at' x12 t9.toNat).most) ((at' x12 t9.toNat).ohm) ((at' x12 t9.toNat).trip) (⟨o50⟩:aF)).bind fun r_=>
 dF (((0:Int)≤t9∧t9<(state.closed.length:Int))∧(gB [((at' state.closed t9.toNat),true)]=true→(0:Int)≤t9∧t9<(state.badLink.length:Int))∧(gB [((bif (at' state.closed t9.toNat)then(!(at' state.badLink t9.toNat))else false),true)]=true→(0:Int)≤(at' x12 t9.toNat).a∧(at' x12 t9.toNat).a<(state.badBus.length:Int))∧(gB [((bif (bif (at' state.closed t9.toNat)then(!(at' state.badLink t9.toNat))else false)then(!(at' state.badBus (((at' x12 t9.toNat).a).toNat)))else false),true)]=true→(0:Int)≤(at' x12 t9.toNat).b∧(at' x12 t9.toNat).b<(state.badBus.length:Int))) (
 some (.next (r_.head,(IntKind.wrap .i64 (t9+1)))))
 else
 dF (((0:Int)≤t9∧t9<(state.closed.length:Int))∧(gB [((at' state.closed t9.toNat),true)]=true→(0:Int)≤t9∧t9<(state.badLink.length:Int))∧(gB [((bif (at' state.closed t9.toNat)then(!(at' state.badLink t9.toNat))else false),true)]=true→(0:Int)≤(at' x12 t9.toNat).a∧(at' x12 t9.toNat).a<(state.badBus.length:Int))∧(gB [((bif (bif (at' state.closed t9.toNat)then(!(at' state.badLink t9.toNat))else false)then(!(at' state.badBus (((at' x12 t9.toNat).a).toNat)))else false),true)]=true→(0:Int)≤(at' x12 t9.toNat).b∧(at' x12 t9.toNat).b<(state.badBus.length:Int))) (
 some (.next (o50,(IntKind.wrap .i64 (t9+1))))))
 else
 some (.done (.brk o50))
def kL (x1:Int) (x11:(List Source)) (x12:(List Link)) (x13:(List aN)) (state:State) (o_:aF):Option aF:=
 Option.bind (aC (nX x12 state) FUEL (o_.head,0)) fun o=>match o with
 | .ret v=>some v
 | .brk o501=>
 some (⟨o501⟩:aF)
def q9 (p:ai) (s_:State) (r_1:aF):((List af) × (List (Int × Int)) × Int)→Option (bE ((List af) × (List (Int × Int)) × Int) (Ex ((List af) × (List (Int × Int))) (List af))):=
 fun zz=>match zz with
 |(out,at_,t32)=>
 bif (decide (t32<p.buses))then
 dF ((0:Int)≤t32∧t32<(s_.badBus.length:Int)) (
 bif (at' s_.badBus t32.toNat)then
 some (.next (out,at_,(IntKind.wrap .i64 (t32+1))))
 else
 (aS r_1 t32).bind fun r_2=>
 bif (!((aM bB r_2 at_).isSome))then
 dF (((out.length+[(⟨([]:List Int),([]:List Int)⟩:af)].length)*48≤140737488355328)∧(out.length+[(⟨([]:List Int),([]:List Int)⟩:af)].length≤4611686018427387904)) (
 dF (((0:Int)≤((aM bB r_2 (dZ bB r_2 (out.length:Int) at_)).getD 0)∧((aM bB r_2 (dZ bB r_2 (out.length:Int) at_)).getD 0)<((out++[(⟨([]:List Int),([]:List Int)⟩:af)]).length:Int))∧((((at' (out++[(⟨([]:List Int),([]:List Int)⟩:af)]) (((aM bB r_2 (dZ bB r_2 (out.length:Int) at_)).getD 0).toNat)).buses).length+[t32].length)*8≤140737488355328)∧(((at' (out++[(⟨([]:List Int),([]:List Int)⟩:af)]) (((aM bB r_2 (dZ bB r_2 (out.length:Int) at_)).getD 0).toNat)).buses).length+[t32].length≤4611686018427387904)) (
 some (.next (((out++[(⟨([]:List Int),([]:List Int)⟩:af)]).set (((aM bB r_2 (dZ bB r_2 (out.length:Int) at_)).getD 0).toNat) (⟨(((at' (out++[(⟨([]:List Int),([]:List Int)⟩:af)]) (((aM bB r_2 (dZ bB r_2 (out.length:Int) at_)).getD 0).toNat)).buses)++[t32]),(at' (out++[(⟨([]:List Int),([]:List Int)⟩:af)]) (((aM bB r_2 (dZ bB r_2 (out.length:Int) at_)).getD 0).toNat)).sources⟩:af)),(dZ bB r_2 (out.length:Int) at_),(IntKind.wrap .i64 (t32+1))))))
 else
 dF (((0:Int)≤((aM bB r_2 at_).getD 0)∧((aM bB r_2 at_).getD 0)<(out.length:Int))∧((((at' out (((aM bB r_2 at_).getD 0).toNat)).buses).length+[t32].length)*8≤140737488355328)∧(((at' out (((aM bB r_2 at_).getD 0).toNat)).buses).length+[t32].length≤4611686018427387904)) (
 some (.next ((out.set (((aM bB r_2 at_).getD 0).toNat) (⟨(((at' out (((aM bB r_2 at_).getD 0).toNat)).buses)++[t32]),(at' out (((aM bB r_2 at_).getD 0).toNat)).sources⟩:af)),at_,(IntKind.wrap .i64 (t32+1))))))
 else
 some (.done (.brk (out,at_)))
def rO (p:ai) (s_:State) (r_1:aF) (at_1:(List (Int × Int))):((List af) × Int)→Option (bE ((List af) × Int) (Ex (List af) (List af))):=
 fun zz=>match zz with
 |(out2,t78)=>
 bif (decide (t78<(p.sources.length:Int)))then
 dF ((0:Int)≤t78∧t78<(p.sources.length:Int)) (
 dF (((0:Int)≤t78∧t78<(s_.on_.length:Int))∧(gB [((at' s_.on_ t78.toNat),true)]=true→(0:Int)≤t78∧t78<(s_.badSource.length:Int))∧(gB [((bif (at' s_.on_ t78.toNat)then(!(at' s_.badSource t78.toNat))else false),true)]=true→(0:Int)≤(at' p.sources t78.toNat).bus∧(at' p.sources t78.toNat).bus<(s_.badBus.length:Int))) (
 bif (bif (bif (at' s_.on_ t78.toNat)then(!(at' s_.badSource t78.toNat))else false)then(!(at' s_.badBus (((at' p.sources t78.toNat).bus).toNat)))else false)then
 (aS r_1 ((at' p.sources t78.toNat).bus)).bind fun r_3=>
 dF (((0:Int)≤((aM bB r_3 at_1).getD 0)∧((aM bB r_3 at_1).getD 0)<(out2.length:Int))∧((((at' out2 (((aM bB r_3 at_1).getD 0).toNat)).sources).length+[t78].length)*8≤140737488355328)∧(((at' out2 (((aM bB r_3 at_1).getD 0).toNat)).sources).length+[t78].length≤4611686018427387904)) (
 some (.next ((out2.set (((aM bB r_3 at_1).getD 0).toNat) (⟨(at' out2 (((aM bB r_3 at_1).getD 0).toNat)).buses,(((at' out2 (((aM bB r_3 at_1).getD 0).toNat)).sources)++[t78])⟩:af)),(IntKind.wrap .i64 (t78+1)))))
 else
 some (.next (out2,(IntKind.wrap .i64 (t78+1))))))
 else
 some (.done (.brk out2))
def iN (p:ai) (s_:State):Option (List af):=
 (lU p s_).bind fun r_=>
 (kL r_.1 r_.2.1 r_.2.2.1 r_.2.2.2.1 s_ (⟨([]:(List (Int × Int)))⟩:aF)).bind fun r_1=>
 Option.bind (aC (q9 p s_ r_1) FUEL (([]:List af),([]:(List (Int × Int))),0)) fun o=>match o with
 | .ret v=>some v
 | .brk (out1,at_1)=>
 Option.bind (aC (rO p s_ r_1 at_1) FUEL (out1,0)) fun o=>match o with
 | .ret v=>some v
 | .brk out3=>
 some out3
def nT (p:ai) (s_:State):Option ((List af) × Int):=
 (bA p s_).bind fun r_=>
 bif (!decide (r_=0))then
 some (([]:List af),r_)
 else
 (iN p s_).bind fun r_1=>
 some (r_1,0)
def vv (r_1:(List af)) (t25:Int):((List Bool) × Int)→Option (bE ((List Bool) × Int) (Ex (List Bool) (bE ((List Bool) × Int) (Ex (List Bool) ((List Bool) × Int))))):=
 fun zz=>match zz with
 |(out2,t32)=>
 bif (decide (t32<(((at' r_1 t25.toNat).buses).length:Int)))then
 dF ((0:Int)≤t32∧t32<(((at' r_1 t25.toNat).buses).length:Int)) (
 dF ((0:Int)≤(at' ((at' r_1 t25.toNat).buses) t32.toNat)∧(at' ((at' r_1 t25.toNat).buses) t32.toNat)<(out2.length:Int)) (
 some (.next ((out2.set ((at' ((at' r_1 t25.toNat).buses) t32.toNat).toNat) (decide (0<(((at' r_1 t25.toNat).sources).length:Int)))),(IntKind.wrap .i64 (t32+1))))))
 else
 some (.done (.brk out2))
def wC (r_1:(List af)):((List Bool) × Int)→Option (bE ((List Bool) × Int) (Ex (List Bool) ((List Bool) × Int))):=
 fun zz=>match zz with
 |(out,t25)=>
 bif (decide (t25<(r_1.length:Int)))then
 dF ((0:Int)≤t25∧t25<(r_1.length:Int)) (
 Option.bind (aC (vv r_1 t25) FUEL (out,0)) fun o=>match o with
 | .ret v=>some v
 | .brk out3=>
 some (.next (out3,(IntKind.wrap .i64 (t25+1)))))
 else
 some (.done (.brk out))
def qY (p:ai) (s_:State):Option ((List Bool) × Int):=
 (bA p s_).bind fun r_=>
 bif (!decide (r_=0))then
 some (([]:List Bool),r_)
 else
 dF (((0:Int)≤p.buses)∧((1:Int)*p.buses≤281474976710656)∧((p.buses:Int)≤9223372036854775807)) (
 (iN p s_).bind fun r_1=>
 Option.bind (aC (wC r_1) FUEL ((List.replicate p.buses.toNat (false:Bool)),0)) fun o=>match o with
 | .ret v=>some v
 | .brk out1=>
 some (out1,0))
def xw (p:ai) (r_:((List Bool) × Int)):((List av) × Int)→Option (bE ((List av) × Int) (Ex (List av) ((List av) × Int))):=
 fun zz=>match zz with
 |(out,t26)=>
 bif (decide (t26<(p.racks.length:Int)))then
 dF ((0:Int)≤t26∧t26<(p.racks.length:Int)) (
 dF (gB [((decide (0≤(((at' p.racks t26.toNat).feeds).e0))),true)]=true→(0:Int)≤((at' p.racks t26.toNat).feeds).e0∧((at' p.racks t26.toNat).feeds).e0<(r_.1.length:Int)) (
 dF (gB [((decide (0≤(((at' p.racks t26.toNat).feeds).e1))),true)]=true→(0:Int)≤((at' p.racks t26.toNat).feeds).e1∧((at' p.racks t26.toNat).feeds).e1<(r_.1.length:Int)) (
 dF (((out.length+[(⟨(bif (decide (0≤(((at' p.racks t26.toNat).feeds).e0)))then(at' r_.1 ((((at' p.racks t26.toNat).feeds).e0).toNat))else false),(bif (decide (0≤(((at' p.racks t26.toNat).feeds).e1)))then(at' r_.1 ((((at' p.racks t26.toNat).feeds).e1).toNat))else false)⟩:av)].length)*2≤140737488355328)∧(out.length+[(⟨(bif (decide (0≤(((at' p.racks t26.toNat).feeds).e0)))then(at' r_.1 ((((at' p.racks t26.toNat).feeds).e0).toNat))else false),(bif (decide (0≤(((at' p.racks t26.toNat).feeds).e1)))then(at' r_.1 ((((at' p.racks t26.toNat).feeds).e1).toNat))else false)⟩:av)].length≤4611686018427387904)) (
 some (.next ((out++[(⟨(bif (decide (0≤(((at' p.racks t26.toNat).feeds).e0)))then(at' r_.1 ((((at' p.racks t26.toNat).feeds).e0).toNat))else false),(bif (decide (0≤(((at' p.racks t26.toNat).feeds).e1)))then(at' r_.1 ((((at' p.racks t26.toNat).feeds).e1).toNat))else false)⟩:av)]),(IntKind.wrap .i64 (t26+1))))))))
 else
 some (.done (.brk out))
def su (p:ai) (s_:State):Option ((List av) × Int):=
 (qY p s_).bind fun r_=>
 bif (!decide (r_.2=0))then
 some (([]:List av),r_.2)
 else
 Option.bind (aC (xw p r_) FUEL (([]:List av),0)) fun o=>match o with
 | .ret v=>some v
 | .brk out1=>
 some (out1,0)
def mD:Option Bool:=
 (qO).bind fun r_=>
 (qX r_).bind fun r_1=>
 bif (bif (bif (bif (!decide (r_1.2=0))then true else(!decide ((r_1.1.on_.length:Int)=2)))then true else(!decide ((r_1.1.closed.length:Int)=2)))then true else(!decide ((r_1.1.badBus.length:Int)=3)))then
 some false
 else
 (nT r_ (⟨[true,false],r_1.1.locked,r_1.1.badLink,[true,true],r_1.1.badSource,r_1.1.earthed,r_1.1.badBus⟩:State)).bind fun r_2=>
 (su r_ (⟨[true,false],r_1.1.locked,r_1.1.badLink,[true,true],r_1.1.badSource,r_1.1.earthed,r_1.1.badBus⟩:State)).bind fun r_3=>
 bif (bif (bif (bif (!decide (r_2.2=0))then true else(!decide (r_3.2=0)))then true else(!decide ((r_3.1.length:Int)=1)))then true else(!((at' r_3.1 0).e0)))then
 dF (gB [((bif (bif (!decide (r_2.2=0))then true else(!decide (r_3.2=0)))then true else(!decide ((r_3.1.length:Int)=1))),false)]=true→(0:Int)≤0∧0<(r_3.1.length:Int)) (
 some false)
 else
 (dG r_2.1 [(⟨[0,1],[0]⟩:af),(⟨[2],[1]⟩:af)]).bind fun r_4=>
 dF (gB [((bif (bif (!decide (r_2.2=0))then true else(!decide (r_3.2=0)))then true else(!decide ((r_3.1.length:Int)=1))),false)]=true→(0:Int)≤0∧0<(r_3.1.length:Int)) (
 bif (!r_4)then
 some false
 else
 dF ((0:Int)≤1∧1<([true,false].length:Int)) (
 (dV r_ (⟨([true,false].set 1 true),r_1.1.locked,r_1.1.badLink,[true,true],r_1.1.badSource,r_1.1.earthed,r_1.1.badBus⟩:State)).bind fun r_5=>
 (o7 r_ (⟨([true,false].set 1 true),r_1.1.locked,r_1.1.badLink,[true,true],r_1.1.badSource,r_1.1.earthed,r_1.1.badBus⟩:State) (⟨3,0⟩:Part)).bind fun r_6=>
 (fM r_ r_6.1).bind fun r_7=>
 bif (bif (bif (!decide (r_5.2=0))then true else(!decide (r_6.2=0)))then true else(!decide (r_7.2=0)))then
 some false
 else
 (gm r_5.1 [(⟨0,1⟩:ah)]).bind fun r_8=>
 bif (!r_8)then
 some false
 else
 (dG r_7.1 [(⟨[0],[0]⟩:af),(⟨[1,2],[1]⟩:af)]).bind fun r_9=>
 bif (!r_9)then
 some false
 else
 (o7 r_ (⟨([true,false].set 1 true),r_1.1.locked,r_1.1.badLink,[true,true],r_1.1.badSource,r_1.1.earthed,r_1.1.badBus⟩:State) (⟨1,1⟩:Part)).bind fun r_10=>
 (jC r_ r_10.1).bind fun r_11=>
 (nY r_).bind fun r_12=>
 dF (gB [((bif (bif (bif (decide (r_10.2=0))then(decide (r_11.2=0))else false)then(decide (r_12.2=0))else false)then(decide ((r_11.1.length:Int)=1))else false),true)]=true→(0:Int)≤0∧0<(r_11.1.length:Int)) (
 some (bif (bif (bif (bif (bif (decide (r_10.2=0))then(decide (r_11.2=0))else false)then(decide (r_12.2=0))else false)then(decide ((r_11.1.length:Int)=1))else false)then(!((at' r_11.1 0).e0))else false)then((r_12.1:ByteArray).toList==(⟨#[112,108,97,110,116,32,51,10,115,111,117,114,99,101,32,48,32,103,114,105,100,32,53,48,48,32,48,32,50,48,10,115,111,117,114,99,101,32,50,32,103,101,110,101,114,97,116,111,114,32,51,48,48,32,48,32,52,48,10,108,105,110,107,32,48,32,49,32,98,114,101,97,107,101,114,32,52,48,48,32,49,48,32,49,48,48,48,58,52,48,48,32,53,48,48,48,58,53,48,10,108,105,110,107,32,49,32,50,32,98,114,101,97,107,101,114,32,52,48,48,32,49,48,10,114,97,99,107,32,49,32,45,49,32,49,48,48,32,49,10]⟩:ByteArray).toList)else false))))
def kY (l:(List Source)):Option (List Source):=
 dF ((l.length*40≤140737488355328)∧(l.length≤4611686018427387904)) (
 some l)
def mU (l:(List bX)):Option (List bX):=
 dF ((l.length*16≤140737488355328)∧(l.length≤4611686018427387904)) (
 some l)
def lq (x:Link):Option Link:=
 (mU x.trip).bind fun r_=>
 some (⟨x.a,x.b,x.kind,x.most,x.ohm,r_⟩:Link)
def dL (l:(List Link)):((List Link) × Int)→Option (bE ((List Link) × Int) (Ex (List Link) (List Link))):=
 fun zz=>match zz with
 |(out,i)=>
 bif (decide (i<(l.length:Int)))then
 (lq (at' l i.toNat)).bind fun r_=>
 dF (((0:Int)≤i∧i<(l.length:Int))∧((out.length+[r_].length)*64≤140737488355328)∧(out.length+[r_].length≤4611686018427387904)) (
 some (.next ((out++[r_]),(IntKind.wrap .i64 (i+1)))))
 else
 some (.done (.brk out))
def ko (l:(List Link)):Option (List Link):=
 Option.bind (aC (dL l) FUEL (([]:List Link),0)) fun o=>match o with
 | .ret v=>some v
 | .brk out1=>
 some out1
def mV (l:(List aN)):Option (List aN):=
 dF ((l.length*32≤140737488355328)∧(l.length≤4611686018427387904)) (
 some l)
def jY (x:ai):Option ai:=
 (kY x.sources).bind fun r_=>
 (ko x.links).bind fun r_1=>
 (mV x.racks).bind fun r_2=>
 some (⟨x.buses,r_,r_1,r_2⟩:ai)
def bL (l:(List Bool)):Option (List Bool):=
 dF ((l.length*1≤140737488355328)∧(l.length≤4611686018427387904)) (
 some l)
def kr (x:State):Option State:=
 (bL x.closed).bind fun r_=>
 (bL x.locked).bind fun r_1=>
 (bL x.badLink).bind fun r_2=>
 (bL x.on_).bind fun r_3=>
 (bL x.badSource).bind fun r_4=>
 (bL x.earthed).bind fun r_5=>
 (bL x.badBus).bind fun r_6=>
 some (⟨r_,r_1,r_2,r_3,r_4,r_5,r_6⟩:State)
def j5 (x:Link):Int→Option (bE Int (Ex Unit Bool)):=
 fun i=>
 bif (decide (i<(x.trip.length:Int)))then
 dF ((0:Int)≤i∧i<(x.trip.length:Int)) (
 bif (bif (bif (bif (decide (((at' x.trip i.toNat).amps)<1))then true else(decide (1000000<((at' x.trip i.toNat).amps))))then true else(decide (((at' x.trip i.toNat).millis)<1)))then true else(decide (100000<((at' x.trip i.toNat).millis))))then
 some (.done (.ret false))
 else
 dF ((gB [((decide (0<i)),true)]=true→(0:Int)≤(IntKind.wrap .i64 (i - 1))∧(IntKind.wrap .i64 (i - 1))<(x.trip.length:Int))∧(gB [((decide (((at' x.trip i.toNat).amps)≤((at' x.trip ((IntKind.wrap .i64 (i - 1)).toNat)).amps))),false),((decide (0<i)),true)]=true→(0:Int)≤(IntKind.wrap .i64 (i - 1))∧(IntKind.wrap .i64 (i - 1))<(x.trip.length:Int))) (
 bif (bif (decide (0<i))then(bif (decide (((at' x.trip i.toNat).amps)≤((at' x.trip ((IntKind.wrap .i64 (i - 1)).toNat)).amps)))then true else(decide (((at' x.trip ((IntKind.wrap .i64 (i - 1)).toNat)).millis)≤((at' x.trip i.toNat).millis))))else false)then
 some (.done (.ret false))
 else
 some (.next (IntKind.wrap .i64 (i+1)))))
 else
 some (.done (.brk ()))
def nI (p:ai) (x:Link):Option Bool:=
 bif (bif (bif (bif (bif (bif (bif (bif (bif (bif (bif (decide (x.a<0))then true else(decide (p.buses≤x.a)))then true else(decide (x.b<0)))then true else(decide (p.buses≤x.b)))then true else(decide (x.a=x.b)))then true else(decide (x.kind<1)))then true else(decide (3<x.kind)))then true else(decide (x.most<1)))then true else(decide (100000<x.most)))then true else(decide (x.ohm<10)))then true else(decide (100000<x.ohm)))then
 some false
 else
 bif (bif (decide (6<(x.trip.length:Int)))then true else(bif (decide (0<(x.trip.length:Int)))then(!decide (x.kind=3))else false))then
 some false
 else
 Option.bind (aC (j5 x) FUEL (0)) fun o=>match o with
 | .ret v=>some v
 | .brk _=>
 some true
def jK (p:ai):Int→Option (bE Int (Ex Unit Int)):=
 fun i=>
 bif (decide (i<(p.sources.length:Int)))then
 dF ((0:Int)≤i∧i<(p.sources.length:Int)) (
 bif (bif (bif (bif (bif (bif (bif (bif (bif (bif (decide (((at' p.sources i.toNat).bus)<0))then true else(decide (p.buses≤((at' p.sources i.toNat).bus))))then true else(decide (((at' p.sources i.toNat).kind)<1)))then true else(decide (3<((at' p.sources i.toNat).kind))))then true else(decide (((at' p.sources i.toNat).power)<1)))then true else(decide (100000<((at' p.sources i.toNat).power))))then true else(decide (((at' p.sources i.toNat).sync)<0)))then true else(decide (8<((at' p.sources i.toNat).sync))))then true else(decide (((at' p.sources i.toNat).ohm)<10)))then true else(decide (100000<((at' p.sources i.toNat).ohm))))then
 some (.done (.ret 11))
 else
 some (.next (IntKind.wrap .i64 (i+1))))
 else
 some (.done (.brk ()))
def jP (p:ai):Int→Option (bE Int (Ex Unit Int)):=
 fun i1=>
 bif (decide (i1<(p.links.length:Int)))then
 (nI p (at' p.links i1.toNat)).bind fun r_=>
 dF ((0:Int)≤i1∧i1<(p.links.length:Int)) (
 bif (!r_)then
 some (.done (.ret 12))
 else
 some (.next (IntKind.wrap .i64 (i1+1))))
 else
 some (.done (.brk ()))
def jF (p:ai):Int→Option (bE Int (Ex Unit Int)):=
 fun i2=>
 bif (decide (i2<(p.racks.length:Int)))then
 dF ((0:Int)≤i2∧i2<(p.racks.length:Int)) (
 bif (decide ((((at' p.racks i2.toNat).feeds).e1)=(-1)))then
 bif (bif (bif (bif (bif (bif (bif (bif (bif (decide ((((at' p.racks i2.toNat).feeds).e0)<0))then true else(decide (p.buses≤(((at' p.racks i2.toNat).feeds).e0))))then true else(decide ((((at' p.racks i2.toNat).feeds).e1)<(-1))))then true else(decide (p.buses≤(((at' p.racks i2.toNat).feeds).e1))))then true else(decide ((((at' p.racks i2.toNat).feeds).e0)=(((at' p.racks i2.toNat).feeds).e1))))then true else(decide (((at' p.racks i2.toNat).power)<1)))then true else(decide (100000<((at' p.racks i2.toNat).power))))then true else(decide (((at' p.racks i2.toNat).paths)<0)))then true else(decide (1<((at' p.racks i2.toNat).paths))))then
 some (.done (.ret 13))
 else
 some (.next (IntKind.wrap .i64 (i2+1)))
 else
 bif (bif (bif (bif (bif (bif (bif (bif (bif (decide ((((at' p.racks i2.toNat).feeds).e0)<0))then true else(decide (p.buses≤(((at' p.racks i2.toNat).feeds).e0))))then true else(decide ((((at' p.racks i2.toNat).feeds).e1)<(-1))))then true else(decide (p.buses≤(((at' p.racks i2.toNat).feeds).e1))))then true else(decide ((((at' p.racks i2.toNat).feeds).e0)=(((at' p.racks i2.toNat).feeds).e1))))then true else(decide (((at' p.racks i2.toNat).power)<1)))then true else(decide (100000<((at' p.racks i2.toNat).power))))then true else(decide (((at' p.racks i2.toNat).paths)<0)))then true else(decide (2<((at' p.racks i2.toNat).paths))))then
 some (.done (.ret 13))
 else
 some (.next (IntKind.wrap .i64 (i2+1))))
 else
 some (.done (.brk ()))
def jV (p:ai):Option Int:=
 bif (bif (decide (p.buses<1))then true else(decide (24<p.buses)))then
 some 10
 else
 bif (decide (8<(p.sources.length:Int)))then
 some 11
 else
 Option.bind (aC (jK p) FUEL (0)) fun o=>match o with
 | .ret v=>some v
 | .brk _=>
 bif (decide (40<(p.links.length:Int)))then
 some 12
 else
 Option.bind (aC (jP p) FUEL (0)) fun o=>match o with
 | .ret v=>some v
 | .brk _=>
 bif (decide (24<(p.racks.length:Int)))then
 some 13
 else
 Option.bind (aC (jF p) FUEL (0)) fun o=>match o with
 | .ret v=>some v
 | .brk _=>
 some 0
def jL (p:ai) (s_:State):Int→Option (bE Int (Ex Unit Bool)):=
 fun i=>
 bif (decide (i<(p.links.length:Int)))then
 dF (((0:Int)≤i∧i<(p.links.length:Int))∧(gB [((decide (((at' p.links i.toNat).kind)=1)),true)]=true→(0:Int)≤i∧i<(s_.closed.length:Int))∧(gB [((!(at' s_.closed i.toNat)),false),((decide (((at' p.links i.toNat).kind)=1)),true)]=true→(0:Int)≤i∧i<(s_.locked.length:Int))) (
 bif (bif (decide (((at' p.links i.toNat).kind)=1))then(bif (!(at' s_.closed i.toNat))then true else(at' s_.locked i.toNat))else false)then
 some (.done (.ret false))
 else
 some (.next (IntKind.wrap .i64 (i+1))))
 else
 some (.done (.brk ()))
def mr (p:ai) (s_:State):Option Bool:=
 bif (bif (bif (bif (bif (bif (bif (!decide ((s_.closed.length:Int)=(p.links.length:Int)))then true else(!decide ((s_.locked.length:Int)=(p.links.length:Int))))then true else(!decide ((s_.badLink.length:Int)=(p.links.length:Int))))then true else(!decide ((s_.on_.length:Int)=(p.sources.length:Int))))then true else(!decide ((s_.badSource.length:Int)=(p.sources.length:Int))))then true else(!decide ((s_.earthed.length:Int)=p.buses)))then true else(!decide ((s_.badBus.length:Int)=p.buses)))then
 some false
 else
 Option.bind (aC (jL p s_) FUEL (0)) fun o=>match o with
 | .ret v=>some v
 | .brk _=>
 some true
def bK (p:ai) (s_:State):Option Int:=
 (jV p).bind fun r_=>
 (bif gB [((decide (r_=0)),true)]then mr p s_ else some default).bind fun r_1=>
 bif (bif (decide (r_=0))then(!r_1)else false)then
 some 9
 else
 some r_
def jO (p:ai) (s_:State) (i:Int):Option Bool:=
 dF (((0:Int)≤i∧i<(s_.closed.length:Int))∧(gB [((at' s_.closed i.toNat),true)]=true→(0:Int)≤i∧i<(s_.badLink.length:Int))∧(gB [((bif (at' s_.closed i.toNat)then(!(at' s_.badLink i.toNat))else false),true)]=true→(0:Int)≤i∧i<(p.links.length:Int))∧(gB [((bif (at' s_.closed i.toNat)then(!(at' s_.badLink i.toNat))else false),true)]=true→(0:Int)≤(at' p.links i.toNat).a∧(at' p.links i.toNat).a<(s_.badBus.length:Int))∧(gB [((bif (bif (at' s_.closed i.toNat)then(!(at' s_.badLink i.toNat))else false)then(!(at' s_.badBus (((at' p.links i.toNat).a).toNat)))else false),true)]=true→(0:Int)≤i∧i<(p.links.length:Int))∧(gB [((bif (bif (at' s_.closed i.toNat)then(!(at' s_.badLink i.toNat))else false)then(!(at' s_.badBus (((at' p.links i.toNat).a).toNat)))else false),true)]=true→(0:Int)≤(at' p.links i.toNat).b∧(at' p.links i.toNat).b<(s_.badBus.length:Int))) (
 some (bif (bif (bif (at' s_.closed i.toNat)then(!(at' s_.badLink i.toNat))else false)then(!(at' s_.badBus (((at' p.links i.toNat).a).toNat)))else false)then(!(at' s_.badBus (((at' p.links i.toNat).b).toNat)))else false))
def iA (p:ai) (s_:State) (b:Int):((List Bool) × Int)→Option (bE ((List Bool) × Int) (Ex (List Bool) (bE ((List Bool) × Int) (Ex (List Bool) (List Bool))))):=
 fun zz=>match zz with
 |(out2,i)=>
 bif (decide (i<(p.links.length:Int)))then
 dF ((0:Int)≤i∧i<(p.links.length:Int)) (
 (jO p s_ i).bind fun r_=>
 dF ((gB [(r_,true)]=true→(0:Int)≤(at' p.links i.toNat).a∧(at' p.links i.toNat).a<(out2.length:Int))∧(gB [((at' out2 (((at' p.links i.toNat).a).toNat)),false),(r_,true)]=true→(0:Int)≤(at' p.links i.toNat).b∧(at' p.links i.toNat).b<(out2.length:Int))) (
 bif (bif r_ then(bif (at' out2 (((at' p.links i.toNat).a).toNat))then true else(at' out2 (((at' p.links i.toNat).b).toNat)))else false)then
 dF ((0:Int)≤(at' p.links i.toNat).a∧(at' p.links i.toNat).a<(out2.length:Int)) (
 dF ((0:Int)≤(at' p.links i.toNat).b∧(at' p.links i.toNat).b<((out2.set (((at' p.links i.toNat).a).toNat) true).length:Int)) (
 some (.next (((out2.set (((at' p.links i.toNat).a).toNat) true).set (((at' p.links i.toNat).b).toNat) true),(IntKind.wrap .i64 (i+1))))))
 else
 some (.next (out2,(IntKind.wrap .i64 (i+1))))))
 else
 some (.done (.brk out2))
def ig (p:ai) (s_:State) (b:Int):((List Bool) × Int)→Option (bE ((List Bool) × Int) (Ex (List Bool) (List Bool))):=
 fun zz=>match zz with
 |(out,n)=>
 bif (decide (n<p.buses))then
 Option.bind (aC (iA p s_ b) FUEL (out,0)) fun o=>match o with
 | .ret v=>some v
 | .brk out3=>
 some (.next (out3,(IntKind.wrap .i64 (n+1))))
 else
 some (.done (.brk out))
def eP (p:ai) (s_:State) (b:Int):Option (List Bool):=
 dF (((0:Int)≤p.buses)∧((1:Int)*p.buses≤281474976710656)∧((p.buses:Int)≤9223372036854775807)) (
 dF ((0:Int)≤b∧b<((List.replicate p.buses.toNat (false:Bool)).length:Int)) (
 Option.bind (aC (ig p s_ b) FUEL (((List.replicate p.buses.toNat (false:Bool)).set b.toNat true),0)) fun o=>match o with
 | .ret v=>some v
 | .brk out1=>
 some out1))
def gM (p:ai) (s_:State) (kz:Int):Option Bool:=
 dF (((0:Int)≤kz∧kz<(s_.on_.length:Int))∧(gB [((at' s_.on_ kz.toNat),true)]=true→(0:Int)≤kz∧kz<(s_.badSource.length:Int))∧(gB [((bif (at' s_.on_ kz.toNat)then(!(at' s_.badSource kz.toNat))else false),true)]=true→(0:Int)≤kz∧kz<(p.sources.length:Int))∧(gB [((bif (at' s_.on_ kz.toNat)then(!(at' s_.badSource kz.toNat))else false),true)]=true→(0:Int)≤(at' p.sources kz.toNat).bus∧(at' p.sources kz.toNat).bus<(s_.badBus.length:Int))) (
 some (bif (bif (at' s_.on_ kz.toNat)then(!(at' s_.badSource kz.toNat))else false)then(!(at' s_.badBus (((at' p.sources kz.toNat).bus).toNat)))else false))
def fe (p:ai) (r_1:(List Bool)):((List Int) × Int)→Option (bE ((List Int) × Int) (Ex (List Int) (bE ((List af) × Int) (Ex (List af) ((List af) × Int))))):=
 fun zz=>match zz with
 |(x0,c)=>
 bif (decide (c<p.buses))then
 dF ((0:Int)≤c∧c<(r_1.length:Int)) (
 bif (at' r_1 c.toNat)then
 dF (((x0.length+[c].length)*8≤140737488355328)∧(x0.length+[c].length≤4611686018427387904)) (
 some (.next ((x0++[c]),(IntKind.wrap .i64 (c+1)))))
 else
 some (.next (x0,(IntKind.wrap .i64 (c+1)))))
 else
 some (.done (.brk x0))
def eZ (p:ai) (s_:State) (r_1:(List Bool)):((List Int) × Int)→Option (bE ((List Int) × Int) (Ex (List Int) (bE ((List af) × Int) (Ex (List af) ((List af) × Int))))):=
 fun zz=>match zz with
 |(x1,kz)=>
 bif (decide (kz<(p.sources.length:Int)))then
 (gM p s_ kz).bind fun r_2=>
 dF ((gB [(r_2,true)]=true→(0:Int)≤kz∧kz<(p.sources.length:Int))∧(gB [(r_2,true)]=true→(0:Int)≤(at' p.sources kz.toNat).bus∧(at' p.sources kz.toNat).bus<(r_1.length:Int))) (
 bif (bif r_2 then(at' r_1 (((at' p.sources kz.toNat).bus).toNat))else false)then
 dF (((x1.length+[kz].length)*8≤140737488355328)∧(x1.length+[kz].length≤4611686018427387904)) (
 some (.next ((x1++[kz]),(IntKind.wrap .i64 (kz+1)))))
 else
 some (.next (x1,(IntKind.wrap .i64 (kz+1)))))
 else
 some (.done (.brk x1))
def dz (p:ai) (s_:State):((List af) × Int)→Option (bE ((List af) × Int) (Ex (List af) ((List af) × Int))):=
 fun zz=>match zz with
 |(out,b)=>
 bif (decide (b<p.buses))then
 dF ((0:Int)≤b∧b<(s_.badBus.length:Int)) (
 bif (at' s_.badBus b.toNat)then
 some (.next (out,(IntKind.wrap .i64 (b+1))))
 else
 (eP p s_ b).bind fun r_1=>
 Option.bind (aC (fe p r_1) FUEL (([]:List Int),0)) fun o=>match o with
 | .ret v=>some v
 | .brk x01=>
 dF ((0:Int)≤0∧0<(x01.length:Int)) (
 bif (!decide ((at' x01 0)=b))then
 some (.next (out,(IntKind.wrap .i64 (b+1))))
 else
 Option.bind (aC (eZ p s_ r_1) FUEL (([]:List Int),0)) fun o=>match o with
 | .ret v=>some v
 | .brk x11=>
 dF (((out.length+[(⟨x01,x11⟩:af)].length)*48≤140737488355328)∧(out.length+[(⟨x01,x11⟩:af)].length≤4611686018427387904)) (
 some (.next ((out++[(⟨x01,x11⟩:af)]),(IntKind.wrap .i64 (b+1)))))))
 else
 some (.done (.brk out))
def fZ (p:ai) (s_:State):Option ((List af) × Int):=
 (bK p s_).bind fun r_=>
 bif (!decide (r_=0))then
 some (([]:List af),r_)
 else
 Option.bind (aC (dz p s_) FUEL (([]:List af),0)) fun o=>match o with
 | .ret v=>some v
 | .brk out1=>
 some (out1,0)
def fV (p:ai) (r_2:(List Bool)):((List Bool) × Int)→Option (bE ((List Bool) × Int) (Ex (List Bool) (bE ((List Bool) × Int) (Ex (List Bool) ((List Bool) × Int))))):=
 fun zz=>match zz with
 |(out2,b)=>
 bif (decide (b<p.buses))then
 dF (((0:Int)≤b∧b<(out2.length:Int))∧(gB [((at' out2 b.toNat),false)]=true→(0:Int)≤b∧b<(r_2.length:Int))) (
 some (.next ((out2.set b.toNat (bif (at' out2 b.toNat)then true else(at' r_2 b.toNat))),(IntKind.wrap .i64 (b+1)))))
 else
 some (.done (.brk out2))
def fU (p:ai) (s_:State):((List Bool) × Int)→Option (bE ((List Bool) × Int) (Ex (List Bool) ((List Bool) × Int))):=
 fun zz=>match zz with
 |(out,kz)=>
 bif (decide (kz<(p.sources.length:Int)))then
 (gM p s_ kz).bind fun r_1=>
 bif (!r_1)then
 some (.next (out,(IntKind.wrap .i64 (kz+1))))
 else
 (eP p s_ ((at' p.sources kz.toNat).bus)).bind fun r_2=>
 dF ((0:Int)≤kz∧kz<(p.sources.length:Int)) (
 Option.bind (aC (fV p r_2) FUEL (out,0)) fun o=>match o with
 | .ret v=>some v
 | .brk out3=>
 some (.next (out3,(IntKind.wrap .i64 (kz+1)))))
 else
 some (.done (.brk out))
def dP (p:ai) (s_:State):Option ((List Bool) × Int):=
 (bK p s_).bind fun r_=>
 bif (!decide (r_=0))then
 some (([]:List Bool),r_)
 else
 dF (((0:Int)≤p.buses)∧((1:Int)*p.buses≤281474976710656)∧((p.buses:Int)≤9223372036854775807)) (
 Option.bind (aC (fU p s_) FUEL ((List.replicate p.buses.toNat (false:Bool)),0)) fun o=>match o with
 | .ret v=>some v
 | .brk out1=>
 some (out1,0))
def gV (a:(List Bool)) (b:(List Bool)):Int→Option (bE Int (Ex Unit Bool)):=
 fun i=>
 bif (decide (i<(a.length:Int)))then
 dF (((0:Int)≤i∧i<(a.length:Int))∧((0:Int)≤i∧i<(b.length:Int))) (
 bif (!((at' a i.toNat)==(at' b i.toNat)))then
 some (.done (.ret false))
 else
 some (.next (IntKind.wrap .i64 (i+1))))
 else
 some (.done (.brk ()))
def bC (a:(List Bool)) (b:(List Bool)):Option Bool:=
 bif (!decide ((a.length:Int)=(b.length:Int)))then
 some false
 else
 Option.bind (aC (gV a b) FUEL (0)) fun o=>match o with
 | .ret v=>some v
 | .brk _=>
 some true
def ic (p:ai) (r_:((List Bool) × Int)):((List av) × Int)→Option (bE ((List av) × Int) (Ex (List av) ((List av) × Int))):=
 fun zz=>match zz with
 |(out,r_1)=>
 bif (decide (r_1<(p.racks.length:Int)))then
 dF ((0:Int)≤r_1∧r_1<(p.racks.length:Int)) (
 dF (((0:Int)≤((at' p.racks r_1.toNat).feeds).e0∧((at' p.racks r_1.toNat).feeds).e0<(r_.1.length:Int))∧(gB [((decide (0≤(((at' p.racks r_1.toNat).feeds).e1))),true)]=true→(0:Int)≤(if((at' p.racks r_1.toNat).feeds).e1<0 then 0 else((at' p.racks r_1.toNat).feeds).e1)∧(if((at' p.racks r_1.toNat).feeds).e1<0 then 0 else((at' p.racks r_1.toNat).feeds).e1)<(r_.1.length:Int))∧((out.length+[(⟨(at' r_.1 ((((at' p.racks r_1.toNat).feeds).e0).toNat)),(bif (decide (0≤(((at' p.racks r_1.toNat).feeds).e1)))then(at' r_.1 ((if((at' p.racks r_1.toNat).feeds).e1<0 then 0 else((at' p.racks r_1.toNat).feeds).e1).toNat))else false)⟩:av)].length)*2≤140737488355328)∧(out.length+[(⟨(at' r_.1 ((((at' p.racks r_1.toNat).feeds).e0).toNat)),(bif (decide (0≤(((at' p.racks r_1.toNat).feeds).e1)))then(at' r_.1 ((if((at' p.racks r_1.toNat).feeds).e1<0 then 0 else((at' p.racks r_1.toNat).feeds).e1).toNat))else false)⟩:av)].length≤4611686018427387904)) (
 some (.next ((out++[(⟨(at' r_.1 ((((at' p.racks r_1.toNat).feeds).e0).toNat)),(bif (decide (0≤(((at' p.racks r_1.toNat).feeds).e1)))then(at' r_.1 ((if((at' p.racks r_1.toNat).feeds).e1<0 then 0 else((at' p.racks r_1.toNat).feeds).e1).toNat))else false)⟩:av)]),(IntKind.wrap .i64 (r_1+1))))))
 else
 some (.done (.brk out))
def kK (p:ai) (s_:State):Option ((List av) × Int):=
 (dP p s_).bind fun r_=>
 bif (!decide (r_.2=0))then
 some (([]:List av),r_.2)
 else
 Option.bind (aC (ic p r_) FUEL (([]:List av),0)) fun o=>match o with
 | .ret v=>some v
 | .brk out1=>
 some (out1,0)
def gu (a:(List av)) (b:(List av)):Int→Option (bE Int (Ex Unit Bool)):=
 fun i=>
 bif (decide (i<(a.length:Int)))then
 dF (((0:Int)≤i∧i<(a.length:Int))∧((0:Int)≤i∧i<(b.length:Int))) (
 bif (!((((at' a i.toNat).e0)==((at' b i.toNat).e0)) && ((((at' a i.toNat).e1)==((at' b i.toNat).e1)) && true)))then
 some (.done (.ret false))
 else
 some (.next (IntKind.wrap .i64 (i+1))))
 else
 some (.done (.brk ()))
def jl (a:(List av)) (b:(List av)):Option Bool:=
 bif (!decide ((a.length:Int)=(b.length:Int)))then
 some false
 else
 Option.bind (aC (gu a b) FUEL (0)) fun o=>match o with
 | .ret v=>some v
 | .brk _=>
 some true
def mF (a:Source) (b:Source):Option Bool:=
 some (bif (!decide (a.sync=b.sync))then true else(decide (a.sync=0)))
def eX (p:ai) (s_:State) (i:Int):((List ah) × Int)→Option (bE ((List ah) × Int) (Ex (List ah) (bE ((List ah) × Int) (Ex (List ah) ((List ah) × Int))))):=
 fun zz=>match zz with
 |(out2,kz)=>
 bif (decide (kz<(p.sources.length:Int)))then
 (gM p s_ i).bind fun r_1=>
 (bif gB [(r_1,true)]then gM p s_ kz else some default).bind fun r_2=>
 (bif gB [((bif r_1 then r_2 else false),true)]then eP p s_ ((at' p.sources i.toNat).bus)else some default).bind fun r_3=>
 (bif gB [((bif (bif r_1 then r_2 else false)then(at' r_3 (((at' p.sources kz.toNat).bus).toNat))else false),true)]then mF (at' p.sources i.toNat) (at' p.sources kz.toNat)else some default).bind fun r_4=>
 dF ((gB [((bif r_1 then r_2 else false),true)]=true→(0:Int)≤i∧i<(p.sources.length:Int))∧(gB [((bif r_1 then r_2 else false),true)]=true→(0:Int)≤kz∧kz<(p.sources.length:Int))∧(gB [((bif r_1 then r_2 else false),true)]=true→(0:Int)≤(at' p.sources kz.toNat).bus∧(at' p.sources kz.toNat).bus<(r_3.length:Int))∧(gB [((bif (bif r_1 then r_2 else false)then(at' r_3 (((at' p.sources kz.toNat).bus).toNat))else false),true)]=true→(0:Int)≤i∧i<(p.sources.length:Int))∧(gB [((bif (bif r_1 then r_2 else false)then(at' r_3 (((at' p.sources kz.toNat).bus).toNat))else false),true)]=true→(0:Int)≤kz∧kz<(p.sources.length:Int))) (
 bif (bif (bif (bif r_1 then r_2 else false)then(at' r_3 (((at' p.sources kz.toNat).bus).toNat))else false)then r_4 else false)then
 dF (((out2.length+[(⟨i,kz⟩:ah)].length)*16≤140737488355328)∧(out2.length+[(⟨i,kz⟩:ah)].length≤4611686018427387904)) (
 some (.next ((out2++[(⟨i,kz⟩:ah)]),(IntKind.wrap .i64 (kz+1)))))
 else
 some (.next (out2,(IntKind.wrap .i64 (kz+1)))))
 else
 some (.done (.brk out2))
def fo (p:ai) (s_:State):((List ah) × Int)→Option (bE ((List ah) × Int) (Ex (List ah) ((List ah) × Int))):=
 fun zz=>match zz with
 |(out,i)=>
 bif (decide (i<(p.sources.length:Int)))then
 Option.bind (aC (eX p s_ i) FUEL (out,(IntKind.wrap .i64 (i+1)))) fun o=>match o with
 | .ret v=>some v
 | .brk out3=>
 some (.next (out3,(IntKind.wrap .i64 (i+1))))
 else
 some (.done (.brk out))
def fO (p:ai) (s_:State):Option ((List ah) × Int):=
 (bK p s_).bind fun r_=>
 bif (!decide (r_=0))then
 some (([]:List ah),r_)
 else
 Option.bind (aC (fo p s_) FUEL (([]:List ah),0)) fun o=>match o with
 | .ret v=>some v
 | .brk out1=>
 some (out1,0)
def gF (a:(List Source)) (b:(List Source)):Int→Option (bE Int (Ex Unit Bool)):=
 fun i=>
 bif (decide (i<(a.length:Int)))then
 dF (((0:Int)≤i∧i<(a.length:Int))∧((0:Int)≤i∧i<(b.length:Int))) (
 bif (!((decide (((at' a i.toNat).bus)=((at' b i.toNat).bus))) && ((decide (((at' a i.toNat).kind)=((at' b i.toNat).kind))) && ((decide (((at' a i.toNat).power)=((at' b i.toNat).power))) && ((decide (((at' a i.toNat).sync)=((at' b i.toNat).sync))) && ((decide (((at' a i.toNat).ohm)=((at' b i.toNat).ohm))) && true))))))then
 some (.done (.ret false))
 else
 some (.next (IntKind.wrap .i64 (i+1))))
 else
 some (.done (.brk ()))
def jk (a:(List Source)) (b:(List Source)):Option Bool:=
 bif (!decide ((a.length:Int)=(b.length:Int)))then
 some false
 else
 Option.bind (aC (gF a b) FUEL (0)) fun o=>match o with
 | .ret v=>some v
 | .brk _=>
 some true
def iP (a:(List bX)) (b:(List bX)):Int→Option (bE Int (Ex Unit Bool)):=
 fun i=>
 bif (decide (i<(a.length:Int)))then
 dF (((0:Int)≤i∧i<(a.length:Int))∧((0:Int)≤i∧i<(b.length:Int))) (
 bif (!((decide (((at' a i.toNat).amps)=((at' b i.toNat).amps))) && ((decide (((at' a i.toNat).millis)=((at' b i.toNat).millis))) && true)))then
 some (.done (.ret false))
 else
 some (.next (IntKind.wrap .i64 (i+1))))
 else
 some (.done (.brk ()))
def kg (a:(List bX)) (b:(List bX)):Option Bool:=
 bif (!decide ((a.length:Int)=(b.length:Int)))then
 some false
 else
 Option.bind (aC (iP a b) FUEL (0)) fun o=>match o with
 | .ret v=>some v
 | .brk _=>
 some true
def kZ (a:Link) (b:Link):Option Bool:=
 (bif gB [((bif (bif (bif (bif (decide (a.a=b.a))then(decide (a.b=b.b))else false)then(decide (a.kind=b.kind))else false)then(decide (a.most=b.most))else false)then(decide (a.ohm=b.ohm))else false),true)]then kg a.trip b.trip else some default).bind fun r_=>
 some (bif (bif (bif (bif (bif (decide (a.a=b.a))then(decide (a.b=b.b))else false)then(decide (a.kind=b.kind))else false)then(decide (a.most=b.most))else false)then(decide (a.ohm=b.ohm))else false)then r_ else false)
def iR (a:(List Link)) (b:(List Link)):Int→Option (bE Int (Ex Unit Bool)):=
 fun i=>
 bif (decide (i<(a.length:Int)))then
 (kZ (at' a i.toNat) (at' b i.toNat)).bind fun r_=>
 dF (((0:Int)≤i∧i<(a.length:Int))∧((0:Int)≤i∧i<(b.length:Int))) (
 bif (!r_)then
 some (.done (.ret false))
 else
 some (.next (IntKind.wrap .i64 (i+1))))
 else
 some (.done (.brk ()))
def ku (a:(List Link)) (b:(List Link)):Option Bool:=
 bif (!decide ((a.length:Int)=(b.length:Int)))then
 some false
 else
 Option.bind (aC (iR a b) FUEL (0)) fun o=>match o with
 | .ret v=>some v
 | .brk _=>
 some true
def iT (a:(List aN)) (b:(List aN)):Int→Option (bE Int (Ex Unit Bool)):=
 fun i=>
 bif (decide (i<(a.length:Int)))then
 dF (((0:Int)≤i∧i<(a.length:Int))∧((0:Int)≤i∧i<(b.length:Int))) (
 bif (!((decide ((((at' a i.toNat).feeds).e0)=(((at' b i.toNat).feeds).e0))) && ((decide ((((at' a i.toNat).feeds).e1)=(((at' b i.toNat).feeds).e1))) && ((decide (((at' a i.toNat).power)=((at' b i.toNat).power))) && ((decide (((at' a i.toNat).paths)=((at' b i.toNat).paths))) && true)))))then
 some (.done (.ret false))
 else
 some (.next (IntKind.wrap .i64 (i+1))))
 else
 some (.done (.brk ()))
def j4 (a:(List aN)) (b:(List aN)):Option Bool:=
 bif (!decide ((a.length:Int)=(b.length:Int)))then
 some false
 else
 Option.bind (aC (iT a b) FUEL (0)) fun o=>match o with
 | .ret v=>some v
 | .brk _=>
 some true
def j6 (a:ai) (b:ai):Option Bool:=
 (bif gB [((decide (a.buses=b.buses)),true)]then jk a.sources b.sources else some default).bind fun r_=>
 (bif gB [((bif (decide (a.buses=b.buses))then r_ else false),true)]then ku a.links b.links else some default).bind fun r_1=>
 (bif gB [((bif (bif (decide (a.buses=b.buses))then r_ else false)then r_1 else false),true)]then j4 a.racks b.racks else some default).bind fun r_2=>
 some (bif (bif (bif (decide (a.buses=b.buses))then r_ else false)then r_1 else false)then r_2 else false)
def jX (a:State) (b:State):Option Bool:=
 (bC a.closed b.closed).bind fun r_=>
 (bif gB [(r_,true)]then bC a.locked b.locked else some default).bind fun r_1=>
 (bif gB [((bif r_ then r_1 else false),true)]then bC a.badLink b.badLink else some default).bind fun r_2=>
 (bif gB [((bif (bif r_ then r_1 else false)then r_2 else false),true)]then bC a.on_ b.on_ else some default).bind fun r_3=>
 (bif gB [((bif (bif (bif r_ then r_1 else false)then r_2 else false)then r_3 else false),true)]then bC a.badSource b.badSource else some default).bind fun r_4=>
 (bif gB [((bif (bif (bif (bif r_ then r_1 else false)then r_2 else false)then r_3 else false)then r_4 else false),true)]then bC a.earthed b.earthed else some default).bind fun r_5=>
 (bif gB [((bif (bif (bif (bif (bif r_ then r_1 else false)then r_2 else false)then r_3 else false)then r_4 else false)then r_5 else false),true)]then bC a.badBus b.badBus else some default).bind fun r_6=>
 some (bif (bif (bif (bif (bif (bif r_ then r_1 else false)then r_2 else false)then r_3 else false)then r_4 else false)then r_5 else false)then r_6 else false)
def gX (p:ai) (s_:State):Option Bool:=
 (oH p).bind fun r_=>
 bif r_ then
 (mD).bind fun r_1=>
 some r_1
 else
 (jY p).bind fun r_2=>
 (kr s_).bind fun r_3=>
 (eH r_2).bind fun r_4=>
 (jV p).bind fun r_5=>
 (bif gB [((!decide (r_4=r_5)),false)]then bA r_2 r_3 else some default).bind fun r_6=>
 (bif gB [((!decide (r_4=r_5)),false)]then bK p s_ else some default).bind fun r_7=>
 bif (bif (!decide (r_4=r_5))then true else(!decide (r_6=r_7)))then
 some false
 else
 (fM r_2 r_3).bind fun r_8=>
 (fZ p s_).bind fun r_9=>
 (bif gB [((!decide (r_8.2=r_9.2)),false)]then dG r_8.1 r_9.1 else some default).bind fun r_10=>
 bif (bif (!decide (r_8.2=r_9.2))then true else(!r_10))then
 some false
 else
 (dR r_2 r_3).bind fun r_11=>
 (dP p s_).bind fun r_12=>
 (bif gB [((!decide (r_11.2=r_12.2)),false)]then bC r_11.1 r_12.1 else some default).bind fun r_13=>
 bif (bif (!decide (r_11.2=r_12.2))then true else(!r_13))then
 some false
 else
 (jC r_2 r_3).bind fun r_14=>
 (kK p s_).bind fun r_15=>
 (bif gB [((!decide (r_14.2=r_15.2)),false)]then jl r_14.1 r_15.1 else some default).bind fun r_16=>
 bif (bif (!decide (r_14.2=r_15.2))then true else(!r_16))then
 some false
 else
 (dV r_2 r_3).bind fun r_17=>
 (fO p s_).bind fun r_18=>
 (bif gB [((decide (r_17.2=r_18.2)),true)]then gm r_17.1 r_18.1 else some default).bind fun r_19=>
 (bif gB [((bif (decide (r_17.2=r_18.2))then r_19 else false),true)]then j6 p r_2 else some default).bind fun r_20=>
 (bif gB [((bif (bif (decide (r_17.2=r_18.2))then r_19 else false)then r_20 else false),true)]then jX s_ r_3 else some default).bind fun r_21=>
 (bif gB [((bif (bif (bif (decide (r_17.2=r_18.2))then r_19 else false)then r_20 else false)then r_21 else false),true)]then mD else some default).bind fun r_22=>
 some (bif (bif (bif (bif (decide (r_17.2=r_18.2))then r_19 else false)then r_20 else false)then r_21 else false)then r_22 else false)
end Sg
