import Derived.Test.YtklofnlffikpgaaGreatSlLd
set_option linter.all false
namespace Sg
open Go
structure Source where
 bus:Int
 kind:Int
 power:Int
 bp:Int
 ohm:Int
instance:Inhabited Source:=⟨⟨default,default,default,default,default⟩⟩
def Source.cell (x:Source):Nat->DV
 |0=>(.int .i64 x.bus)
 |1=>(.int .i64 x.kind)
 |2=>(.int .i64 x.power)
 |3=>(.int .i64 x.bp)
 |4=>(.int .i64 x.ohm)
 |_=> .nilp
structure nT where
 amps:Int
 bm:Int
instance:Inhabited nT:=⟨⟨default,default⟩⟩
def nT.cell (x:nT):Nat->DV
 |0=>(.int .i64 x.amps)
 |1=>(.int .i64 x.bm)
 |_=> .nilp
structure Link where
 a:Int
 b:Int
 kind:Int
 most:Int
 ohm:Int
 trip:(List nT)
instance:Inhabited Link:=⟨⟨default,default,default,default,default,default⟩⟩
def Link.cell (x:Link):Nat->DV
 |0=>(.int .i64 x.a)
 |1=>(.int .i64 x.b)
 |2=>(.int .i64 x.kind)
 |3=>(.int .i64 x.most)
 |4=>(.int .i64 x.ohm)
 |5=>(aN none 2 nT.cell x.trip)
 |_=> .nilp
structure ai where
 e0:Int
 e1:Int
instance:Inhabited ai:=⟨⟨default,default⟩⟩
def ai.cell (x:ai):Nat->DV
 |0=>(.int .i64 x.e0)
 |1=>(.int .i64 x.e1)
 |_=> .nilp
structure aO where
 bj:ai
 power:Int
 bk:Int
instance:Inhabited aO:=⟨⟨default,default,default⟩⟩
def aO.cell (x:aO):Nat->DV
 |0=>(.int .i64 x.bj.e0)
 |1=>(.int .i64 x.bj.e1)
 |2=>(.int .i64 x.power)
 |3=>(.int .i64 x.bk)
 |_=> .nilp
structure ah where
 ar:Int
 aa:(List Source)
 aq:(List Link)
 a_:(List aO)
instance:Inhabited ah:=⟨⟨default,default,default,default⟩⟩
def ah.cell (x:ah):Nat->DV
 |0=>(.int .i64 x.ar)
 |1=>(aN none 5 Source.cell x.aa)
 |2=>(aN none 6 Link.cell x.aq)
 |3=>(aN none 4 aO.cell x.a_)
 |_=> .nilp
structure State where
 ap:(List Bool)
 aw:(List Bool)
 ag:(List Bool)
 on_:(List Bool)
 ae:(List Bool)
 am:(List Bool)
 al:(List Bool)
instance:Inhabited State:=⟨⟨default,default,default,default,default,default,default⟩⟩
def State.cell (x:State):Nat->DV
 |0=>(aN none 1 af x.ap)
 |1=>(aN none 1 af x.aw)
 |2=>(aN none 1 af x.ag)
 |3=>(aN none 1 af x.on_)
 |4=>(aN none 1 af x.ae)
 |5=>(aN none 1 af x.am)
 |6=>(aN none 1 af x.al)
 |_=> .nilp
structure cO where
 l:(List Bool)
 n:Int
instance:Inhabited cO:=⟨⟨default,default⟩⟩
def cO.cell (x:cO):Nat->DV
 |0=>(aN none 1 af x.l)
 |1=>(.int .i64 x.n)
 |_=> .nilp
structure Transfer where
 bh:Int
 open_:Int
 close:Int
instance:Inhabited Transfer:=⟨⟨default,default,default⟩⟩
def Transfer.cell (x:Transfer):Nat->DV
 |0=>(.int .i64 x.bh)
 |1=>(.int .i64 x.open_)
 |2=>(.int .i64 x.close)
 |_=> .nilp
structure bE where
 br:(List (Int × Int))
instance:Inhabited bE:=⟨⟨default⟩⟩
def bE.cell (x:bE):Nat->DV
 |0=> .nilp
 |_=> .nilp
structure aI where
 ar:(List Int)
 aa:(List Int)
instance:Inhabited aI:=⟨⟨default,default⟩⟩
def aI.cell (x:aI):Nat->DV
 |0=>(aN none 1 (aG .i64) x.ar)
 |1=>(aN none 1 (aG .i64) x.aa)
 |_=> .nilp
structure Part where
 kind:Int
 index:Int
instance:Inhabited Part:=⟨⟨default,default⟩⟩
def Part.cell (x:Part):Nat->DV
 |0=>(.int .i64 x.kind)
 |1=>(.int .i64 x.index)
 |_=> .nilp
structure aF where
 e0:(List (Int × (List Int)))
 e1:(List (Int × (List Int)))
instance:Inhabited aF:=⟨⟨default,default⟩⟩
def aF.cell (x:aF):Nat->DV
 |0=> .nilp
 |1=> .nilp
 |_=> .nilp
structure Graph where
 ba:(List Part)
 bi:aF
instance:Inhabited Graph:=⟨⟨default,default⟩⟩
def Graph.cell (x:Graph):Nat->DV
 |0=>(aN none 2 Part.cell x.ba)
 |1=> .nilp
 |2=> .nilp
 |_=> .nilp
structure aS where
 e0:Bool
 e1:Bool
instance:Inhabited aS:=⟨⟨default,default⟩⟩
def aS.cell (x:aS):Nat->DV
 |0=>(.bool x.e0)
 |1=>(.bool x.e1)
 |_=> .nilp
structure aL where
 rack:Int
 part:Part
instance:Inhabited aL:=⟨⟨default,default⟩⟩
def aL.cell (x:aL):Nat->DV
 |0=>(.int .i64 x.rack)
 |1=>(.int .i64 x.part.kind)
 |2=>(.int .i64 x.part.index)
 |_=> .nilp
def aI.ev (x:aI):Nat->EV
 |0=> .row 3 1 x.ar.length (aj (aG .i64) x.ar)
 |1=> .row 3 1 x.aa.length (aj (aG .i64) x.aa)
 |_=> .d .nilp
def aV (n:Int) (first:Int) (last:Int):Option Bool:=
 some (bif (decide (first<=n))then(decide (n<=last))else false)
def vQ (p:ah):Option (Int × (List Source) × (List Link) × (List aO)):=
 some (p.ar,p.aa,p.aq,p.a_)
def zk (p:ah):Option (Int × (List Source) × (List Link) × (List aO)):=
 some (p.ar,p.aa,p.aq,p.a_)
def yN (p:ah):Option (Int × (List Source) × (List Link) × (List aO)):=
 some (p.ar,p.aa,p.aq,p.a_)
def oM (x:Source) (x1:Int) (x11:List Source) (x12:List Link) (x13:List aO):Option Bool:=
 (aV x.bus 0 (IntKind.wrap .i64 (x1 - 1))).bind fun r_=>
 (bif gB [(r_,true)]then aV x.kind 1 3 else some default).bind fun r_1=>
 (bif gB [((bif r_ then r_1 else false),true)]then aV x.power 1 100000 else some default).bind fun r_2=>
 (bif gB [((bif (bif r_ then r_1 else false)then r_2 else false),true)]then aV x.bp 0 8 else some default).bind fun r_3=>
 (bif gB [((bif (bif (bif r_ then r_1 else false)then r_2 else false)then r_3 else false),true)]then aV x.ohm 10 100000 else some default).bind fun r_4=>
 some (bif (bif (bif (bif r_ then r_1 else false)then r_2 else false)then r_3 else false)then r_4 else false)
def uY (x:Source) (x1:Int) (x11:List Source) (x12:List Link) (x13:List aO):Option Bool:=
 (oM x x1 x11 x12 x13).bind fun r_=>
 some (!r_)
def mH (s_:List Source) (f_:Int) (f_1:List Source) (f_2:List Link) (f_3:List aO):Int->Option (aH Int (Ex Unit Int)):=
 fun t8=>
 bif (decide (t8<(s_.length:Int)))then
 (uY (at' s_ t8.toNat) f_ f_1 f_2 f_3).bind fun r_=>
 bg ((0:Int)<=t8/\t8<(s_.length:Int)) (
 bif r_ then
 some (.done (.ret t8))
 else
 some (.next (IntKind.wrap .i64 (t8+1))))
 else
 some (.done (.brk ()))
def p9 (s_:List Source) (f_:Int) (f_1:List Source) (f_2:List Link) (f_3:List aO):Option Int:=
 Option.bind (ay (mH s_ f_ f_1 f_2 f_3) FUEL (0)) fun o=>match o with
 | .ret v=>some v
 | .brk _=>
 some (-1)
def jo (s_:List Source) (f_:Int) (f_1:List Source) (f_2:List Link) (f_3:List aO):Option Bool:=
 (p9 s_ f_ f_1 f_2 f_3).bind fun r_=>
 some (decide (0<=r_))
def uj (l:List Source) (most:Int) (right:Int) (right1:List Source) (right2:List Link) (right3:List aO):Option Bool:=
 (bif gB [(decide ((l.length:Int)<=most),true)]then jo l right right1 right2 right3 else some default).bind fun r_=>
 some (bif (decide ((l.length:Int)<=most))then(!r_)else false)
def nk (x:Link):Int->Option (aH Int (Ex Unit Bool)):=
 fun t50=>
 bif (decide (t50<(x.trip.length:Int)))then
 bg ((0:Int)<=t50/\t50<(x.trip.length:Int)) (
 (aV ((at' x.trip t50.toNat).amps) 1 1000000).bind fun r_5=>
 (bif gB [(!r_5,false)]then aV ((at' x.trip t50.toNat).bm) 1 100000 else some default).bind fun r_6=>
 bg ((gB [(decide (0<t50),true),((bif (!r_5)then true else(!r_6)),false)]=true->(0:Int)<=(IntKind.wrap .i64 (t50 - 1))/\(IntKind.wrap .i64 (t50 - 1))<(x.trip.length:Int))/\(gB [(decide (((at' x.trip t50.toNat).amps)<=((at' x.trip ((IntKind.wrap .i64 (t50 - 1)).toNat)).amps)),false),(decide (0<t50),true),((bif (!r_5)then true else(!r_6)),false)]=true->(0:Int)<=(IntKind.wrap .i64 (t50 - 1))/\(IntKind.wrap .i64 (t50 - 1))<(x.trip.length:Int))) (
 bif (bif (bif (!r_5)then true else(!r_6))then true else(bif (decide (0<t50))then(bif (decide (((at' x.trip t50.toNat).amps)<=((at' x.trip ((IntKind.wrap .i64 (t50 - 1)).toNat)).amps)))then true else(decide (((at' x.trip ((IntKind.wrap .i64 (t50 - 1)).toNat)).bm)<=((at' x.trip t50.toNat).bm))))else false))then
 some (.done (.ret false))
 else
 some (.next (IntKind.wrap .i64 (t50+1)))))
 else
 some (.done (.brk ()))
def qO (x:Link) (x1:Int) (x11:List Source) (x12:List Link) (x13:List aO):Option Bool:=
 (aV x.a 0 (IntKind.wrap .i64 (x1 - 1))).bind fun r_=>
 (bif gB [(!r_,false)]then aV x.b 0 (IntKind.wrap .i64 (x1 - 1))else some default).bind fun r_1=>
 (bif gB [((bif (bif (!r_)then true else(!r_1))then true else(decide (x.a=x.b))),false)]then aV x.kind 1 3 else some default).bind fun r_2=>
 (bif gB [((bif (bif (bif (!r_)then true else(!r_1))then true else(decide (x.a=x.b)))then true else(!r_2)),false)]then aV x.most 1 100000 else some default).bind fun r_3=>
 (bif gB [((bif (bif (bif (bif (!r_)then true else(!r_1))then true else(decide (x.a=x.b)))then true else(!r_2))then true else(!r_3)),false)]then aV x.ohm 10 100000 else some default).bind fun r_4=>
 bif (bif (bif (bif (bif (bif (!r_)then true else(!r_1))then true else(decide (x.a=x.b)))then true else(!r_2))then true else(!r_3))then true else(!r_4))then
 some false
 else
 Option.bind (ay (nk x) FUEL (0)) fun o=>match o with
 | .ret v=>some v
 | .brk _=>
 some (bif (decide ((x.trip.length:Int)<=6))then(bif (decide ((x.trip.length:Int)=0))then true else(decide (x.kind=3)))else false)
def qH (x:Link) (x1:Int) (x11:List Source) (x12:List Link) (x13:List aO):Option Bool:=
 (qO x x1 x11 x12 x13).bind fun r_=>
 some (!r_)
def j5 (s_:List Link) (f_:Int) (f_1:List Source) (f_2:List Link) (f_3:List aO):Int->Option (aH Int (Ex Unit Int)):=
 fun t8=>
 bif (decide (t8<(s_.length:Int)))then
 (qH (at' s_ t8.toNat) f_ f_1 f_2 f_3).bind fun r_=>
 bg ((0:Int)<=t8/\t8<(s_.length:Int)) (
 bif r_ then
 some (.done (.ret t8))
 else
 some (.next (IntKind.wrap .i64 (t8+1))))
 else
 some (.done (.brk ()))
def mJ (s_:List Link) (f_:Int) (f_1:List Source) (f_2:List Link) (f_3:List aO):Option Int:=
 Option.bind (ay (j5 s_ f_ f_1 f_2 f_3) FUEL (0)) fun o=>match o with
 | .ret v=>some v
 | .brk _=>
 some (-1)
def fV (s_:List Link) (f_:Int) (f_1:List Source) (f_2:List Link) (f_3:List aO):Option Bool:=
 (mJ s_ f_ f_1 f_2 f_3).bind fun r_=>
 some (decide (0<=r_))
def qy (l:List Link) (most:Int) (right:Int) (right1:List Source) (right2:List Link) (right3:List aO):Option Bool:=
 (bif gB [(decide ((l.length:Int)<=most),true)]then fV l right right1 right2 right3 else some default).bind fun r_=>
 some (bif (decide ((l.length:Int)<=most))then(!r_)else false)
def rR (x:aO):Option Int:=
 bif (decide (x.bj.e1=(-1)))then
 some 1
 else
 some 2
def qP (x:aO) (x1:Int) (x11:List Source) (x12:List Link) (x13:List aO):Option Bool:=
 (aV x.bj.e0 0 (IntKind.wrap .i64 (x1 - 1))).bind fun r_=>
 (bif gB [(r_,true)]then aV x.bj.e1 (-1) (IntKind.wrap .i64 (x1 - 1))else some default).bind fun r_1=>
 (bif gB [((bif (bif r_ then r_1 else false)then(!decide (x.bj.e0=x.bj.e1))else false),true)]then aV x.power 1 100000 else some default).bind fun r_2=>
 (bif gB [((bif (bif (bif r_ then r_1 else false)then(!decide (x.bj.e0=x.bj.e1))else false)then r_2 else false),true)]then rR x else some default).bind fun r_3=>
 (bif gB [((bif (bif (bif r_ then r_1 else false)then(!decide (x.bj.e0=x.bj.e1))else false)then r_2 else false),true)]then aV x.bk 0 r_3 else some default).bind fun r_4=>
 some (bif (bif (bif (bif r_ then r_1 else false)then(!decide (x.bj.e0=x.bj.e1))else false)then r_2 else false)then r_4 else false)
def qw (x:aO) (x1:Int) (x11:List Source) (x12:List Link) (x13:List aO):Option Bool:=
 (qP x x1 x11 x12 x13).bind fun r_=>
 some (!r_)
def ku (s_:List aO) (f_:Int) (f_1:List Source) (f_2:List Link) (f_3:List aO):Int->Option (aH Int (Ex Unit Int)):=
 fun t8=>
 bif (decide (t8<(s_.length:Int)))then
 (qw (⟨(at' s_ t8.toNat).bj,(at' s_ t8.toNat).power,(at' s_ t8.toNat).bk⟩:aO) f_ f_1 f_2 f_3).bind fun r_=>
 bg ((0:Int)<=t8/\t8<(s_.length:Int)) (
 bif r_ then
 some (.done (.ret t8))
 else
 some (.next (IntKind.wrap .i64 (t8+1))))
 else
 some (.done (.brk ()))
def mG (s_:List aO) (f_:Int) (f_1:List Source) (f_2:List Link) (f_3:List aO):Option Int:=
 Option.bind (ay (ku s_ f_ f_1 f_2 f_3) FUEL (0)) fun o=>match o with
 | .ret v=>some v
 | .brk _=>
 some (-1)
def gu (s_:List aO) (f_:Int) (f_1:List Source) (f_2:List Link) (f_3:List aO):Option Bool:=
 (mG s_ f_ f_1 f_2 f_3).bind fun r_=>
 some (decide (0<=r_))
def qF (l:List aO) (most:Int) (right:Int) (right1:List Source) (right2:List Link) (right3:List aO):Option Bool:=
 (bif gB [(decide ((l.length:Int)<=most),true)]then gu l right right1 right2 right3 else some default).bind fun r_=>
 some (bif (decide ((l.length:Int)<=most))then(!r_)else false)
def pu (p:ah):Option Int:=
 (aV p.ar 1 24).bind fun r_=>
 bif (!r_)then
 some 10
 else
 (vQ p).bind fun r_1=>
 (uj p.aa 8 r_1.1 r_1.2.1 r_1.2.2.1 r_1.2.2.2).bind fun r_2=>
 bif (!r_2)then
 some 11
 else
 (zk p).bind fun r_3=>
 (qy p.aq 40 r_3.1 r_3.2.1 r_3.2.2.1 r_3.2.2.2).bind fun r_4=>
 bif (!r_4)then
 some 12
 else
 (yN p).bind fun r_5=>
 (qF p.a_ 24 r_5.1 r_5.2.1 r_5.2.2.1 r_5.2.2.2).bind fun r_6=>
 bif (!r_6)then
 some 13
 else
 some 0
def jy (p:ah) (s_:State):Int->Option (aH Int (Ex Unit Int)):=
 fun t55=>
 bif (decide (t55<([(⟨s_.ap,(p.aq.length:Int)⟩:cO),(⟨s_.aw,(p.aq.length:Int)⟩:cO),(⟨s_.ag,(p.aq.length:Int)⟩:cO),(⟨s_.on_,(p.aa.length:Int)⟩:cO),(⟨s_.ae,(p.aa.length:Int)⟩:cO),(⟨s_.am,p.ar⟩:cO),(⟨s_.al,p.ar⟩:cO)].length:Int)))then
 bg ((0:Int)<=t55/\t55<([(⟨s_.ap,(p.aq.length:Int)⟩:cO),(⟨s_.aw,(p.aq.length:Int)⟩:cO),(⟨s_.ag,(p.aq.length:Int)⟩:cO),(⟨s_.on_,(p.aa.length:Int)⟩:cO),(⟨s_.ae,(p.aa.length:Int)⟩:cO),(⟨s_.am,p.ar⟩:cO),(⟨s_.al,p.ar⟩:cO)].length:Int)) (
 bif (!decide ((((at' [(⟨s_.ap,(p.aq.length:Int)⟩:cO),(⟨s_.aw,(p.aq.length:Int)⟩:cO),(⟨s_.ag,(p.aq.length:Int)⟩:cO),(⟨s_.on_,(p.aa.length:Int)⟩:cO),(⟨s_.ae,(p.aa.length:Int)⟩:cO),(⟨s_.am,p.ar⟩:cO),(⟨s_.al,p.ar⟩:cO)] t55.toNat).l).length:Int)=((at' [(⟨s_.ap,(p.aq.length:Int)⟩:cO),(⟨s_.aw,(p.aq.length:Int)⟩:cO),(⟨s_.ag,(p.aq.length:Int)⟩:cO),(⟨s_.on_,(p.aa.length:Int)⟩:cO),(⟨s_.ae,(p.aa.length:Int)⟩:cO),(⟨s_.am,p.ar⟩:cO),(⟨s_.al,p.ar⟩:cO)] t55.toNat).n)))then
 some (.done (.ret 9))
 else
 some (.next (IntKind.wrap .i64 (t55+1))))
 else
 some (.done (.brk ()))
def jA (p:ah) (s_:State):Int->Option (aH Int (Ex Unit Int)):=
 fun t69=>
 bif (decide (t69<(p.aq.length:Int)))then
 bg ((0:Int)<=t69/\t69<(p.aq.length:Int)) (
 bg ((gB [(decide (((at' p.aq t69.toNat).kind)=1),true)]=true->(0:Int)<=t69/\t69<(s_.ap.length:Int))/\(gB [(!(at' s_.ap t69.toNat),false),(decide (((at' p.aq t69.toNat).kind)=1),true)]=true->(0:Int)<=t69/\t69<(s_.aw.length:Int))) (
 bif (bif (decide (((at' p.aq t69.toNat).kind)=1))then(bif (!(at' s_.ap t69.toNat))then true else(at' s_.aw t69.toNat))else false)then
 some (.done (.ret 9))
 else
 some (.next (IntKind.wrap .i64 (t69+1)))))
 else
 some (.done (.brk ()))
def dQ (p:ah) (s_:State):Option Int:=
 (pu p).bind fun r_=>
 bif (!decide (r_=0))then
 some r_
 else
 Option.bind (ay (jy p s_) FUEL (0)) fun o=>match o with
 | .ret v=>some v
 | .brk _=>
 Option.bind (ay (jA p s_) FUEL (0)) fun o=>match o with
 | .ret v=>some v
 | .brk _=>
 some 0
def fo (i:Int) (x1:Int) (x11:List Source) (x12:List Link) (x13:List aO):Option Bool:=
 bg (gB [((bif (decide (0<=i))then(decide (i<(x12.length:Int)))else false),true)]=true->(0:Int)<=i/\i<(x12.length:Int)) (
 some (bif (bif (decide (0<=i))then(decide (i<(x12.length:Int)))else false)then(!decide (((at' x12 i.toNat).kind)=1))else false))
def gT (x:Transfer) (x1:Int) (x11:List Source) (x12:List Link) (x13:List aO) (x2:Int) (x21:List Source) (x22:List Link) (x23:List aO):Option Bool:=
 (bif gB [((bif (decide (x.bh<0))then true else(decide (x1<=x.bh))),false)]then fo x.close x2 x21 x22 x23 else some default).bind fun r_=>
 (bif gB [(!decide (x.open_=(-1)),true),((bif (bif (decide (x.bh<0))then true else(decide (x1<=x.bh)))then true else(!r_)),false)]then fo x.open_ x2 x21 x22 x23 else some default).bind fun r_1=>
 some (bif (bif (bif (decide (x.bh<0))then true else(decide (x1<=x.bh)))then true else(!r_))then true else(bif (!decide (x.open_=(-1)))then(bif (!r_1)then true else(decide (x.open_=x.close)))else false))
def kC (s_:List Transfer) (f_:Int) (f_1:List Source) (f_2:List Link) (f_3:List aO) (f_4:Int) (f_5:List Source) (f_6:List Link) (f_7:List aO):Int->Option (aH Int (Ex Unit Int)):=
 fun t8=>
 bif (decide (t8<(s_.length:Int)))then
 (gT (at' s_ t8.toNat) f_ f_1 f_2 f_3 f_4 f_5 f_6 f_7).bind fun r_=>
 bg ((0:Int)<=t8/\t8<(s_.length:Int)) (
 bif r_ then
 some (.done (.ret t8))
 else
 some (.next (IntKind.wrap .i64 (t8+1))))
 else
 some (.done (.brk ()))
def mI (s_:List Transfer) (f_:Int) (f_1:List Source) (f_2:List Link) (f_3:List aO) (f_4:Int) (f_5:List Source) (f_6:List Link) (f_7:List aO):Option Int:=
 Option.bind (ay (kC s_ f_ f_1 f_2 f_3 f_4 f_5 f_6 f_7) FUEL (0)) fun o=>match o with
 | .ret v=>some v
 | .brk _=>
 some (-1)
def gU (s_:List Transfer) (f_:Int) (f_1:List Source) (f_2:List Link) (f_3:List aO) (f_4:Int) (f_5:List Source) (f_6:List Link) (f_7:List aO):Option Bool:=
 (mI s_ f_ f_1 f_2 f_3 f_4 f_5 f_6 f_7).bind fun r_=>
 some (decide (0<=r_))
def dI (p:ah) (s_:State) (l:List Transfer):Option Int:=
 (dQ p s_).bind fun r_=>
 bif (!decide (r_=0))then
 some r_
 else
 (bif gB [(decide (16<(l.length:Int)),false)]then gU l p.ar p.aa p.aq p.a_ p.ar p.aa p.aq p.a_ else some default).bind fun r_1=>
 bif (bif (decide (16<(l.length:Int)))then true else r_1)then
 some 1
 else
 some 0
def vX (s_:List Bool) (s_nn:Bool):Option (List Bool):=
 bif (!s_nn)then
 some ([]:List Bool)
 else
 bg (((([]:List Bool).length+s_.length)*1<=140737488355328)/\(([]:List Bool).length+s_.length<=4611686018427387904)) (
 some (([]:List Bool)++s_))
def bB (s:List Bool):Option (List Bool):=vX s true
def qp (s_:State):Option State:=
 bg ((0:Int)<=0/\0<(7:Int)) (
 (bB s_.ap).bind fun r_=>
 bg ((0:Int)<=1/\1<(7:Int)) (
 (bB s_.aw).bind fun r_1=>
 bg ((0:Int)<=2/\2<(7:Int)) (
 (bB s_.ag).bind fun r_2=>
 bg ((0:Int)<=3/\3<(7:Int)) (
 (bB s_.on_).bind fun r_3=>
 bg ((0:Int)<=4/\4<(7:Int)) (
 (bB s_.ae).bind fun r_4=>
 bg ((0:Int)<=5/\5<(7:Int)) (
 (bB s_.am).bind fun r_5=>
 bg ((0:Int)<=6/\6<(7:Int)) (
 (bB s_.al).bind fun r_6=>
 some (⟨r_,r_1,r_2,r_3,r_4,r_5,r_6⟩:State))))))))
def qD (p:ah) (s_:State) (l:List Transfer):Option ((List Transfer) × Int × (List Source) × (List Link) × (List aO) × State):=
 some (l,p.ar,p.aa,p.aq,p.a_,s_)
def lQ (p:ah) (s_:State):Option (Int × (List Source) × (List Link) × (List aO) × (List Bool) × (List Bool) × (List Bool) × (List Bool) × (List Bool) × (List Bool) × (List Bool)):=
 some (p.ar,p.aa,p.aq,p.a_,s_.ap,s_.aw,s_.ag,s_.on_,s_.ae,s_.am,s_.al)
def eP (g:bE):Int->Option (aH Int (Ex Unit Int)):=
 fun x1=>
 bif (!((bC cK x1 g.br).isSome))then
 some (.done (.ret x1))
 else
 some (.next ((bC cK x1 g.br).getD 0))
def di (g:bE) (x:Int):Option Int:=
 Option.bind (ay (eP g) FUEL (x)) fun o=>match o with
 | .ret v=>some v
 | .brk _=>none
def kJ (g:bE) (a:Int) (b:Int):Option (List (Int × Int)):=
 (di g a).bind fun r_=>
 (di g b).bind fun r_1=>
 bif (!decide (r_=r_1))then
 some (iC cK r_ r_1 g.br)
 else
 some g.br
def nO (x22:Int) (x221:Int) (x222:Int) (x223:Int) (x224:Int) (x225:List nT) (o_:bE):Option bE:=
 (kJ o_ x22 x221).bind fun r_=>
 some (⟨r_⟩:bE)
def dL (x12:List Link) (x2:List Bool) (x22:List Bool) (x26:List Bool):((List (Int × Int)) × Int)->Option (aH ((List (Int × Int)) × Int) (Ex (List (Int × Int)) bE)):=
 fun zz=>match zz with
 |(o50,t9)=>
 bif (decide (t9<(x12.length:Int)))then
 bg ((0:Int)<=t9/\t9<(x12.length:Int)) (
 bif (bif (bif (bif (at' x2 t9.toNat)then(!(at' x22 t9.toNat))else false)then(!(at' x26 (((at' x12 t9.toNat).a).toNat)))else false)then(!(at' x26 (((at' x12 t9.toNat).b).toNat)))else false)then
 (nO ((at' x12 t9.toNat).a) ((at' x12 t9.toNat).b) ((at' x12 t9.toNat).kind) ((at' x12 t9.toNat).most) ((at' x12 t9.toNat).ohm) ((at' x12 t9.toNat).trip) (⟨o50⟩:bE)).bind fun r_=>
 bg (((0:Int)<=t9/\t9<(x2.length:Int))/\(gB [(at' x2 t9.toNat,true)]=true->(0:Int)<=t9/\t9<(x22.length:Int))/\(gB [((bif (at' x2 t9.toNat)then(!(at' x22 t9.toNat))else false),true)]=true->(0:Int)<=(at' x12 t9.toNat).a/\(at' x12 t9.toNat).a<(x26.length:Int))/\(gB [((bif (bif (at' x2 t9.toNat)then(!(at' x22 t9.toNat))else false)then(!(at' x26 (((at' x12 t9.toNat).a).toNat)))else false),true)]=true->(0:Int)<=(at' x12 t9.toNat).b/\(at' x12 t9.toNat).b<(x26.length:Int))) (
 some (.next (r_.br,IntKind.wrap .i64 (t9+1))))
 else
 bg (((0:Int)<=t9/\t9<(x2.length:Int))/\(gB [(at' x2 t9.toNat,true)]=true->(0:Int)<=t9/\t9<(x22.length:Int))/\(gB [((bif (at' x2 t9.toNat)then(!(at' x22 t9.toNat))else false),true)]=true->(0:Int)<=(at' x12 t9.toNat).a/\(at' x12 t9.toNat).a<(x26.length:Int))/\(gB [((bif (bif (at' x2 t9.toNat)then(!(at' x22 t9.toNat))else false)then(!(at' x26 (((at' x12 t9.toNat).a).toNat)))else false),true)]=true->(0:Int)<=(at' x12 t9.toNat).b/\(at' x12 t9.toNat).b<(x26.length:Int))) (
 some (.next (o50,IntKind.wrap .i64 (t9+1)))))
 else
 some (.done (.brk o50))
def oh (x1:Int) (x11:List Source) (x12:List Link) (x13:List aO) (x2:List Bool) (x21:List Bool) (x22:List Bool) (x23:List Bool) (x24:List Bool) (x25:List Bool) (x26:List Bool) (o_:bE):Option bE:=
 Option.bind (ay (dL x12 x2 x22 x26) FUEL (o_.br,0)) fun o=>match o with
 | .ret v=>some v
 | .brk o501=>
 some (⟨o501⟩:bE)
def bQ (p:ah) (s_:State) (r_1:bE):((List aI) × (List (Int × Int)) × Int)->Option (aH ((List aI) × (List (Int × Int)) × Int) (Ex ((List aI) × (List (Int × Int))) (List aI))):=
 fun zz=>match zz with
 |(out,at_,t32)=>
 bif (decide (t32<p.ar))then
 bg ((0:Int)<=t32/\t32<(s_.al.length:Int)) (
 bif (at' s_.al t32.toNat)then
 some (.next (out,at_,IntKind.wrap .i64 (t32+1)))
 else
 (di r_1 t32).bind fun r_2=>
 bif (!((bC cK r_2 at_).isSome))then
 bg (((out.length+[(⟨([]:List Int),([]:List Int)⟩:aI)].length)*48<=140737488355328)/\(out.length+[(⟨([]:List Int),([]:List Int)⟩:aI)].length<=4611686018427387904)) (
 bg (((0:Int)<=((bC cK r_2 (iC cK r_2 (out.length:Int) at_)).getD 0)/\((bC cK r_2 (iC cK r_2 (out.length:Int) at_)).getD 0)<((out++[(⟨([]:List Int),([]:List Int)⟩:aI)]).length:Int))/\((((at' (out++[(⟨([]:List Int),([]:List Int)⟩:aI)]) (((bC cK r_2 (iC cK r_2 (out.length:Int) at_)).getD 0).toNat)).ar).length+[t32].length)*8<=140737488355328)/\(((at' (out++[(⟨([]:List Int),([]:List Int)⟩:aI)]) (((bC cK r_2 (iC cK r_2 (out.length:Int) at_)).getD 0).toNat)).ar).length+[t32].length<=4611686018427387904)) (
 some (.next ((out++[(⟨([]:List Int),([]:List Int)⟩:aI)]).set (((bC cK r_2 (iC cK r_2 (out.length:Int) at_)).getD 0).toNat) (⟨((at' (out++[(⟨([]:List Int),([]:List Int)⟩:aI)]) (((bC cK r_2 (iC cK r_2 (out.length:Int) at_)).getD 0).toNat)).ar)++[t32],(at' (out++[(⟨([]:List Int),([]:List Int)⟩:aI)]) (((bC cK r_2 (iC cK r_2 (out.length:Int) at_)).getD 0).toNat)).aa⟩:aI),iC cK r_2 (out.length:Int) at_,IntKind.wrap .i64 (t32+1)))))
 else
 bg (((0:Int)<=((bC cK r_2 at_).getD 0)/\((bC cK r_2 at_).getD 0)<(out.length:Int))/\((((at' out (((bC cK r_2 at_).getD 0).toNat)).ar).length+[t32].length)*8<=140737488355328)/\(((at' out (((bC cK r_2 at_).getD 0).toNat)).ar).length+[t32].length<=4611686018427387904)) (
 some (.next (out.set (((bC cK r_2 at_).getD 0).toNat) (⟨((at' out (((bC cK r_2 at_).getD 0).toNat)).ar)++[t32],(at' out (((bC cK r_2 at_).getD 0).toNat)).aa⟩:aI),at_,IntKind.wrap .i64 (t32+1)))))
 else
 some (.done (.brk (out,at_)))
def bP (p:ah) (s_:State) (r_1:bE) (at_1:List (Int × Int)):((List aI) × Int)->Option (aH ((List aI) × Int) (Ex (List aI) (List aI))):=
 fun zz=>match zz with
 |(out2,t78)=>
 bif (decide (t78<(p.aa.length:Int)))then
 bg ((0:Int)<=t78/\t78<(p.aa.length:Int)) (
 bg (((0:Int)<=t78/\t78<(s_.on_.length:Int))/\(gB [(at' s_.on_ t78.toNat,true)]=true->(0:Int)<=t78/\t78<(s_.ae.length:Int))/\(gB [((bif (at' s_.on_ t78.toNat)then(!(at' s_.ae t78.toNat))else false),true)]=true->(0:Int)<=(at' p.aa t78.toNat).bus/\(at' p.aa t78.toNat).bus<(s_.al.length:Int))) (
 bif (bif (bif (at' s_.on_ t78.toNat)then(!(at' s_.ae t78.toNat))else false)then(!(at' s_.al (((at' p.aa t78.toNat).bus).toNat)))else false)then
 (di r_1 ((at' p.aa t78.toNat).bus)).bind fun r_3=>
 bg (((0:Int)<=((bC cK r_3 at_1).getD 0)/\((bC cK r_3 at_1).getD 0)<(out2.length:Int))/\((((at' out2 (((bC cK r_3 at_1).getD 0).toNat)).aa).length+[t78].length)*8<=140737488355328)/\(((at' out2 (((bC cK r_3 at_1).getD 0).toNat)).aa).length+[t78].length<=4611686018427387904)) (
 some (.next (out2.set (((bC cK r_3 at_1).getD 0).toNat) (⟨(at' out2 (((bC cK r_3 at_1).getD 0).toNat)).ar,((at' out2 (((bC cK r_3 at_1).getD 0).toNat)).aa)++[t78]⟩:aI),IntKind.wrap .i64 (t78+1))))
 else
 some (.next (out2,IntKind.wrap .i64 (t78+1)))))
 else
 some (.done (.brk out2))
def ig (p:ah) (s_:State):Option (List aI):=
 (lQ p s_).bind fun r_=>
 (oh r_.1 r_.2.1 r_.2.2.1 r_.2.2.2.1 r_.2.2.2.2.1 r_.2.2.2.2.2.1 r_.2.2.2.2.2.2.1 r_.2.2.2.2.2.2.2.1 r_.2.2.2.2.2.2.2.2.1 r_.2.2.2.2.2.2.2.2.2.1 r_.2.2.2.2.2.2.2.2.2.2 (⟨([]:(List (Int × Int)))⟩:bE)).bind fun r_1=>
 Option.bind (ay (bQ p s_ r_1) FUEL (([]:List aI),([]:(List (Int × Int))),0)) fun o=>match o with
 | .ret v=>some v
 | .brk (out1,at_1)=>
 Option.bind (ay (bP p s_ r_1 at_1) FUEL (out1,0)) fun o=>match o with
 | .ret v=>some v
 | .brk out3=>
 some out3
def mq (r_1:List aI) (t25:Int):((List Bool) × Int)->Option (aH ((List Bool) × Int) (Ex (List Bool) (aH ((List Bool) × Int) (Ex (List Bool) ((List Bool) × Int))))):=
 fun zz=>match zz with
 |(out2,t32)=>
 bif (decide (t32<(((at' r_1 t25.toNat).ar).length:Int)))then
 bg ((0:Int)<=t32/\t32<(((at' r_1 t25.toNat).ar).length:Int)) (
 bg ((0:Int)<=(at' ((at' r_1 t25.toNat).ar) t32.toNat)/\(at' ((at' r_1 t25.toNat).ar) t32.toNat)<(out2.length:Int)) (
 some (.next (out2.set ((at' ((at' r_1 t25.toNat).ar) t32.toNat).toNat) (decide (0<(((at' r_1 t25.toNat).aa).length:Int))),IntKind.wrap .i64 (t32+1)))))
 else
 some (.done (.brk out2))
def mo (r_1:List aI):((List Bool) × Int)->Option (aH ((List Bool) × Int) (Ex (List Bool) ((List Bool) × Int))):=
 fun zz=>match zz with
 |(out,t25)=>
 bif (decide (t25<(r_1.length:Int)))then
 bg ((0:Int)<=t25/\t25<(r_1.length:Int)) (
 Option.bind (ay (mq r_1 t25) FUEL (out,0)) fun o=>match o with
 | .ret v=>some v
 | .brk out3=>
 some (.next (out3,IntKind.wrap .i64 (t25+1))))
 else
 some (.done (.brk out))
def dU (p:ah) (s_:State):Option ((List Bool) × Int):=
 (dQ p s_).bind fun r_=>
 bif (!decide (r_=0))then
 some (([]:List Bool),r_)
 else
 bg (((0:Int)<=p.ar)/\((1:Int)*p.ar<=281474976710656)/\((p.ar:Int)<=9223372036854775807)) (
 (ig p s_).bind fun r_1=>
 Option.bind (ay (mo r_1) FUEL (List.replicate p.ar.toNat (false:Bool),0)) fun o=>match o with
 | .ret v=>some v
 | .brk out1=>
 some (out1,0))
def bn (x y:ai):Int:=if x.e0<y.e0 then -1 else if y.e0<x.e0 then 1 else if x.e1<y.e1 then -1 else if y.e1<x.e1 then 1 else 0
def jQ (s:List ai):Option (List ai):=match s with
 |[]=>some []
 |x::xs=>bif decide ((x::xs).length<4611686018427387904)then some ((x::xs).mergeSort fun x y=> !decide (bn y x<0))else none
def lS (p:ah) (r_1:List aI) (t24:Int) (t31:Int):((List ai) × Int)->Option (aH ((List ai) × Int) (Ex (List ai) (aH ((List ai) × Int) (Ex (List ai) (aH ((List ai) × Int) (Ex (List ai) ((List ai) × Int))))))):=
 fun zz=>match zz with
 |(out4,t42)=>
 bif (decide (t42<(((((at' r_1 t24.toNat).aa).length - ((IntKind.wrap .i64 (t31+1)).toNat)):Nat):Int)))then
 bg ((0:Int)<=t42/\t42<((((at' r_1 t24.toNat).aa).drop ((IntKind.wrap .i64 (t31+1)).toNat)).length:Int)) (
 bg (((0:Int)<=(at' ((at' r_1 t24.toNat).aa) t31.toNat)/\(at' ((at' r_1 t24.toNat).aa) t31.toNat)<(p.aa.length:Int))/\(gB [(decide (((at' p.aa ((at' ((at' r_1 t24.toNat).aa) t31.toNat).toNat)).bp)=0),false)]=true->(0:Int)<=(at' ((at' r_1 t24.toNat).aa) t31.toNat)/\(at' ((at' r_1 t24.toNat).aa) t31.toNat)<(p.aa.length:Int))/\(gB [(decide (((at' p.aa ((at' ((at' r_1 t24.toNat).aa) t31.toNat).toNat)).bp)=0),false)]=true->(0:Int)<=(at' (((at' r_1 t24.toNat).aa).drop ((IntKind.wrap .i64 (t31+1)).toNat)) t42.toNat)/\(at' (((at' r_1 t24.toNat).aa).drop ((IntKind.wrap .i64 (t31+1)).toNat)) t42.toNat)<(p.aa.length:Int))) (
 bif (bif (decide (((at' p.aa ((at' ((at' r_1 t24.toNat).aa) t31.toNat).toNat)).bp)=0))then true else(!decide (((at' p.aa ((at' ((at' r_1 t24.toNat).aa) t31.toNat).toNat)).bp)=((at' p.aa ((at' (((at' r_1 t24.toNat).aa).drop ((IntKind.wrap .i64 (t31+1)).toNat)) t42.toNat).toNat)).bp))))then
 bg (((out4.length+[(⟨at' ((at' r_1 t24.toNat).aa) t31.toNat,at' (((at' r_1 t24.toNat).aa).drop ((IntKind.wrap .i64 (t31+1)).toNat)) t42.toNat⟩:ai)].length)*16<=140737488355328)/\(out4.length+[(⟨at' ((at' r_1 t24.toNat).aa) t31.toNat,at' (((at' r_1 t24.toNat).aa).drop ((IntKind.wrap .i64 (t31+1)).toNat)) t42.toNat⟩:ai)].length<=4611686018427387904)) (
 some (.next (out4++[(⟨at' ((at' r_1 t24.toNat).aa) t31.toNat,at' (((at' r_1 t24.toNat).aa).drop ((IntKind.wrap .i64 (t31+1)).toNat)) t42.toNat⟩:ai)],IntKind.wrap .i64 (t42+1))))
 else
 some (.next (out4,IntKind.wrap .i64 (t42+1)))))
 else
 some (.done (.brk out4))
def lI (p:ah) (r_1:List aI) (t24:Int):((List ai) × Int)->Option (aH ((List ai) × Int) (Ex (List ai) (aH ((List ai) × Int) (Ex (List ai) ((List ai) × Int))))):=
 fun zz=>match zz with
 |(out2,t31)=>
 bif (decide (t31<(((at' r_1 t24.toNat).aa).length:Int)))then
 bg ((0:Int)<=t31/\t31<(((at' r_1 t24.toNat).aa).length:Int)) (
 bg ((0:Int)<=(IntKind.wrap .i64 (t31+1))/\(IntKind.wrap .i64 (t31+1))<=(((at' r_1 t24.toNat).aa).length:Int)) (
 Option.bind (ay (lS p r_1 t24 t31) FUEL (out2,0)) fun o=>match o with
 | .ret v=>some v
 | .brk out5=>
 some (.next (out5,IntKind.wrap .i64 (t31+1)))))
 else
 some (.done (.brk out2))
def je (p:ah) (r_1:List aI):((List ai) × Int)->Option (aH ((List ai) × Int) (Ex (List ai) ((List ai) × Int))):=
 fun zz=>match zz with
 |(out,t24)=>
 bif (decide (t24<(r_1.length:Int)))then
 bg ((0:Int)<=t24/\t24<(r_1.length:Int)) (
 Option.bind (ay (lI p r_1 t24) FUEL (out,0)) fun o=>match o with
 | .ret v=>some v
 | .brk out3=>
 some (.next (out3,IntKind.wrap .i64 (t24+1))))
 else
 some (.done (.brk out))
def dR (p:ah) (s_:State):Option ((List ai) × Int):=
 (dQ p s_).bind fun r_=>
 bif (!decide (r_=0))then
 some (([]:List ai),r_)
 else
 (ig p s_).bind fun r_1=>
 Option.bind (ay (je p r_1) FUEL (([]:List ai),0)) fun o=>match o with
 | .ret v=>some v
 | .brk out1=>
 (jQ out1).bind fun r_2=>
 bg (out1.length=r_2.length) (
 some (r_2,0))
def qM (s_:List ai) (v_:ai):Int->Option (aH Int (Ex Unit Int)):=
 fun t8=>
 bif (decide (t8<(s_.length:Int)))then
 bg ((0:Int)<=t8/\t8<(s_.length:Int)) (
 bif ((decide (v_.e0=((at' s_ t8.toNat).e0))) && ((decide (v_.e1=((at' s_ t8.toNat).e1))) && true))then
 some (.done (.ret t8))
 else
 some (.next (IntKind.wrap .i64 (t8+1))))
 else
 some (.done (.brk ()))
def vU (s_:List ai) (v_:ai):Option Int:=
 Option.bind (ay (qM s_ v_) FUEL (0)) fun o=>match o with
 | .ret v=>some v
 | .brk _=>
 some (-1)
def mR (s_:List ai) (v_:ai):Option Bool:=
 (vU s_ v_).bind fun r_=>
 some (decide (0<=r_))
def sS (c:ai) (x1:List ai):Option Bool:=
 (mR x1 c).bind fun r_=>
 some (!r_)
def ko (s_:List ai) (f_:List ai):Int->Option (aH Int (Ex Unit Int)):=
 fun t8=>
 bif (decide (t8<(s_.length:Int)))then
 (sS (at' s_ t8.toNat) f_).bind fun r_=>
 bg ((0:Int)<=t8/\t8<(s_.length:Int)) (
 bif r_ then
 some (.done (.ret t8))
 else
 some (.next (IntKind.wrap .i64 (t8+1))))
 else
 some (.done (.brk ()))
def mM (s_:List ai) (f_:List ai):Option Int:=
 Option.bind (ay (ko s_ f_) FUEL (0)) fun o=>match o with
 | .ret v=>some v
 | .brk _=>
 some (-1)
def dD (s_:List ai) (f_:List ai):Option Bool:=
 (mM s_ f_).bind fun r_=>
 some (decide (0<=r_))
def iW (s_:State) (r_:(List Bool) × Int) (r_2:(List Bool) × Int):Int->Option (aH Int (Ex Unit (State × Bool))):=
 fun t103=>
 bif (decide (t103<(r_2.1.length:Int)))then
 bg (((0:Int)<=t103/\t103<(r_.1.length:Int))/\(gB [(at' r_.1 t103.toNat,true)]=true->(0:Int)<=t103/\t103<(r_2.1.length:Int))/\(gB [((bif (at' r_.1 t103.toNat)then(!(at' r_2.1 t103.toNat))else false),false)]=true->(0:Int)<=t103/\t103<(r_2.1.length:Int))/\(gB [(at' r_2.1 t103.toNat,true),((bif (at' r_.1 t103.toNat)then(!(at' r_2.1 t103.toNat))else false),false)]=true->(0:Int)<=t103/\t103<(s_.am.length:Int))/\(gB [((bif (at' r_2.1 t103.toNat)then(at' s_.am t103.toNat)else false),true),((bif (at' r_.1 t103.toNat)then(!(at' r_2.1 t103.toNat))else false),false)]=true->(0:Int)<=t103/\t103<(r_.1.length:Int))) (
 bif (bif (bif (at' r_.1 t103.toNat)then(!(at' r_2.1 t103.toNat))else false)then true else(bif (bif (at' r_2.1 t103.toNat)then(at' s_.am t103.toNat)else false)then(!(at' r_.1 t103.toNat))else false))then
 some (.done (.ret (s_,false)))
 else
 some (.next (IntKind.wrap .i64 (t103+1))))
 else
 some (.done (.brk ()))
def xQ (s_:State) (r_:(List Bool) × Int) (r_6:(List Bool) × Int):Int->Option (aH Int (Ex Unit (State × Bool))):=
 fun t1031=>
 bif (decide (t1031<(r_6.1.length:Int)))then
 bg (((0:Int)<=t1031/\t1031<(r_.1.length:Int))/\(gB [(at' r_.1 t1031.toNat,true)]=true->(0:Int)<=t1031/\t1031<(r_6.1.length:Int))/\(gB [((bif (at' r_.1 t1031.toNat)then(!(at' r_6.1 t1031.toNat))else false),false)]=true->(0:Int)<=t1031/\t1031<(r_6.1.length:Int))/\(gB [(at' r_6.1 t1031.toNat,true),((bif (at' r_.1 t1031.toNat)then(!(at' r_6.1 t1031.toNat))else false),false)]=true->(0:Int)<=t1031/\t1031<(s_.am.length:Int))/\(gB [((bif (at' r_6.1 t1031.toNat)then(at' s_.am t1031.toNat)else false),true),((bif (at' r_.1 t1031.toNat)then(!(at' r_6.1 t1031.toNat))else false),false)]=true->(0:Int)<=t1031/\t1031<(r_.1.length:Int))) (
 bif (bif (bif (at' r_.1 t1031.toNat)then(!(at' r_6.1 t1031.toNat))else false)then true else(bif (bif (at' r_6.1 t1031.toNat)then(at' s_.am t1031.toNat)else false)then(!(at' r_.1 t1031.toNat))else false))then
 some (.done (.ret (s_,false)))
 else
 some (.next (IntKind.wrap .i64 (t1031+1))))
 else
 some (.done (.brk ()))
def pq (p:ah) (s_:State) (x:Transfer):Option (State × Bool):=
 (dU p s_).bind fun r_=>
 bg (((0:Int)<=x.bh/\x.bh<(s_.al.length:Int))/\(gB [(at' s_.al x.bh.toNat,false)]=true->(0:Int)<=x.bh/\x.bh<(r_.1.length:Int))/\(gB [((bif (at' s_.al x.bh.toNat)then true else(at' r_.1 x.bh.toNat)),false)]=true->(0:Int)<=x.close/\x.close<(s_.ap.length:Int))/\(gB [((bif (bif (at' s_.al x.bh.toNat)then true else(at' r_.1 x.bh.toNat))then true else(at' s_.ap x.close.toNat)),false)]=true->(0:Int)<=x.close/\x.close<(s_.ag.length:Int))/\(gB [((bif (bif (bif (at' s_.al x.bh.toNat)then true else(at' r_.1 x.bh.toNat))then true else(at' s_.ap x.close.toNat))then true else(at' s_.ag x.close.toNat)),false)]=true->(0:Int)<=x.close/\x.close<(s_.aw.length:Int))) (
 bif (bif (bif (bif (bif (at' s_.al x.bh.toNat)then true else(at' r_.1 x.bh.toNat))then true else(at' s_.ap x.close.toNat))then true else(at' s_.ag x.close.toNat))then true else(at' s_.aw x.close.toNat))then
 some (s_,false)
 else
 (bB s_.ap).bind fun r_1=>
 bg ((0:Int)<=x.close/\x.close<(r_1.length:Int)) (
 bif (decide (0<=x.open_))then
 bg (((0:Int)<=x.open_/\x.open_<(s_.ag.length:Int))/\(gB [(at' s_.ag x.open_.toNat,false)]=true->(0:Int)<=x.open_/\x.open_<(s_.aw.length:Int))) (
 bif (bif (at' s_.ag x.open_.toNat)then true else(at' s_.aw x.open_.toNat))then
 some (s_,false)
 else
 bg ((0:Int)<=x.open_/\x.open_<((r_1.set x.close.toNat true).length:Int)) (
 (dU p (⟨(r_1.set x.close.toNat true).set x.open_.toNat false,s_.aw,s_.ag,s_.on_,s_.ae,s_.am,s_.al⟩:State)).bind fun r_2=>
 Option.bind (ay (iW s_ r_ r_2) FUEL (0)) fun o=>match o with
 | .ret v=>some v
 | .brk _=>
 (dR p s_).bind fun r_3=>
 (dR p (⟨(r_1.set x.close.toNat true).set x.open_.toNat false,s_.aw,s_.ag,s_.on_,s_.ae,s_.am,s_.al⟩:State)).bind fun r_4=>
 (bif gB [(!(at' r_2.1 x.bh.toNat),false)]then dD r_4.1 r_3.1 else some default).bind fun r_5=>
 bg ((0:Int)<=x.bh/\x.bh<(r_2.1.length:Int)) (
 bif (bif (!(at' r_2.1 x.bh.toNat))then true else r_5)then
 some (s_,false)
 else
 some ((⟨(r_1.set x.close.toNat true).set x.open_.toNat false,s_.aw,s_.ag,s_.on_,s_.ae,s_.am,s_.al⟩:State),true))))
 else
 (dU p (⟨r_1.set x.close.toNat true,s_.aw,s_.ag,s_.on_,s_.ae,s_.am,s_.al⟩:State)).bind fun r_6=>
 Option.bind (ay (xQ s_ r_ r_6) FUEL (0)) fun o=>match o with
 | .ret v=>some v
 | .brk _=>
 (dR p s_).bind fun r_7=>
 (dR p (⟨r_1.set x.close.toNat true,s_.aw,s_.ag,s_.on_,s_.ae,s_.am,s_.al⟩:State)).bind fun r_8=>
 (bif gB [(!(at' r_6.1 x.bh.toNat),false)]then dD r_8.1 r_7.1 else some default).bind fun r_9=>
 bg ((0:Int)<=x.bh/\x.bh<(r_6.1.length:Int)) (
 bif (bif (!(at' r_6.1 x.bh.toNat))then true else r_9)then
 some (s_,false)
 else
 some ((⟨r_1.set x.close.toNat true,s_.aw,s_.ag,s_.on_,s_.ae,s_.am,s_.al⟩:State),true))))
def oZ (x28:Int) (x29:List Bool) (x291:List Bool) (x292:List Bool) (x293:List Bool) (x294:List Bool) (x295:List Bool) (x296:List Bool) (state:State) (o_:List Int):Option (State × (List Int)):=
 bg (((o_.length+[x28].length)*8<=140737488355328)/\(o_.length+[x28].length<=4611686018427387904)) (
 some ((⟨x29,x291,x292,x293,x294,x295,x296⟩:State),o_++[x28]))
def kG (x1:List Transfer) (x2:Int) (x21:List Source) (x22:List Link) (x23:List aO) (state:State) (o100:List Bool) (o110:List Int) (done:List Bool):Int->Option (aH Int (Ex Unit (aH ((List Bool) × (List Int) × (List Bool)) (Ex ((List Bool) × (List Int)) (State × State × (List Int)))))):=
 fun t15=>
 bif (decide (t15<(x1.length:Int)))then
 bg ((0:Int)<=t15/\t15<(x1.length:Int)) (
 bg ((0:Int)<=t15/\t15<(done.length:Int)) (
 bif (at' done t15.toNat)then
 some (.next (IntKind.wrap .i64 (t15+1)))
 else
 (pq (⟨x2,x21,x22,x23⟩:ah) (⟨o100,state.aw,state.ag,state.on_,state.ae,state.am,state.al⟩:State) (at' x1 t15.toNat)).bind fun r_=>
 bif r_.2 then
 bg ((0:Int)<=t15/\t15<(done.length:Int)) (
 (oZ t15 r_.1.ap state.aw state.ag state.on_ state.ae state.am state.al (⟨o100,state.aw,state.ag,state.on_,state.ae,state.am,state.al⟩:State) o110).bind fun r_1=>
 some (.done (.ret (.next (r_.1.ap,r_1.2,done.set t15.toNat true)))))
 else
 some (.next (IntKind.wrap .i64 (t15+1)))))
 else
 some (.done (.brk ()))
def kI (x1:List Transfer) (x2:Int) (x21:List Source) (x22:List Link) (x23:List aO) (state:State):((List Bool) × (List Int) × (List Bool))->Option (aH ((List Bool) × (List Int) × (List Bool)) (Ex ((List Bool) × (List Int)) (State × State × (List Int)))):=
 fun zz=>match zz with
 |(o100,o110,done)=>
 Option.bind (ay (kG x1 x2 x21 x22 x23 state o100 o110 done) FUEL (0)) fun o=>match o with
 | .ret v=>some v
 | .brk _=>
 some (.done (.brk (o100,o110)))
def rJ (x1:List Transfer) (x2:Int) (x21:List Source) (x22:List Link) (x23:List aO) (state:State) (state1:State) (o_:List Int):Option (State × State × (List Int)):=
 Option.bind (α:=Unit) (
 bg (((0:Int)<=(x1.length:Int))/\((1:Int)*(x1.length:Int)<=281474976710656)/\(((x1.length:Int):Int)<=9223372036854775807)) (
 some ())) fun _=>
 Option.bind (ay (kI x1 x2 x21 x22 x23 state) FUEL (state.ap,o_,List.replicate ((x1.length:Int).toNat) (false:Bool))) fun o=>match o with
 | .ret v=>some v
 | .brk (o1001,o1101)=>
 some ((⟨o1001,state.aw,state.ag,state.on_,state.ae,state.am,state.al⟩:State),(⟨o1001,state.aw,state.ag,state.on_,state.ae,state.am,state.al⟩:State),o1101)
def bG (p:ah) (s_:State) (l:List Transfer):Option (State × (List Int) × Int):=
 (dI p s_ l).bind fun r_=>
 bif (!decide (r_=0))then
 some ((⟨([]:List Bool),([]:List Bool),([]:List Bool),([]:List Bool),([]:List Bool),([]:List Bool),([]:List Bool)⟩:State),([]:List Int),r_)
 else
 (qp s_).bind fun r_1=>
 (qD p r_1 l).bind fun r_2=>
 (rJ r_2.1 r_2.2.1 r_2.2.2.1 r_2.2.2.2.1 r_2.2.2.2.2.1 r_1 r_1 ([]:List Int)).bind fun r_3=>
 some ((⟨r_3.1.ap,r_1.aw,r_1.ag,r_1.on_,r_1.ae,r_1.am,r_1.al⟩:State),r_3.2.2,0)
def mW (a:List Int) (b:List Int):Int->Option (aH Int (Ex Unit Bool)):=
 fun i=>
 bif (decide (i<(a.length:Int)))then
 bg (((0:Int)<=i/\i<(a.length:Int))/\((0:Int)<=i/\i<(b.length:Int))) (
 bif (!decide ((at' a i.toNat)=(at' b i.toNat)))then
 some (.done (.ret false))
 else
 some (.next (IntKind.wrap .i64 (i+1))))
 else
 some (.done (.brk ()))
def gI (a:List Int) (b:List Int):Option Bool:=
 bif (!decide ((a.length:Int)=(b.length:Int)))then
 some false
 else
 Option.bind (ay (mW a b) FUEL (0)) fun o=>match o with
 | .ret v=>some v
 | .brk _=>
 some true
def qN (s_:State):Option State:=
 bg ((0:Int)<=0/\0<(7:Int)) (
 (bB s_.ap).bind fun r_=>
 bg ((0:Int)<=1/\1<(7:Int)) (
 (bB s_.aw).bind fun r_1=>
 bg ((0:Int)<=2/\2<(7:Int)) (
 (bB s_.ag).bind fun r_2=>
 bg ((0:Int)<=3/\3<(7:Int)) (
 (bB s_.on_).bind fun r_3=>
 bg ((0:Int)<=4/\4<(7:Int)) (
 (bB s_.ae).bind fun r_4=>
 bg ((0:Int)<=5/\5<(7:Int)) (
 (bB s_.am).bind fun r_5=>
 bg ((0:Int)<=6/\6<(7:Int)) (
 (bB s_.al).bind fun r_6=>
 some (⟨r_,r_1,r_2,r_3,r_4,r_5,r_6⟩:State))))))))
def iZ (p:ah) (s_:State) (x:Part) (is:Bool):Option (State × Int):=
 (dQ p s_).bind fun r_=>
 bif (!decide (r_=0))then
 some ((⟨([]:List Bool),([]:List Bool),([]:List Bool),([]:List Bool),([]:List Bool),([]:List Bool),([]:List Bool)⟩:State),r_)
 else
 (qN s_).bind fun r_1=>
 bif (cK x.kind 1)then
 (aV x.index 0 (IntKind.wrap .i64 ((r_1.al.length:Int) - 1))).bind fun r_2=>
 bif (!r_2)then
 some ((⟨([]:List Bool),([]:List Bool),([]:List Bool),([]:List Bool),([]:List Bool),([]:List Bool),([]:List Bool)⟩:State),14)
 else
 bg ((0:Int)<=x.index/\x.index<(r_1.al.length:Int)) (
 some ((⟨r_1.ap,r_1.aw,r_1.ag,r_1.on_,r_1.ae,r_1.am,r_1.al.set x.index.toNat is⟩:State),0))
 else
 bif (cK x.kind 2)then
 (aV x.index 0 (IntKind.wrap .i64 ((r_1.ae.length:Int) - 1))).bind fun r_3=>
 bif (!r_3)then
 some ((⟨([]:List Bool),([]:List Bool),([]:List Bool),([]:List Bool),([]:List Bool),([]:List Bool),([]:List Bool)⟩:State),14)
 else
 bg ((0:Int)<=x.index/\x.index<(r_1.ae.length:Int)) (
 some ((⟨r_1.ap,r_1.aw,r_1.ag,r_1.on_,r_1.ae.set x.index.toNat is,r_1.am,r_1.al⟩:State),0))
 else
 bif (cK x.kind 3)then
 (aV x.index 0 (IntKind.wrap .i64 ((r_1.ag.length:Int) - 1))).bind fun r_4=>
 bif (!r_4)then
 some ((⟨([]:List Bool),([]:List Bool),([]:List Bool),([]:List Bool),([]:List Bool),([]:List Bool),([]:List Bool)⟩:State),14)
 else
 bg ((0:Int)<=x.index/\x.index<(r_1.ag.length:Int)) (
 some ((⟨r_1.ap,r_1.aw,r_1.ag.set x.index.toNat is,r_1.on_,r_1.ae,r_1.am,r_1.al⟩:State),0))
 else
 (aV x.index 0 (-1)).bind fun r_5=>
 bif (!r_5)then
 some ((⟨([]:List Bool),([]:List Bool),([]:List Bool),([]:List Bool),([]:List Bool),([]:List Bool),([]:List Bool)⟩:State),14)
 else
 none
def pE (p:ah) (s_:State) (x:Part):Option (State × Int):=
 (iZ p s_ x true).bind fun r_=>
 some (r_.1,r_.2)
def dF (p:ah) (ba:List Part):((List Bool) × (List Bool) × (List Bool) × (List Bool) × (List Bool) × (List Bool) × (List Bool) × Int)->Option (aH ((List Bool) × (List Bool) × (List Bool) × (List Bool) × (List Bool) × (List Bool) × (List Bool) × Int) (Ex ((List Bool) × (List Bool) × (List Bool) × (List Bool) × (List Bool) × (List Bool) × (List Bool)) (State × Int))):=
 fun zz=>match zz with
 |(s0,s1,s2,s3,s4,s5,s6,t26)=>
 bif (decide (t26<(ba.length:Int)))then
 bg ((0:Int)<=t26/\t26<(ba.length:Int)) (
 (pE p (⟨s0,s1,s2,s3,s4,s5,s6⟩:State) (at' ba t26.toNat)).bind fun r_1=>
 bif (!decide (r_1.2=0))then
 some (.done (.ret ((⟨([]:List Bool),([]:List Bool),([]:List Bool),([]:List Bool),([]:List Bool),([]:List Bool),([]:List Bool)⟩:State),r_1.2)))
 else
 some (.next (r_1.1.ap,r_1.1.aw,r_1.1.ag,r_1.1.on_,r_1.1.ae,r_1.1.am,r_1.1.al,IntKind.wrap .i64 (t26+1))))
 else
 some (.done (.brk (s0,s1,s2,s3,s4,s5,s6)))
def gG (p:ah) (s_:State) (l:List Transfer) (ba:List Part):Option (State × Int):=
 (dI p s_ l).bind fun r_=>
 bif (!decide (r_=0))then
 some ((⟨([]:List Bool),([]:List Bool),([]:List Bool),([]:List Bool),([]:List Bool),([]:List Bool),([]:List Bool)⟩:State),r_)
 else
 Option.bind (ay (dF p ba) FUEL (s_.ap,s_.aw,s_.ag,s_.on_,s_.ae,s_.am,s_.al,0)) fun o=>match o with
 | .ret v=>some v
 | .brk (s01,s11,s21,s31,s41,s51,s61)=>
 (bG p (⟨s01,s11,s21,s31,s41,s51,s61⟩:State) l).bind fun r_2=>
 some (r_2.1,r_2.2.2)
def mV (p:ah) (s_:State) (rack:Int):Option Int:=
 (dQ p s_).bind fun r_=>
 bif (!decide (r_=0))then
 some r_
 else
 bif (bif (decide (rack<0))then true else(decide ((p.a_.length:Int)<=rack)))then
 some 13
 else
 some 0
def kN (p:ah) (t24:Int):((List Part) × Int)->Option (aH ((List Part) × Int) (Ex (List Part) (aH ((List Part) × Int) (Ex (List Part) ((List Part) × Int))))):=
 fun zz=>match zz with
 |(out2,t30)=>
 bif (decide (t30<(at' [p.ar,(p.aa.length:Int),(p.aq.length:Int)] t24.toNat)))then
 bg (((out2.length+[(⟨IntKind.wrap .i64 (t24+1),t30⟩:Part)].length)*16<=140737488355328)/\(out2.length+[(⟨IntKind.wrap .i64 (t24+1),t30⟩:Part)].length<=4611686018427387904)) (
 some (.next (out2++[(⟨IntKind.wrap .i64 (t24+1),t30⟩:Part)],IntKind.wrap .i64 (t30+1))))
 else
 some (.done (.brk out2))
def iV (p:ah):((List Part) × Int)->Option (aH ((List Part) × Int) (Ex (List Part) ((List Part) × Int))):=
 fun zz=>match zz with
 |(out,t24)=>
 bif (decide (t24<([p.ar,(p.aa.length:Int),(p.aq.length:Int)].length:Int)))then
 bg ((0:Int)<=t24/\t24<([p.ar,(p.aa.length:Int),(p.aq.length:Int)].length:Int)) (
 Option.bind (ay (kN p t24) FUEL (out,0)) fun o=>match o with
 | .ret v=>some v
 | .brk out3=>
 some (.next (out3,IntKind.wrap .i64 (t24+1))))
 else
 some (.done (.brk out))
def j4 (p:ah):Option ((List Part) × Int):=
 (pu p).bind fun r_=>
 bif (!decide (r_=0))then
 some (([]:List Part),r_)
 else
 Option.bind (ay (iV p) FUEL (([]:List Part),0)) fun o=>match o with
 | .ret v=>some v
 | .brk out1=>
 some (out1,0)
def fD (a:Int) (b:Int) (graph:Graph):Option Graph:=
 bg ((((bD a graph.bi.e0).length+[b].length)*8<=140737488355328)/\((bD a graph.bi.e0).length+[b].length<=4611686018427387904)) (
 some (⟨graph.ba,(⟨lJ a ((bD a graph.bi.e0)++[b]) graph.bi.e0,graph.bi.e1⟩:aF)⟩:Graph))
def Bd (s_:List Part) (v_:Part):Int->Option (aH Int (Ex Unit Int)):=
 fun t8=>
 bif (decide (t8<(s_.length:Int)))then
 bg ((0:Int)<=t8/\t8<(s_.length:Int)) (
 bif ((decide (v_.kind=((at' s_ t8.toNat).kind))) && ((decide (v_.index=((at' s_ t8.toNat).index))) && true))then
 some (.done (.ret t8))
 else
 some (.next (IntKind.wrap .i64 (t8+1))))
 else
 some (.done (.brk ()))
def qC (s_:List Part) (v_:Part):Option Int:=
 Option.bind (ay (Bd s_ v_) FUEL (0)) fun o=>match o with
 | .ret v=>some v
 | .brk _=>
 some (-1)
def fA (kz:Int) (i:Int) (graph:Graph):Option Int:=
 (qC graph.ba (⟨kz,i⟩:Part)).bind fun r_=>
 some r_
def zY (r_:(List Part) × Int):((List (Int × (List Int))) × Int)->Option (aH ((List (Int × (List Int))) × Int) (Ex (List (Int × (List Int))) Graph)):=
 fun zz=>match zz with
 |(g01,t41)=>
 bif (decide (t41<(r_.1.length:Int)))then
 (fD (IntKind.wrap .i64 ((2:Int)*t41)) (IntKind.wrap .i64 ((IntKind.wrap .i64 ((2:Int)*t41))+1)) (⟨r_.1,(⟨g01,([]:(List (Int × (List Int))))⟩:aF)⟩:Graph)).bind fun r_1=>
 some (.next (r_1.bi.e0,IntKind.wrap .i64 (t41+1)))
 else
 some (.done (.brk g01))
def zR (p:ah) (s_:State) (r_:(List Part) × Int):((List (Int × (List Int))) × Int)->Option (aH ((List (Int × (List Int))) × Int) (Ex (List (Int × (List Int))) Graph)):=
 fun zz=>match zz with
 |(g012,t55)=>
 bif (decide (t55<(p.aa.length:Int)))then
 bg ((0:Int)<=t55/\t55<(p.aa.length:Int)) (
 bg (((0:Int)<=t55/\t55<(s_.on_.length:Int))/\(gB [(at' s_.on_ t55.toNat,true)]=true->(0:Int)<=t55/\t55<(s_.ae.length:Int))/\(gB [((bif (at' s_.on_ t55.toNat)then(!(at' s_.ae t55.toNat))else false),true)]=true->(0:Int)<=(at' p.aa t55.toNat).bus/\(at' p.aa t55.toNat).bus<(s_.al.length:Int))) (
 bif (bif (bif (at' s_.on_ t55.toNat)then(!(at' s_.ae t55.toNat))else false)then(!(at' s_.al (((at' p.aa t55.toNat).bus).toNat)))else false)then
 (fA 2 t55 (⟨r_.1,(⟨g012,([]:(List (Int × (List Int))))⟩:aF)⟩:Graph)).bind fun r_2=>
 (fD (-1) (IntKind.wrap .i64 ((2:Int)*r_2)) (⟨r_.1,(⟨g012,([]:(List (Int × (List Int))))⟩:aF)⟩:Graph)).bind fun r_3=>
 (fA 1 ((at' p.aa t55.toNat).bus) (⟨r_.1,(⟨r_3.bi.e0,([]:(List (Int × (List Int))))⟩:aF)⟩:Graph)).bind fun r_4=>
 (fD (IntKind.wrap .i64 ((IntKind.wrap .i64 ((2:Int)*r_2))+1)) (IntKind.wrap .i64 ((2:Int)*r_4)) (⟨r_.1,(⟨r_3.bi.e0,([]:(List (Int × (List Int))))⟩:aF)⟩:Graph)).bind fun r_5=>
 some (.next (r_5.bi.e0,IntKind.wrap .i64 (t55+1)))
 else
 some (.next (g012,IntKind.wrap .i64 (t55+1)))))
 else
 some (.done (.brk g012))
def zQ (p:ah) (r_:(List Part) × Int) (t103:Int) (r_6:Int):((List (Int × (List Int))) × Int)->Option (aH ((List (Int × (List Int))) × Int) (Ex (List (Int × (List Int))) (aH ((List (Int × (List Int))) × Int) (Ex (List (Int × (List Int))) Graph)))):=
 fun zz=>match zz with
 |(g016,t145)=>
 bif (decide (t145<2))then
 bg ((0:Int)<=t145/\t145<((2:Nat):Int)) (
 (fA 1 (at' [(at' p.aq t103.toNat).a,(at' p.aq t103.toNat).b] t145.toNat) (⟨r_.1,(⟨g016,([]:(List (Int × (List Int))))⟩:aF)⟩:Graph)).bind fun r_7=>
 (fD (IntKind.wrap .i64 ((IntKind.wrap .i64 ((2:Int)*r_7))+1)) (IntKind.wrap .i64 ((2:Int)*r_6)) (⟨r_.1,(⟨g016,([]:(List (Int × (List Int))))⟩:aF)⟩:Graph)).bind fun r_8=>
 (fA 1 (at' [(at' p.aq t103.toNat).a,(at' p.aq t103.toNat).b] t145.toNat) (⟨r_.1,(⟨r_8.bi.e0,([]:(List (Int × (List Int))))⟩:aF)⟩:Graph)).bind fun r_9=>
 (fD (IntKind.wrap .i64 ((IntKind.wrap .i64 ((2:Int)*r_6))+1)) (IntKind.wrap .i64 ((2:Int)*r_9)) (⟨r_.1,(⟨r_8.bi.e0,([]:(List (Int × (List Int))))⟩:aF)⟩:Graph)).bind fun r_10=>
 some (.next (r_10.bi.e0,IntKind.wrap .i64 (t145+1))))
 else
 some (.done (.brk g016))
def Af (p:ah) (s_:State) (r_:(List Part) × Int):((List (Int × (List Int))) × Int)->Option (aH ((List (Int × (List Int))) × Int) (Ex (List (Int × (List Int))) Graph)):=
 fun zz=>match zz with
 |(g014,t103)=>
 bif (decide (t103<(p.aq.length:Int)))then
 bg ((0:Int)<=t103/\t103<(p.aq.length:Int)) (
 bg (((0:Int)<=t103/\t103<(s_.ap.length:Int))/\(gB [(!(at' s_.ap t103.toNat),false)]=true->(0:Int)<=t103/\t103<(s_.ag.length:Int))/\(gB [((bif (!(at' s_.ap t103.toNat))then true else(at' s_.ag t103.toNat)),false)]=true->(0:Int)<=(at' p.aq t103.toNat).a/\(at' p.aq t103.toNat).a<(s_.al.length:Int))/\(gB [((bif (bif (!(at' s_.ap t103.toNat))then true else(at' s_.ag t103.toNat))then true else(at' s_.al (((at' p.aq t103.toNat).a).toNat))),false)]=true->(0:Int)<=(at' p.aq t103.toNat).b/\(at' p.aq t103.toNat).b<(s_.al.length:Int))) (
 bif (bif (bif (bif (!(at' s_.ap t103.toNat))then true else(at' s_.ag t103.toNat))then true else(at' s_.al (((at' p.aq t103.toNat).a).toNat)))then true else(at' s_.al (((at' p.aq t103.toNat).b).toNat)))then
 some (.next (g014,IntKind.wrap .i64 (t103+1)))
 else
 (fA 3 t103 (⟨r_.1,(⟨g014,([]:(List (Int × (List Int))))⟩:aF)⟩:Graph)).bind fun r_6=>
 Option.bind (ay (zQ p r_ t103 r_6) FUEL (g014,0)) fun o=>match o with
 | .ret v=>some v
 | .brk g017=>
 some (.next (g017,IntKind.wrap .i64 (t103+1)))))
 else
 some (.done (.brk g014))
def zS (p:ah) (s_:State) (rack:Int) (r_:(List Part) × Int):((List (Int × (List Int))) × Int)->Option (aH ((List (Int × (List Int))) × Int) (Ex (List (Int × (List Int))) Graph)):=
 fun zz=>match zz with
 |(g018,t174)=>
 bif (decide (t174<2))then
 bg ((0:Int)<=t174/\t174<((2:Nat):Int)) (
 bg (gB [(decide (0<=(at' [((at' p.a_ rack.toNat).bj).e0,((at' p.a_ rack.toNat).bj).e1] t174.toNat)),true)]=true->(0:Int)<=(at' [((at' p.a_ rack.toNat).bj).e0,((at' p.a_ rack.toNat).bj).e1] t174.toNat)/\(at' [((at' p.a_ rack.toNat).bj).e0,((at' p.a_ rack.toNat).bj).e1] t174.toNat)<(s_.al.length:Int)) (
 bif (bif (decide (0<=(at' [((at' p.a_ rack.toNat).bj).e0,((at' p.a_ rack.toNat).bj).e1] t174.toNat)))then(!(at' s_.al ((at' [((at' p.a_ rack.toNat).bj).e0,((at' p.a_ rack.toNat).bj).e1] t174.toNat).toNat)))else false)then
 (fA 1 (at' [((at' p.a_ rack.toNat).bj).e0,((at' p.a_ rack.toNat).bj).e1] t174.toNat) (⟨r_.1,(⟨g018,([]:(List (Int × (List Int))))⟩:aF)⟩:Graph)).bind fun r_11=>
 (fD (IntKind.wrap .i64 ((IntKind.wrap .i64 ((2:Int)*r_11))+1)) (-2) (⟨r_.1,(⟨g018,([]:(List (Int × (List Int))))⟩:aF)⟩:Graph)).bind fun r_12=>
 some (.next (r_12.bi.e0,IntKind.wrap .i64 (t174+1)))
 else
 some (.next (g018,IntKind.wrap .i64 (t174+1)))))
 else
 some (.done (.brk g018))
def vF (p:ah) (s_:State) (rack:Int):Option Graph:=
 (j4 p).bind fun r_=>
 Option.bind (ay (zY r_) FUEL (([]:(List (Int × (List Int)))),0)) fun o=>match o with
 | .ret v=>some v
 | .brk g011=>
 Option.bind (ay (zR p s_ r_) FUEL (g011,0)) fun o=>match o with
 | .ret v=>some v
 | .brk g013=>
 Option.bind (ay (Af p s_ r_) FUEL (g013,0)) fun o=>match o with
 | .ret v=>some v
 | .brk g015=>
 bg ((0:Int)<=rack/\rack<(p.a_.length:Int)) (
 Option.bind (ay (zS p s_ rack r_) FUEL (g015,0)) fun o=>match o with
 | .ret v=>some v
 | .brk g019=>
 some (⟨r_.1,(⟨g019,([]:(List (Int × (List Int))))⟩:aF)⟩:Graph))
def wK (s_:List Int) (s_nn:Bool):Option (List Int):=
 bif (!s_nn)then
 some ([]:List Int)
 else
 bg (((([]:List Int).length+s_.length)*8<=140737488355328)/\(([]:List Int).length+s_.length<=4611686018427387904)) (
 some (([]:List Int)++s_))
def tq (s:List Int):Option (List Int):=wK s true
def AP (s_:List Int) (v_:Int):Int->Option (aH Int (Ex Unit Int)):=
 fun t8=>
 bif (decide (t8<(s_.length:Int)))then
 bg ((0:Int)<=t8/\t8<(s_.length:Int)) (
 bif (decide (v_=(at' s_ t8.toNat)))then
 some (.done (.ret t8))
 else
 some (.next (IntKind.wrap .i64 (t8+1))))
 else
 some (.done (.brk ()))
def mU (s_:List Int) (v_:Int):Option Int:=
 Option.bind (ay (AP s_ v_) FUEL (0)) fun o=>match o with
 | .ret v=>some v
 | .brk _=>
 some (-1)
def sU (s:List Int) (i j:Int):Option (List Int):=XQ s i j
def pV (a:Int) (b:Int) (from_:Int) (graph:Graph):Option Graph:=
 bif (decide (from_=0))then
 (mU (bD a graph.bi.e0) b).bind fun r_=>
 (sU (bD a graph.bi.e0) r_ (IntKind.wrap .i64 (r_+1))).bind fun r_1=>
 bg ((((bD a graph.bi.e1).length+[b].length)*8<=140737488355328)/\((bD a graph.bi.e1).length+[b].length<=4611686018427387904)) (
 some (⟨graph.ba,(⟨lJ a r_1 graph.bi.e0,lJ a ((bD a graph.bi.e1)++[b]) graph.bi.e1⟩:aF)⟩:Graph))
 else
 bg (from_=1) (
 (mU (bD a graph.bi.e1) b).bind fun r_2=>
 (sU (bD a graph.bi.e1) r_2 (IntKind.wrap .i64 (r_2+1))).bind fun r_3=>
 bg ((((bD a graph.bi.e0).length+[b].length)*8<=140737488355328)/\((bD a graph.bi.e0).length+[b].length<=4611686018427387904)) (
 some (⟨graph.ba,(⟨lJ a ((bD a graph.bi.e0)++[b]) graph.bi.e0,lJ a r_3 graph.bi.e1⟩:aF)⟩:Graph)))
def gL (s_:List Int) (v_:Int):Option Bool:=
 (mU s_ v_).bind fun r_=>
 some (decide (0<=r_))
def vT (rec:Int->(List (Int × Bool))->Graph->Option (Bool × (List (Int × Bool)) × Graph)) (at_:Int) (graph:Graph) (r_:List Int):((List (Int × Bool)) × (List (Int × (List Int))) × (List (Int × (List Int))) × Int)->Option (aH ((List (Int × Bool)) × (List (Int × (List Int))) × (List (Int × (List Int))) × Int) (Ex ((List (Int × Bool)) × (List (Int × (List Int))) × (List (Int × (List Int)))) (Bool × (List (Int × Bool)) × Graph))):=
 fun zz=>match zz with
 |(o0,o01,o02,t23)=>
 bif (decide (t23<(r_.length:Int)))then
 bg ((0:Int)<=t23/\t23<(r_.length:Int)) (
 bif (!((bC cK (at' r_ t23.toNat) o0).getD false))then
 (rec (at' r_ t23.toNat) o0 (⟨graph.ba,(⟨o01,o02⟩:aF)⟩:Graph)).bind fun r_1=>
 bif r_1.1 then
 (pV at_ (at' r_ t23.toNat) 0 (⟨graph.ba,r_1.2.2.bi⟩:Graph)).bind fun r_2=>
 some (.done (.ret (true,r_1.2.1,(⟨graph.ba,r_2.bi⟩:Graph))))
 else
 some (.next (r_1.2.1,r_1.2.2.bi.e0,r_1.2.2.bi.e1,IntKind.wrap .i64 (t23+1)))
 else
 some (.next (o0,o01,o02,IntKind.wrap .i64 (t23+1))))
 else
 some (.done (.brk (o0,o01,o02)))
def jm (rec:Int->(List (Int × Bool))->Graph->Option (Bool × (List (Int × Bool)) × Graph)) (at_:Int) (graph:Graph) (o021:List (Int × (List Int))):Int × List Int->((List (Int × Bool)) × (List (Int × (List Int))))->Option (aH ((List (Int × Bool)) × (List (Int × (List Int)))) (Ex Empty (Bool × (List (Int × Bool)) × Graph))):=
 fun x=>fun zz=>match zz with
 |(o04,o012)=>
 bif (bif (!((bC cK x.1 o04).getD false))then(!decide (x.1=(-1)))else false)then
 (gL x.2 at_).bind fun r_3=>
 bif r_3 then
 (rec x.1 o04 (⟨graph.ba,(⟨o012,o021⟩:aF)⟩:Graph)).bind fun r_4=>
 bif r_4.1 then
 (pV x.1 at_ 1 (⟨graph.ba,r_4.2.2.bi⟩:Graph)).bind fun r_5=>
 some (.done (.ret (true,r_4.2.1,(⟨graph.ba,r_5.bi⟩:Graph))))
 else
 bg (r_4.2.2.bi.e1=o021) (
 some (.next (r_4.2.1,r_4.2.2.bi.e0)))
 else
 some (.next (o04,o012))
 else
 some (.next (o04,o012))
def nP (at_:Int):Int × List Int->Bool:=
 fun x=> !(decide (x.1= -1)) && nfl (gL x.2 at_)
def mg (rec:Int->(List (Int × Bool))->Graph->Option (Bool × (List (Int × Bool)) × Graph)) (at_:Int) (o_:List (Int × Bool)) (graph:Graph):Option (Bool × (List (Int × Bool)) × Graph):=
 bif (decide (at_=(-2)))then
 some (true,o_,graph)
 else
 (tq (bD at_ graph.bi.e0)).bind fun r_=>
 Option.bind (ay (vT rec at_ graph r_) FUEL (iC cK at_ true o_,graph.bi.e0,graph.bi.e1,0)) fun o=>match o with
 | .ret v=>some v
 | .brk (o03,o011,o021)=>
 Option.bind (goG o021 (nP at_) (jm rec at_ graph o021) (o03,o011)) fun o=>match o with
 | .ret v=>some v
 | .brk (o05,o013)=>
 some (false,o05,(⟨graph.ba,(⟨o013,o021⟩:aF)⟩:Graph))
def gQ:Nat->Int->(List (Int × Bool))->Graph->Option (Bool × (List (Int × Bool)) × Graph)
 |0,_,_,_=>none
 |n+1,at_,o_,graph=>mg (gQ n) at_ o_ graph
def qX (graph:Graph):Option (Bool × Graph):=
 (gQ FUEL (-1) ([]:(List (Int × Bool))) graph).bind fun r_=>
 some (r_.1,(⟨graph.ba,r_.2.2.bi⟩:Graph))
def zP (graph:Graph):(Int × (List Part))->Option (aH (Int × (List Part)) (Ex (List Part) (aH ((List (List Part)) × Int) (Ex (List (List Part)) (List (List Part)))))):=
 fun zz=>match zz with
 |(at_,way)=>
 bif (!decide (at_=(-2)))then
 bg ((2≠(0:Int))/\((0:Int)<=(IntKind.wrap .i64 (Int.tdiv at_ 2))/\(IntKind.wrap .i64 (Int.tdiv at_ 2))<(graph.ba.length:Int))/\((way.length+[at' graph.ba ((IntKind.wrap .i64 (Int.tdiv at_ 2)).toNat)].length)*16<=140737488355328)/\(way.length+[at' graph.ba ((IntKind.wrap .i64 (Int.tdiv at_ 2)).toNat)].length<=4611686018427387904)) (
 bg ((0:Int)<=0/\0<(((bC cK (IntKind.wrap .i64 (at_+1)) graph.bi.e1).getD ([]:List Int)).length:Int)) (
 some (.next (at' ((bC cK (IntKind.wrap .i64 (at_+1)) graph.bi.e1).getD ([]:List Int)) 0,way++[at' graph.ba ((IntKind.wrap .i64 (Int.tdiv at_ 2)).toNat)]))))
 else
 some (.done (.brk way))
def Ae (graph:Graph):((List (List Part)) × Int)->Option (aH ((List (List Part)) × Int) (Ex (List (List Part)) (List (List Part)))):=
 fun zz=>match zz with
 |(out,t14)=>
 bif (decide (t14<(((bC cK (-1) graph.bi.e1).getD ([]:List Int)).length:Int)))then
 bg ((0:Int)<=t14/\t14<(((bC cK (-1) graph.bi.e1).getD ([]:List Int)).length:Int)) (
 Option.bind (ay (zP graph) FUEL (at' ((bC cK (-1) graph.bi.e1).getD ([]:List Int)) t14.toNat,([]:List Part))) fun o=>match o with
 | .ret v=>some v
 | .brk way1=>
 bg (((out.length+[way1].length)*24<=140737488355328)/\(out.length+[way1].length<=4611686018427387904)) (
 some (.next (out++[way1],IntKind.wrap .i64 (t14+1)))))
 else
 some (.done (.brk out))
def wo (graph:Graph):Option (List (List Part)):=
 Option.bind (ay (Ae graph) FUEL (([]:List (List Part)),0)) fun o=>match o with
 | .ret v=>some v
 | .brk out1=>
 some out1
def G9 (r_1:Graph):((List (Int × (List Int))) × (List (Int × (List Int))) × Int)->Option (aH ((List (Int × (List Int))) × (List (Int × (List Int))) × Int) (Ex ((List (Int × (List Int))) × (List (Int × (List Int)))) ((List (List Part)) × Int))):=
 fun zz=>match zz with
 |(g1,g2,t21)=>
 bif (decide (t21<2))then
 (qX (⟨r_1.ba,(⟨g1,g2⟩:aF)⟩:Graph)).bind fun r_2=>
 bif (!r_2.1)then
 some (.done (.brk (r_2.2.bi.e0,r_2.2.bi.e1)))
 else
 some (.next (r_2.2.bi.e0,r_2.2.bi.e1,IntKind.wrap .i64 (t21+1)))
 else
 some (.done (.brk (g1,g2)))
def yT (p:ah) (s_:State) (rack:Int):Option ((List (List Part)) × Int):=
 (mV p s_ rack).bind fun r_=>
 bif (!decide (r_=0))then
 some (([]:List (List Part)),r_)
 else
 (vF p s_ rack).bind fun r_1=>
 Option.bind (ay (G9 r_1) FUEL (r_1.bi.e0,r_1.bi.e1,0)) fun o=>match o with
 | .ret v=>some v
 | .brk (g11,g21)=>
 (wo (⟨r_1.ba,(⟨g11,g21⟩:aF)⟩:Graph)).bind fun r_3=>
 some (r_3,0)
def om (p:ah) (s_:State) (rack:Int):Option (Int × Int):=
 (yT p s_ rack).bind fun r_=>
 some ((r_.1.length:Int),r_.2)
def kS (p:ah) (r_:(List Bool) × Int):((List aS) × Int)->Option (aH ((List aS) × Int) (Ex (List aS) ((List aS) × Int))):=
 fun zz=>match zz with
 |(out,t26)=>
 bif (decide (t26<(p.a_.length:Int)))then
 bg ((0:Int)<=t26/\t26<(p.a_.length:Int)) (
 bg (gB [(decide (0<=(((at' p.a_ t26.toNat).bj).e0)),true)]=true->(0:Int)<=((at' p.a_ t26.toNat).bj).e0/\((at' p.a_ t26.toNat).bj).e0<(r_.1.length:Int)) (
 bg (gB [(decide (0<=(((at' p.a_ t26.toNat).bj).e1)),true)]=true->(0:Int)<=((at' p.a_ t26.toNat).bj).e1/\((at' p.a_ t26.toNat).bj).e1<(r_.1.length:Int)) (
 bg (((out.length+[(⟨(bif (decide (0<=(((at' p.a_ t26.toNat).bj).e0)))then(at' r_.1 ((((at' p.a_ t26.toNat).bj).e0).toNat))else false),(bif (decide (0<=(((at' p.a_ t26.toNat).bj).e1)))then(at' r_.1 ((((at' p.a_ t26.toNat).bj).e1).toNat))else false)⟩:aS)].length)*2<=140737488355328)/\(out.length+[(⟨(bif (decide (0<=(((at' p.a_ t26.toNat).bj).e0)))then(at' r_.1 ((((at' p.a_ t26.toNat).bj).e0).toNat))else false),(bif (decide (0<=(((at' p.a_ t26.toNat).bj).e1)))then(at' r_.1 ((((at' p.a_ t26.toNat).bj).e1).toNat))else false)⟩:aS)].length<=4611686018427387904)) (
 some (.next (out++[(⟨(bif (decide (0<=(((at' p.a_ t26.toNat).bj).e0)))then(at' r_.1 ((((at' p.a_ t26.toNat).bj).e0).toNat))else false),(bif (decide (0<=(((at' p.a_ t26.toNat).bj).e1)))then(at' r_.1 ((((at' p.a_ t26.toNat).bj).e1).toNat))else false)⟩:aS)],IntKind.wrap .i64 (t26+1)))))))
 else
 some (.done (.brk out))
def wL (p:ah) (s_:State):Option ((List aS) × Int):=
 (dU p s_).bind fun r_=>
 bif (!decide (r_.2=0))then
 some (([]:List aS),r_.2)
 else
 Option.bind (ay (kS p r_) FUEL (([]:List aS),0)) fun o=>match o with
 | .ret v=>some v
 | .brk out1=>
 some (out1,0)
def lu (p:ah) (s_:State) (rack:Int):Option Bool:=
 (wL p s_).bind fun r_=>
 bg (((0:Int)<=rack/\rack<(r_.1.length:Int))/\(gB [((at' r_.1 rack.toNat).e0,false)]=true->(0:Int)<=rack/\rack<(r_.1.length:Int))) (
 some (bif (at' r_.1 rack.toNat).e0 then true else(at' r_.1 rack.toNat).e1))
def nX (s_:State) (x:Part):Option Bool:=
 bg (((0:Int)<=x.kind/\x.kind<([([]:List Bool),s_.al,s_.ae,s_.ag].length:Int))/\((0:Int)<=x.index/\x.index<((at' [([]:List Bool),s_.al,s_.ae,s_.ag] x.kind.toNat).length:Int))) (
 some (at' (at' [([]:List Bool),s_.al,s_.ae,s_.ag] x.kind.toNat) x.index.toNat))
def l9 (x:Part) (x1:List Bool) (x11:List Bool) (x12:List Bool) (x13:List Bool) (x14:List Bool) (x15:List Bool) (x16:List Bool):Option Bool:=
 (nX (⟨x1,x11,x12,x13,x14,x15,x16⟩:State) x).bind fun r_=>
 some r_
def kg (s_:List Part) (f_:List Bool) (f_1:List Bool) (f_2:List Bool) (f_3:List Bool) (f_4:List Bool) (f_5:List Bool) (f_6:List Bool):Int->Option (aH Int (Ex Unit Int)):=
 fun t8=>
 bif (decide (t8<(s_.length:Int)))then
 (l9 (at' s_ t8.toNat) f_ f_1 f_2 f_3 f_4 f_5 f_6).bind fun r_=>
 bg ((0:Int)<=t8/\t8<(s_.length:Int)) (
 bif r_ then
 some (.done (.ret t8))
 else
 some (.next (IntKind.wrap .i64 (t8+1))))
 else
 some (.done (.brk ()))
def jw (s_:List Part) (f_:List Bool) (f_1:List Bool) (f_2:List Bool) (f_3:List Bool) (f_4:List Bool) (f_5:List Bool) (f_6:List Bool):Option Int:=
 Option.bind (ay (kg s_ f_ f_1 f_2 f_3 f_4 f_5 f_6) FUEL (0)) fun o=>match o with
 | .ret v=>some v
 | .brk _=>
 some (-1)
def fH (del:List Bool) (del1:List Bool) (del2:List Bool) (del3:List Bool) (del4:List Bool) (del5:List Bool) (del6:List Bool):((List Part) × Int × Int)->Option (aH ((List Part) × Int × Int) (Ex ((List Part) × Int) (List Part))):=
 fun zz=>match zz with
 |(o_,i,j)=>
 bif (decide (j<(o_.length:Int)))then
 bg ((0:Int)<=j/\j<(o_.length:Int)) (
 (l9 (at' o_ j.toNat) del del1 del2 del3 del4 del5 del6).bind fun r_1=>
 bif (!r_1)then
 bg ((0:Int)<=i/\i<(o_.length:Int)) (
 some (.next (o_.set i.toNat (at' o_ j.toNat),IntKind.wrap .i64 (i+1),IntKind.wrap .i64 (j+1))))
 else
 some (.next (o_,i,IntKind.wrap .i64 (j+1))))
 else
 some (.done (.brk (o_,i)))
def iM (s_:List Part) (del:List Bool) (del1:List Bool) (del2:List Bool) (del3:List Bool) (del4:List Bool) (del5:List Bool) (del6:List Bool):Option (List Part):=
 (jw s_ del del1 del2 del3 del4 del5 del6).bind fun r_=>
 bif (decide (r_=(-1)))then
 some s_
 else
 Option.bind (ay (fH del del1 del2 del3 del4 del5 del6) FUEL (s_,r_,IntKind.wrap .i64 (r_+1))) fun o=>match o with
 | .ret v=>some v
 | .brk (o_1,i1)=>
 bg ((0:Int)<=i1/\i1<=(o_1.length:Int)) (
 bg ((0:Int)<=i1/\i1<=((Cg o_1 i1.toNat (⟨0,0⟩:Part)).length:Int)) (
 some ((Cg o_1 i1.toNat (⟨0,0⟩:Part)).take i1.toNat)))
def iX (p:ah) (s_:State):Option (List Part):=
 (j4 p).bind fun r_=>
 (iM r_.1 s_.ap s_.aw s_.ag s_.on_ s_.ae s_.am s_.al).bind fun r_1=>
 some r_1
def pW (x:Part) (x1:Int) (x11:List Source) (x12:List Link) (x13:List aO) (x2:List Bool) (x21:List Bool) (x22:List Bool) (x23:List Bool) (x24:List Bool) (x25:List Bool) (x26:List Bool) (x3:Int):Option Bool:=
 (pE (⟨x1,x11,x12,x13⟩:ah) (⟨x2,x21,x22,x23,x24,x25,x26⟩:State) x).bind fun r_=>
 (lu (⟨x1,x11,x12,x13⟩:ah) r_.1 x3).bind fun r_1=>
 some r_1
def uq (s_:List Part) (f_:Int) (f_1:List Source) (f_2:List Link) (f_3:List aO) (f_4:List Bool) (f_5:List Bool) (f_6:List Bool) (f_7:List Bool) (f_8:List Bool) (f_9:List Bool) (f_10:List Bool) (f_11:Int):Int->Option (aH Int (Ex Unit Int)):=
 fun t8=>
 bif (decide (t8<(s_.length:Int)))then
 (pW (at' s_ t8.toNat) f_ f_1 f_2 f_3 f_4 f_5 f_6 f_7 f_8 f_9 f_10 f_11).bind fun r_=>
 bg ((0:Int)<=t8/\t8<(s_.length:Int)) (
 bif r_ then
 some (.done (.ret t8))
 else
 some (.next (IntKind.wrap .i64 (t8+1))))
 else
 some (.done (.brk ()))
def pJ (s_:List Part) (f_:Int) (f_1:List Source) (f_2:List Link) (f_3:List aO) (f_4:List Bool) (f_5:List Bool) (f_6:List Bool) (f_7:List Bool) (f_8:List Bool) (f_9:List Bool) (f_10:List Bool) (f_11:Int):Option Int:=
 Option.bind (ay (uq s_ f_ f_1 f_2 f_3 f_4 f_5 f_6 f_7 f_8 f_9 f_10 f_11) FUEL (0)) fun o=>match o with
 | .ret v=>some v
 | .brk _=>
 some (-1)
def lH (a:List Part) (b:List Part):Int->Option (aH Int (Ex Unit Bool)):=
 fun i=>
 bif (decide (i<(a.length:Int)))then
 bg (((0:Int)<=i/\i<(a.length:Int))/\((0:Int)<=i/\i<(b.length:Int))) (
 bif (!((decide (((at' a i.toNat).kind)=((at' b i.toNat).kind))) && ((decide (((at' a i.toNat).index)=((at' b i.toNat).index))) && true)))then
 some (.done (.ret false))
 else
 some (.next (IntKind.wrap .i64 (i+1))))
 else
 some (.done (.brk ()))
def jK (a:List Part) (b:List Part):Option Bool:=
 bif (!decide ((a.length:Int)=(b.length:Int)))then
 some false
 else
 Option.bind (ay (lH a b) FUEL (0)) fun o=>match o with
 | .ret v=>some v
 | .brk _=>
 some true
def ni (a:Int) (b:Int):Option Link:=
 some (⟨a,b,3,500,10,([]:List nT)⟩:Link)
def iA (bp:Int):Option (ah × State):=
 (ni 0 2).bind fun r_=>
 (ni 1 3).bind fun r_1=>
 (ni 2 3).bind fun r_2=>
 bg (((0:Int)<=3)/\((1:Int)*3<=281474976710656)/\((3:Int)<=9223372036854775807)/\((0:Int)<=2)/\((1:Int)*2<=281474976710656)/\((2:Int)<=9223372036854775807)/\((0:Int)<=4)/\((1:Int)*4<=281474976710656)/\((4:Int)<=9223372036854775807)) (
 some ((⟨4,[(⟨0,1,500,bp,20⟩:Source),(⟨1,1,500,bp,20⟩:Source)],[r_,r_1,r_2],[(⟨(⟨2,3⟩:ai),100,2⟩:aO)]⟩:ah),(⟨[true,true,false],List.replicate 3 (false:Bool),List.replicate 3 (false:Bool),[true,true],List.replicate 2 (false:Bool),List.replicate 4 (false:Bool),List.replicate 4 (false:Bool)⟩:State)))
def kF (a:List Bool) (b:List Bool):Int->Option (aH Int (Ex Unit Bool)):=
 fun i=>
 bif (decide (i<(a.length:Int)))then
 bg (((0:Int)<=i/\i<(a.length:Int))/\((0:Int)<=i/\i<(b.length:Int))) (
 bif (!((at' a i.toNat)==(at' b i.toNat)))then
 some (.done (.ret false))
 else
 some (.next (IntKind.wrap .i64 (i+1))))
 else
 some (.done (.brk ()))
def bN (a:List Bool) (b:List Bool):Option Bool:=
 bif (!decide ((a.length:Int)=(b.length:Int)))then
 some false
 else
 Option.bind (ay (kF a b) FUEL (0)) fun o=>match o with
 | .ret v=>some v
 | .brk _=>
 some true
def wF (del:Int) (del1:List Source) (del2:List Link) (del3:List aO) (del4:List Bool) (del5:List Bool) (del6:List Bool) (del7:List Bool) (del8:List Bool) (del9:List Bool) (del10:List Bool) (del11:Int):((List Part) × Int × Int)->Option (aH ((List Part) × Int × Int) (Ex ((List Part) × Int) (List Part))):=
 fun zz=>match zz with
 |(o_,i,j)=>
 bif (decide (j<(o_.length:Int)))then
 bg ((0:Int)<=j/\j<(o_.length:Int)) (
 (pW (at' o_ j.toNat) del del1 del2 del3 del4 del5 del6 del7 del8 del9 del10 del11).bind fun r_1=>
 bif (!r_1)then
 bg ((0:Int)<=i/\i<(o_.length:Int)) (
 some (.next (o_.set i.toNat (at' o_ j.toNat),IntKind.wrap .i64 (i+1),IntKind.wrap .i64 (j+1))))
 else
 some (.next (o_,i,IntKind.wrap .i64 (j+1))))
 else
 some (.done (.brk (o_,i)))
def qo (s_:List Part) (del:Int) (del1:List Source) (del2:List Link) (del3:List aO) (del4:List Bool) (del5:List Bool) (del6:List Bool) (del7:List Bool) (del8:List Bool) (del9:List Bool) (del10:List Bool) (del11:Int):Option (List Part):=
 (pJ s_ del del1 del2 del3 del4 del5 del6 del7 del8 del9 del10 del11).bind fun r_=>
 bif (decide (r_=(-1)))then
 some s_
 else
 Option.bind (ay (wF del del1 del2 del3 del4 del5 del6 del7 del8 del9 del10 del11) FUEL (s_,r_,IntKind.wrap .i64 (r_+1))) fun o=>match o with
 | .ret v=>some v
 | .brk (o_1,i1)=>
 bg ((0:Int)<=i1/\i1<=(o_1.length:Int)) (
 bg ((0:Int)<=i1/\i1<=((Cg o_1 i1.toNat (⟨0,0⟩:Part)).length:Int)) (
 some ((Cg o_1 i1.toNat (⟨0,0⟩:Part)).take i1.toNat)))
def kH (p:ah) (s_:State) (rack:Int):Option ((List Part) × Int):=
 (mV p s_ rack).bind fun r_=>
 bif (!decide (r_=0))then
 some (([]:List Part),r_)
 else
 (lu p s_ rack).bind fun r_1=>
 bif (!r_1)then
 some (([]:List Part),0)
 else
 (iX p s_).bind fun r_2=>
 (qo r_2 p.ar p.aa p.aq p.a_ s_.ap s_.aw s_.ag s_.on_ s_.ae s_.am s_.al rack).bind fun r_3=>
 some (r_3,0)
def fZ:Option Bool:=
 (iA 1).bind fun r_=>
 (om r_.1 r_.2 0).bind fun r_1=>
 (kH r_.1 r_.2 0).bind fun r_2=>
 bif (bif (bif (bif (!decide (r_1.2=0))then true else(!decide (r_2.2=0)))then true else(!decide (r_1.1=2)))then true else(!decide ((r_2.1.length:Int)=0)))then
 some false
 else
 bg ((0:Int)<=1/\1<(r_.2.ap.length:Int)) (
 (om r_.1 (⟨r_.2.ap.set 1 false,r_.2.aw,r_.2.ag,r_.2.on_,r_.2.ae,r_.2.am,r_.2.al⟩:State) 0).bind fun r_3=>
 (kH r_.1 (⟨r_.2.ap.set 1 false,r_.2.aw,r_.2.ag,r_.2.on_,r_.2.ae,r_.2.am,r_.2.al⟩:State) 0).bind fun r_4=>
 bif (bif (bif (!decide (r_3.2=0))then true else(!decide (r_4.2=0)))then true else(!decide (r_3.1=1)))then
 some false
 else
 (jK r_4.1 [(⟨1,0⟩:Part),(⟨1,2⟩:Part),(⟨2,0⟩:Part),(⟨3,0⟩:Part)]).bind fun r_5=>
 bif (!r_5)then
 some false
 else
 bg ((0:Int)<=1/\1<((r_.2.ap.set 1 false).length:Int)) (
 (gG r_.1 (⟨(r_.2.ap.set 1 false).set 1 true,r_.2.aw,r_.2.ag,r_.2.on_,r_.2.ae,r_.2.am,r_.2.al⟩:State) [(⟨3,1,2⟩:Transfer)] [(⟨2,1⟩:Part)]).bind fun r_6=>
 bif (!decide (r_6.2=0))then
 some false
 else
 (bN r_6.1.ap [true,false,true]).bind fun r_7=>
 bif (!r_7)then
 some false
 else
 (iA 0).bind fun r_8=>
 bg ((0:Int)<=1/\1<(r_8.2.ap.length:Int)) (
 (bG r_8.1 (⟨r_8.2.ap.set 1 false,r_8.2.aw,r_8.2.ag,r_8.2.on_,r_8.2.ae,r_8.2.am,r_8.2.al⟩:State) [(⟨3,-1,2⟩:Transfer)]).bind fun r_9=>
 (bG r_8.1 (⟨[false,false,true],r_8.2.aw,r_8.2.ag,r_8.2.on_,r_8.2.ae,r_8.2.am,r_8.2.al⟩:State) [(⟨3,2,1⟩:Transfer),(⟨2,-1,0⟩:Transfer)]).bind fun r_10=>
 bg ((0:Int)<=0/\0<(r_8.2.ag.length:Int)) (
 (bG r_8.1 (⟨[true,false,false],r_8.2.aw,r_8.2.ag.set 0 true,r_8.2.on_,r_8.2.ae,r_8.2.am,r_8.2.al⟩:State) [(⟨2,-1,2⟩:Transfer),(⟨3,-1,1⟩:Transfer)]).bind fun r_11=>
 bif (bif (bif (decide (r_9.2.2=0))then(decide (r_10.2.2=0))else false)then(decide (r_11.2.2=0))else false)then
 (gI r_9.2.1 [0]).bind fun r_12=>
 bif (bif (bif r_12 then(decide ((r_9.1.ap.length:Int)=3))else false)then(at' r_9.1.ap 2)else false)then
 (gI r_10.2.1 [0,1]).bind fun r_13=>
 bif r_13 then
 (bN r_10.1.ap [true,true,false]).bind fun r_14=>
 bif r_14 then
 (gI r_11.2.1 [1,0]).bind fun r_15=>
 bif r_15 then
 (bN r_11.1.ap [true,true,true]).bind fun r_16=>
 bg (gB [((bif r_12 then(decide ((r_9.1.ap.length:Int)=3))else false),true)]=true->(0:Int)<=2/\2<(r_9.1.ap.length:Int)) (
 some r_16)
 else
 bg (gB [((bif r_12 then(decide ((r_9.1.ap.length:Int)=3))else false),true)]=true->(0:Int)<=2/\2<(r_9.1.ap.length:Int)) (
 some false)
 else
 bg (gB [((bif r_12 then(decide ((r_9.1.ap.length:Int)=3))else false),true)]=true->(0:Int)<=2/\2<(r_9.1.ap.length:Int)) (
 some false)
 else
 bg (gB [((bif r_12 then(decide ((r_9.1.ap.length:Int)=3))else false),true)]=true->(0:Int)<=2/\2<(r_9.1.ap.length:Int)) (
 some false)
 else
 bg (gB [((bif r_12 then(decide ((r_9.1.ap.length:Int)=3))else false),true)]=true->(0:Int)<=2/\2<(r_9.1.ap.length:Int)) (
 some false)
 else
 some false))))
def dA (l:List Bool):Option (List Bool):=
 bg ((l.length*1<=140737488355328)/\(l.length<=4611686018427387904)) (
 some l)
def fF (x:State):Option State:=
 (dA x.ap).bind fun r_=>
 (dA x.aw).bind fun r_1=>
 (dA x.ag).bind fun r_2=>
 (dA x.on_).bind fun r_3=>
 (dA x.ae).bind fun r_4=>
 (dA x.am).bind fun r_5=>
 (dA x.al).bind fun r_6=>
 some (⟨r_,r_1,r_2,r_3,r_4,r_5,r_6⟩:State)
def nU (l:List Transfer):((List Transfer) × Int)->Option (aH ((List Transfer) × Int) (Ex (List Transfer) (List Transfer))):=
 fun zz=>match zz with
 |(out,i)=>
 bif (decide (i<(l.length:Int)))then
 bg (((0:Int)<=i/\i<(l.length:Int))/\((out.length+[at' l i.toNat].length)*24<=140737488355328)/\(out.length+[at' l i.toNat].length<=4611686018427387904)) (
 some (.next (out++[at' l i.toNat],IntKind.wrap .i64 (i+1))))
 else
 some (.done (.brk out))
def lC (l:List Transfer):Option (List Transfer):=
 Option.bind (ay (nU l) FUEL (([]:List Transfer),0)) fun o=>match o with
 | .ret v=>some v
 | .brk out1=>
 some out1
def pK (x:Link):Int->Option (aH Int (Ex Unit Bool)):=
 fun i=>
 bif (decide (i<(x.trip.length:Int)))then
 bg ((0:Int)<=i/\i<(x.trip.length:Int)) (
 bif (bif (bif (bif (decide (((at' x.trip i.toNat).amps)<1))then true else(decide (1000000<((at' x.trip i.toNat).amps))))then true else(decide (((at' x.trip i.toNat).bm)<1)))then true else(decide (100000<((at' x.trip i.toNat).bm))))then
 some (.done (.ret false))
 else
 bg ((gB [(decide (0<i),true)]=true->(0:Int)<=(IntKind.wrap .i64 (i - 1))/\(IntKind.wrap .i64 (i - 1))<(x.trip.length:Int))/\(gB [(decide (((at' x.trip i.toNat).amps)<=((at' x.trip ((IntKind.wrap .i64 (i - 1)).toNat)).amps)),false),(decide (0<i),true)]=true->(0:Int)<=(IntKind.wrap .i64 (i - 1))/\(IntKind.wrap .i64 (i - 1))<(x.trip.length:Int))) (
 bif (bif (decide (0<i))then(bif (decide (((at' x.trip i.toNat).amps)<=((at' x.trip ((IntKind.wrap .i64 (i - 1)).toNat)).amps)))then true else(decide (((at' x.trip ((IntKind.wrap .i64 (i - 1)).toNat)).bm)<=((at' x.trip i.toNat).bm))))else false)then
 some (.done (.ret false))
 else
 some (.next (IntKind.wrap .i64 (i+1)))))
 else
 some (.done (.brk ()))
def uz (p:ah) (x:Link):Option Bool:=
 bif (bif (bif (bif (bif (bif (bif (bif (bif (bif (bif (decide (x.a<0))then true else(decide (p.ar<=x.a)))then true else(decide (x.b<0)))then true else(decide (p.ar<=x.b)))then true else(decide (x.a=x.b)))then true else(decide (x.kind<1)))then true else(decide (3<x.kind)))then true else(decide (x.most<1)))then true else(decide (100000<x.most)))then true else(decide (x.ohm<10)))then true else(decide (100000<x.ohm)))then
 some false
 else
 bif (bif (decide (6<(x.trip.length:Int)))then true else(bif (decide (0<(x.trip.length:Int)))then(!decide (x.kind=3))else false))then
 some false
 else
 Option.bind (ay (pK x) FUEL (0)) fun o=>match o with
 | .ret v=>some v
 | .brk _=>
 some true
def oI (p:ah):Int->Option (aH Int (Ex Unit Int)):=
 fun i=>
 bif (decide (i<(p.aa.length:Int)))then
 bg ((0:Int)<=i/\i<(p.aa.length:Int)) (
 bif (bif (bif (bif (bif (bif (bif (bif (bif (bif (decide (((at' p.aa i.toNat).bus)<0))then true else(decide (p.ar<=((at' p.aa i.toNat).bus))))then true else(decide (((at' p.aa i.toNat).kind)<1)))then true else(decide (3<((at' p.aa i.toNat).kind))))then true else(decide (((at' p.aa i.toNat).power)<1)))then true else(decide (100000<((at' p.aa i.toNat).power))))then true else(decide (((at' p.aa i.toNat).bp)<0)))then true else(decide (8<((at' p.aa i.toNat).bp))))then true else(decide (((at' p.aa i.toNat).ohm)<10)))then true else(decide (100000<((at' p.aa i.toNat).ohm))))then
 some (.done (.ret 11))
 else
 some (.next (IntKind.wrap .i64 (i+1))))
 else
 some (.done (.brk ()))
def oD (p:ah):Int->Option (aH Int (Ex Unit Int)):=
 fun i1=>
 bif (decide (i1<(p.aq.length:Int)))then
 (uz p (at' p.aq i1.toNat)).bind fun r_=>
 bg ((0:Int)<=i1/\i1<(p.aq.length:Int)) (
 bif (!r_)then
 some (.done (.ret 12))
 else
 some (.next (IntKind.wrap .i64 (i1+1))))
 else
 some (.done (.brk ()))
def oJ (p:ah):Int->Option (aH Int (Ex Unit Int)):=
 fun i2=>
 bif (decide (i2<(p.a_.length:Int)))then
 bg ((0:Int)<=i2/\i2<(p.a_.length:Int)) (
 bif (decide ((((at' p.a_ i2.toNat).bj).e1)=(-1)))then
 bif (bif (bif (bif (bif (bif (bif (bif (bif (decide ((((at' p.a_ i2.toNat).bj).e0)<0))then true else(decide (p.ar<=(((at' p.a_ i2.toNat).bj).e0))))then true else(decide ((((at' p.a_ i2.toNat).bj).e1)<(-1))))then true else(decide (p.ar<=(((at' p.a_ i2.toNat).bj).e1))))then true else(decide ((((at' p.a_ i2.toNat).bj).e0)=(((at' p.a_ i2.toNat).bj).e1))))then true else(decide (((at' p.a_ i2.toNat).power)<1)))then true else(decide (100000<((at' p.a_ i2.toNat).power))))then true else(decide (((at' p.a_ i2.toNat).bk)<0)))then true else(decide (1<((at' p.a_ i2.toNat).bk))))then
 some (.done (.ret 13))
 else
 some (.next (IntKind.wrap .i64 (i2+1)))
 else
 bif (bif (bif (bif (bif (bif (bif (bif (bif (decide ((((at' p.a_ i2.toNat).bj).e0)<0))then true else(decide (p.ar<=(((at' p.a_ i2.toNat).bj).e0))))then true else(decide ((((at' p.a_ i2.toNat).bj).e1)<(-1))))then true else(decide (p.ar<=(((at' p.a_ i2.toNat).bj).e1))))then true else(decide ((((at' p.a_ i2.toNat).bj).e0)=(((at' p.a_ i2.toNat).bj).e1))))then true else(decide (((at' p.a_ i2.toNat).power)<1)))then true else(decide (100000<((at' p.a_ i2.toNat).power))))then true else(decide (((at' p.a_ i2.toNat).bk)<0)))then true else(decide (2<((at' p.a_ i2.toNat).bk))))then
 some (.done (.ret 13))
 else
 some (.next (IntKind.wrap .i64 (i2+1))))
 else
 some (.done (.brk ()))
def mr (p:ah):Option Int:=
 bif (bif (decide (p.ar<1))then true else(decide (24<p.ar)))then
 some 10
 else
 bif (decide (8<(p.aa.length:Int)))then
 some 11
 else
 Option.bind (ay (oI p) FUEL (0)) fun o=>match o with
 | .ret v=>some v
 | .brk _=>
 bif (decide (40<(p.aq.length:Int)))then
 some 12
 else
 Option.bind (ay (oD p) FUEL (0)) fun o=>match o with
 | .ret v=>some v
 | .brk _=>
 bif (decide (24<(p.a_.length:Int)))then
 some 13
 else
 Option.bind (ay (oJ p) FUEL (0)) fun o=>match o with
 | .ret v=>some v
 | .brk _=>
 some 0
def oF (p:ah) (s_:State):Int->Option (aH Int (Ex Unit Bool)):=
 fun i=>
 bif (decide (i<(p.aq.length:Int)))then
 bg (((0:Int)<=i/\i<(p.aq.length:Int))/\(gB [(decide (((at' p.aq i.toNat).kind)=1),true)]=true->(0:Int)<=i/\i<(s_.ap.length:Int))/\(gB [(!(at' s_.ap i.toNat),false),(decide (((at' p.aq i.toNat).kind)=1),true)]=true->(0:Int)<=i/\i<(s_.aw.length:Int))) (
 bif (bif (decide (((at' p.aq i.toNat).kind)=1))then(bif (!(at' s_.ap i.toNat))then true else(at' s_.aw i.toNat))else false)then
 some (.done (.ret false))
 else
 some (.next (IntKind.wrap .i64 (i+1))))
 else
 some (.done (.brk ()))
def rQ (p:ah) (s_:State):Option Bool:=
 bif (bif (bif (bif (bif (bif (bif (!decide ((s_.ap.length:Int)=(p.aq.length:Int)))then true else(!decide ((s_.aw.length:Int)=(p.aq.length:Int))))then true else(!decide ((s_.ag.length:Int)=(p.aq.length:Int))))then true else(!decide ((s_.on_.length:Int)=(p.aa.length:Int))))then true else(!decide ((s_.ae.length:Int)=(p.aa.length:Int))))then true else(!decide ((s_.am.length:Int)=p.ar)))then true else(!decide ((s_.al.length:Int)=p.ar)))then
 some false
 else
 Option.bind (ay (oF p s_) FUEL (0)) fun o=>match o with
 | .ret v=>some v
 | .brk _=>
 some true
def dw (p:ah) (s_:State):Option Int:=
 (mr p).bind fun r_=>
 (bif gB [(decide (r_=0),true)]then rQ p s_ else some default).bind fun r_1=>
 bif (bif (decide (r_=0))then(!r_1)else false)then
 some 9
 else
 some r_
def o9 (p:ah) (i:Int):Option Bool:=
 bg (gB [((bif (decide (0<=i))then(decide (i<(p.aq.length:Int)))else false),true)]=true->(0:Int)<=i/\i<(p.aq.length:Int)) (
 some (bif (bif (decide (0<=i))then(decide (i<(p.aq.length:Int)))else false)then(!decide (((at' p.aq i.toNat).kind)=1))else false))
def gy (p:ah) (l:List Transfer):Int->Option (aH Int (Ex Unit Int)):=
 fun i=>
 bif (decide (i<(l.length:Int)))then
 bg ((0:Int)<=i/\i<(l.length:Int)) (
 (bif gB [((bif (decide (((at' l i.toNat).bh)<0))then true else(decide (p.ar<=((at' l i.toNat).bh)))),false)]then o9 p ((at' l i.toNat).close)else some default).bind fun r_1=>
 (bif gB [(!decide (((at' l i.toNat).open_)=(-1)),true),((bif (bif (decide (((at' l i.toNat).bh)<0))then true else(decide (p.ar<=((at' l i.toNat).bh))))then true else(!r_1)),false)]then o9 p ((at' l i.toNat).open_)else some default).bind fun r_2=>
 bif (bif (bif (bif (decide (((at' l i.toNat).bh)<0))then true else(decide (p.ar<=((at' l i.toNat).bh))))then true else(!r_1))then true else(bif (!decide (((at' l i.toNat).open_)=(-1)))then(bif (!r_2)then true else(decide (((at' l i.toNat).open_)=((at' l i.toNat).close))))else false))then
 some (.done (.ret 1))
 else
 some (.next (IntKind.wrap .i64 (i+1))))
 else
 some (.done (.brk ()))
def dJ (p:ah) (s_:State) (l:List Transfer):Option Int:=
 (dw p s_).bind fun r_=>
 bif (!decide (r_=0))then
 some r_
 else
 bif (decide (16<(l.length:Int)))then
 some 1
 else
 Option.bind (ay (gy p l) FUEL (0)) fun o=>match o with
 | .ret v=>some v
 | .brk _=>
 some 0
def iP (p:ah) (s_:State) (kz:Int):Option Bool:=
 bg (((0:Int)<=kz/\kz<(s_.on_.length:Int))/\(gB [(at' s_.on_ kz.toNat,true)]=true->(0:Int)<=kz/\kz<(s_.ae.length:Int))/\(gB [((bif (at' s_.on_ kz.toNat)then(!(at' s_.ae kz.toNat))else false),true)]=true->(0:Int)<=kz/\kz<(p.aa.length:Int))/\(gB [((bif (at' s_.on_ kz.toNat)then(!(at' s_.ae kz.toNat))else false),true)]=true->(0:Int)<=(at' p.aa kz.toNat).bus/\(at' p.aa kz.toNat).bus<(s_.al.length:Int))) (
 some (bif (bif (at' s_.on_ kz.toNat)then(!(at' s_.ae kz.toNat))else false)then(!(at' s_.al (((at' p.aa kz.toNat).bus).toNat)))else false))
def fO (p:ah) (s_:State) (i:Int):Option Bool:=
 bg (((0:Int)<=i/\i<(s_.ap.length:Int))/\(gB [(at' s_.ap i.toNat,true)]=true->(0:Int)<=i/\i<(s_.ag.length:Int))/\(gB [((bif (at' s_.ap i.toNat)then(!(at' s_.ag i.toNat))else false),true)]=true->(0:Int)<=i/\i<(p.aq.length:Int))/\(gB [((bif (at' s_.ap i.toNat)then(!(at' s_.ag i.toNat))else false),true)]=true->(0:Int)<=(at' p.aq i.toNat).a/\(at' p.aq i.toNat).a<(s_.al.length:Int))/\(gB [((bif (bif (at' s_.ap i.toNat)then(!(at' s_.ag i.toNat))else false)then(!(at' s_.al (((at' p.aq i.toNat).a).toNat)))else false),true)]=true->(0:Int)<=i/\i<(p.aq.length:Int))/\(gB [((bif (bif (at' s_.ap i.toNat)then(!(at' s_.ag i.toNat))else false)then(!(at' s_.al (((at' p.aq i.toNat).a).toNat)))else false),true)]=true->(0:Int)<=(at' p.aq i.toNat).b/\(at' p.aq i.toNat).b<(s_.al.length:Int))) (
 some (bif (bif (bif (at' s_.ap i.toNat)then(!(at' s_.ag i.toNat))else false)then(!(at' s_.al (((at' p.aq i.toNat).a).toNat)))else false)then(!(at' s_.al (((at' p.aq i.toNat).b).toNat)))else false))
def kP (p:ah) (s_:State) (b:Int):((List Bool) × Int)->Option (aH ((List Bool) × Int) (Ex (List Bool) (aH ((List Bool) × Int) (Ex (List Bool) (List Bool))))):=
 fun zz=>match zz with
 |(out2,i)=>
 bif (decide (i<(p.aq.length:Int)))then
 bg ((0:Int)<=i/\i<(p.aq.length:Int)) (
 (fO p s_ i).bind fun r_=>
 bg ((gB [(r_,true)]=true->(0:Int)<=(at' p.aq i.toNat).a/\(at' p.aq i.toNat).a<(out2.length:Int))/\(gB [(at' out2 (((at' p.aq i.toNat).a).toNat),false),(r_,true)]=true->(0:Int)<=(at' p.aq i.toNat).b/\(at' p.aq i.toNat).b<(out2.length:Int))) (
 bif (bif r_ then(bif (at' out2 (((at' p.aq i.toNat).a).toNat))then true else(at' out2 (((at' p.aq i.toNat).b).toNat)))else false)then
 bg ((0:Int)<=(at' p.aq i.toNat).a/\(at' p.aq i.toNat).a<(out2.length:Int)) (
 bg ((0:Int)<=(at' p.aq i.toNat).b/\(at' p.aq i.toNat).b<((out2.set (((at' p.aq i.toNat).a).toNat) true).length:Int)) (
 some (.next ((out2.set (((at' p.aq i.toNat).a).toNat) true).set (((at' p.aq i.toNat).b).toNat) true,IntKind.wrap .i64 (i+1)))))
 else
 some (.next (out2,IntKind.wrap .i64 (i+1)))))
 else
 some (.done (.brk out2))
def lm (p:ah) (s_:State) (b:Int):((List Bool) × Int)->Option (aH ((List Bool) × Int) (Ex (List Bool) (List Bool))):=
 fun zz=>match zz with
 |(out,n)=>
 bif (decide (n<p.ar))then
 Option.bind (ay (kP p s_ b) FUEL (out,0)) fun o=>match o with
 | .ret v=>some v
 | .brk out3=>
 some (.next (out3,IntKind.wrap .i64 (n+1)))
 else
 some (.done (.brk out))
def iQ (p:ah) (s_:State) (b:Int):Option (List Bool):=
 bg (((0:Int)<=p.ar)/\((1:Int)*p.ar<=281474976710656)/\((p.ar:Int)<=9223372036854775807)) (
 bg ((0:Int)<=b/\b<((List.replicate p.ar.toNat (false:Bool)).length:Int)) (
 Option.bind (ay (lm p s_ b) FUEL ((List.replicate p.ar.toNat (false:Bool)).set b.toNat true,0)) fun o=>match o with
 | .ret v=>some v
 | .brk out1=>
 some out1))
def jF (p:ah) (r_2:List Bool):((List Bool) × Int)->Option (aH ((List Bool) × Int) (Ex (List Bool) (aH ((List Bool) × Int) (Ex (List Bool) ((List Bool) × Int))))):=
 fun zz=>match zz with
 |(out2,b)=>
 bif (decide (b<p.ar))then
 bg (((0:Int)<=b/\b<(out2.length:Int))/\(gB [(at' out2 b.toNat,false)]=true->(0:Int)<=b/\b<(r_2.length:Int))) (
 some (.next (out2.set b.toNat (bif (at' out2 b.toNat)then true else(at' r_2 b.toNat)),IntKind.wrap .i64 (b+1))))
 else
 some (.done (.brk out2))
def jH (p:ah) (s_:State):((List Bool) × Int)->Option (aH ((List Bool) × Int) (Ex (List Bool) ((List Bool) × Int))):=
 fun zz=>match zz with
 |(out,kz)=>
 bif (decide (kz<(p.aa.length:Int)))then
 (iP p s_ kz).bind fun r_1=>
 bif (!r_1)then
 some (.next (out,IntKind.wrap .i64 (kz+1)))
 else
 (iQ p s_ ((at' p.aa kz.toNat).bus)).bind fun r_2=>
 bg ((0:Int)<=kz/\kz<(p.aa.length:Int)) (
 Option.bind (ay (jF p r_2) FUEL (out,0)) fun o=>match o with
 | .ret v=>some v
 | .brk out3=>
 some (.next (out3,IntKind.wrap .i64 (kz+1))))
 else
 some (.done (.brk out))
def fB (p:ah) (s_:State):Option ((List Bool) × Int):=
 (dw p s_).bind fun r_=>
 bif (!decide (r_=0))then
 some (([]:List Bool),r_)
 else
 bg (((0:Int)<=p.ar)/\((1:Int)*p.ar<=281474976710656)/\((p.ar:Int)<=9223372036854775807)) (
 Option.bind (ay (jH p s_) FUEL (List.replicate p.ar.toNat (false:Bool),0)) fun o=>match o with
 | .ret v=>some v
 | .brk out1=>
 some (out1,0))
def rW (a:Source) (b:Source):Option Bool:=
 some (bif (!decide (a.bp=b.bp))then true else(decide (a.bp=0)))
def jg (p:ah) (s_:State) (i:Int):((List ai) × Int)->Option (aH ((List ai) × Int) (Ex (List ai) (aH ((List ai) × Int) (Ex (List ai) ((List ai) × Int))))):=
 fun zz=>match zz with
 |(out2,kz)=>
 bif (decide (kz<(p.aa.length:Int)))then
 (iP p s_ i).bind fun r_1=>
 (bif gB [(r_1,true)]then iP p s_ kz else some default).bind fun r_2=>
 (bif gB [((bif r_1 then r_2 else false),true)]then iQ p s_ ((at' p.aa i.toNat).bus)else some default).bind fun r_3=>
 (bif gB [((bif (bif r_1 then r_2 else false)then(at' r_3 (((at' p.aa kz.toNat).bus).toNat))else false),true)]then rW (at' p.aa i.toNat) (at' p.aa kz.toNat)else some default).bind fun r_4=>
 bg ((gB [((bif r_1 then r_2 else false),true)]=true->(0:Int)<=i/\i<(p.aa.length:Int))/\(gB [((bif r_1 then r_2 else false),true)]=true->(0:Int)<=kz/\kz<(p.aa.length:Int))/\(gB [((bif r_1 then r_2 else false),true)]=true->(0:Int)<=(at' p.aa kz.toNat).bus/\(at' p.aa kz.toNat).bus<(r_3.length:Int))/\(gB [((bif (bif r_1 then r_2 else false)then(at' r_3 (((at' p.aa kz.toNat).bus).toNat))else false),true)]=true->(0:Int)<=i/\i<(p.aa.length:Int))/\(gB [((bif (bif r_1 then r_2 else false)then(at' r_3 (((at' p.aa kz.toNat).bus).toNat))else false),true)]=true->(0:Int)<=kz/\kz<(p.aa.length:Int))) (
 bif (bif (bif (bif r_1 then r_2 else false)then(at' r_3 (((at' p.aa kz.toNat).bus).toNat))else false)then r_4 else false)then
 bg (((out2.length+[(⟨i,kz⟩:ai)].length)*16<=140737488355328)/\(out2.length+[(⟨i,kz⟩:ai)].length<=4611686018427387904)) (
 some (.next (out2++[(⟨i,kz⟩:ai)],IntKind.wrap .i64 (kz+1))))
 else
 some (.next (out2,IntKind.wrap .i64 (kz+1))))
 else
 some (.done (.brk out2))
def jh (p:ah) (s_:State):((List ai) × Int)->Option (aH ((List ai) × Int) (Ex (List ai) ((List ai) × Int))):=
 fun zz=>match zz with
 |(out,i)=>
 bif (decide (i<(p.aa.length:Int)))then
 Option.bind (ay (jg p s_ i) FUEL (out,IntKind.wrap .i64 (i+1))) fun o=>match o with
 | .ret v=>some v
 | .brk out3=>
 some (.next (out3,IntKind.wrap .i64 (i+1)))
 else
 some (.done (.brk out))
def eu (p:ah) (s_:State):Option ((List ai) × Int):=
 (dw p s_).bind fun r_=>
 bif (!decide (r_=0))then
 some (([]:List ai),r_)
 else
 Option.bind (ay (jh p s_) FUEL (([]:List ai),0)) fun o=>match o with
 | .ret v=>some v
 | .brk out1=>
 some (out1,0)
def kU (p:ah) (s_:State) (r_:(List Bool) × Int) (r_2:(List Bool) × Int):(Bool × Int)->Option (aH (Bool × Int) (Ex Bool (State × Bool))):=
 fun zz=>match zz with
 |(can,b)=>
 bif (decide (b<p.ar))then
 bg (((0:Int)<=b/\b<(r_.1.length:Int))/\(gB [(at' r_.1 b.toNat,true)]=true->(0:Int)<=b/\b<(r_2.1.length:Int))/\(gB [((bif (at' r_.1 b.toNat)then(!(at' r_2.1 b.toNat))else false),false)]=true->(0:Int)<=b/\b<(r_2.1.length:Int))/\(gB [(at' r_2.1 b.toNat,true),((bif (at' r_.1 b.toNat)then(!(at' r_2.1 b.toNat))else false),false)]=true->(0:Int)<=b/\b<(s_.am.length:Int))/\(gB [((bif (at' r_2.1 b.toNat)then(at' s_.am b.toNat)else false),true),((bif (at' r_.1 b.toNat)then(!(at' r_2.1 b.toNat))else false),false)]=true->(0:Int)<=b/\b<(r_.1.length:Int))) (
 bif (bif (bif (at' r_.1 b.toNat)then(!(at' r_2.1 b.toNat))else false)then true else(bif (bif (at' r_2.1 b.toNat)then(at' s_.am b.toNat)else false)then(!(at' r_.1 b.toNat))else false))then
 some (.next (false,IntKind.wrap .i64 (b+1)))
 else
 some (.next (can,IntKind.wrap .i64 (b+1))))
 else
 some (.done (.brk can))
def og (r_3:(List ai) × Int) (r_4:(List ai) × Int) (i:Int):(Bool × Int)->Option (aH (Bool × Int) (Ex Bool (aH (Bool × Int) (Ex Bool (State × Bool))))):=
 fun zz=>match zz with
 |(there,kz)=>
 bif (decide (kz<(r_3.1.length:Int)))then
 bg ((gB [(there,false)]=true->(0:Int)<=kz/\kz<(r_3.1.length:Int))/\(gB [(there,false)]=true->(0:Int)<=i/\i<(r_4.1.length:Int))) (
 some (.next ((bif there then true else((decide (((at' r_3.1 kz.toNat).e0)=((at' r_4.1 i.toNat).e0))) && ((decide (((at' r_3.1 kz.toNat).e1)=((at' r_4.1 i.toNat).e1))) && true))),IntKind.wrap .i64 (kz+1))))
 else
 some (.done (.brk there))
def kV (r_3:(List ai) × Int) (r_4:(List ai) × Int):(Bool × Int)->Option (aH (Bool × Int) (Ex Bool (State × Bool))):=
 fun zz=>match zz with
 |(can2,i)=>
 bif (decide (i<(r_4.1.length:Int)))then
 Option.bind (ay (og r_3 r_4 i) FUEL (false,0)) fun o=>match o with
 | .ret v=>some v
 | .brk there1=>
 some (.next ((bif can2 then there1 else false),IntKind.wrap .i64 (i+1)))
 else
 some (.done (.brk can2))
def Bn (p:ah) (s_:State) (r_:(List Bool) × Int) (r_5:(List Bool) × Int):(Bool × Int)->Option (aH (Bool × Int) (Ex Bool (State × Bool))):=
 fun zz=>match zz with
 |(can4,b1)=>
 bif (decide (b1<p.ar))then
 bg (((0:Int)<=b1/\b1<(r_.1.length:Int))/\(gB [(at' r_.1 b1.toNat,true)]=true->(0:Int)<=b1/\b1<(r_5.1.length:Int))/\(gB [((bif (at' r_.1 b1.toNat)then(!(at' r_5.1 b1.toNat))else false),false)]=true->(0:Int)<=b1/\b1<(r_5.1.length:Int))/\(gB [(at' r_5.1 b1.toNat,true),((bif (at' r_.1 b1.toNat)then(!(at' r_5.1 b1.toNat))else false),false)]=true->(0:Int)<=b1/\b1<(s_.am.length:Int))/\(gB [((bif (at' r_5.1 b1.toNat)then(at' s_.am b1.toNat)else false),true),((bif (at' r_.1 b1.toNat)then(!(at' r_5.1 b1.toNat))else false),false)]=true->(0:Int)<=b1/\b1<(r_.1.length:Int))) (
 bif (bif (bif (at' r_.1 b1.toNat)then(!(at' r_5.1 b1.toNat))else false)then true else(bif (bif (at' r_5.1 b1.toNat)then(at' s_.am b1.toNat)else false)then(!(at' r_.1 b1.toNat))else false))then
 some (.next (false,IntKind.wrap .i64 (b1+1)))
 else
 some (.next (can4,IntKind.wrap .i64 (b1+1))))
 else
 some (.done (.brk can4))
def JZ (r_6:(List ai) × Int) (r_7:(List ai) × Int) (i1:Int):(Bool × Int)->Option (aH (Bool × Int) (Ex Bool (aH (Bool × Int) (Ex Bool (State × Bool))))):=
 fun zz=>match zz with
 |(there2,kz1)=>
 bif (decide (kz1<(r_6.1.length:Int)))then
 bg ((gB [(there2,false)]=true->(0:Int)<=kz1/\kz1<(r_6.1.length:Int))/\(gB [(there2,false)]=true->(0:Int)<=i1/\i1<(r_7.1.length:Int))) (
 some (.next ((bif there2 then true else((decide (((at' r_6.1 kz1.toNat).e0)=((at' r_7.1 i1.toNat).e0))) && ((decide (((at' r_6.1 kz1.toNat).e1)=((at' r_7.1 i1.toNat).e1))) && true))),IntKind.wrap .i64 (kz1+1))))
 else
 some (.done (.brk there2))
def AQ (r_6:(List ai) × Int) (r_7:(List ai) × Int):(Bool × Int)->Option (aH (Bool × Int) (Ex Bool (State × Bool))):=
 fun zz=>match zz with
 |(can6,i1)=>
 bif (decide (i1<(r_7.1.length:Int)))then
 Option.bind (ay (JZ r_6 r_7 i1) FUEL (false,0)) fun o=>match o with
 | .ret v=>some v
 | .brk there3=>
 some (.next ((bif can6 then there3 else false),IntKind.wrap .i64 (i1+1)))
 else
 some (.done (.brk can6))
def wP (p:ah) (s_:State) (x:Transfer):Option (State × Bool):=
 (fB p s_).bind fun r_=>
 (fF s_).bind fun r_1=>
 bg ((0:Int)<=x.close/\x.close<(r_1.ap.length:Int)) (
 bg (((0:Int)<=x.bh/\x.bh<(s_.al.length:Int))/\(gB [(!(at' s_.al x.bh.toNat),true)]=true->(0:Int)<=x.bh/\x.bh<(r_.1.length:Int))/\(gB [((bif (!(at' s_.al x.bh.toNat))then(!(at' r_.1 x.bh.toNat))else false),true)]=true->(0:Int)<=x.close/\x.close<(s_.ap.length:Int))/\(gB [((bif (bif (!(at' s_.al x.bh.toNat))then(!(at' r_.1 x.bh.toNat))else false)then(!(at' s_.ap x.close.toNat))else false),true)]=true->(0:Int)<=x.close/\x.close<(s_.ag.length:Int))/\(gB [((bif (bif (bif (!(at' s_.al x.bh.toNat))then(!(at' r_.1 x.bh.toNat))else false)then(!(at' s_.ap x.close.toNat))else false)then(!(at' s_.ag x.close.toNat))else false),true)]=true->(0:Int)<=x.close/\x.close<(s_.aw.length:Int))) (
 bif (decide (0<=x.open_))then
 bg ((0:Int)<=x.open_/\x.open_<((r_1.ap.set x.close.toNat true).length:Int)) (
 bg ((gB [((bif (bif (bif (bif (!(at' s_.al x.bh.toNat))then(!(at' r_.1 x.bh.toNat))else false)then(!(at' s_.ap x.close.toNat))else false)then(!(at' s_.ag x.close.toNat))else false)then(!(at' s_.aw x.close.toNat))else false),true)]=true->(0:Int)<=x.open_/\x.open_<(s_.ag.length:Int))/\(gB [((bif (bif (bif (bif (bif (!(at' s_.al x.bh.toNat))then(!(at' r_.1 x.bh.toNat))else false)then(!(at' s_.ap x.close.toNat))else false)then(!(at' s_.ag x.close.toNat))else false)then(!(at' s_.aw x.close.toNat))else false)then(!(at' s_.ag x.open_.toNat))else false),true)]=true->(0:Int)<=x.open_/\x.open_<(s_.aw.length:Int))) (
 (fB p (⟨(r_1.ap.set x.close.toNat true).set x.open_.toNat false,r_1.aw,r_1.ag,r_1.on_,r_1.ae,r_1.am,r_1.al⟩:State)).bind fun r_2=>
 bg (gB [((bif (bif (bif (bif (bif (bif (!(at' s_.al x.bh.toNat))then(!(at' r_.1 x.bh.toNat))else false)then(!(at' s_.ap x.close.toNat))else false)then(!(at' s_.ag x.close.toNat))else false)then(!(at' s_.aw x.close.toNat))else false)then(!(at' s_.ag x.open_.toNat))else false)then(!(at' s_.aw x.open_.toNat))else false),true)]=true->(0:Int)<=x.bh/\x.bh<(r_2.1.length:Int)) (
 Option.bind (ay (kU p s_ r_ r_2) FUEL ((bif (bif (bif (bif (bif (bif (bif (!(at' s_.al x.bh.toNat))then(!(at' r_.1 x.bh.toNat))else false)then(!(at' s_.ap x.close.toNat))else false)then(!(at' s_.ag x.close.toNat))else false)then(!(at' s_.aw x.close.toNat))else false)then(!(at' s_.ag x.open_.toNat))else false)then(!(at' s_.aw x.open_.toNat))else false)then(at' r_2.1 x.bh.toNat)else false),0)) fun o=>match o with
 | .ret v=>some v
 | .brk can1=>
 (eu p s_).bind fun r_3=>
 (eu p (⟨(r_1.ap.set x.close.toNat true).set x.open_.toNat false,r_1.aw,r_1.ag,r_1.on_,r_1.ae,r_1.am,r_1.al⟩:State)).bind fun r_4=>
 Option.bind (ay (kV r_3 r_4) FUEL (can1,0)) fun o=>match o with
 | .ret v=>some v
 | .brk can3=>
 some ((⟨(r_1.ap.set x.close.toNat true).set x.open_.toNat false,r_1.aw,r_1.ag,r_1.on_,r_1.ae,r_1.am,r_1.al⟩:State),can3))))
 else
 (fB p (⟨r_1.ap.set x.close.toNat true,r_1.aw,r_1.ag,r_1.on_,r_1.ae,r_1.am,r_1.al⟩:State)).bind fun r_5=>
 bg (gB [((bif (bif (bif (bif (!(at' s_.al x.bh.toNat))then(!(at' r_.1 x.bh.toNat))else false)then(!(at' s_.ap x.close.toNat))else false)then(!(at' s_.ag x.close.toNat))else false)then(!(at' s_.aw x.close.toNat))else false),true)]=true->(0:Int)<=x.bh/\x.bh<(r_5.1.length:Int)) (
 Option.bind (ay (Bn p s_ r_ r_5) FUEL ((bif (bif (bif (bif (bif (!(at' s_.al x.bh.toNat))then(!(at' r_.1 x.bh.toNat))else false)then(!(at' s_.ap x.close.toNat))else false)then(!(at' s_.ag x.close.toNat))else false)then(!(at' s_.aw x.close.toNat))else false)then(at' r_5.1 x.bh.toNat)else false),0)) fun o=>match o with
 | .ret v=>some v
 | .brk can5=>
 (eu p s_).bind fun r_6=>
 (eu p (⟨r_1.ap.set x.close.toNat true,r_1.aw,r_1.ag,r_1.on_,r_1.ae,r_1.am,r_1.al⟩:State)).bind fun r_7=>
 Option.bind (ay (AQ r_6 r_7) FUEL (can5,0)) fun o=>match o with
 | .ret v=>some v
 | .brk can7=>
 some ((⟨r_1.ap.set x.close.toNat true,r_1.aw,r_1.ag,r_1.on_,r_1.ae,r_1.am,r_1.al⟩:State),can7))))
def jT (order:List Int) (i:Int):(Bool × Int)->Option (aH (Bool × Int) (Ex Bool (aH Int (Ex ((List Bool) × (List Bool) × (List Bool) × (List Bool) × (List Bool) × (List Bool) × (List Bool) × (List Int)) (aH ((List Bool) × (List Bool) × (List Bool) × (List Bool) × (List Bool) × (List Bool) × (List Bool) × (List Int) × Int) (Ex ((List Bool) × (List Bool) × (List Bool) × (List Bool) × (List Bool) × (List Bool) × (List Bool) × (List Int)) (State × (List Int) × Int))))))):=
 fun zz=>match zz with
 |(done,kz)=>
 bif (decide (kz<(order.length:Int)))then
 bg (gB [(done,false)]=true->(0:Int)<=kz/\kz<(order.length:Int)) (
 some (.next ((bif done then true else(decide ((at' order kz.toNat)=i))),IntKind.wrap .i64 (kz+1))))
 else
 some (.done (.brk done))
def ny (p:ah) (l:List Transfer) (now0:List Bool) (now1:List Bool) (now2:List Bool) (now3:List Bool) (now4:List Bool) (now5:List Bool) (now6:List Bool) (order:List Int):Int->Option (aH Int (Ex ((List Bool) × (List Bool) × (List Bool) × (List Bool) × (List Bool) × (List Bool) × (List Bool) × (List Int)) (aH ((List Bool) × (List Bool) × (List Bool) × (List Bool) × (List Bool) × (List Bool) × (List Bool) × (List Int) × Int) (Ex ((List Bool) × (List Bool) × (List Bool) × (List Bool) × (List Bool) × (List Bool) × (List Bool) × (List Int)) (State × (List Int) × Int))))):=
 fun i=>
 bif (decide (i<(l.length:Int)))then
 Option.bind (ay (jT order i) FUEL (false,0)) fun o=>match o with
 | .ret v=>some v
 | .brk done1=>
 (wP p (⟨now0,now1,now2,now3,now4,now5,now6⟩:State) (at' l i.toNat)).bind fun r_2=>
 bg ((0:Int)<=i/\i<(l.length:Int)) (
 bif (bif (!done1)then r_2.2 else false)then
 bg (((order.length+[i].length)*8<=140737488355328)/\(order.length+[i].length<=4611686018427387904)) (
 some (.done (.brk (r_2.1.ap,r_2.1.aw,r_2.1.ag,r_2.1.on_,r_2.1.ae,r_2.1.am,r_2.1.al,order++[i]))))
 else
 some (.next (IntKind.wrap .i64 (i+1))))
 else
 some (.done (.brk (now0,now1,now2,now3,now4,now5,now6,order)))
def gX (p:ah) (l:List Transfer):((List Bool) × (List Bool) × (List Bool) × (List Bool) × (List Bool) × (List Bool) × (List Bool) × (List Int) × Int)->Option (aH ((List Bool) × (List Bool) × (List Bool) × (List Bool) × (List Bool) × (List Bool) × (List Bool) × (List Int) × Int) (Ex ((List Bool) × (List Bool) × (List Bool) × (List Bool) × (List Bool) × (List Bool) × (List Bool) × (List Int)) (State × (List Int) × Int))):=
 fun zz=>match zz with
 |(now0,now1,now2,now3,now4,now5,now6,order,n)=>
 bif (decide (n<(l.length:Int)))then
 Option.bind (ay (ny p l now0 now1 now2 now3 now4 now5 now6 order) FUEL (0)) fun o=>match o with
 | .ret v=>some v
 | .brk (now02,now12,now22,now32,now42,now52,now62,order2)=>
 some (.next (now02,now12,now22,now32,now42,now52,now62,order2,IntKind.wrap .i64 (n+1)))
 else
 some (.done (.brk (now0,now1,now2,now3,now4,now5,now6,order)))
def gM (p:ah) (s_:State) (l:List Transfer):Option (State × (List Int) × Int):=
 (dJ p s_ l).bind fun r_=>
 bif (!decide (r_=0))then
 some ((⟨([]:List Bool),([]:List Bool),([]:List Bool),([]:List Bool),([]:List Bool),([]:List Bool),([]:List Bool)⟩:State),([]:List Int),r_)
 else
 (fF s_).bind fun r_1=>
 Option.bind (ay (gX p l) FUEL (r_1.ap,r_1.aw,r_1.ag,r_1.on_,r_1.ae,r_1.am,r_1.al,([]:List Int),0)) fun o=>match o with
 | .ret v=>some v
 | .brk (now01,now11,now21,now31,now41,now51,now61,order1)=>
 some ((⟨now01,now11,now21,now31,now41,now51,now61⟩:State),order1,0)
def gY (a:State) (b:State):Option Bool:=
 (bN a.ap b.ap).bind fun r_=>
 (bif gB [(r_,true)]then bN a.aw b.aw else some default).bind fun r_1=>
 (bif gB [((bif r_ then r_1 else false),true)]then bN a.ag b.ag else some default).bind fun r_2=>
 (bif gB [((bif (bif r_ then r_1 else false)then r_2 else false),true)]then bN a.on_ b.on_ else some default).bind fun r_3=>
 (bif gB [((bif (bif (bif r_ then r_1 else false)then r_2 else false)then r_3 else false),true)]then bN a.ae b.ae else some default).bind fun r_4=>
 (bif gB [((bif (bif (bif (bif r_ then r_1 else false)then r_2 else false)then r_3 else false)then r_4 else false),true)]then bN a.am b.am else some default).bind fun r_5=>
 (bif gB [((bif (bif (bif (bif (bif r_ then r_1 else false)then r_2 else false)then r_3 else false)then r_4 else false)then r_5 else false),true)]then bN a.al b.al else some default).bind fun r_6=>
 some (bif (bif (bif (bif (bif (bif r_ then r_1 else false)then r_2 else false)then r_3 else false)then r_4 else false)then r_5 else false)then r_6 else false)
def oz (l:List Bool) (i:Int) (is:Bool):Option (List Bool):=
 bg (((([]:List Bool).length+l.length)*1<=140737488355328)/\(([]:List Bool).length+l.length<=4611686018427387904)) (
 bg ((0:Int)<=i/\i<((([]:List Bool)++l).length:Int)) (
 some ((([]:List Bool)++l).set i.toNat is)))
def gJ (p:ah) (s_:State) (x:Part) (is:Bool):Option (State × Int):=
 (dw p s_).bind fun r_=>
 bif (!decide (r_=0))then
 some ((⟨([]:List Bool),([]:List Bool),([]:List Bool),([]:List Bool),([]:List Bool),([]:List Bool),([]:List Bool)⟩:State),r_)
 else
 bif (decide (x.index<0))then
 some ((⟨([]:List Bool),([]:List Bool),([]:List Bool),([]:List Bool),([]:List Bool),([]:List Bool),([]:List Bool)⟩:State),14)
 else
 bif (bif (decide (x.kind=1))then(decide (x.index<p.ar))else false)then
 (oz s_.al x.index is).bind fun r_1=>
 some ((⟨s_.ap,s_.aw,s_.ag,s_.on_,s_.ae,s_.am,r_1⟩:State),0)
 else
 bif (bif (decide (x.kind=2))then(decide (x.index<(p.aa.length:Int)))else false)then
 (oz s_.ae x.index is).bind fun r_2=>
 some ((⟨s_.ap,s_.aw,s_.ag,s_.on_,r_2,s_.am,s_.al⟩:State),0)
 else
 bif (bif (decide (x.kind=3))then(decide (x.index<(p.aq.length:Int)))else false)then
 (oz s_.ag x.index is).bind fun r_3=>
 some ((⟨s_.ap,s_.aw,r_3,s_.on_,s_.ae,s_.am,s_.al⟩:State),0)
 else
 some ((⟨([]:List Bool),([]:List Bool),([]:List Bool),([]:List Bool),([]:List Bool),([]:List Bool),([]:List Bool)⟩:State),14)
def eU (p:ah) (ba:List Part):((List Bool) × (List Bool) × (List Bool) × (List Bool) × (List Bool) × (List Bool) × (List Bool) × Int)->Option (aH ((List Bool) × (List Bool) × (List Bool) × (List Bool) × (List Bool) × (List Bool) × (List Bool) × Int) (Ex ((List Bool) × (List Bool) × (List Bool) × (List Bool) × (List Bool) × (List Bool) × (List Bool)) (State × Int))):=
 fun zz=>match zz with
 |(now0,now1,now2,now3,now4,now5,now6,i)=>
 bif (decide (i<(ba.length:Int)))then
 (gJ p (⟨now0,now1,now2,now3,now4,now5,now6⟩:State) (at' ba i.toNat) true).bind fun r_1=>
 bg ((0:Int)<=i/\i<(ba.length:Int)) (
 bif (!decide (r_1.2=0))then
 some (.done (.ret ((⟨([]:List Bool),([]:List Bool),([]:List Bool),([]:List Bool),([]:List Bool),([]:List Bool),([]:List Bool)⟩:State),r_1.2)))
 else
 some (.next (r_1.1.ap,r_1.1.aw,r_1.1.ag,r_1.1.on_,r_1.1.ae,r_1.1.am,r_1.1.al,IntKind.wrap .i64 (i+1))))
 else
 some (.done (.brk (now0,now1,now2,now3,now4,now5,now6)))
def gD (p:ah) (s_:State) (l:List Transfer) (ba:List Part):Option (State × Int):=
 (dJ p s_ l).bind fun r_=>
 bif (!decide (r_=0))then
 some ((⟨([]:List Bool),([]:List Bool),([]:List Bool),([]:List Bool),([]:List Bool),([]:List Bool),([]:List Bool)⟩:State),r_)
 else
 Option.bind (ay (eU p ba) FUEL (s_.ap,s_.aw,s_.ag,s_.on_,s_.ae,s_.am,s_.al,0)) fun o=>match o with
 | .ret v=>some v
 | .brk (now01,now11,now21,now31,now41,now51,now61)=>
 (gM p (⟨now01,now11,now21,now31,now41,now51,now61⟩:State) l).bind fun r_2=>
 some (r_2.1,0)
def l8 (p:ah) (r_:State × Int):((List Int) × Int)->Option (aH ((List Int) × Int) (Ex (List Int) ((List Int) × Int))):=
 fun zz=>match zz with
 |(out,t29)=>
 bif (decide (t29<(p.a_.length:Int)))then
 bg ((0:Int)<=t29/\t29<(p.a_.length:Int)) (
 (bif gB [(decide (0<((at' p.a_ t29.toNat).bk)),true)]then lu p r_.1 t29 else some default).bind fun r_1=>
 bif (bif (decide (0<((at' p.a_ t29.toNat).bk)))then(!r_1)else false)then
 bg (((out.length+[t29].length)*8<=140737488355328)/\(out.length+[t29].length<=4611686018427387904)) (
 some (.next (out++[t29],IntKind.wrap .i64 (t29+1))))
 else
 some (.next (out,IntKind.wrap .i64 (t29+1))))
 else
 some (.done (.brk out))
def iN (p:ah) (s_:State) (l:List Transfer) (ba:List Part):Option ((List Int) × Int):=
 (gG p s_ l ba).bind fun r_=>
 bif (!decide (r_.2=0))then
 some (([]:List Int),r_.2)
 else
 Option.bind (ay (l8 p r_) FUEL (([]:List Int),0)) fun o=>match o with
 | .ret v=>some v
 | .brk out1=>
 some (out1,0)
def kW (p:ah) (r_:(List Bool) × Int):((List aS) × Int)->Option (aH ((List aS) × Int) (Ex (List aS) ((List aS) × Int))):=
 fun zz=>match zz with
 |(out,r_1)=>
 bif (decide (r_1<(p.a_.length:Int)))then
 bg ((0:Int)<=r_1/\r_1<(p.a_.length:Int)) (
 bg (((0:Int)<=((at' p.a_ r_1.toNat).bj).e0/\((at' p.a_ r_1.toNat).bj).e0<(r_.1.length:Int))/\(gB [(decide (0<=(((at' p.a_ r_1.toNat).bj).e1)),true)]=true->(0:Int)<=(if((at' p.a_ r_1.toNat).bj).e1<0 then 0 else((at' p.a_ r_1.toNat).bj).e1)/\(if((at' p.a_ r_1.toNat).bj).e1<0 then 0 else((at' p.a_ r_1.toNat).bj).e1)<(r_.1.length:Int))/\((out.length+[(⟨at' r_.1 ((((at' p.a_ r_1.toNat).bj).e0).toNat),(bif (decide (0<=(((at' p.a_ r_1.toNat).bj).e1)))then(at' r_.1 ((if((at' p.a_ r_1.toNat).bj).e1<0 then 0 else((at' p.a_ r_1.toNat).bj).e1).toNat))else false)⟩:aS)].length)*2<=140737488355328)/\(out.length+[(⟨at' r_.1 ((((at' p.a_ r_1.toNat).bj).e0).toNat),(bif (decide (0<=(((at' p.a_ r_1.toNat).bj).e1)))then(at' r_.1 ((if((at' p.a_ r_1.toNat).bj).e1<0 then 0 else((at' p.a_ r_1.toNat).bj).e1).toNat))else false)⟩:aS)].length<=4611686018427387904)) (
 some (.next (out++[(⟨at' r_.1 ((((at' p.a_ r_1.toNat).bj).e0).toNat),(bif (decide (0<=(((at' p.a_ r_1.toNat).bj).e1)))then(at' r_.1 ((if((at' p.a_ r_1.toNat).bj).e1<0 then 0 else((at' p.a_ r_1.toNat).bj).e1).toNat))else false)⟩:aS)],IntKind.wrap .i64 (r_1+1)))))
 else
 some (.done (.brk out))
def wQ (p:ah) (s_:State):Option ((List aS) × Int):=
 (fB p s_).bind fun r_=>
 bif (!decide (r_.2=0))then
 some (([]:List aS),r_.2)
 else
 Option.bind (ay (kW p r_) FUEL (([]:List aS),0)) fun o=>match o with
 | .ret v=>some v
 | .brk out1=>
 some (out1,0)
def lF (p:ah) (s_:State) (rack:Int):Option Bool:=
 (wQ p s_).bind fun r_=>
 bg (((0:Int)<=rack/\rack<(r_.1.length:Int))/\(gB [((at' r_.1 rack.toNat).e0,false)]=true->(0:Int)<=rack/\rack<(r_.1.length:Int))) (
 some (bif (at' r_.1 rack.toNat).e0 then true else(at' r_.1 rack.toNat).e1))
def lZ (p:ah) (r_:State × Int):((List Int) × Int)->Option (aH ((List Int) × Int) (Ex (List Int) ((List Int) × Int))):=
 fun zz=>match zz with
 |(out,r_1)=>
 bif (decide (r_1<(p.a_.length:Int)))then
 (bif gB [(decide (1<=((at' p.a_ r_1.toNat).bk)),true)]then lF p r_.1 r_1 else some default).bind fun r_2=>
 bg ((0:Int)<=r_1/\r_1<(p.a_.length:Int)) (
 bif (bif (decide (1<=((at' p.a_ r_1.toNat).bk)))then(!r_2)else false)then
 bg (((out.length+[r_1].length)*8<=140737488355328)/\(out.length+[r_1].length<=4611686018427387904)) (
 some (.next (out++[r_1],IntKind.wrap .i64 (r_1+1))))
 else
 some (.next (out,IntKind.wrap .i64 (r_1+1))))
 else
 some (.done (.brk out))
def jL (p:ah) (s_:State) (l:List Transfer) (ba:List Part):Option ((List Int) × Int):=
 (gD p s_ l ba).bind fun r_=>
 bif (!decide (r_.2=0))then
 some (([]:List Int),r_.2)
 else
 Option.bind (ay (lZ p r_) FUEL (([]:List Int),0)) fun o=>match o with
 | .ret v=>some v
 | .brk out1=>
 some (out1,0)
def eZ  :((List Bool) × Int)->Option (aH ((List Bool) × Int) (Ex (List Bool) Bool)):=
 fun zz=>match zz with
 |(a0,i)=>
 bif (decide (i<(a0.length:Int)))then
 bg ((0:Int)<=i/\i<(a0.length:Int)) (
 some (.next (a0.set i.toNat (!(at' a0 i.toNat)),IntKind.wrap .i64 (i+1))))
 else
 some (.done (.brk a0))
def eO  :((List Bool) × Int)->Option (aH ((List Bool) × Int) (Ex (List Bool) Bool)):=
 fun zz=>match zz with
 |(a5,i1)=>
 bif (decide (i1<(a5.length:Int)))then
 bg ((0:Int)<=i1/\i1<(a5.length:Int)) (
 some (.next (a5.set i1.toNat (!(at' a5 i1.toNat)),IntKind.wrap .i64 (i1+1))))
 else
 some (.done (.brk a5))
def jP (p:ah) (s_:State) (l:List Transfer) (ba:List Part):Option Bool:=
 bif (bif (bif (bif (bif (decide (60<(p.aa.length:Int)))then true else(decide (60<(p.aq.length:Int))))then true else(decide (60<(p.a_.length:Int))))then true else(decide (20<(l.length:Int))))then true else(decide (20<(ba.length:Int))))then
 (fZ).bind fun r_=>
 some r_
 else
 (fF s_).bind fun r_1=>
 (lC l).bind fun r_2=>
 (bG p r_1 r_2).bind fun r_3=>
 (gM p s_ l).bind fun r_4=>
 (bif gB [(!decide (r_3.2.2=r_4.2.2),false)]then gY r_3.1 r_4.1 else some default).bind fun r_5=>
 (bif gB [((bif (!decide (r_3.2.2=r_4.2.2))then true else(!r_5)),false)]then gI r_3.2.1 r_4.2.1 else some default).bind fun r_6=>
 bif (bif (bif (!decide (r_3.2.2=r_4.2.2))then true else(!r_5))then true else(!r_6))then
 some false
 else
 Option.bind (ay eZ FUEL (r_3.1.ap,0)) fun o=>match o with
 | .ret v=>some v
 | .brk a01=>
 Option.bind (ay eO FUEL (r_3.1.am,0)) fun o=>match o with
 | .ret v=>some v
 | .brk a51=>
 (lC l).bind fun r_7=>
 (gG p r_1 r_7 ba).bind fun r_8=>
 (gD p s_ l ba).bind fun r_9=>
 (bif gB [(!decide (r_8.2=r_9.2),false)]then gY r_8.1 r_9.1 else some default).bind fun r_10=>
 bif (bif (!decide (r_8.2=r_9.2))then true else(!r_10))then
 some false
 else
 (lC l).bind fun r_11=>
 (iN p r_1 r_11 ba).bind fun r_12=>
 (jL p s_ l ba).bind fun r_13=>
 (bif gB [(decide (r_12.2=r_13.2),true)]then gI r_12.1 r_13.1 else some default).bind fun r_14=>
 (bif gB [((bif (decide (r_12.2=r_13.2))then r_14 else false),true)]then gY s_ r_1 else some default).bind fun r_15=>
 (bif gB [((bif (bif (decide (r_12.2=r_13.2))then r_14 else false)then r_15 else false),true)]then fZ else some default).bind fun r_16=>
 some (bif (bif (bif (decide (r_12.2=r_13.2))then r_14 else false)then r_15 else false)then r_16 else false)
def sP (p:ah):Option Bool:=
 bif (bif (bif (decide (60<(p.aa.length:Int)))then true else(decide (60<(p.aq.length:Int))))then true else(decide (60<(p.a_.length:Int))))then
 some true
 else
 (mr p).bind fun r_=>
 some (bif (decide (r_=0))then(bif (decide (7<p.ar))then true else(decide (12<(p.aq.length:Int))))else false)
def wJ (l:List Source):Option (List Source):=
 bg ((l.length*40<=140737488355328)/\(l.length<=4611686018427387904)) (
 some l)
def zD (l:List nT):Option (List nT):=
 bg ((l.length*16<=140737488355328)/\(l.length<=4611686018427387904)) (
 some l)
def AL (x:Link):Option Link:=
 (zD x.trip).bind fun r_=>
 some (⟨x.a,x.b,x.kind,x.most,x.ohm,r_⟩:Link)
def Ec (l:List Link):((List Link) × Int)->Option (aH ((List Link) × Int) (Ex (List Link) (List Link))):=
 fun zz=>match zz with
 |(out,i)=>
 bif (decide (i<(l.length:Int)))then
 (AL (at' l i.toNat)).bind fun r_=>
 bg (((0:Int)<=i/\i<(l.length:Int))/\((out.length+[r_].length)*64<=140737488355328)/\(out.length+[r_].length<=4611686018427387904)) (
 some (.next (out++[r_],IntKind.wrap .i64 (i+1))))
 else
 some (.done (.brk out))
def zA (l:List Link):Option (List Link):=
 Option.bind (ay (Ec l) FUEL (([]:List Link),0)) fun o=>match o with
 | .ret v=>some v
 | .brk out1=>
 some out1
def zF (l:List aO):Option (List aO):=
 bg ((l.length*32<=140737488355328)/\(l.length<=4611686018427387904)) (
 some l)
def zJ (x:ah):Option ah:=
 (wJ x.aa).bind fun r_=>
 (zA x.aq).bind fun r_1=>
 (zF x.a_).bind fun r_2=>
 some (⟨x.ar,r_,r_1,r_2⟩:ah)
def Jq (x:Int) (n:Int):Option Int:=
 bif (decide (n<1))then
 some 0
 else
 bg (n≠(0:Int)) (
 bif (decide ((Int.tmod x n)<0))then
 some (IntKind.wrap .i64 ((Int.tmod x n)+n))
 else
 some (Int.tmod x n))
def nA (p:ah) (s_:State) (rack:Int):Option Int:=
 (dw p s_).bind fun r_=>
 bif (bif (decide (r_=0))then(bif (decide (rack<0))then true else(decide ((p.a_.length:Int)<=rack)))else false)then
 some 13
 else
 some r_
def lW (l:List Part):Option (List Part):=
 bg ((l.length*16<=140737488355328)/\(l.length<=4611686018427387904)) (
 some l)
def Kn (l:List Part) (x:Part):Int->Option (aH Int (Ex Unit Bool)):=
 fun i=>
 bif (decide (i<(l.length:Int)))then
 bg ((0:Int)<=i/\i<(l.length:Int)) (
 bif ((decide (((at' l i.toNat).kind)=x.kind)) && ((decide (((at' l i.toNat).index)=x.index)) && true))then
 some (.done (.ret true))
 else
 some (.next (IntKind.wrap .i64 (i+1))))
 else
 some (.done (.brk ()))
def vk (l:List Part) (x:Part):Option Bool:=
 Option.bind (ay (Kn l x) FUEL (0)) fun o=>match o with
 | .ret v=>some v
 | .brk _=>
 some false
def zb (p:ah) (rack:Int) (b:Int):Option Bool:=
 bg (((0:Int)<=rack/\rack<(p.a_.length:Int))/\(gB [(decide ((((at' p.a_ rack.toNat).bj).e0)=b),false)]=true->(0:Int)<=rack/\rack<(p.a_.length:Int))) (
 some (bif (decide ((((at' p.a_ rack.toNat).bj).e0)=b))then true else(decide ((((at' p.a_ rack.toNat).bj).e1)=b))))
def KL (rec:ah->State->Int->(List Part)->Option (List (List Part))) (p:ah) (s_:State) (rack:Int) (l:List Part):((List (List Part)) × Int)->Option (aH ((List (List Part)) × Int) (Ex (List (List Part)) (List (List Part)))):=
 fun zz=>match zz with
 |(out,i)=>
 bif (decide (i<(p.aq.length:Int)))then
 bg ((0:Int)<=i/\i<(p.aq.length:Int)) (
 (fO p s_ i).bind fun r_1=>
 bif (bif (!r_1)then true else(bif (!decide (((at' p.aq i.toNat).a)=((at' l ((IntKind.wrap .i64 ((l.length:Int) - 1)).toNat)).index)))then(!decide (((at' p.aq i.toNat).b)=((at' l ((IntKind.wrap .i64 ((l.length:Int) - 1)).toNat)).index)))else false))then
 some (.next (out,IntKind.wrap .i64 (i+1)))
 else
 (vk l (⟨1,IntKind.wrap .i64 ((IntKind.wrap .i64 (((at' p.aq i.toNat).a)+((at' p.aq i.toNat).b))) - ((at' l ((IntKind.wrap .i64 ((l.length:Int) - 1)).toNat)).index))⟩:Part)).bind fun r_2=>
 bif r_2 then
 some (.next (out,IntKind.wrap .i64 (i+1)))
 else
 (lW l).bind fun r_3=>
 bg (((r_3.length+[(⟨3,i⟩:Part),(⟨1,IntKind.wrap .i64 ((IntKind.wrap .i64 (((at' p.aq i.toNat).a)+((at' p.aq i.toNat).b))) - ((at' l ((IntKind.wrap .i64 ((l.length:Int) - 1)).toNat)).index))⟩:Part)].length)*16<=140737488355328)/\(r_3.length+[(⟨3,i⟩:Part),(⟨1,IntKind.wrap .i64 ((IntKind.wrap .i64 (((at' p.aq i.toNat).a)+((at' p.aq i.toNat).b))) - ((at' l ((IntKind.wrap .i64 ((l.length:Int) - 1)).toNat)).index))⟩:Part)].length<=4611686018427387904)) (
 (rec p s_ rack (r_3++[(⟨3,i⟩:Part),(⟨1,IntKind.wrap .i64 ((IntKind.wrap .i64 (((at' p.aq i.toNat).a)+((at' p.aq i.toNat).b))) - ((at' l ((IntKind.wrap .i64 ((l.length:Int) - 1)).toNat)).index))⟩:Part)])).bind fun r_4=>
 bg (((out.length+r_4.length)*24<=140737488355328)/\(out.length+r_4.length<=4611686018427387904)) (
 some (.next (out++r_4,IntKind.wrap .i64 (i+1))))))
 else
 some (.done (.brk out))
def Kv (rec:ah->State->Int->(List Part)->Option (List (List Part))) (p:ah) (s_:State) (rack:Int) (l:List Part):((List (List Part)) × Int)->Option (aH ((List (List Part)) × Int) (Ex (List (List Part)) (List (List Part)))):=
 fun zz=>match zz with
 |(out2,i1)=>
 bif (decide (i1<(p.aq.length:Int)))then
 bg ((0:Int)<=i1/\i1<(p.aq.length:Int)) (
 (fO p s_ i1).bind fun r_5=>
 bif (bif (!r_5)then true else(bif (!decide (((at' p.aq i1.toNat).a)=((at' l ((IntKind.wrap .i64 ((l.length:Int) - 1)).toNat)).index)))then(!decide (((at' p.aq i1.toNat).b)=((at' l ((IntKind.wrap .i64 ((l.length:Int) - 1)).toNat)).index)))else false))then
 some (.next (out2,IntKind.wrap .i64 (i1+1)))
 else
 (vk l (⟨1,IntKind.wrap .i64 ((IntKind.wrap .i64 (((at' p.aq i1.toNat).a)+((at' p.aq i1.toNat).b))) - ((at' l ((IntKind.wrap .i64 ((l.length:Int) - 1)).toNat)).index))⟩:Part)).bind fun r_6=>
 bif r_6 then
 some (.next (out2,IntKind.wrap .i64 (i1+1)))
 else
 (lW l).bind fun r_7=>
 bg (((r_7.length+[(⟨3,i1⟩:Part),(⟨1,IntKind.wrap .i64 ((IntKind.wrap .i64 (((at' p.aq i1.toNat).a)+((at' p.aq i1.toNat).b))) - ((at' l ((IntKind.wrap .i64 ((l.length:Int) - 1)).toNat)).index))⟩:Part)].length)*16<=140737488355328)/\(r_7.length+[(⟨3,i1⟩:Part),(⟨1,IntKind.wrap .i64 ((IntKind.wrap .i64 (((at' p.aq i1.toNat).a)+((at' p.aq i1.toNat).b))) - ((at' l ((IntKind.wrap .i64 ((l.length:Int) - 1)).toNat)).index))⟩:Part)].length<=4611686018427387904)) (
 (rec p s_ rack (r_7++[(⟨3,i1⟩:Part),(⟨1,IntKind.wrap .i64 ((IntKind.wrap .i64 (((at' p.aq i1.toNat).a)+((at' p.aq i1.toNat).b))) - ((at' l ((IntKind.wrap .i64 ((l.length:Int) - 1)).toNat)).index))⟩:Part)])).bind fun r_8=>
 bg (((out2.length+r_8.length)*24<=140737488355328)/\(out2.length+r_8.length<=4611686018427387904)) (
 some (.next (out2++r_8,IntKind.wrap .i64 (i1+1))))))
 else
 some (.done (.brk out2))
def zG (rec:ah->State->Int->(List Part)->Option (List (List Part))) (p:ah) (s_:State) (rack:Int) (l:List Part):Option (List (List Part)):=
 bg ((0:Int)<=(IntKind.wrap .i64 ((l.length:Int) - 1))/\(IntKind.wrap .i64 ((l.length:Int) - 1))<(l.length:Int)) (
 (zb p rack ((at' l ((IntKind.wrap .i64 ((l.length:Int) - 1)).toNat)).index)).bind fun r_=>
 bif r_ then
 bg (([l].length*24<=140737488355328)/\([l].length<=4611686018427387904)) (
 Option.bind (ay (KL rec p s_ rack l) FUEL ([l],0)) fun o=>match o with
 | .ret v=>some v
 | .brk out1=>
 some out1)
 else
 Option.bind (ay (Kv rec p s_ rack l) FUEL (([]:List (List Part)),0)) fun o=>match o with
 | .ret v=>some v
 | .brk out3=>
 some out3)
def yJ:Nat->ah->State->Int->(List Part)->Option (List (List Part))
 |0,_,_,_,_=>none
 |n+1,p,s_,rack,l=>zG (yJ n) p s_ rack l
def Ib (p:ah) (s_:State) (rack:Int):((List (List Part)) × Int)->Option (aH ((List (List Part)) × Int) (Ex (List (List Part)) (List (List Part)))):=
 fun zz=>match zz with
 |(out,kz)=>
 bif (decide (kz<(p.aa.length:Int)))then
 (iP p s_ kz).bind fun r_=>
 bif r_ then
 (yJ FUEL p s_ rack [(⟨2,kz⟩:Part),(⟨1,(at' p.aa kz.toNat).bus⟩:Part)]).bind fun r_1=>
 bg (((0:Int)<=kz/\kz<(p.aa.length:Int))/\((out.length+r_1.length)*24<=140737488355328)/\(out.length+r_1.length<=4611686018427387904)) (
 some (.next (out++r_1,IntKind.wrap .i64 (kz+1))))
 else
 some (.next (out,IntKind.wrap .i64 (kz+1)))
 else
 some (.done (.brk out))
def GD (p:ah) (s_:State) (rack:Int):Option (List (List Part)):=
 Option.bind (ay (Ib p s_ rack) FUEL (([]:List (List Part)),0)) fun o=>match o with
 | .ret v=>some v
 | .brk out1=>
 some out1
def Co (a:List Part) (b:List Part):Int->Option (aH Int (Ex Unit Bool)):=
 fun i=>
 bif (decide (i<(a.length:Int)))then
 (vk b (at' a i.toNat)).bind fun r_=>
 bg ((0:Int)<=i/\i<(a.length:Int)) (
 bif r_ then
 some (.done (.ret false))
 else
 some (.next (IntKind.wrap .i64 (i+1))))
 else
 some (.done (.brk ()))
def rA (a:List Part) (b:List Part):Option Bool:=
 Option.bind (ay (Co a b) FUEL (0)) fun o=>match o with
 | .ret v=>some v
 | .brk _=>
 some true
def BZ (r_1:List (List Part)) (i:Int):Int->Option (aH Int (Ex Unit (aH Int (Ex Unit (Int × Int))))):=
 fun kz=>
 bif (decide (kz<i))then
 (rA (at' r_1 i.toNat) (at' r_1 kz.toNat)).bind fun r_2=>
 bg (((0:Int)<=i/\i<(r_1.length:Int))/\((0:Int)<=kz/\kz<(r_1.length:Int))) (
 bif r_2 then
 some (.done (.ret (.done (.ret (2,0)))))
 else
 some (.next (IntKind.wrap .i64 (kz+1))))
 else
 some (.done (.brk ()))
def Cc (r_1:List (List Part)):Int->Option (aH Int (Ex Unit (Int × Int))):=
 fun i=>
 bif (decide (i<(r_1.length:Int)))then
 Option.bind (ay (BZ r_1 i) FUEL (0)) fun o=>match o with
 | .ret v=>some v
 | .brk _=>
 some (.next (IntKind.wrap .i64 (i+1)))
 else
 some (.done (.brk ()))
def x9 (p:ah) (s_:State) (rack:Int):Option (Int × Int):=
 (nA p s_ rack).bind fun r_=>
 bif (!decide (r_=0))then
 some (0,r_)
 else
 (GD p s_ rack).bind fun r_1=>
 Option.bind (ay (Cc r_1) FUEL (0)) fun o=>match o with
 | .ret v=>some v
 | .brk _=>
 some ((if 1<(r_1.length:Int)then 1 else(r_1.length:Int)),0)
def Gp (p:ah) (s_:State) (l:List Part):(Int × Int)->Option (aH (Int × Int) (Ex Int Bool)):=
 fun zz=>match zz with
 |(at_,i)=>
 bif (decide (i<(l.length:Int)))then
 bg ((0:Int)<=i/\i<(l.length:Int)) (
 bif (decide (i=0))then
 (bif gB [((bif (bif (!decide (((at' l i.toNat).kind)=2))then true else(decide (((at' l i.toNat).index)<0)))then true else(decide ((p.aa.length:Int)<=((at' l i.toNat).index)))),false)]then iP p s_ ((at' l i.toNat).index)else some default).bind fun r_=>
 bif (bif (bif (bif (!decide (((at' l i.toNat).kind)=2))then true else(decide (((at' l i.toNat).index)<0)))then true else(decide ((p.aa.length:Int)<=((at' l i.toNat).index))))then true else(!r_))then
 some (.done (.ret false))
 else
 bg ((0:Int)<=(at' l i.toNat).index/\(at' l i.toNat).index<(p.aa.length:Int)) (
 some (.next ((at' p.aa (((at' l i.toNat).index).toNat)).bus,IntKind.wrap .i64 (i+1))))
 else
 bg (2≠(0:Int)) (
 bif (decide ((Int.tmod i 2)=1))then
 (bif gB [((bif (!decide (((at' l i.toNat).kind)=1))then true else(!decide (((at' l i.toNat).index)=at_))),false)]then vk (rO l 0 i.toNat) (at' l i.toNat)else some default).bind fun r_1=>
 bg (gB [((bif (!decide (((at' l i.toNat).kind)=1))then true else(!decide (((at' l i.toNat).index)=at_))),false)]=true->(0:Int)<=i/\i<=(l.length:Int)) (
 bif (bif (bif (!decide (((at' l i.toNat).kind)=1))then true else(!decide (((at' l i.toNat).index)=at_)))then true else r_1)then
 some (.done (.ret false))
 else
 some (.next (at_,IntKind.wrap .i64 (i+1))))
 else
 (bif gB [((bif (bif (!decide (((at' l i.toNat).kind)=3))then true else(decide (((at' l i.toNat).index)<0)))then true else(decide ((p.aq.length:Int)<=((at' l i.toNat).index)))),false)]then fO p s_ ((at' l i.toNat).index)else some default).bind fun r_2=>
 bif (bif (bif (bif (!decide (((at' l i.toNat).kind)=3))then true else(decide (((at' l i.toNat).index)<0)))then true else(decide ((p.aq.length:Int)<=((at' l i.toNat).index))))then true else(!r_2))then
 some (.done (.ret false))
 else
 bg ((0:Int)<=(at' l i.toNat).index/\(at' l i.toNat).index<(p.aq.length:Int)) (
 bif (bif (!decide (((at' p.aq (((at' l i.toNat).index).toNat)).a)=at_))then(!decide (((at' p.aq (((at' l i.toNat).index).toNat)).b)=at_))else false)then
 some (.done (.ret false))
 else
 some (.next (IntKind.wrap .i64 ((IntKind.wrap .i64 (((at' p.aq (((at' l i.toNat).index).toNat)).a)+((at' p.aq (((at' l i.toNat).index).toNat)).b))) - at_),IntKind.wrap .i64 (i+1))))))
 else
 some (.done (.brk at_))
def CQ (p:ah) (s_:State) (rack:Int) (l:List Part):Option Bool:=
 bg (gB [(decide ((l.length:Int)=0),false)]=true->2≠(0:Int)) (
 bif (bif (decide ((l.length:Int)=0))then true else(!decide ((Int.tmod (l.length:Int) 2)=0)))then
 some false
 else
 Option.bind (ay (Gp p s_ l) FUEL (-1,0)) fun o=>match o with
 | .ret v=>some v
 | .brk at_1=>
 (zb p rack at_1).bind fun r_3=>
 some r_3)
def Be (l:List (List Part)) (i:Int):Int->Option (aH Int (Ex Unit (aH Int (Ex Unit Int)))):=
 fun kz=>
 bif (decide (kz<i))then
 (rA (at' l i.toNat) (at' l kz.toNat)).bind fun r_2=>
 bg (((0:Int)<=i/\i<(l.length:Int))/\((0:Int)<=kz/\kz<(l.length:Int))) (
 bif (!r_2)then
 some (.done (.ret (.done (.ret 7))))
 else
 some (.next (IntKind.wrap .i64 (kz+1))))
 else
 some (.done (.brk ()))
def AA (p:ah) (s_:State) (rack:Int) (l:List (List Part)):Int->Option (aH Int (Ex Unit Int)):=
 fun i=>
 bif (decide (i<(l.length:Int)))then
 (CQ p s_ rack (at' l i.toNat)).bind fun r_1=>
 bg ((0:Int)<=i/\i<(l.length:Int)) (
 bif (!r_1)then
 some (.done (.ret 7))
 else
 Option.bind (ay (Be l i) FUEL (0)) fun o=>match o with
 | .ret v=>some v
 | .brk _=>
 some (.next (IntKind.wrap .i64 (i+1))))
 else
 some (.done (.brk ()))
def qA (p:ah) (s_:State) (rack:Int) (l:List (List Part)):Option Int:=
 (nA p s_ rack).bind fun r_=>
 bif (!decide (r_=0))then
 some r_
 else
 Option.bind (ay (AA p s_ rack l) FUEL (0)) fun o=>match o with
 | .ret v=>some v
 | .brk _=>
 some 0
def iR (p:ah):((List Part) × Int)->Option (aH ((List Part) × Int) (Ex (List Part) ((List Part) × Int))):=
 fun zz=>match zz with
 |(out,i)=>
 bif (decide (i<p.ar))then
 bg (((out.length+[(⟨1,i⟩:Part)].length)*16<=140737488355328)/\(out.length+[(⟨1,i⟩:Part)].length<=4611686018427387904)) (
 some (.next (out++[(⟨1,i⟩:Part)],IntKind.wrap .i64 (i+1))))
 else
 some (.done (.brk out))
def kZ (p:ah):((List Part) × Int)->Option (aH ((List Part) × Int) (Ex (List Part) ((List Part) × Int))):=
 fun zz=>match zz with
 |(out2,i1)=>
 bif (decide (i1<(p.aa.length:Int)))then
 bg (((out2.length+[(⟨2,i1⟩:Part)].length)*16<=140737488355328)/\(out2.length+[(⟨2,i1⟩:Part)].length<=4611686018427387904)) (
 some (.next (out2++[(⟨2,i1⟩:Part)],IntKind.wrap .i64 (i1+1))))
 else
 some (.done (.brk out2))
def kX (p:ah):((List Part) × Int)->Option (aH ((List Part) × Int) (Ex (List Part) ((List Part) × Int))):=
 fun zz=>match zz with
 |(out4,i2)=>
 bif (decide (i2<(p.aq.length:Int)))then
 bg (((out4.length+[(⟨3,i2⟩:Part)].length)*16<=140737488355328)/\(out4.length+[(⟨3,i2⟩:Part)].length<=4611686018427387904)) (
 some (.next (out4++[(⟨3,i2⟩:Part)],IntKind.wrap .i64 (i2+1))))
 else
 some (.done (.brk out4))
def o8 (p:ah):Option ((List Part) × Int):=
 (mr p).bind fun r_=>
 bif (!decide (r_=0))then
 some (([]:List Part),r_)
 else
 Option.bind (ay (iR p) FUEL (([]:List Part),0)) fun o=>match o with
 | .ret v=>some v
 | .brk out1=>
 Option.bind (ay (kZ p) FUEL (out1,0)) fun o=>match o with
 | .ret v=>some v
 | .brk out3=>
 Option.bind (ay (kX p) FUEL (out3,0)) fun o=>match o with
 | .ret v=>some v
 | .brk out5=>
 some (out5,0)
def ou (s_:State) (r_:(List Part) × Int):((List Part) × Int)->Option (aH ((List Part) × Int) (Ex (List Part) (List Part))):=
 fun zz=>match zz with
 |(out,i)=>
 bif (decide (i<(r_.1.length:Int)))then
 bg ((0:Int)<=i/\i<(r_.1.length:Int)) (
 bg ((gB [(decide (((at' r_.1 i.toNat).kind)=1),true)]=true->(0:Int)<=(at' r_.1 i.toNat).index/\(at' r_.1 i.toNat).index<(s_.al.length:Int))/\(gB [(decide (((at' r_.1 i.toNat).kind)=2),true),((bif (decide (((at' r_.1 i.toNat).kind)=1))then(!(at' s_.al (((at' r_.1 i.toNat).index).toNat)))else false),false)]=true->(0:Int)<=(at' r_.1 i.toNat).index/\(at' r_.1 i.toNat).index<(s_.ae.length:Int))/\(gB [(decide (((at' r_.1 i.toNat).kind)=3),true),((bif (bif (decide (((at' r_.1 i.toNat).kind)=1))then(!(at' s_.al (((at' r_.1 i.toNat).index).toNat)))else false)then true else(bif (decide (((at' r_.1 i.toNat).kind)=2))then(!(at' s_.ae (((at' r_.1 i.toNat).index).toNat)))else false)),false)]=true->(0:Int)<=(at' r_.1 i.toNat).index/\(at' r_.1 i.toNat).index<(s_.ag.length:Int))) (
 bif (bif (bif (bif (decide (((at' r_.1 i.toNat).kind)=1))then(!(at' s_.al (((at' r_.1 i.toNat).index).toNat)))else false)then true else(bif (decide (((at' r_.1 i.toNat).kind)=2))then(!(at' s_.ae (((at' r_.1 i.toNat).index).toNat)))else false))then true else(bif (decide (((at' r_.1 i.toNat).kind)=3))then(!(at' s_.ag (((at' r_.1 i.toNat).index).toNat)))else false))then
 bg (((out.length+[at' r_.1 i.toNat].length)*16<=140737488355328)/\(out.length+[at' r_.1 i.toNat].length<=4611686018427387904)) (
 some (.next (out++[at' r_.1 i.toNat],IntKind.wrap .i64 (i+1))))
 else
 some (.next (out,IntKind.wrap .i64 (i+1)))))
 else
 some (.done (.brk out))
def mE (p:ah) (s_:State):Option (List Part):=
 (o8 p).bind fun r_=>
 Option.bind (ay (ou s_ r_) FUEL (([]:List Part),0)) fun o=>match o with
 | .ret v=>some v
 | .brk out1=>
 some out1
def Ce (p:ah) (s_:State) (rack:Int) (r_1:List Part):((List Part) × Int)->Option (aH ((List Part) × Int) (Ex (List Part) ((List Part) × Int))):=
 fun zz=>match zz with
 |(out,i)=>
 (bif gB [(decide (i<(r_1.length:Int)),true)]then lF p s_ rack else some default).bind fun r_2=>
 bif (bif (decide (i<(r_1.length:Int)))then r_2 else false)then
 (gJ p s_ (at' r_1 i.toNat) true).bind fun r_3=>
 bg ((0:Int)<=i/\i<(r_1.length:Int)) (
 (lF p r_3.1 rack).bind fun r_4=>
 bif (!r_4)then
 bg (((0:Int)<=i/\i<(r_1.length:Int))/\((out.length+[at' r_1 i.toNat].length)*16<=140737488355328)/\(out.length+[at' r_1 i.toNat].length<=4611686018427387904)) (
 some (.next (out++[at' r_1 i.toNat],IntKind.wrap .i64 (i+1))))
 else
 some (.next (out,IntKind.wrap .i64 (i+1))))
 else
 some (.done (.brk out))
def xN (p:ah) (s_:State) (rack:Int):Option ((List Part) × Int):=
 (nA p s_ rack).bind fun r_=>
 bif (!decide (r_=0))then
 some (([]:List Part),r_)
 else
 (mE p s_).bind fun r_1=>
 Option.bind (ay (Ce p s_ rack r_1) FUEL (([]:List Part),0)) fun o=>match o with
 | .ret v=>some v
 | .brk out1=>
 some (out1,0)
def yo (n:Int):Option (List Part):=
 bif (decide (n<0))then
 none
 else
 bif (decide (0<(IntKind.wrap .i64 (n - (IntKind.wrap .i64 ((0:Int) - (([]:List Part).length:Int)))))))then
 bg (((0:Int)<=(0:Int)/\(0:Int)<=(([]:List Part).length:Int))/\((0:Int)<(IntKind.wrap .i64 (n - (IntKind.wrap .i64 ((0:Int) - (([]:List Part).length:Int))))))/\((16:Int)*(IntKind.wrap .i64 (n - (IntKind.wrap .i64 ((0:Int) - (([]:List Part).length:Int)))))<=140737488355328)/\(((IntKind.wrap .i64 (n - (IntKind.wrap .i64 ((0:Int) - (([]:List Part).length:Int))))):Int)<=4611686018427387904)/\((0:Int)<=(([]:List Part).length:Int)/\(([]:List Part).length:Int)<=((List.replicate ((IntKind.wrap .i64 (n - (IntKind.wrap .i64 ((0:Int) - (([]:List Part).length:Int))))).toNat) ((⟨0,0⟩:Part):Part)).length:Int))) (
 some ((List.replicate ((IntKind.wrap .i64 (n - (IntKind.wrap .i64 ((0:Int) - (([]:List Part).length:Int))))).toNat) ((⟨0,0⟩:Part):Part)).take ((([]:List Part).length:Int).toNat)))
 else
 some ([]:List Part)
def Ef (slices:List (List Part)):(Int × Int)->Option (aH (Int × Int) (Ex Int (List Part))):=
 fun zz=>match zz with
 |(size_,t11)=>
 bif (decide (t11<(slices.length:Int)))then
 bg ((0:Int)<=t11/\t11<(slices.length:Int)) (
 bif (decide ((IntKind.wrap .i64 (size_+((at' slices t11.toNat).length:Int)))<0))then
 none
 else
 some (.next (IntKind.wrap .i64 (size_+((at' slices t11.toNat).length:Int)),IntKind.wrap .i64 (t11+1))))
 else
 some (.done (.brk size_))
def DU (slices:List (List Part)):((List Part) × Int)->Option (aH ((List Part) × Int) (Ex (List Part) (List Part))):=
 fun zz=>match zz with
 |(newslice,t27)=>
 bif (decide (t27<(slices.length:Int)))then
 bg ((0:Int)<=t27/\t27<(slices.length:Int)) (
 bg (((newslice.length+(at' slices t27.toNat).length)*16<=140737488355328)/\(newslice.length+(at' slices t27.toNat).length<=4611686018427387904)) (
 some (.next (newslice++(at' slices t27.toNat),IntKind.wrap .i64 (t27+1)))))
 else
 some (.done (.brk newslice))
def zx (slices:List (List Part)):Option (List Part):=
 Option.bind (ay (Ef slices) FUEL (0,0)) fun o=>match o with
 | .ret v=>some v
 | .brk size_1=>
 (yo size_1).bind fun r_=>
 Option.bind (ay (DU slices) FUEL (r_,0)) fun o=>match o with
 | .ret v=>some v
 | .brk newslice1=>
 some newslice1
def tO (s_:List Part) (v_:Part):Option Bool:=
 (qC s_ v_).bind fun r_=>
 some (decide (0<=r_))
def Gh (p:ah) (s_:State) (l:List Part):(Int × (List Int) × Int)->Option (aH (Int × (List Int) × Int) (Ex Int Bool)):=
 fun zz=>match zz with
 |(at_,met,i)=>
 bif (decide (i<(l.length:Int)))then
 bg ((0:Int)<=i/\i<(l.length:Int)) (
 bif (bif (bif (!decide (((at' l i.toNat).kind)=3))then true else(decide (((at' l i.toNat).index)<0)))then true else(decide ((p.aq.length:Int)<=((at' l i.toNat).index))))then
 some (.done (.ret false))
 else
 bg ((0:Int)<=(at' l i.toNat).index/\(at' l i.toNat).index<(p.aq.length:Int)) (
 bg (((0:Int)<=(at' l i.toNat).index/\(at' l i.toNat).index<(s_.ap.length:Int))/\(gB [(!(at' s_.ap (((at' l i.toNat).index).toNat)),false)]=true->(0:Int)<=(at' l i.toNat).index/\(at' l i.toNat).index<(s_.ag.length:Int))/\(gB [((bif (!(at' s_.ap (((at' l i.toNat).index).toNat)))then true else(at' s_.ag (((at' l i.toNat).index).toNat))),false)]=true->(0:Int)<=(at' p.aq (((at' l i.toNat).index).toNat)).a/\(at' p.aq (((at' l i.toNat).index).toNat)).a<(s_.al.length:Int))/\(gB [((bif (bif (!(at' s_.ap (((at' l i.toNat).index).toNat)))then true else(at' s_.ag (((at' l i.toNat).index).toNat)))then true else(at' s_.al (((at' p.aq (((at' l i.toNat).index).toNat)).a).toNat))),false)]=true->(0:Int)<=(at' p.aq (((at' l i.toNat).index).toNat)).b/\(at' p.aq (((at' l i.toNat).index).toNat)).b<(s_.al.length:Int))) (
 bif (bif (bif (bif (bif (!(at' s_.ap (((at' l i.toNat).index).toNat)))then true else(at' s_.ag (((at' l i.toNat).index).toNat)))then true else(at' s_.al (((at' p.aq (((at' l i.toNat).index).toNat)).a).toNat)))then true else(at' s_.al (((at' p.aq (((at' l i.toNat).index).toNat)).b).toNat)))then true else(bif (!decide (((at' p.aq (((at' l i.toNat).index).toNat)).a)=at_))then(!decide (((at' p.aq (((at' l i.toNat).index).toNat)).b)=at_))else false))then
 some (.done (.ret false))
 else
 (bif gB [(!((decide (((at' l ((IntKind.wrap .i64 (i+1)).toNat)).kind)=1)) && ((decide (((at' l ((IntKind.wrap .i64 (i+1)).toNat)).index)=(IntKind.wrap .i64 ((IntKind.wrap .i64 (((at' p.aq (((at' l i.toNat).index).toNat)).a)+((at' p.aq (((at' l i.toNat).index).toNat)).b))) - at_)))) && true)),false)]then gL met (IntKind.wrap .i64 ((IntKind.wrap .i64 (((at' p.aq (((at' l i.toNat).index).toNat)).a)+((at' p.aq (((at' l i.toNat).index).toNat)).b))) - at_))else some default).bind fun r_=>
 bg ((0:Int)<=(IntKind.wrap .i64 (i+1))/\(IntKind.wrap .i64 (i+1))<(l.length:Int)) (
 bif (bif (!((decide (((at' l ((IntKind.wrap .i64 (i+1)).toNat)).kind)=1)) && ((decide (((at' l ((IntKind.wrap .i64 (i+1)).toNat)).index)=(IntKind.wrap .i64 ((IntKind.wrap .i64 (((at' p.aq (((at' l i.toNat).index).toNat)).a)+((at' p.aq (((at' l i.toNat).index).toNat)).b))) - at_)))) && true)))then true else r_)then
 some (.done (.ret false))
 else
 bg (((met.length+[IntKind.wrap .i64 ((IntKind.wrap .i64 (((at' p.aq (((at' l i.toNat).index).toNat)).a)+((at' p.aq (((at' l i.toNat).index).toNat)).b))) - at_)].length)*8<=140737488355328)/\(met.length+[IntKind.wrap .i64 ((IntKind.wrap .i64 (((at' p.aq (((at' l i.toNat).index).toNat)).a)+((at' p.aq (((at' l i.toNat).index).toNat)).b))) - at_)].length<=4611686018427387904)) (
 some (.next (IntKind.wrap .i64 ((IntKind.wrap .i64 (((at' p.aq (((at' l i.toNat).index).toNat)).a)+((at' p.aq (((at' l i.toNat).index).toNat)).b))) - at_),met++[IntKind.wrap .i64 ((IntKind.wrap .i64 (((at' p.aq (((at' l i.toNat).index).toNat)).a)+((at' p.aq (((at' l i.toNat).index).toNat)).b))) - at_)],IntKind.wrap .i64 (i+2))))))))
 else
 some (.done (.brk at_))
def C8 (p:ah) (s_:State) (rack:Int) (l:List Part):Option Bool:=
 bg ((gB [(decide ((l.length:Int)<2),false)]=true->2≠(0:Int))/\(gB [((bif (decide ((l.length:Int)<2))then true else(!decide ((Int.tmod (l.length:Int) 2)=0))),false)]=true->(0:Int)<=0/\0<(l.length:Int))/\(gB [((bif (bif (decide ((l.length:Int)<2))then true else(!decide ((Int.tmod (l.length:Int) 2)=0)))then true else(!decide (((at' l 0).kind)=2))),false)]=true->(0:Int)<=0/\0<(l.length:Int))/\(gB [((bif (bif (bif (decide ((l.length:Int)<2))then true else(!decide ((Int.tmod (l.length:Int) 2)=0)))then true else(!decide (((at' l 0).kind)=2)))then true else(decide (((at' l 0).index)<0))),false)]=true->(0:Int)<=0/\0<(l.length:Int))) (
 bif (bif (bif (bif (bif (decide ((l.length:Int)<2))then true else(!decide ((Int.tmod (l.length:Int) 2)=0)))then true else(!decide (((at' l 0).kind)=2)))then true else(decide (((at' l 0).index)<0)))then true else(decide ((p.aa.length:Int)<=((at' l 0).index))))then
 some false
 else
 bg ((0:Int)<=0/\0<(l.length:Int)) (
 bg ((0:Int)<=(at' l 0).index/\(at' l 0).index<(p.aa.length:Int)) (
 bg (((0:Int)<=(at' l 0).index/\(at' l 0).index<(s_.on_.length:Int))/\(gB [(!(at' s_.on_ (((at' l 0).index).toNat)),false)]=true->(0:Int)<=(at' l 0).index/\(at' l 0).index<(s_.ae.length:Int))/\(gB [((bif (!(at' s_.on_ (((at' l 0).index).toNat)))then true else(at' s_.ae (((at' l 0).index).toNat))),false)]=true->(0:Int)<=(at' p.aa (((at' l 0).index).toNat)).bus/\(at' p.aa (((at' l 0).index).toNat)).bus<(s_.al.length:Int))/\(gB [((bif (bif (!(at' s_.on_ (((at' l 0).index).toNat)))then true else(at' s_.ae (((at' l 0).index).toNat)))then true else(at' s_.al (((at' p.aa (((at' l 0).index).toNat)).bus).toNat))),false)]=true->(0:Int)<=1/\1<(l.length:Int))) (
 bif (bif (bif (bif (!(at' s_.on_ (((at' l 0).index).toNat)))then true else(at' s_.ae (((at' l 0).index).toNat)))then true else(at' s_.al (((at' p.aa (((at' l 0).index).toNat)).bus).toNat)))then true else(!((decide (((at' l 1).kind)=1)) && ((decide (((at' l 1).index)=((at' p.aa (((at' l 0).index).toNat)).bus))) && true))))then
 some false
 else
 Option.bind (ay (Gh p s_ l) FUEL ((at' p.aa (((at' l 0).index).toNat)).bus,[(at' p.aa (((at' l 0).index).toNat)).bus],2)) fun o=>match o with
 | .ret v=>some v
 | .brk at_1=>
 (gL [((at' p.a_ rack.toNat).bj).e0,((at' p.a_ rack.toNat).bj).e1] at_1).bind fun r_1=>
 bg ((0:Int)<=rack/\rack<(p.a_.length:Int)) (
 some r_1)))))
def tC (x:List Part) (x1:Int) (x11:List Source) (x12:List Link) (x13:List aO) (x2:List Bool) (x21:List Bool) (x22:List Bool) (x23:List Bool) (x24:List Bool) (x25:List Bool) (x26:List Bool) (x3:Int):Option Bool:=
 (C8 (⟨x1,x11,x12,x13⟩:ah) (⟨x2,x21,x22,x23,x24,x25,x26⟩:State) x3 x).bind fun r_=>
 some (!r_)
def w9 (s_:List (List Part)) (f_:Int) (f_1:List Source) (f_2:List Link) (f_3:List aO) (f_4:List Bool) (f_5:List Bool) (f_6:List Bool) (f_7:List Bool) (f_8:List Bool) (f_9:List Bool) (f_10:List Bool) (f_11:Int):Int->Option (aH Int (Ex Unit Int)):=
 fun t8=>
 bif (decide (t8<(s_.length:Int)))then
 (tC (at' s_ t8.toNat) f_ f_1 f_2 f_3 f_4 f_5 f_6 f_7 f_8 f_9 f_10 f_11).bind fun r_=>
 bg ((0:Int)<=t8/\t8<(s_.length:Int)) (
 bif r_ then
 some (.done (.ret t8))
 else
 some (.next (IntKind.wrap .i64 (t8+1))))
 else
 some (.done (.brk ()))
def qV (s_:List (List Part)) (f_:Int) (f_1:List Source) (f_2:List Link) (f_3:List aO) (f_4:List Bool) (f_5:List Bool) (f_6:List Bool) (f_7:List Bool) (f_8:List Bool) (f_9:List Bool) (f_10:List Bool) (f_11:Int):Option Int:=
 Option.bind (ay (w9 s_ f_ f_1 f_2 f_3 f_4 f_5 f_6 f_7 f_8 f_9 f_10 f_11) FUEL (0)) fun o=>match o with
 | .ret v=>some v
 | .brk _=>
 some (-1)
def qd (s_:List (List Part)) (f_:Int) (f_1:List Source) (f_2:List Link) (f_3:List aO) (f_4:List Bool) (f_5:List Bool) (f_6:List Bool) (f_7:List Bool) (f_8:List Bool) (f_9:List Bool) (f_10:List Bool) (f_11:Int):Option Bool:=
 (qV s_ f_ f_1 f_2 f_3 f_4 f_5 f_6 f_7 f_8 f_9 f_10 f_11).bind fun r_=>
 some (decide (0<=r_))
def AR (r_2:List Part):Int->Option (aH Int (Ex Unit Int)):=
 fun t27=>
 bif (decide (t27<(r_2.length:Int)))then
 bg ((0:Int)<=t27/\t27<(r_2.length:Int)) (
 (tO (rO r_2 0 t27.toNat) (at' r_2 t27.toNat)).bind fun r_3=>
 bg ((0:Int)<=t27/\t27<=(r_2.length:Int)) (
 bif r_3 then
 some (.done (.ret 7))
 else
 some (.next (IntKind.wrap .i64 (t27+1)))))
 else
 some (.done (.brk ()))
def wM (p:ah) (s_:State) (rack:Int) (l:List (List Part)):Option Int:=
 (mV p s_ rack).bind fun r_=>
 bif (!decide (r_=0))then
 some r_
 else
 (qd l p.ar p.aa p.aq p.a_ s_.ap s_.aw s_.ag s_.on_ s_.ae s_.am s_.al rack).bind fun r_1=>
 bif r_1 then
 some 7
 else
 (zx l).bind fun r_2=>
 Option.bind (ay (AR r_2) FUEL (0)) fun o=>match o with
 | .ret v=>some v
 | .brk _=>
 some 0
def G7 (l:List (List Part)):((List (List Part)) × Int)->Option (aH ((List (List Part)) × Int) (Ex (List (List Part)) (List (List Part)))):=
 fun zz=>match zz with
 |(out,i)=>
 bif (decide (i<(l.length:Int)))then
 (lW (at' l i.toNat)).bind fun r_=>
 bg (((0:Int)<=i/\i<(l.length:Int))/\((out.length+[r_].length)*24<=140737488355328)/\(out.length+[r_].length<=4611686018427387904)) (
 some (.next (out++[r_],IntKind.wrap .i64 (i+1))))
 else
 some (.done (.brk out))
def Ei (l:List (List Part)):Option (List (List Part)):=
 Option.bind (ay (G7 l) FUEL (([]:List (List Part)),0)) fun o=>match o with
 | .ret v=>some v
 | .brk out1=>
 some out1
def Bv (a:List Source) (b:List Source):Int->Option (aH Int (Ex Unit Bool)):=
 fun i=>
 bif (decide (i<(a.length:Int)))then
 bg (((0:Int)<=i/\i<(a.length:Int))/\((0:Int)<=i/\i<(b.length:Int))) (
 bif (!((decide (((at' a i.toNat).bus)=((at' b i.toNat).bus))) && ((decide (((at' a i.toNat).kind)=((at' b i.toNat).kind))) && ((decide (((at' a i.toNat).power)=((at' b i.toNat).power))) && ((decide (((at' a i.toNat).bp)=((at' b i.toNat).bp))) && ((decide (((at' a i.toNat).ohm)=((at' b i.toNat).ohm))) && true))))))then
 some (.done (.ret false))
 else
 some (.next (IntKind.wrap .i64 (i+1))))
 else
 some (.done (.brk ()))
def wI (a:List Source) (b:List Source):Option Bool:=
 bif (!decide ((a.length:Int)=(b.length:Int)))then
 some false
 else
 Option.bind (ay (Bv a b) FUEL (0)) fun o=>match o with
 | .ret v=>some v
 | .brk _=>
 some true
def Dv (a:List nT) (b:List nT):Int->Option (aH Int (Ex Unit Bool)):=
 fun i=>
 bif (decide (i<(a.length:Int)))then
 bg (((0:Int)<=i/\i<(a.length:Int))/\((0:Int)<=i/\i<(b.length:Int))) (
 bif (!((decide (((at' a i.toNat).amps)=((at' b i.toNat).amps))) && ((decide (((at' a i.toNat).bm)=((at' b i.toNat).bm))) && true)))then
 some (.done (.ret false))
 else
 some (.next (IntKind.wrap .i64 (i+1))))
 else
 some (.done (.brk ()))
def zC (a:List nT) (b:List nT):Option Bool:=
 bif (!decide ((a.length:Int)=(b.length:Int)))then
 some false
 else
 Option.bind (ay (Dv a b) FUEL (0)) fun o=>match o with
 | .ret v=>some v
 | .brk _=>
 some true
def Ap (a:Link) (b:Link):Option Bool:=
 (bif gB [((bif (bif (bif (bif (decide (a.a=b.a))then(decide (a.b=b.b))else false)then(decide (a.kind=b.kind))else false)then(decide (a.most=b.most))else false)then(decide (a.ohm=b.ohm))else false),true)]then zC a.trip b.trip else some default).bind fun r_=>
 some (bif (bif (bif (bif (bif (decide (a.a=b.a))then(decide (a.b=b.b))else false)then(decide (a.kind=b.kind))else false)then(decide (a.most=b.most))else false)then(decide (a.ohm=b.ohm))else false)then r_ else false)
def DX (a:List Link) (b:List Link):Int->Option (aH Int (Ex Unit Bool)):=
 fun i=>
 bif (decide (i<(a.length:Int)))then
 (Ap (at' a i.toNat) (at' b i.toNat)).bind fun r_=>
 bg (((0:Int)<=i/\i<(a.length:Int))/\((0:Int)<=i/\i<(b.length:Int))) (
 bif (!r_)then
 some (.done (.ret false))
 else
 some (.next (IntKind.wrap .i64 (i+1))))
 else
 some (.done (.brk ()))
def zw (a:List Link) (b:List Link):Option Bool:=
 bif (!decide ((a.length:Int)=(b.length:Int)))then
 some false
 else
 Option.bind (ay (DX a b) FUEL (0)) fun o=>match o with
 | .ret v=>some v
 | .brk _=>
 some true
def DK (a:List aO) (b:List aO):Int->Option (aH Int (Ex Unit Bool)):=
 fun i=>
 bif (decide (i<(a.length:Int)))then
 bg (((0:Int)<=i/\i<(a.length:Int))/\((0:Int)<=i/\i<(b.length:Int))) (
 bif (!((decide ((((at' a i.toNat).bj).e0)=(((at' b i.toNat).bj).e0))) && ((decide ((((at' a i.toNat).bj).e1)=(((at' b i.toNat).bj).e1))) && ((decide (((at' a i.toNat).power)=((at' b i.toNat).power))) && ((decide (((at' a i.toNat).bk)=((at' b i.toNat).bk))) && true)))))then
 some (.done (.ret false))
 else
 some (.next (IntKind.wrap .i64 (i+1))))
 else
 some (.done (.brk ()))
def zI (a:List aO) (b:List aO):Option Bool:=
 bif (!decide ((a.length:Int)=(b.length:Int)))then
 some false
 else
 Option.bind (ay (DK a b) FUEL (0)) fun o=>match o with
 | .ret v=>some v
 | .brk _=>
 some true
def zu (a:ah) (b:ah):Option Bool:=
 (bif gB [(decide (a.ar=b.ar),true)]then wI a.aa b.aa else some default).bind fun r_=>
 (bif gB [((bif (decide (a.ar=b.ar))then r_ else false),true)]then zw a.aq b.aq else some default).bind fun r_1=>
 (bif gB [((bif (bif (decide (a.ar=b.ar))then r_ else false)then r_1 else false),true)]then zI a.a_ b.a_ else some default).bind fun r_2=>
 some (bif (bif (bif (decide (a.ar=b.ar))then r_ else false)then r_1 else false)then r_2 else false)
def zh (l:List (List Part)):Int->Option (aH Int (Ex Unit Bool)):=
 fun i=>
 bif (decide (i<(l.length:Int)))then
 bg ((0:Int)<=i/\i<(l.length:Int)) (
 bif (decide (30<((at' l i.toNat).length:Int)))then
 (fZ).bind fun r_2=>
 some (.done (.ret r_2))
 else
 some (.next (IntKind.wrap .i64 (i+1))))
 else
 some (.done (.brk ()))
def yR (p:ah) (s_:State) (rack:Int) (l:List (List Part)) (r_3:ah) (r_4:State) (r_5:Int):Int->Option (aH Int (Ex Unit Bool)):=
 fun t55=>
 bif (decide (t55<([rack,r_5].length:Int)))then
 bg ((0:Int)<=t55/\t55<([rack,r_5].length:Int)) (
 (om r_3 r_4 (at' [rack,r_5] t55.toNat)).bind fun r_6=>
 (x9 p s_ (at' [rack,r_5] t55.toNat)).bind fun r_7=>
 (yT r_3 r_4 (at' [rack,r_5] t55.toNat)).bind fun r_8=>
 (bif gB [(decide (r_7.2=0),true),((bif (bif (bif (!decide (r_6.1=r_7.1))then true else(!decide (r_6.2=r_7.2)))then true else(!decide (r_8.2=r_7.2)))then true else(!decide ((r_8.1.length:Int)=r_7.1))),false)]then qA p s_ (at' [rack,r_5] t55.toNat) r_8.1 else some default).bind fun r_9=>
 bif (bif (bif (bif (bif (!decide (r_6.1=r_7.1))then true else(!decide (r_6.2=r_7.2)))then true else(!decide (r_8.2=r_7.2)))then true else(!decide ((r_8.1.length:Int)=r_7.1)))then true else(bif (decide (r_7.2=0))then(!decide (r_9=0))else false))then
 some (.done (.ret false))
 else
 (kH r_3 r_4 (at' [rack,r_5] t55.toNat)).bind fun r_10=>
 (xN p s_ (at' [rack,r_5] t55.toNat)).bind fun r_11=>
 (bif gB [(!decide (r_10.2=r_11.2),false)]then jK r_10.1 r_11.1 else some default).bind fun r_12=>
 (bif gB [((bif (!decide (r_10.2=r_11.2))then true else(!r_12)),false)]then Ei l else some default).bind fun r_13=>
 (bif gB [((bif (!decide (r_10.2=r_11.2))then true else(!r_12)),false)]then wM r_3 r_4 (at' [rack,r_5] t55.toNat) r_13 else some default).bind fun r_14=>
 (bif gB [((bif (!decide (r_10.2=r_11.2))then true else(!r_12)),false)]then qA p s_ (at' [rack,r_5] t55.toNat) l else some default).bind fun r_15=>
 bif (bif (bif (!decide (r_10.2=r_11.2))then true else(!r_12))then true else(!decide (r_14=r_15)))then
 some (.done (.ret false))
 else
 some (.next (IntKind.wrap .i64 (t55+1))))
 else
 some (.done (.brk ()))
def rq (c0:Option Bool) (p:ah) (s_:State) (rack:Int) (l:List (List Part)):Option Bool:=
 (sP p).bind fun r_=>
 bif (bif r_ then true else(decide (4<(l.length:Int))))then
 (c0).bind fun r_1=>
 some r_1
 else
 Option.bind (ay (zh l) FUEL (0)) fun o=>match o with
 | .ret v=>some v
 | .brk _=>
 (zJ p).bind fun r_3=>
 (fF s_).bind fun r_4=>
 (Jq rack (p.a_.length:Int)).bind fun r_5=>
 Option.bind (ay (yR p s_ rack l r_3 r_4 r_5) FUEL (0)) fun o=>match o with
 | .ret v=>some v
 | .brk _=>
 (zu p r_3).bind fun r_16=>
 (bif gB [(r_16,true)]then gY s_ r_4 else some default).bind fun r_17=>
 (bif gB [((bif r_16 then r_17 else false),true)]then c0 else some default).bind fun r_18=>
 some (bif (bif r_16 then r_17 else false)then r_18 else false)
def iI (p:ah) (s_:State) (rack:Int) (l:List (List Part)):Option Bool:=rq fZ p s_ rack l
def jb (p:ah) (s_:State) (l:List Transfer) (t26:Int) (r_2:List Part):((List aL) × Int)->Option (aH ((List aL) × Int) (Ex (List aL) (aH ((List aL) × Int) (Ex (List aL) ((List aL) × Int))))):=
 fun zz=>match zz with
 |(out2,t53)=>
 bif (decide (t53<(r_2.length:Int)))then
 bg ((0:Int)<=t53/\t53<(r_2.length:Int)) (
 (gG p s_ l [at' r_2 t53.toNat]).bind fun r_3=>
 (lu p r_3.1 t26).bind fun r_4=>
 bif (!r_4)then
 bg (((out2.length+[(⟨t26,at' r_2 t53.toNat⟩:aL)].length)*24<=140737488355328)/\(out2.length+[(⟨t26,at' r_2 t53.toNat⟩:aL)].length<=4611686018427387904)) (
 some (.next (out2++[(⟨t26,at' r_2 t53.toNat⟩:aL)],IntKind.wrap .i64 (t53+1))))
 else
 some (.next (out2,IntKind.wrap .i64 (t53+1))))
 else
 some (.done (.brk out2))
def fT (p:ah) (s_:State) (l:List Transfer):((List aL) × Int)->Option (aH ((List aL) × Int) (Ex (List aL) ((List aL) × Int))):=
 fun zz=>match zz with
 |(out,t26)=>
 bif (decide (t26<(p.a_.length:Int)))then
 bg ((0:Int)<=t26/\t26<(p.a_.length:Int)) (
 (bif gB [(decide (0<((at' p.a_ t26.toNat).bk)),true)]then lu p s_ t26 else some default).bind fun r_1=>
 bif (bif (decide (0<((at' p.a_ t26.toNat).bk)))then(!r_1)else false)then
 bg (((out.length+[(⟨t26,(⟨0,0⟩:Part)⟩:aL)].length)*24<=140737488355328)/\(out.length+[(⟨t26,(⟨0,0⟩:Part)⟩:aL)].length<=4611686018427387904)) (
 some (.next (out++[(⟨t26,(⟨0,0⟩:Part)⟩:aL)],IntKind.wrap .i64 (t26+1))))
 else
 bif (decide (((at' p.a_ t26.toNat).bk)<2))then
 some (.next (out,IntKind.wrap .i64 (t26+1)))
 else
 (iX p s_).bind fun r_2=>
 Option.bind (ay (jb p s_ l t26 r_2) FUEL (out,0)) fun o=>match o with
 | .ret v=>some v
 | .brk out3=>
 some (.next (out3,IntKind.wrap .i64 (t26+1))))
 else
 some (.done (.brk out))
def jJ (p:ah) (s_:State) (l:List Transfer):Option ((List aL) × Int):=
 (dI p s_ l).bind fun r_=>
 bif (!decide (r_=0))then
 some (([]:List aL),r_)
 else
 Option.bind (ay (fT p s_ l) FUEL (([]:List aL),0)) fun o=>match o with
 | .ret v=>some v
 | .brk out1=>
 some (out1,0)
def eH (p:ah) (s_:State) (l:List Transfer) (r_1:List Part) (r_2:Int):((List aL) × Int)->Option (aH ((List aL) × Int) (Ex (List aL) (aH ((List aL) × Int) (Ex (List aL) ((List aL) × Int))))):=
 fun zz=>match zz with
 |(out2,i)=>
 bif (bif (decide (i<(r_1.length:Int)))then(decide (((at' p.a_ r_2.toNat).bk)=2))else false)then
 (gD p s_ l [at' r_1 i.toNat]).bind fun r_4=>
 bg ((0:Int)<=i/\i<(r_1.length:Int)) (
 (lF p r_4.1 r_2).bind fun r_5=>
 bif (!r_5)then
 bg (((0:Int)<=i/\i<(r_1.length:Int))/\((out2.length+[(⟨r_2,at' r_1 i.toNat⟩:aL)].length)*24<=140737488355328)/\(out2.length+[(⟨r_2,at' r_1 i.toNat⟩:aL)].length<=4611686018427387904)) (
 some (.next (out2++[(⟨r_2,at' r_1 i.toNat⟩:aL)],IntKind.wrap .i64 (i+1))))
 else
 some (.next (out2,IntKind.wrap .i64 (i+1))))
 else
 some (.done (.brk out2))
def fP (p:ah) (s_:State) (l:List Transfer) (r_1:List Part):((List aL) × Int)->Option (aH ((List aL) × Int) (Ex (List aL) ((List aL) × Int))):=
 fun zz=>match zz with
 |(out,r_2)=>
 bif (decide (r_2<(p.a_.length:Int)))then
 bg ((0:Int)<=r_2/\r_2<(p.a_.length:Int)) (
 (bif gB [(decide (1<=((at' p.a_ r_2.toNat).bk)),true)]then lF p s_ r_2 else some default).bind fun r_3=>
 bif (bif (decide (1<=((at' p.a_ r_2.toNat).bk)))then(!r_3)else false)then
 bg (((out.length+[(⟨r_2,(⟨0,0⟩:Part)⟩:aL)].length)*24<=140737488355328)/\(out.length+[(⟨r_2,(⟨0,0⟩:Part)⟩:aL)].length<=4611686018427387904)) (
 some (.next (out++[(⟨r_2,(⟨0,0⟩:Part)⟩:aL)],IntKind.wrap .i64 (r_2+1))))
 else
 Option.bind (ay (eH p s_ l r_1 r_2) FUEL (out,0)) fun o=>match o with
 | .ret v=>some v
 | .brk out3=>
 some (.next (out3,IntKind.wrap .i64 (r_2+1))))
 else
 some (.done (.brk out))
def jG (p:ah) (s_:State) (l:List Transfer):Option ((List aL) × Int):=
 (dJ p s_ l).bind fun r_=>
 bif (!decide (r_=0))then
 some (([]:List aL),r_)
 else
 (mE p s_).bind fun r_1=>
 Option.bind (ay (fP p s_ l r_1) FUEL (([]:List aL),0)) fun o=>match o with
 | .ret v=>some v
 | .brk out1=>
 some (out1,0)
def kM (l:List Part) (t10:Int):((List (List Part)) × Int)->Option (aH ((List (List Part)) × Int) (Ex (List (List Part)) (aH ((List (List Part)) × Int) (Ex (List (List Part)) (List (List Part)))))):=
 fun zz=>match zz with
 |(out2,t20)=>
 bif (decide (t20<(((l.length - ((IntKind.wrap .i64 (t10+1)).toNat)):Nat):Int)))then
 bg ((0:Int)<=t20/\t20<((l.drop ((IntKind.wrap .i64 (t10+1)).toNat)).length:Int)) (
 bg (((out2.length+[[at' l t10.toNat,at' (l.drop ((IntKind.wrap .i64 (t10+1)).toNat)) t20.toNat]].length)*24<=140737488355328)/\(out2.length+[[at' l t10.toNat,at' (l.drop ((IntKind.wrap .i64 (t10+1)).toNat)) t20.toNat]].length<=4611686018427387904)) (
 some (.next (out2++[[at' l t10.toNat,at' (l.drop ((IntKind.wrap .i64 (t10+1)).toNat)) t20.toNat]],IntKind.wrap .i64 (t20+1)))))
 else
 some (.done (.brk out2))
def kR (l:List Part):((List (List Part)) × Int)->Option (aH ((List (List Part)) × Int) (Ex (List (List Part)) (List (List Part)))):=
 fun zz=>match zz with
 |(out,t10)=>
 bif (decide (t10<(l.length:Int)))then
 bg ((0:Int)<=t10/\t10<(l.length:Int)) (
 bg ((0:Int)<=(IntKind.wrap .i64 (t10+1))/\(IntKind.wrap .i64 (t10+1))<=(l.length:Int)) (
 Option.bind (ay (kM l t10) FUEL (out,0)) fun o=>match o with
 | .ret v=>some v
 | .brk out3=>
 some (.next (out3,IntKind.wrap .i64 (t10+1)))))
 else
 some (.done (.brk out))
def rX (l:List Part):Option (List (List Part)):=
 Option.bind (ay (kR l) FUEL (([]:List (List Part)),0)) fun o=>match o with
 | .ret v=>some v
 | .brk out1=>
 some out1
def kQ (x:List Part) (x1:Int) (x11:List Source) (x12:List Link) (x13:List aO) (x2:List Bool) (x21:List Bool) (x22:List Bool) (x23:List Bool) (x24:List Bool) (x25:List Bool) (x26:List Bool) (x3:List Transfer):Option Bool:=
 (iN (⟨x1,x11,x12,x13⟩:ah) (⟨x2,x21,x22,x23,x24,x25,x26⟩:State) x3 x).bind fun r_=>
 some (decide (0<(r_.1.length:Int)))
def mh (p:ah) (s_:State) (l:List Transfer) (r_1:List Part):((List (List Part)) × (List Part) × Int)->Option (aH ((List (List Part)) × (List Part) × Int) (Ex ((List (List Part)) × (List Part)) ((List (List Part)) × Int))):=
 fun zz=>match zz with
 |(out,others,t30)=>
 bif (decide (t30<(r_1.length:Int)))then
 bg ((0:Int)<=t30/\t30<(r_1.length:Int)) (
 (kQ [at' r_1 t30.toNat] p.ar p.aa p.aq p.a_ s_.ap s_.aw s_.ag s_.on_ s_.ae s_.am s_.al l).bind fun r_2=>
 bif r_2 then
 bg (((out.length+[[at' r_1 t30.toNat]].length)*24<=140737488355328)/\(out.length+[[at' r_1 t30.toNat]].length<=4611686018427387904)) (
 some (.next (out++[[at' r_1 t30.toNat]],others,IntKind.wrap .i64 (t30+1))))
 else
 bg (((others.length+[at' r_1 t30.toNat].length)*16<=140737488355328)/\(others.length+[at' r_1 t30.toNat].length<=4611686018427387904)) (
 some (.next (out,others++[at' r_1 t30.toNat],IntKind.wrap .i64 (t30+1)))))
 else
 some (.done (.brk (out,others)))
def pO (p:ah) (s_:State) (l:List Transfer) (r_3:List (List Part)):((List (List Part)) × Int)->Option (aH ((List (List Part)) × Int) (Ex (List (List Part)) ((List (List Part)) × Int))):=
 fun zz=>match zz with
 |(out2,t52)=>
 bif (decide (t52<(r_3.length:Int)))then
 bg ((0:Int)<=t52/\t52<(r_3.length:Int)) (
 (kQ (at' r_3 t52.toNat) p.ar p.aa p.aq p.a_ s_.ap s_.aw s_.ag s_.on_ s_.ae s_.am s_.al l).bind fun r_4=>
 bif r_4 then
 bg (((out2.length+[at' r_3 t52.toNat].length)*24<=140737488355328)/\(out2.length+[at' r_3 t52.toNat].length<=4611686018427387904)) (
 some (.next (out2++[at' r_3 t52.toNat],IntKind.wrap .i64 (t52+1))))
 else
 some (.next (out2,IntKind.wrap .i64 (t52+1))))
 else
 some (.done (.brk out2))
def ow (p:ah) (s_:State) (l:List Transfer) (both:Bool):Option ((List (List Part)) × Int):=
 (dI p s_ l).bind fun r_=>
 bif (!decide (r_=0))then
 some (([]:List (List Part)),r_)
 else
 (iX p s_).bind fun r_1=>
 Option.bind (ay (mh p s_ l r_1) FUEL (([]:List (List Part)),([]:List Part),0)) fun o=>match o with
 | .ret v=>some v
 | .brk (out1,others1)=>
 bif both then
 (rX others1).bind fun r_3=>
 Option.bind (ay (pO p s_ l r_3) FUEL (out1,0)) fun o=>match o with
 | .ret v=>some v
 | .brk out3=>
 some (out3,0)
 else
 some (out1,0)
def lX (p:ah) (s_:State) (l:List Transfer) (r_1:List Part):((List (List Part)) × (List Bool) × Int)->Option (aH ((List (List Part)) × (List Bool) × Int) (Ex ((List (List Part)) × (List Bool)) ((List (List Part)) × Int))):=
 fun zz=>match zz with
 |(out,weak,i)=>
 bif (decide (i<(r_1.length:Int)))then
 (jL p s_ l (rO r_1 i.toNat (((IntKind.wrap .i64 (i+1)).toNat) - i.toNat))).bind fun r_2=>
 bg ((0:Int)<=i/\i<=(IntKind.wrap .i64 (i+1))/\(IntKind.wrap .i64 (i+1))<=(r_1.length:Int)) (
 bg ((0:Int)<=i/\i<(weak.length:Int)) (
 bg (((0:Int)<=i/\i<((weak.set i.toNat (decide (0<(r_2.1.length:Int)))).length:Int))/\(i.toNat<(weak.set i.toNat (decide (0<(r_2.1.length:Int)))).length)) (
 bif (at' (weak.set i.toNat (decide (0<(r_2.1.length:Int)))) i.toNat)then
 bg (((0:Int)<=i/\i<(r_1.length:Int))/\((out.length+[[at' r_1 i.toNat]].length)*24<=140737488355328)/\(out.length+[[at' r_1 i.toNat]].length<=4611686018427387904)) (
 some (.next (out++[[at' r_1 i.toNat]],weak.set i.toNat (decide (0<(r_2.1.length:Int))),IntKind.wrap .i64 (i+1))))
 else
 some (.next (out,weak.set i.toNat (decide (0<(r_2.1.length:Int))),IntKind.wrap .i64 (i+1))))))
 else
 some (.done (.brk (out,weak)))
def lY (p:ah) (s_:State) (l:List Transfer) (r_1:List Part) (weak1:List Bool) (i1:Int):((List (List Part)) × Int)->Option (aH ((List (List Part)) × Int) (Ex (List (List Part)) (aH ((List (List Part)) × Int) (Ex (List (List Part)) ((List (List Part)) × Int))))):=
 fun zz=>match zz with
 |(out4,kz)=>
 bif (decide (kz<(r_1.length:Int)))then
 bg (((0:Int)<=i1/\i1<(weak1.length:Int))/\(gB [(at' weak1 i1.toNat,false)]=true->(0:Int)<=kz/\kz<(weak1.length:Int))) (
 bif (bif (at' weak1 i1.toNat)then true else(at' weak1 kz.toNat))then
 some (.next (out4,IntKind.wrap .i64 (kz+1)))
 else
 bg (((0:Int)<=i1/\i1<(r_1.length:Int))/\((0:Int)<=kz/\kz<(r_1.length:Int))) (
 (jL p s_ l [at' r_1 i1.toNat,at' r_1 kz.toNat]).bind fun r_3=>
 bif (decide (0<(r_3.1.length:Int)))then
 bg (((out4.length+[[at' r_1 i1.toNat,at' r_1 kz.toNat]].length)*24<=140737488355328)/\(out4.length+[[at' r_1 i1.toNat,at' r_1 kz.toNat]].length<=4611686018427387904)) (
 some (.next (out4++[[at' r_1 i1.toNat,at' r_1 kz.toNat]],IntKind.wrap .i64 (kz+1))))
 else
 some (.next (out4,IntKind.wrap .i64 (kz+1)))))
 else
 some (.done (.brk out4))
def iy (p:ah) (s_:State) (l:List Transfer) (pairs:Bool) (r_1:List Part) (weak1:List Bool):((List (List Part)) × Int)->Option (aH ((List (List Part)) × Int) (Ex (List (List Part)) ((List (List Part)) × Int))):=
 fun zz=>match zz with
 |(out2,i1)=>
 bif (bif (decide (i1<(r_1.length:Int)))then pairs else false)then
 Option.bind (ay (lY p s_ l r_1 weak1 i1) FUEL (out2,IntKind.wrap .i64 (i1+1))) fun o=>match o with
 | .ret v=>some v
 | .brk out5=>
 some (.next (out5,IntKind.wrap .i64 (i1+1)))
 else
 some (.done (.brk out2))
def oH (p:ah) (s_:State) (l:List Transfer) (pairs:Bool):Option ((List (List Part)) × Int):=
 (dJ p s_ l).bind fun r_=>
 bif (!decide (r_=0))then
 some (([]:List (List Part)),r_)
 else
 (mE p s_).bind fun r_1=>
 bg (((0:Int)<=(r_1.length:Int))/\((1:Int)*(r_1.length:Int)<=281474976710656)/\(((r_1.length:Int):Int)<=9223372036854775807)) (
 Option.bind (ay (lX p s_ l r_1) FUEL (([]:List (List Part)),List.replicate ((r_1.length:Int).toNat) (false:Bool),0)) fun o=>match o with
 | .ret v=>some v
 | .brk (out1,weak1)=>
 Option.bind (ay (iy p s_ l pairs r_1 weak1) FUEL (out1,0)) fun o=>match o with
 | .ret v=>some v
 | .brk out3=>
 some (out3,0))
def xC (a:List Part) (b:List Part):Option Bool:=
 (jK a b).bind fun r_=>
 some r_
def nu (a:List (List Part)) (b:List (List Part)):Int->Option (aH Int (Ex Unit Bool)):=
 fun i=>
 bif (decide (i<(a.length:Int)))then
 (xC (at' a i.toNat) (at' b i.toNat)).bind fun r_=>
 bg (((0:Int)<=i/\i<(a.length:Int))/\((0:Int)<=i/\i<(b.length:Int))) (
 bif (!r_)then
 some (.done (.ret false))
 else
 some (.next (IntKind.wrap .i64 (i+1))))
 else
 some (.done (.brk ()))
def qJ (a:List (List Part)) (b:List (List Part)):Option Bool:=
 bif (!decide ((a.length:Int)=(b.length:Int)))then
 some false
 else
 Option.bind (ay (nu a b) FUEL (0)) fun o=>match o with
 | .ret v=>some v
 | .brk _=>
 some true
def fI (r_3:(List aL) × Int) (r_4:(List aL) × Int):Int->Option (aH Int (Ex Unit Bool)):=
 fun i=>
 bif (decide (i<(r_3.1.length:Int)))then
 bg (((0:Int)<=i/\i<(r_3.1.length:Int))/\((0:Int)<=i/\i<(r_4.1.length:Int))) (
 bif (!((decide (((at' r_3.1 i.toNat).rack)=((at' r_4.1 i.toNat).rack))) && ((decide ((((at' r_3.1 i.toNat).part).kind)=(((at' r_4.1 i.toNat).part).kind))) && ((decide ((((at' r_3.1 i.toNat).part).index)=(((at' r_4.1 i.toNat).part).index))) && true))))then
 some (.done (.ret false))
 else
 some (.next (IntKind.wrap .i64 (i+1))))
 else
 some (.done (.brk ()))
def ja (p:ah) (s_:State) (l:List Transfer) (pairs:Bool):Option Bool:=
 (sP p).bind fun r_=>
 bif (bif (bif r_ then true else(bif (decide (6<(l.length:Int)))then(decide ((l.length:Int)<=16))else false))then true else(decide (20<(l.length:Int))))then
 (fZ).bind fun r_1=>
 some r_1
 else
 (lC l).bind fun r_2=>
 (jJ p s_ r_2).bind fun r_3=>
 (jG p s_ l).bind fun r_4=>
 bif (bif (!decide (r_3.2=r_4.2))then true else(!decide ((r_3.1.length:Int)=(r_4.1.length:Int))))then
 some false
 else
 Option.bind (ay (fI r_3 r_4) FUEL (0)) fun o=>match o with
 | .ret v=>some v
 | .brk _=>
 (lC l).bind fun r_5=>
 (ow p s_ r_5 pairs).bind fun r_6=>
 (oH p s_ l pairs).bind fun r_7=>
 (bif gB [(decide (r_6.2=r_7.2),true)]then qJ r_6.1 r_7.1 else some default).bind fun r_8=>
 (bif gB [((bif (decide (r_6.2=r_7.2))then r_8 else false),true)]then fZ else some default).bind fun r_9=>
 some (bif (bif (decide (r_6.2=r_7.2))then r_8 else false)then r_9 else false)
def Py (n:Int) (k:Nat):Bool:=(decide ((IntKind.wrap .i64 (((BitVec.ofInt (IntKind.bits .i64) (Int.fdiv n (2 ^ min k (IntKind.bits .i64))) &&& BitVec.ofInt (IntKind.bits .i64) 1).toNat:Int)))=1))
def QT (n:Int) (s:State):State:=(⟨((s.ap.set 0 (Py n 0)).set 1 (Py n 1)).set 2 (Py n 2),s.aw.set 1 (Py n 8),(s.ag.set 0 (Py n 5)).set 2 (Py n 6),(s.on_.set 0 (Py n 3)).set 1 (Py n 4),s.ae.set 1 (Py n 10),s.am.set 3 (Py n 9),s.al.set 2 (Py n 7)⟩:State)
def fK  :Int->Option (aH Int (Ex Unit Bool)):=
 fun n=>
 bif (decide (n<4096))then
 (iA (Int.fdiv n (2 ^ min 11 (IntKind.bits .i64)))).bind fun r_=>
 bg ((0:Int)<=11) (
 bg (((0:Int)<=0/\0<(r_.2.ap.length:Int))/\((0:Int)<=1/\1<(r_.2.ap.length:Int))/\((0:Int)<=2/\2<(r_.2.ap.length:Int))/\((0:Int)<=0/\0<(r_.2.on_.length:Int))/\((0:Int)<=1/\1<(r_.2.on_.length:Int))/\((0:Int)<=0/\0<(r_.2.ag.length:Int))/\((0:Int)<=2/\2<(r_.2.ag.length:Int))/\((0:Int)<=2/\2<(r_.2.al.length:Int))/\((0:Int)<=1/\1<(r_.2.aw.length:Int))/\((0:Int)<=3/\3<(r_.2.am.length:Int))/\((0:Int)<=1/\1<(r_.2.ae.length:Int))) (
 bg (((0:Int)<=0/\0<(11:Int))/\((0:Int)<=0)/\(0<r_.2.ap.length)) (
 bg (((0:Int)<=1/\1<(11:Int))/\((0:Int)<=1)/\(1<(r_.2.ap.set 0 (Py n 0)).length)) (
 bg (((0:Int)<=2/\2<(11:Int))/\((0:Int)<=2)/\(2<((r_.2.ap.set 0 (Py n 0)).set 1 (Py n 1)).length)) (
 bg (((0:Int)<=3/\3<(11:Int))/\((0:Int)<=3)/\(0<r_.2.on_.length)) (
 bg (((0:Int)<=4/\4<(11:Int))/\((0:Int)<=4)/\(1<(r_.2.on_.set 0 (Py n 3)).length)) (
 bg (((0:Int)<=5/\5<(11:Int))/\((0:Int)<=5)/\(0<r_.2.ag.length)) (
 bg (((0:Int)<=6/\6<(11:Int))/\((0:Int)<=6)/\(2<(r_.2.ag.set 0 (Py n 5)).length)) (
 bg (((0:Int)<=7/\7<(11:Int))/\((0:Int)<=7)/\(2<r_.2.al.length)) (
 bg (((0:Int)<=8/\8<(11:Int))/\((0:Int)<=8)/\(1<r_.2.aw.length)) (
 bg (((0:Int)<=9/\9<(11:Int))/\((0:Int)<=9)/\(3<r_.2.am.length)) (
 bg (((0:Int)<=10/\10<(11:Int))/\((0:Int)<=10)/\(1<r_.2.ae.length)) (
 bg (4≠(0:Int)) (
 (jP r_.1 (QT n r_.2) ((rO [(⟨3,1,2⟩:Transfer),(⟨2,0,2⟩:Transfer),(⟨2,-1,0⟩:Transfer),(⟨3,2,1⟩:Transfer)] ((Int.tmod n 4).toNat) (4 - ((Int.tmod n 4).toNat)))++(rO [(⟨3,1,2⟩:Transfer),(⟨2,0,2⟩:Transfer),(⟨2,-1,0⟩:Transfer),(⟨3,2,1⟩:Transfer)] 0 ((Int.tmod n 4).toNat))) [(⟨IntKind.wrap .i64 ((1:Int)+(Int.tmod n 3)),Int.tmod n 2⟩:Part)]).bind fun r_1=>
 (bif gB [(decide ((Int.tmod n 4)=3),true),(!r_1,false)]then iI r_.1 (QT n r_.2) (IntKind.wrap .i64 ((Int.tmod n 3) - 1)) ([]:List (List Part))else some default).bind fun r_2=>
 (bif gB [(decide ((Int.tmod n 16)=5),true),((bif (!r_1)then true else(bif (decide ((Int.tmod n 4)=3))then(!r_2)else false)),false)]then ja r_.1 (QT n r_.2) ([(⟨3,1,2⟩:Transfer),(⟨2,0,2⟩:Transfer),(⟨2,-1,0⟩:Transfer),(⟨3,2,1⟩:Transfer)].drop ((Int.tmod n 4).toNat)) (decide ((Int.tmod n 32)=5))else some default).bind fun r_3=>
 bg (((0:Int)<=(Int.tmod n 4)/\(Int.tmod n 4)<4/\(4:Int)<=([(⟨3,1,2⟩:Transfer),(⟨2,0,2⟩:Transfer),(⟨2,-1,0⟩:Transfer),(⟨3,2,1⟩:Transfer)].length:Int))/\((0:Int)<=(Int.tmod n 4)/\(Int.tmod n 4)<=([(⟨3,1,2⟩:Transfer),(⟨2,0,2⟩:Transfer),(⟨2,-1,0⟩:Transfer),(⟨3,2,1⟩:Transfer)].length:Int))/\(0<(rO [(⟨3,1,2⟩:Transfer),(⟨2,0,2⟩:Transfer),(⟨2,-1,0⟩:Transfer),(⟨3,2,1⟩:Transfer)] ((Int.tmod n 4).toNat) (4 - ((Int.tmod n 4).toNat))).length)/\(((rO [(⟨3,1,2⟩:Transfer),(⟨2,0,2⟩:Transfer),(⟨2,-1,0⟩:Transfer),(⟨3,2,1⟩:Transfer)] ((Int.tmod n 4).toNat) (4 - ((Int.tmod n 4).toNat))).length+((Int.tmod n 4).toNat))*24<=140737488355328)/\((rO [(⟨3,1,2⟩:Transfer),(⟨2,0,2⟩:Transfer),(⟨2,-1,0⟩:Transfer),(⟨3,2,1⟩:Transfer)] ((Int.tmod n 4).toNat) (4 - ((Int.tmod n 4).toNat))).length+((Int.tmod n 4).toNat)<=4611686018427387904)/\(3≠(0:Int))/\(2≠(0:Int))/\(gB [(!r_1,false)]=true->4≠(0:Int))/\(gB [(decide ((Int.tmod n 4)=3),true),(!r_1,false)]=true->3≠(0:Int))/\(gB [((bif (!r_1)then true else(bif (decide ((Int.tmod n 4)=3))then(!r_2)else false)),false)]=true->16≠(0:Int))/\(gB [(decide ((Int.tmod n 16)=5),true),((bif (!r_1)then true else(bif (decide ((Int.tmod n 4)=3))then(!r_2)else false)),false)]=true->(0:Int)<=(Int.tmod n 4)/\(Int.tmod n 4)<=([(⟨3,1,2⟩:Transfer),(⟨2,0,2⟩:Transfer),(⟨2,-1,0⟩:Transfer),(⟨3,2,1⟩:Transfer)].length:Int))/\(gB [(decide ((Int.tmod n 16)=5),true),((bif (!r_1)then true else(bif (decide ((Int.tmod n 4)=3))then(!r_2)else false)),false)]=true->32≠(0:Int))) (
 bif (bif (bif (!r_1)then true else(bif (decide ((Int.tmod n 4)=3))then(!r_2)else false))then true else(bif (decide ((Int.tmod n 16)=5))then(!r_3)else false))then
 some (.done (.ret false))
 else
 some (.next (IntKind.wrap .i64 (n+1))))))))))))))))))
 else
 some (.done (.brk ()))
def fM  :((List Transfer) × Int)->Option (aH ((List Transfer) × Int) (Ex (List Transfer) Bool)):=
 fun zz=>match zz with
 |(many,i)=>
 bif (decide (i<16))then
 bg ((4≠(0:Int))/\(3≠(0:Int))/\((many.length+[(⟨Int.tmod i 4,-1,Int.tmod i 3⟩:Transfer)].length)*24<=140737488355328)/\(many.length+[(⟨Int.tmod i 4,-1,Int.tmod i 3⟩:Transfer)].length<=4611686018427387904)) (
 some (.next (many++[(⟨Int.tmod i 4,-1,Int.tmod i 3⟩:Transfer)],IntKind.wrap .i64 (i+1))))
 else
 some (.done (.brk many))
def lT:Option Bool:=
 Option.bind (ay fK FUEL (0)) fun o=>match o with
 | .ret v=>some v
 | .brk _=>
 (iA 1).bind fun r_4=>
 Option.bind (ay fM FUEL (([]:List Transfer),0)) fun o=>match o with
 | .ret v=>some v
 | .brk many1=>
 (bG r_4.1 r_4.2 many1).bind fun r_5=>
 (bG r_4.1 r_4.2 (many1++[at' many1 0])).bind fun r_6=>
 bg (((0:Int)<=0/\0<(many1.length:Int))/\((many1.length+[at' many1 0].length)*24<=140737488355328)/\(many1.length+[at' many1 0].length<=4611686018427387904)) (
 (bif gB [((bif (decide (r_5.2.2=0))then(decide (r_6.2.2=1))else false),true)]then fZ else some default).bind fun r_7=>
 some (bif (bif (decide (r_5.2.2=0))then(decide (r_6.2.2=1))else false)then r_7 else false))
end Sg
