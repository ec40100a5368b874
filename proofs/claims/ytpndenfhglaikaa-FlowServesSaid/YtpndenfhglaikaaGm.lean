import Derived.Test.YtpndenfhglaikaaLc
set_option linter.all false
namespace Sg
open Go
structure aA where
 bH:(List Bool)
 bZ:(List Bool)
 bN:(List Bool)
 on_:(List Bool)
 bD:(List Bool)
 cK:(List Bool)
 aW:(List Bool)
instance:Inhabited aA:=⟨⟨default,default,default,default,default,default,default⟩⟩
def aA.cell (x:aA):Nat→DV
 |0=>(bJ none 1 aF x.bH)
 |1=>(bJ none 1 aF x.bZ)
 |2=>(bJ none 1 aF x.bN)
 |3=>(bJ none 1 aF x.on_)
 |4=>(bJ none 1 aF x.bD)
 |5=>(bJ none 1 aF x.cK)
 |6=>(bJ none 1 aF x.aW)
 |_=> .nilp
structure ay where
 bus:Int
 kind:Int
 aV:Int
 sync:Int
 gM:Int
instance:Inhabited ay:=⟨⟨default,default,default,default,default⟩⟩
def ay.cell (x:ay):Nat→DV
 |0=>(.int .i64 x.bus)
 |1=>(.int .i64 x.kind)
 |2=>(.int .i64 x.aV)
 |3=>(.int .i64 x.sync)
 |4=>(.int .i64 x.gM)
 |_=> .nilp
structure dV where
 amps:Int
 jd:Int
instance:Inhabited dV:=⟨⟨default,default⟩⟩
def dV.cell (x:dV):Nat→DV
 |0=>(.int .i64 x.amps)
 |1=>(.int .i64 x.jd)
 |_=> .nilp
structure aH where
 a:Int
 b:Int
 kind:Int
 most:Int
 gM:Int
 trip:(List dV)
instance:Inhabited aH:=⟨⟨default,default,default,default,default,default⟩⟩
def aH.cell (x:aH):Nat→DV
 |0=>(.int .i64 x.a)
 |1=>(.int .i64 x.b)
 |2=>(.int .i64 x.kind)
 |3=>(.int .i64 x.most)
 |4=>(.int .i64 x.gM)
 |5=>(bJ none 2 dV.cell x.trip)
 |_=> .nilp
structure aj where
 e0:Int
 e1:Int
instance:Inhabited aj:=⟨⟨default,default⟩⟩
def aj.cell (x:aj):Nat→DV
 |0=>(.int .i64 x.e0)
 |1=>(.int .i64 x.e1)
 |_=> .nilp
structure aK where
 aC:aj
 aV:Int
 kJ:Int
instance:Inhabited aK:=⟨⟨default,default,default⟩⟩
def aK.cell (x:aK):Nat→DV
 |0=>(.int .i64 x.aC.e0)
 |1=>(.int .i64 x.aC.e1)
 |2=>(.int .i64 x.aV)
 |3=>(.int .i64 x.kJ)
 |_=> .nilp
structure au where
 ax:Int
 ah:(List ay)
 ai:(List aH)
 af:(List aK)
instance:Inhabited au:=⟨⟨default,default,default,default⟩⟩
def au.cell (x:au):Nat→DV
 |0=>(.int .i64 x.ax)
 |1=>(bJ none 5 ay.cell x.ah)
 |2=>(bJ none 6 aH.cell x.ai)
 |3=>(bJ none 4 aK.cell x.af)
 |_=> .nilp
structure eT where
 l:(List Bool)
 n:Int
instance:Inhabited eT:=⟨⟨default,default⟩⟩
def eT.cell (x:eT):Nat→DV
 |0=>(bJ none 1 aF x.l)
 |1=>(.int .i64 x.n)
 |_=> .nilp
structure Way where
 there:Bool
 gM:Int
 ai:(List Int)
instance:Inhabited Way:=⟨⟨default,default,default⟩⟩
def Way.cell (x:Way):Nat→DV
 |0=>(.bool x.there)
 |1=>(.int .i64 x.gM)
 |2=>(bJ none 1 (aT .i64) x.ai)
 |_=> .nilp
structure aJ where
 source:Int
 gM:Int
 amps:Int
 ai:(List Int)
instance:Inhabited aJ:=⟨⟨default,default,default,default⟩⟩
def aJ.cell (x:aJ):Nat→DV
 |0=>(.int .i64 x.source)
 |1=>(.int .i64 x.gM)
 |2=>(.int .i64 x.amps)
 |3=>(bJ none 1 (aT .i64) x.ai)
 |_=> .nilp
structure bU where
 to_:Int
 left:Int
instance:Inhabited bU:=⟨⟨default,default⟩⟩
def bU.cell (x:bU):Nat→DV
 |0=>(.int .i64 x.to_)
 |1=>(.int .i64 x.left)
 |_=> .nilp
structure aN where
 bP:(List bU)
 from_:(List (List Int))
instance:Inhabited aN:=⟨⟨default,default⟩⟩
def aN.cell (x:aN):Nat→DV
 |0=>(bJ none 2 bU.cell x.bP)
 |1=>(bJ none 1 (Rf 1 (aT .i64)) x.from_)
 |_=> .nilp
structure bK where
 l:(List aj)
instance:Inhabited bK:=⟨⟨default⟩⟩
def bK.cell (x:bK):Nat→DV
 |0=>(bJ none 2 aj.cell x.l)
 |_=> .nilp
structure aD where
 ah:(List Int)
 ai:(List Int)
 af:(List aj)
instance:Inhabited aD:=⟨⟨default,default,default⟩⟩
def aD.cell (x:aD):Nat→DV
 |0=>(bJ none 1 (aT .i64) x.ah)
 |1=>(bJ none 1 (aT .i64) x.ai)
 |2=>(bJ none 2 aj.cell x.af)
 |_=> .nilp
structure aM where
 kind:Int
 index:Int
instance:Inhabited aM:=⟨⟨default,default⟩⟩
def aM.cell (x:aM):Nat→DV
 |0=>(.int .i64 x.kind)
 |1=>(.int .i64 x.index)
 |_=> .nilp
structure ES where
 head:(List (Int × Int))
instance:Inhabited ES:=⟨⟨default⟩⟩
def ES.cell (x:ES):Nat→DV
 |0=> .nilp
 |_=> .nilp
structure Pf where
 ax:(List Int)
 ah:(List Int)
instance:Inhabited Pf:=⟨⟨default,default⟩⟩
def Pf.cell (x:Pf):Nat→DV
 |0=>(bJ none 1 (aT .i64) x.ax)
 |1=>(bJ none 1 (aT .i64) x.ah)
 |_=> .nilp
def Pf.ev (x:Pf):Nat→EV
 |0=> .row 3 1 x.ax.length (aS (aT .i64) x.ax)
 |1=> .row 3 1 x.ah.length (aS (aT .i64) x.ah)
 |_=> .d .nilp
instance:DecidableEq aj:=fun a b=>if h:a.e0=b.e0∧a.e1=b.e1 then .isTrue (match a,b,h with|⟨_,_⟩,⟨_,_⟩,⟨h0,h1⟩=>by cases h0;cases h1;rfl)else .isFalse fun q=>h (by cases q;exact⟨rfl,rfl⟩)
def wI (x:List Int):Nat→EV
 |0=> .row 3 1 x.length (aS (aT .i64) x)
 |_=> .d .nilp
def dY (l:List Bool):Option (List Bool):=
 dF ((l.length*1≤140737488355328)∧(l.length≤4611686018427387904)) (
 some l)
def nG (x:aA):Option aA:=
 (dY x.bH).bind fun r_=>
 (dY x.bZ).bind fun r_1=>
 (dY x.bN).bind fun r_2=>
 (dY x.on_).bind fun r_3=>
 (dY x.bD).bind fun r_4=>
 (dY x.cK).bind fun r_5=>
 (dY x.aW).bind fun r_6=>
 some (⟨r_,r_1,r_2,r_3,r_4,r_5,r_6⟩:aA)
def jr (a:List Bool) (b:List Bool):Int→Option (aY Int (Ex Unit Bool)):=
 fun i=>
 bif (decide (i<(a.length:Int)))then
 dF (((0:Int)≤i∧i<(a.length:Int))∧((0:Int)≤i∧i<(b.length:Int))) (
 bif (!((at' a i.toNat)==(at' b i.toNat)))then
 some (.done (.ret false))
 else
 some (.next (IntKind.wrap .i64 (i+1))))
 else
 some (.done (.brk ()))
def dD (a:List Bool) (b:List Bool):Option Bool:=
 bif (!decide ((a.length:Int)=(b.length:Int)))then
 some false
 else
 Option.bind (bB (jr a b) FUEL (0)) fun o=>match o with
 | .ret v=>some v
 | .brk _=>
 some true
def mY (a:aA) (b:aA):Option Bool:=
 (dD a.bH b.bH).bind fun r_=>
 (bif gB [(r_,true)]then dD a.bZ b.bZ else some default).bind fun r_1=>
 (bif gB [((bif r_ then r_1 else false),true)]then dD a.bN b.bN else some default).bind fun r_2=>
 (bif gB [((bif (bif r_ then r_1 else false)then r_2 else false),true)]then dD a.on_ b.on_ else some default).bind fun r_3=>
 (bif gB [((bif (bif (bif r_ then r_1 else false)then r_2 else false)then r_3 else false),true)]then dD a.bD b.bD else some default).bind fun r_4=>
 (bif gB [((bif (bif (bif (bif r_ then r_1 else false)then r_2 else false)then r_3 else false)then r_4 else false),true)]then dD a.cK b.cK else some default).bind fun r_5=>
 (bif gB [((bif (bif (bif (bif (bif r_ then r_1 else false)then r_2 else false)then r_3 else false)then r_4 else false)then r_5 else false),true)]then dD a.aW b.aW else some default).bind fun r_6=>
 some (bif (bif (bif (bif (bif (bif r_ then r_1 else false)then r_2 else false)then r_3 else false)then r_4 else false)then r_5 else false)then r_6 else false)
def nI (x:aH):Int→Option (aY Int (Ex Unit Bool)):=
 fun i=>
 bif (decide (i<(x.trip.length:Int)))then
 dF ((0:Int)≤i∧i<(x.trip.length:Int)) (
 bif (bif (bif (bif (decide (((at' x.trip i.toNat).amps)<1))then true else(decide (1000000<((at' x.trip i.toNat).amps))))then true else(decide (((at' x.trip i.toNat).jd)<1)))then true else(decide (100000<((at' x.trip i.toNat).jd))))then
 some (.done (.ret false))
 else
 dF ((gB [(decide (0<i),true)]=true→(0:Int)≤(IntKind.wrap .i64 (i - 1))∧(IntKind.wrap .i64 (i - 1))<(x.trip.length:Int))∧(gB [(decide (((at' x.trip i.toNat).amps)≤((at' x.trip ((IntKind.wrap .i64 (i - 1)).toNat)).amps)),false),(decide (0<i),true)]=true→(0:Int)≤(IntKind.wrap .i64 (i - 1))∧(IntKind.wrap .i64 (i - 1))<(x.trip.length:Int))) (
 bif (bif (decide (0<i))then(bif (decide (((at' x.trip i.toNat).amps)≤((at' x.trip ((IntKind.wrap .i64 (i - 1)).toNat)).amps)))then true else(decide (((at' x.trip ((IntKind.wrap .i64 (i - 1)).toNat)).jd)≤((at' x.trip i.toNat).jd))))else false)then
 some (.done (.ret false))
 else
 some (.next (IntKind.wrap .i64 (i+1)))))
 else
 some (.done (.brk ()))
def sV (p:au) (x:aH):Option Bool:=
 bif (bif (bif (bif (bif (bif (bif (bif (bif (bif (bif (decide (x.a<0))then true else(decide (p.ax≤x.a)))then true else(decide (x.b<0)))then true else(decide (p.ax≤x.b)))then true else(decide (x.a=x.b)))then true else(decide (x.kind<1)))then true else(decide (3<x.kind)))then true else(decide (x.most<1)))then true else(decide (100000<x.most)))then true else(decide (x.gM<10)))then true else(decide (100000<x.gM)))then
 some false
 else
 bif (bif (decide (6<(x.trip.length:Int)))then true else(bif (decide (0<(x.trip.length:Int)))then(!decide (x.kind=3))else false))then
 some false
 else
 Option.bind (bB (nI x) FUEL (0)) fun o=>match o with
 | .ret v=>some v
 | .brk _=>
 some true
def lH (p:au):Int→Option (aY Int (Ex Unit Int)):=
 fun i=>
 bif (decide (i<(p.ah.length:Int)))then
 dF ((0:Int)≤i∧i<(p.ah.length:Int)) (
 bif (bif (bif (bif (bif (bif (bif (bif (bif (bif (decide (((at' p.ah i.toNat).bus)<0))then true else(decide (p.ax≤((at' p.ah i.toNat).bus))))then true else(decide (((at' p.ah i.toNat).kind)<1)))then true else(decide (3<((at' p.ah i.toNat).kind))))then true else(decide (((at' p.ah i.toNat).aV)<1)))then true else(decide (100000<((at' p.ah i.toNat).aV))))then true else(decide (((at' p.ah i.toNat).sync)<0)))then true else(decide (8<((at' p.ah i.toNat).sync))))then true else(decide (((at' p.ah i.toNat).gM)<10)))then true else(decide (100000<((at' p.ah i.toNat).gM))))then
 some (.done (.ret 11))
 else
 some (.next (IntKind.wrap .i64 (i+1))))
 else
 some (.done (.brk ()))
def lD (p:au):Int→Option (aY Int (Ex Unit Int)):=
 fun i1=>
 bif (decide (i1<(p.ai.length:Int)))then
 (sV p (at' p.ai i1.toNat)).bind fun r_=>
 dF ((0:Int)≤i1∧i1<(p.ai.length:Int)) (
 bif (!r_)then
 some (.done (.ret 12))
 else
 some (.next (IntKind.wrap .i64 (i1+1))))
 else
 some (.done (.brk ()))
def l8 (p:au):Int→Option (aY Int (Ex Unit Int)):=
 fun i2=>
 bif (decide (i2<(p.af.length:Int)))then
 dF ((0:Int)≤i2∧i2<(p.af.length:Int)) (
 bif (decide ((((at' p.af i2.toNat).aC).e1)=(-1)))then
 bif (bif (bif (bif (bif (bif (bif (bif (bif (decide ((((at' p.af i2.toNat).aC).e0)<0))then true else(decide (p.ax≤(((at' p.af i2.toNat).aC).e0))))then true else(decide ((((at' p.af i2.toNat).aC).e1)<(-1))))then true else(decide (p.ax≤(((at' p.af i2.toNat).aC).e1))))then true else(decide ((((at' p.af i2.toNat).aC).e0)=(((at' p.af i2.toNat).aC).e1))))then true else(decide (((at' p.af i2.toNat).aV)<1)))then true else(decide (100000<((at' p.af i2.toNat).aV))))then true else(decide (((at' p.af i2.toNat).kJ)<0)))then true else(decide (1<((at' p.af i2.toNat).kJ))))then
 some (.done (.ret 13))
 else
 some (.next (IntKind.wrap .i64 (i2+1)))
 else
 bif (bif (bif (bif (bif (bif (bif (bif (bif (decide ((((at' p.af i2.toNat).aC).e0)<0))then true else(decide (p.ax≤(((at' p.af i2.toNat).aC).e0))))then true else(decide ((((at' p.af i2.toNat).aC).e1)<(-1))))then true else(decide (p.ax≤(((at' p.af i2.toNat).aC).e1))))then true else(decide ((((at' p.af i2.toNat).aC).e0)=(((at' p.af i2.toNat).aC).e1))))then true else(decide (((at' p.af i2.toNat).aV)<1)))then true else(decide (100000<((at' p.af i2.toNat).aV))))then true else(decide (((at' p.af i2.toNat).kJ)<0)))then true else(decide (2<((at' p.af i2.toNat).kJ))))then
 some (.done (.ret 13))
 else
 some (.next (IntKind.wrap .i64 (i2+1))))
 else
 some (.done (.brk ()))
def nM (p:au):Option Int:=
 bif (bif (decide (p.ax<1))then true else(decide (24<p.ax)))then
 some 10
 else
 bif (decide (8<(p.ah.length:Int)))then
 some 11
 else
 Option.bind (bB (lH p) FUEL (0)) fun o=>match o with
 | .ret v=>some v
 | .brk _=>
 bif (decide (40<(p.ai.length:Int)))then
 some 12
 else
 Option.bind (bB (lD p) FUEL (0)) fun o=>match o with
 | .ret v=>some v
 | .brk _=>
 bif (decide (24<(p.af.length:Int)))then
 some 13
 else
 Option.bind (bB (l8 p) FUEL (0)) fun o=>match o with
 | .ret v=>some v
 | .brk _=>
 some 0
def Ay (p:au):Option Bool:=
 bif (bif (bif (decide (60<(p.ah.length:Int)))then true else(decide (60<(p.ai.length:Int))))then true else(decide (60<(p.af.length:Int))))then
 some true
 else
 (nM p).bind fun r_=>
 some (bif (decide (r_=0))then(bif (decide (10<p.ax))then true else(decide (16<(p.ai.length:Int))))else false)
def bT (n:Int) (first:Int) (last:Int):Option Bool:=
 some (bif (decide (first≤n))then(decide (n≤last))else false)
def rW (p:au):Option (Int × (List ay) × (List aH) × (List aK)):=
 some (p.ax,p.ah,p.ai,p.af)
def xC (p:au):Option (Int × (List ay) × (List aH) × (List aK)):=
 some (p.ax,p.ah,p.ai,p.af)
def xB (p:au):Option (Int × (List ay) × (List aH) × (List aK)):=
 some (p.ax,p.ah,p.ai,p.af)
def lC (x:ay) (x1:Int) (x11:List ay) (x12:List aH) (x13:List aK):Option Bool:=
 (bT x.bus 0 (IntKind.wrap .i64 (x1 - 1))).bind fun r_=>
 (bif gB [(r_,true)]then bT x.kind 1 3 else some default).bind fun r_1=>
 (bif gB [((bif r_ then r_1 else false),true)]then bT x.aV 1 100000 else some default).bind fun r_2=>
 (bif gB [((bif (bif r_ then r_1 else false)then r_2 else false),true)]then bT x.sync 0 8 else some default).bind fun r_3=>
 (bif gB [((bif (bif (bif r_ then r_1 else false)then r_2 else false)then r_3 else false),true)]then bT x.gM 10 100000 else some default).bind fun r_4=>
 some (bif (bif (bif (bif r_ then r_1 else false)then r_2 else false)then r_3 else false)then r_4 else false)
def sK (x:ay) (x1:Int) (x11:List ay) (x12:List aH) (x13:List aK):Option Bool:=
 (lC x x1 x11 x12 x13).bind fun r_=>
 some (!r_)
def jY (s_:List ay) (f_:Int) (f_1:List ay) (f_2:List aH) (f_3:List aK):Int→Option (aY Int (Ex Unit Int)):=
 fun t8=>
 bif (decide (t8<(s_.length:Int)))then
 (sK (at' s_ t8.toNat) f_ f_1 f_2 f_3).bind fun r_=>
 dF ((0:Int)≤t8∧t8<(s_.length:Int)) (
 bif r_ then
 some (.done (.ret t8))
 else
 some (.next (IntKind.wrap .i64 (t8+1))))
 else
 some (.done (.brk ()))
def mQ (s_:List ay) (f_:Int) (f_1:List ay) (f_2:List aH) (f_3:List aK):Option Int:=
 Option.bind (bB (jY s_ f_ f_1 f_2 f_3) FUEL (0)) fun o=>match o with
 | .ret v=>some v
 | .brk _=>
 some (-1)
def iE (s_:List ay) (f_:Int) (f_1:List ay) (f_2:List aH) (f_3:List aK):Option Bool:=
 (mQ s_ f_ f_1 f_2 f_3).bind fun r_=>
 some (decide (0≤r_))
def rP (l:List ay) (most:Int) (right:Int) (right1:List ay) (right2:List aH) (right3:List aK):Option Bool:=
 (bif gB [(decide ((l.length:Int)≤most),true)]then iE l right right1 right2 right3 else some default).bind fun r_=>
 some (bif (decide ((l.length:Int)≤most))then(!r_)else false)
def kG (x:aH):Int→Option (aY Int (Ex Unit Bool)):=
 fun t50=>
 bif (decide (t50<(x.trip.length:Int)))then
 dF ((0:Int)≤t50∧t50<(x.trip.length:Int)) (
 (bT ((at' x.trip t50.toNat).amps) 1 1000000).bind fun r_5=>
 (bif gB [(!r_5,false)]then bT ((at' x.trip t50.toNat).jd) 1 100000 else some default).bind fun r_6=>
 dF ((gB [(decide (0<t50),true),((bif (!r_5)then true else(!r_6)),false)]=true→(0:Int)≤(IntKind.wrap .i64 (t50 - 1))∧(IntKind.wrap .i64 (t50 - 1))<(x.trip.length:Int))∧(gB [(decide (((at' x.trip t50.toNat).amps)≤((at' x.trip ((IntKind.wrap .i64 (t50 - 1)).toNat)).amps)),false),(decide (0<t50),true),((bif (!r_5)then true else(!r_6)),false)]=true→(0:Int)≤(IntKind.wrap .i64 (t50 - 1))∧(IntKind.wrap .i64 (t50 - 1))<(x.trip.length:Int))) (
 bif (bif (bif (!r_5)then true else(!r_6))then true else(bif (decide (0<t50))then(bif (decide (((at' x.trip t50.toNat).amps)≤((at' x.trip ((IntKind.wrap .i64 (t50 - 1)).toNat)).amps)))then true else(decide (((at' x.trip ((IntKind.wrap .i64 (t50 - 1)).toNat)).jd)≤((at' x.trip t50.toNat).jd))))else false))then
 some (.done (.ret false))
 else
 some (.next (IntKind.wrap .i64 (t50+1)))))
 else
 some (.done (.brk ()))
def oP (x:aH) (x1:Int) (x11:List ay) (x12:List aH) (x13:List aK):Option Bool:=
 (bT x.a 0 (IntKind.wrap .i64 (x1 - 1))).bind fun r_=>
 (bif gB [(!r_,false)]then bT x.b 0 (IntKind.wrap .i64 (x1 - 1))else some default).bind fun r_1=>
 (bif gB [((bif (bif (!r_)then true else(!r_1))then true else(decide (x.a=x.b))),false)]then bT x.kind 1 3 else some default).bind fun r_2=>
 (bif gB [((bif (bif (bif (!r_)then true else(!r_1))then true else(decide (x.a=x.b)))then true else(!r_2)),false)]then bT x.most 1 100000 else some default).bind fun r_3=>
 (bif gB [((bif (bif (bif (bif (!r_)then true else(!r_1))then true else(decide (x.a=x.b)))then true else(!r_2))then true else(!r_3)),false)]then bT x.gM 10 100000 else some default).bind fun r_4=>
 bif (bif (bif (bif (bif (bif (!r_)then true else(!r_1))then true else(decide (x.a=x.b)))then true else(!r_2))then true else(!r_3))then true else(!r_4))then
 some false
 else
 Option.bind (bB (kG x) FUEL (0)) fun o=>match o with
 | .ret v=>some v
 | .brk _=>
 some (bif (decide ((x.trip.length:Int)≤6))then(bif (decide ((x.trip.length:Int)=0))then true else(decide (x.kind=3)))else false)
def nX (x:aH) (x1:Int) (x11:List ay) (x12:List aH) (x13:List aK):Option Bool:=
 (oP x x1 x11 x12 x13).bind fun r_=>
 some (!r_)
def iO (s_:List aH) (f_:Int) (f_1:List ay) (f_2:List aH) (f_3:List aK):Int→Option (aY Int (Ex Unit Int)):=
 fun t8=>
 bif (decide (t8<(s_.length:Int)))then
 (nX (at' s_ t8.toNat) f_ f_1 f_2 f_3).bind fun r_=>
 dF ((0:Int)≤t8∧t8<(s_.length:Int)) (
 bif r_ then
 some (.done (.ret t8))
 else
 some (.next (IntKind.wrap .i64 (t8+1))))
 else
 some (.done (.brk ()))
def jW (s_:List aH) (f_:Int) (f_1:List ay) (f_2:List aH) (f_3:List aK):Option Int:=
 Option.bind (bB (iO s_ f_ f_1 f_2 f_3) FUEL (0)) fun o=>match o with
 | .ret v=>some v
 | .brk _=>
 some (-1)
def gD (s_:List aH) (f_:Int) (f_1:List ay) (f_2:List aH) (f_3:List aK):Option Bool:=
 (jW s_ f_ f_1 f_2 f_3).bind fun r_=>
 some (decide (0≤r_))
def pG (l:List aH) (most:Int) (right:Int) (right1:List ay) (right2:List aH) (right3:List aK):Option Bool:=
 (bif gB [(decide ((l.length:Int)≤most),true)]then gD l right right1 right2 right3 else some default).bind fun r_=>
 some (bif (decide ((l.length:Int)≤most))then(!r_)else false)
def qo (x:aK):Option Int:=
 bif (decide (x.aC.e1=(-1)))then
 some 1
 else
 some 2
def o7 (x:aK) (x1:Int) (x11:List ay) (x12:List aH) (x13:List aK):Option Bool:=
 (bT x.aC.e0 0 (IntKind.wrap .i64 (x1 - 1))).bind fun r_=>
 (bif gB [(r_,true)]then bT x.aC.e1 (-1) (IntKind.wrap .i64 (x1 - 1))else some default).bind fun r_1=>
 (bif gB [((bif (bif r_ then r_1 else false)then(!decide (x.aC.e0=x.aC.e1))else false),true)]then bT x.aV 1 100000 else some default).bind fun r_2=>
 (bif gB [((bif (bif (bif r_ then r_1 else false)then(!decide (x.aC.e0=x.aC.e1))else false)then r_2 else false),true)]then qo x else some default).bind fun r_3=>
 (bif gB [((bif (bif (bif r_ then r_1 else false)then(!decide (x.aC.e0=x.aC.e1))else false)then r_2 else false),true)]then bT x.kJ 0 r_3 else some default).bind fun r_4=>
 some (bif (bif (bif (bif r_ then r_1 else false)then(!decide (x.aC.e0=x.aC.e1))else false)then r_2 else false)then r_4 else false)
def og (x:aK) (x1:Int) (x11:List ay) (x12:List aH) (x13:List aK):Option Bool:=
 (o7 x x1 x11 x12 x13).bind fun r_=>
 some (!r_)
def iR (s_:List aK) (f_:Int) (f_1:List ay) (f_2:List aH) (f_3:List aK):Int→Option (aY Int (Ex Unit Int)):=
 fun t8=>
 bif (decide (t8<(s_.length:Int)))then
 (og (⟨(at' s_ t8.toNat).aC,(at' s_ t8.toNat).aV,(at' s_ t8.toNat).kJ⟩:aK) f_ f_1 f_2 f_3).bind fun r_=>
 dF ((0:Int)≤t8∧t8<(s_.length:Int)) (
 bif r_ then
 some (.done (.ret t8))
 else
 some (.next (IntKind.wrap .i64 (t8+1))))
 else
 some (.done (.brk ()))
def jV (s_:List aK) (f_:Int) (f_1:List ay) (f_2:List aH) (f_3:List aK):Option Int:=
 Option.bind (bB (iR s_ f_ f_1 f_2 f_3) FUEL (0)) fun o=>match o with
 | .ret v=>some v
 | .brk _=>
 some (-1)
def gy (s_:List aK) (f_:Int) (f_1:List ay) (f_2:List aH) (f_3:List aK):Option Bool:=
 (jV s_ f_ f_1 f_2 f_3).bind fun r_=>
 some (decide (0≤r_))
def o8 (l:List aK) (most:Int) (right:Int) (right1:List ay) (right2:List aH) (right3:List aK):Option Bool:=
 (bif gB [(decide ((l.length:Int)≤most),true)]then gy l right right1 right2 right3 else some default).bind fun r_=>
 some (bif (decide ((l.length:Int)≤most))then(!r_)else false)
def nN (p:au):Option Int:=
 (bT p.ax 1 24).bind fun r_=>
 bif (!r_)then
 some 10
 else
 (rW p).bind fun r_1=>
 (rP p.ah 8 r_1.1 r_1.2.1 r_1.2.2.1 r_1.2.2.2).bind fun r_2=>
 bif (!r_2)then
 some 11
 else
 (xC p).bind fun r_3=>
 (pG p.ai 40 r_3.1 r_3.2.1 r_3.2.2.1 r_3.2.2.2).bind fun r_4=>
 bif (!r_4)then
 some 12
 else
 (xB p).bind fun r_5=>
 (o8 p.af 24 r_5.1 r_5.2.1 r_5.2.2.1 r_5.2.2.2).bind fun r_6=>
 bif (!r_6)then
 some 13
 else
 some 0
def iF (p:au) (s_:aA):Int→Option (aY Int (Ex Unit Int)):=
 fun t55=>
 bif (decide (t55<([(⟨s_.bH,(p.ai.length:Int)⟩:eT),(⟨s_.bZ,(p.ai.length:Int)⟩:eT),(⟨s_.bN,(p.ai.length:Int)⟩:eT),(⟨s_.on_,(p.ah.length:Int)⟩:eT),(⟨s_.bD,(p.ah.length:Int)⟩:eT),(⟨s_.cK,p.ax⟩:eT),(⟨s_.aW,p.ax⟩:eT)].length:Int)))then
 dF ((0:Int)≤t55∧t55<([(⟨s_.bH,(p.ai.length:Int)⟩:eT),(⟨s_.bZ,(p.ai.length:Int)⟩:eT),(⟨s_.bN,(p.ai.length:Int)⟩:eT),(⟨s_.on_,(p.ah.length:Int)⟩:eT),(⟨s_.bD,(p.ah.length:Int)⟩:eT),(⟨s_.cK,p.ax⟩:eT),(⟨s_.aW,p.ax⟩:eT)].length:Int)) (
 bif (!decide ((((at' [(⟨s_.bH,(p.ai.length:Int)⟩:eT),(⟨s_.bZ,(p.ai.length:Int)⟩:eT),(⟨s_.bN,(p.ai.length:Int)⟩:eT),(⟨s_.on_,(p.ah.length:Int)⟩:eT),(⟨s_.bD,(p.ah.length:Int)⟩:eT),(⟨s_.cK,p.ax⟩:eT),(⟨s_.aW,p.ax⟩:eT)] t55.toNat).l).length:Int)=((at' [(⟨s_.bH,(p.ai.length:Int)⟩:eT),(⟨s_.bZ,(p.ai.length:Int)⟩:eT),(⟨s_.bN,(p.ai.length:Int)⟩:eT),(⟨s_.on_,(p.ah.length:Int)⟩:eT),(⟨s_.bD,(p.ah.length:Int)⟩:eT),(⟨s_.cK,p.ax⟩:eT),(⟨s_.aW,p.ax⟩:eT)] t55.toNat).n)))then
 some (.done (.ret 9))
 else
 some (.next (IntKind.wrap .i64 (t55+1))))
 else
 some (.done (.brk ()))
def iG (p:au) (s_:aA):Int→Option (aY Int (Ex Unit Int)):=
 fun t69=>
 bif (decide (t69<(p.ai.length:Int)))then
 dF ((0:Int)≤t69∧t69<(p.ai.length:Int)) (
 dF ((gB [(decide (((at' p.ai t69.toNat).kind)=1),true)]=true→(0:Int)≤t69∧t69<(s_.bH.length:Int))∧(gB [(!(at' s_.bH t69.toNat),false),(decide (((at' p.ai t69.toNat).kind)=1),true)]=true→(0:Int)≤t69∧t69<(s_.bZ.length:Int))) (
 bif (bif (decide (((at' p.ai t69.toNat).kind)=1))then(bif (!(at' s_.bH t69.toNat))then true else(at' s_.bZ t69.toNat))else false)then
 some (.done (.ret 9))
 else
 some (.next (IntKind.wrap .i64 (t69+1)))))
 else
 some (.done (.brk ()))
def fC (p:au) (s_:aA):Option Int:=
 (nN p).bind fun r_=>
 bif (!decide (r_=0))then
 some r_
 else
 Option.bind (bB (iF p s_) FUEL (0)) fun o=>match o with
 | .ret v=>some v
 | .brk _=>
 Option.bind (bB (iG p s_) FUEL (0)) fun o=>match o with
 | .ret v=>some v
 | .brk _=>
 some 0
def iP (p:au) (s_:aA) (k:Int):Option Bool:=
 dF (((0:Int)≤k∧k<(s_.on_.length:Int))∧(gB [(at' s_.on_ k.toNat,true)]=true→(0:Int)≤k∧k<(s_.bD.length:Int))∧(gB [((bif (at' s_.on_ k.toNat)then(!(at' s_.bD k.toNat))else false),true)]=true→(0:Int)≤k∧k<(p.ah.length:Int))∧(gB [((bif (at' s_.on_ k.toNat)then(!(at' s_.bD k.toNat))else false),true)]=true→(0:Int)≤(at' p.ah k.toNat).bus∧(at' p.ah k.toNat).bus<(s_.aW.length:Int))) (
 some (bif (bif (at' s_.on_ k.toNat)then(!(at' s_.bD k.toNat))else false)then(!(at' s_.aW (((at' p.ah k.toNat).bus).toNat)))else false))
def eH (p:au) (s_:aA) (i:Int):Option Bool:=
 dF ((0:Int)≤i∧i<(p.ai.length:Int)) (
 dF (((0:Int)≤i∧i<(s_.bH.length:Int))∧(gB [(at' s_.bH i.toNat,true)]=true→(0:Int)≤i∧i<(s_.bN.length:Int))∧(gB [((bif (at' s_.bH i.toNat)then(!(at' s_.bN i.toNat))else false),true)]=true→(0:Int)≤(at' p.ai i.toNat).a∧(at' p.ai i.toNat).a<(s_.aW.length:Int))∧(gB [((bif (bif (at' s_.bH i.toNat)then(!(at' s_.bN i.toNat))else false)then(!(at' s_.aW (((at' p.ai i.toNat).a).toNat)))else false),true)]=true→(0:Int)≤(at' p.ai i.toNat).b∧(at' p.ai i.toNat).b<(s_.aW.length:Int))) (
 some (bif (bif (bif (at' s_.bH i.toNat)then(!(at' s_.bN i.toNat))else false)then(!(at' s_.aW (((at' p.ai i.toNat).a).toNat)))else false)then(!(at' s_.aW (((at' p.ai i.toNat).b).toNat)))else false)))
def sZ (s_:List Int) (s_nn:Bool):Option (List Int):=
 bif (!s_nn)then
 some ([]:List Int)
 else
 dF (((([]:List Int).length+s_.length)*8≤140737488355328)∧(([]:List Int).length+s_.length≤4611686018427387904)) (
 some (([]:List Int)++s_))
def wE (s:List Int):Option (List Int):=sZ s true
def Aa (x:Int):Option Bool:=
 some (!decide (x=x))
def AR (x:Int) (y:Int):Option Int:=
 (Aa x).bind fun r_=>
 (Aa y).bind fun r_1=>
 bif r_ then
 bif r_1 then
 some 0
 else
 some (-1)
 else
 bif r_1 then
 some 1
 else
 bif (decide (x<y))then
 some (-1)
 else
 bif (decide (y<x))then
 some 1
 else
 some 0
def wJ (s1:List Int) (s2:List Int):Int→Option (aY Int (Ex Unit Int)):=
 fun t11=>
 bif (decide (t11<(s1.length:Int)))then
 dF ((0:Int)≤t11∧t11<(s1.length:Int)) (
 bif (decide ((s2.length:Int)≤t11))then
 some (.done (.ret 1))
 else
 dF ((0:Int)≤t11∧t11<(s2.length:Int)) (
 (AR (at' s1 t11.toNat) (at' s2 t11.toNat)).bind fun r_=>
 bif (!decide (r_=0))then
 some (.done (.ret r_))
 else
 some (.next (IntKind.wrap .i64 (t11+1)))))
 else
 some (.done (.brk ()))
def ve (s1:List Int) (s2:List Int):Option Int:=
 Option.bind (bB (wJ s1 s2) FUEL (0)) fun o=>match o with
 | .ret v=>some v
 | .brk _=>
 bif (decide ((s1.length:Int)<(s2.length:Int)))then
 some (-1)
 else
 some 0
def Ma (vals:List Int):Int→Option (aY Int (Ex Unit Int)):=
 fun t8=>
 bif (decide (t8<(vals.length:Int)))then
 dF ((0:Int)≤t8∧t8<(vals.length:Int)) (
 bif (!decide ((at' vals t8.toNat)=0))then
 some (.done (.ret (at' vals t8.toNat)))
 else
 some (.next (IntKind.wrap .i64 (t8+1))))
 else
 some (.done (.brk ()))
def O1 (vals:List Int):Option Int:=
 Option.bind (bB (Ma vals) FUEL (0)) fun o=>match o with
 | .ret v=>some v
 | .brk _=>
 some 0
def Be (a:Way) (b:Way):Option Bool:=
 bif (!b.there)then
 some true
 else
 (ve a.ai b.ai).bind fun r_=>
 (O1 [IntKind.wrap .i64 (a.gM - b.gM),IntKind.wrap .i64 ((a.ai.length:Int) - (b.ai.length:Int)),r_]).bind fun r_1=>
 some (decide (r_1<0))
def FC (p:au) (t28:Int):((List Way) × Bool × Int)→Option (aY ((List Way) × Bool × Int) (Ex ((List Way) × Bool) (aY ((List Way) × Bool × Int) (Ex ((List Way) × Bool) (aY ((List Way) × Bool) (Ex (List Way) (List Way))))))):=
 fun zz=>match zz with
 |(out4,changed3,t49)=>
 bif (decide (t49<2))then
 dF ((0:Int)≤t49∧t49<((2:Nat):Int)) (
 dF ((0:Int)≤(at' [(⟨(at' p.ai t28.toNat).a,(at' p.ai t28.toNat).b⟩:aj),(⟨(at' p.ai t28.toNat).b,(at' p.ai t28.toNat).a⟩:aj)] t49.toNat).e0∧(at' [(⟨(at' p.ai t28.toNat).a,(at' p.ai t28.toNat).b⟩:aj),(⟨(at' p.ai t28.toNat).b,(at' p.ai t28.toNat).a⟩:aj)] t49.toNat).e0<(out4.length:Int)) (
 bif (!((at' out4 (((at' [(⟨(at' p.ai t28.toNat).a,(at' p.ai t28.toNat).b⟩:aj),(⟨(at' p.ai t28.toNat).b,(at' p.ai t28.toNat).a⟩:aj)] t49.toNat).e0).toNat)).there))then
 some (.next (out4,changed3,IntKind.wrap .i64 (t49+1)))
 else
 (wE ((at' out4 (((at' [(⟨(at' p.ai t28.toNat).a,(at' p.ai t28.toNat).b⟩:aj),(⟨(at' p.ai t28.toNat).b,(at' p.ai t28.toNat).a⟩:aj)] t49.toNat).e0).toNat)).ai)).bind fun r_1=>
 dF (((r_1.length+[t28].length)*8≤140737488355328)∧(r_1.length+[t28].length≤4611686018427387904)) (
 (Be (⟨true,IntKind.wrap .i64 (((at' out4 (((at' [(⟨(at' p.ai t28.toNat).a,(at' p.ai t28.toNat).b⟩:aj),(⟨(at' p.ai t28.toNat).b,(at' p.ai t28.toNat).a⟩:aj)] t49.toNat).e0).toNat)).gM)+((at' p.ai t28.toNat).gM)),r_1++[t28]⟩:Way) (at' out4 (((at' [(⟨(at' p.ai t28.toNat).a,(at' p.ai t28.toNat).b⟩:aj),(⟨(at' p.ai t28.toNat).b,(at' p.ai t28.toNat).a⟩:aj)] t49.toNat).e1).toNat))).bind fun r_2=>
 dF ((0:Int)≤(at' [(⟨(at' p.ai t28.toNat).a,(at' p.ai t28.toNat).b⟩:aj),(⟨(at' p.ai t28.toNat).b,(at' p.ai t28.toNat).a⟩:aj)] t49.toNat).e1∧(at' [(⟨(at' p.ai t28.toNat).a,(at' p.ai t28.toNat).b⟩:aj),(⟨(at' p.ai t28.toNat).b,(at' p.ai t28.toNat).a⟩:aj)] t49.toNat).e1<(out4.length:Int)) (
 bif r_2 then
 dF ((0:Int)≤(at' [(⟨(at' p.ai t28.toNat).a,(at' p.ai t28.toNat).b⟩:aj),(⟨(at' p.ai t28.toNat).b,(at' p.ai t28.toNat).a⟩:aj)] t49.toNat).e1∧(at' [(⟨(at' p.ai t28.toNat).a,(at' p.ai t28.toNat).b⟩:aj),(⟨(at' p.ai t28.toNat).b,(at' p.ai t28.toNat).a⟩:aj)] t49.toNat).e1<(out4.length:Int)) (
 some (.next (out4.set (((at' [(⟨(at' p.ai t28.toNat).a,(at' p.ai t28.toNat).b⟩:aj),(⟨(at' p.ai t28.toNat).b,(at' p.ai t28.toNat).a⟩:aj)] t49.toNat).e1).toNat) (⟨true,IntKind.wrap .i64 (((at' out4 (((at' [(⟨(at' p.ai t28.toNat).a,(at' p.ai t28.toNat).b⟩:aj),(⟨(at' p.ai t28.toNat).b,(at' p.ai t28.toNat).a⟩:aj)] t49.toNat).e0).toNat)).gM)+((at' p.ai t28.toNat).gM)),r_1++[t28]⟩:Way),true,IntKind.wrap .i64 (t49+1))))
 else
 some (.next (out4,changed3,IntKind.wrap .i64 (t49+1)))))))
 else
 some (.done (.brk (out4,changed3)))
def Fv (p:au) (s_:aA):((List Way) × Bool × Int)→Option (aY ((List Way) × Bool × Int) (Ex ((List Way) × Bool) (aY ((List Way) × Bool) (Ex (List Way) (List Way))))):=
 fun zz=>match zz with
 |(out2,changed1,t28)=>
 bif (decide (t28<(p.ai.length:Int)))then
 dF ((0:Int)≤t28∧t28<(p.ai.length:Int)) (
 (eH p s_ t28).bind fun r_=>
 bif (!r_)then
 some (.next (out2,changed1,IntKind.wrap .i64 (t28+1)))
 else
 Option.bind (bB (FC p t28) FUEL (out2,changed1,0)) fun o=>match o with
 | .ret v=>some v
 | .brk (out5,changed4)=>
 some (.next (out5,changed4,IntKind.wrap .i64 (t28+1))))
 else
 some (.done (.brk (out2,changed1)))
def Fg (p:au) (s_:aA):((List Way) × Bool)→Option (aY ((List Way) × Bool) (Ex (List Way) (List Way))):=
 fun zz=>match zz with
 |(out,changed)=>
 bif changed then
 Option.bind (bB (Fv p s_) FUEL (out,false,0)) fun o=>match o with
 | .ret v=>some v
 | .brk (out3,changed2)=>
 some (.next (out3,changed2))
 else
 some (.done (.brk out))
def Ew (p:au) (s_:aA) (bus:Int):Option (List Way):=
 dF (((0:Int)≤p.ax)∧((40:Int)*p.ax≤281474976710656)∧((p.ax:Int)≤9223372036854775807)) (
 dF ((0:Int)≤bus∧bus<((List.replicate p.ax.toNat ((⟨false,0,([]:List Int)⟩:Way):Way)).length:Int)) (
 Option.bind (bB (Fg p s_) FUEL ((List.replicate p.ax.toNat ((⟨false,0,([]:List Int)⟩:Way):Way)).set bus.toNat (⟨true,(at' (List.replicate p.ax.toNat ((⟨false,0,([]:List Int)⟩:Way):Way)) bus.toNat).gM,(at' (List.replicate p.ax.toNat ((⟨false,0,([]:List Int)⟩:Way):Way)) bus.toNat).ai⟩:Way),true)) fun o=>match o with
 | .ret v=>some v
 | .brk out1=>
 some out1))
def Ct (p:au) (s_:aA) (bus:Int):((List aJ) × Int)→Option (aY ((List aJ) × Int) (Ex (List aJ) ((List aJ) × Int))):=
 fun zz=>match zz with
 |(out,t31)=>
 bif (decide (t31<(p.ah.length:Int)))then
 dF ((0:Int)≤t31∧t31<(p.ah.length:Int)) (
 (bif gB [(at' s_.aW bus.toNat,false)]then iP p s_ t31 else some default).bind fun r_1=>
 dF ((0:Int)≤bus∧bus<(s_.aW.length:Int)) (
 bif (bif (at' s_.aW bus.toNat)then true else(!r_1))then
 some (.next (out,IntKind.wrap .i64 (t31+1)))
 else
 (Ew p s_ ((at' p.ah t31.toNat).bus)).bind fun r_2=>
 dF ((0:Int)≤bus∧bus<(r_2.length:Int)) (
 bif ((at' r_2 bus.toNat).there)then
 dF (((IntKind.wrap .i64 (((at' p.ah t31.toNat).gM)+((at' r_2 bus.toNat).gM)))≠(0:Int))∧((out.length+[(⟨t31,IntKind.wrap .i64 (((at' p.ah t31.toNat).gM)+((at' r_2 bus.toNat).gM)),IntKind.wrap .i64 (Int.tdiv (IntKind.wrap .i64 ((IntKind.wrap .i64 ((400000:Int)+(IntKind.wrap .i64 (((at' p.ah t31.toNat).gM)+((at' r_2 bus.toNat).gM))))) - 1)) (IntKind.wrap .i64 (((at' p.ah t31.toNat).gM)+((at' r_2 bus.toNat).gM)))),(at' r_2 bus.toNat).ai⟩:aJ)].length)*48≤140737488355328)∧(out.length+[(⟨t31,IntKind.wrap .i64 (((at' p.ah t31.toNat).gM)+((at' r_2 bus.toNat).gM)),IntKind.wrap .i64 (Int.tdiv (IntKind.wrap .i64 ((IntKind.wrap .i64 ((400000:Int)+(IntKind.wrap .i64 (((at' p.ah t31.toNat).gM)+((at' r_2 bus.toNat).gM))))) - 1)) (IntKind.wrap .i64 (((at' p.ah t31.toNat).gM)+((at' r_2 bus.toNat).gM)))),(at' r_2 bus.toNat).ai⟩:aJ)].length≤4611686018427387904)) (
 some (.next (out++[(⟨t31,IntKind.wrap .i64 (((at' p.ah t31.toNat).gM)+((at' r_2 bus.toNat).gM)),IntKind.wrap .i64 (Int.tdiv (IntKind.wrap .i64 ((IntKind.wrap .i64 ((400000:Int)+(IntKind.wrap .i64 (((at' p.ah t31.toNat).gM)+((at' r_2 bus.toNat).gM))))) - 1)) (IntKind.wrap .i64 (((at' p.ah t31.toNat).gM)+((at' r_2 bus.toNat).gM)))),(at' r_2 bus.toNat).ai⟩:aJ)],IntKind.wrap .i64 (t31+1))))
 else
 some (.next (out,IntKind.wrap .i64 (t31+1))))))
 else
 some (.done (.brk out))
def nJ (p:au) (s_:aA) (bus:Int):Option ((List aJ) × Int):=
 (fC p s_).bind fun r_=>
 bif (!decide (r_=0))then
 some (([]:List aJ),r_)
 else
 bif (bif (decide (bus<0))then true else(decide (p.ax≤bus)))then
 some (([]:List aJ),1)
 else
 Option.bind (bB (Ct p s_ bus) FUEL (([]:List aJ),0)) fun o=>match o with
 | .ret v=>some v
 | .brk out1=>
 some (out1,0)
def Az (s_:List Int) (v_:Int):Int→Option (aY Int (Ex Unit Int)):=
 fun t8=>
 bif (decide (t8<(s_.length:Int)))then
 dF ((0:Int)≤t8∧t8<(s_.length:Int)) (
 bif (decide (v_=(at' s_ t8.toNat)))then
 some (.done (.ret t8))
 else
 some (.next (IntKind.wrap .i64 (t8+1))))
 else
 some (.done (.brk ()))
def yJ (s_:List Int) (v_:Int):Option Int:=
 Option.bind (bB (Az s_ v_) FUEL (0)) fun o=>match o with
 | .ret v=>some v
 | .brk _=>
 some (-1)
def sJ (s_:List Int) (v_:Int):Option Bool:=
 (yJ s_ v_).bind fun r_=>
 some (decide (0≤r_))
def uN (i:Int) (o_:List Int):Option Bool:=
 some (bif (decide (i<0))then true else(decide ((o_.length:Int)≤i)))
def qA (s_:List Int) (o_:List Int):Int→Option (aY Int (Ex Unit Int)):=
 fun t8=>
 bif (decide (t8<(s_.length:Int)))then
 (uN (at' s_ t8.toNat) o_).bind fun r_=>
 dF ((0:Int)≤t8∧t8<(s_.length:Int)) (
 bif r_ then
 some (.done (.ret t8))
 else
 some (.next (IntKind.wrap .i64 (t8+1))))
 else
 some (.done (.brk ()))
def nQ (s_:List Int) (o_:List Int):Option Int:=
 Option.bind (bB (qA s_ o_) FUEL (0)) fun o=>match o with
 | .ret v=>some v
 | .brk _=>
 some (-1)
def lu (s_:List Int) (o_:List Int):Option Bool:=
 (nQ s_ o_).bind fun r_=>
 some (decide (0≤r_))
def AL (l:List aJ) (out0:List Int) (t25:Int):((List Int) × Int)→Option (aY ((List Int) × Int) (Ex (List Int) (aY ((List Int) × Int) (Ex (List Int) ((List Int) × Bool × Int))))):=
 fun zz=>match zz with
 |(out02,t45)=>
 bif (decide (t45<(out0.length:Int)))then
 (sJ ((at' l t25.toNat).ai) t45).bind fun r_2=>
 bif r_2 then
 dF ((0:Int)≤t45∧t45<(out02.length:Int)) (
 some (.next (out02.set t45.toNat (IntKind.wrap .i64 ((at' out02 t45.toNat)+((at' l t25.toNat).amps))),IntKind.wrap .i64 (t45+1))))
 else
 some (.next (out02,IntKind.wrap .i64 (t45+1)))
 else
 some (.done (.brk out02))
def AO (l:List aJ):((List Int) × Int)→Option (aY ((List Int) × Int) (Ex (List Int) ((List Int) × Bool × Int))):=
 fun zz=>match zz with
 |(out0,t25)=>
 bif (decide (t25<(l.length:Int)))then
 dF ((0:Int)≤t25∧t25<(l.length:Int)) (
 (bif gB [((bif (decide (((at' l t25.toNat).amps)<0))then true else(decide (1000000<((at' l t25.toNat).amps)))),false)]then lu ((at' l t25.toNat).ai) out0 else some default).bind fun r_1=>
 bif (bif (bif (decide (((at' l t25.toNat).amps)<0))then true else(decide (1000000<((at' l t25.toNat).amps))))then true else r_1)then
 some (.done (.ret (([]:List Int),false,1)))
 else
 Option.bind (bB (AL l out0 t25) FUEL (out0,0)) fun o=>match o with
 | .ret v=>some v
 | .brk out03=>
 some (.next (out03,IntKind.wrap .i64 (t25+1))))
 else
 some (.done (.brk out0))
def lX (p:au) (l:List aJ):Option ((List Int) × Bool × Int):=
 (nN p).bind fun r_=>
 bif (!decide (r_=0))then
 some (([]:List Int),false,r_)
 else
 bif (decide (8<(l.length:Int)))then
 some (([]:List Int),false,1)
 else
 dF (((0:Int)≤(p.ai.length:Int))∧((8:Int)*(p.ai.length:Int)≤281474976710656)∧(((p.ai.length:Int):Int)≤9223372036854775807)) (
 Option.bind (bB (AO l) FUEL (List.replicate ((p.ai.length:Int).toNat) (0:Int),0)) fun o=>match o with
 | .ret v=>some v
 | .brk out01=>
 some (out01,true,0))
def jP (s_:aA) (b:Int):Option Bool:=
 dF (gB [(decide (0≤b),true)]=true→(0:Int)≤b∧b<(s_.aW.length:Int)) (
 some (bif (decide (0≤b))then(!(at' s_.aW b.toNat))else false))
def eF (a:Int) (b:Int) (there:Int) (back:Int) (network:aN):Option (Int × aN):=
 dF (((network.bP.length+[(⟨b,there⟩:bU),(⟨a,back⟩:bU)].length)*16≤140737488355328)∧(network.bP.length+[(⟨b,there⟩:bU),(⟨a,back⟩:bU)].length≤4611686018427387904)) (
 dF (((0:Int)≤a∧a<(network.from_.length:Int))∧(((at' network.from_ a.toNat).length+[(network.bP.length:Int)].length)*8≤140737488355328)∧((at' network.from_ a.toNat).length+[(network.bP.length:Int)].length≤4611686018427387904)) (
 dF (((0:Int)≤b∧b<((network.from_.set a.toNat ((at' network.from_ a.toNat)++[(network.bP.length:Int)])).length:Int))∧(((at' (network.from_.set a.toNat ((at' network.from_ a.toNat)++[(network.bP.length:Int)])) b.toNat).length+[IntKind.wrap .i64 ((network.bP.length:Int)+1)].length)*8≤140737488355328)∧((at' (network.from_.set a.toNat ((at' network.from_ a.toNat)++[(network.bP.length:Int)])) b.toNat).length+[IntKind.wrap .i64 ((network.bP.length:Int)+1)].length≤4611686018427387904)) (
 some ((network.bP.length:Int),(⟨network.bP++[(⟨b,there⟩:bU),(⟨a,back⟩:bU)],(network.from_.set a.toNat ((at' network.from_ a.toNat)++[(network.bP.length:Int)])).set b.toNat ((at' (network.from_.set a.toNat ((at' network.from_ a.toNat)++[(network.bP.length:Int)])) b.toNat)++[IntKind.wrap .i64 ((network.bP.length:Int)+1)])⟩:aN)))))
def fJ (network:aN):Option Unit:=
 some ()
def cZ (x19:Int) (x20:Int) (o_:List Int) (network:aN):(Int × Int)→Option (aY (Int × Int) (Ex Int (Nat × (List Int) × aN))):=
 fun zz=>match zz with
 |(least,at_)=>
 dF ((0:Int)≤at_∧at_<((o_.set x19.toNat x20).length:Int)) (
 bif (decide (0≤(at' (o_.set x19.toNat x20) at_.toNat)))then
 Option.bind (α:=Int) (
 dF (((0:Int)≤at_∧at_<((o_.set x19.toNat x20).length:Int))∧((0:Int)≤(at' (o_.set x19.toNat x20) at_.toNat)∧(at' (o_.set x19.toNat x20) at_.toNat)<(network.bP.length:Int))) (
 bif (bif (decide (least<0))then true else(decide (((at' network.bP ((at' (o_.set x19.toNat x20) at_.toNat).toNat)).left)<least)))then
 some ((at' network.bP ((at' (o_.set x19.toNat x20) at_.toNat).toNat)).left)
 else
 some least)) fun least2=>
 dF (((0:Int)≤at_∧at_<((o_.set x19.toNat x20).length:Int))∧((0:Int)≤(IntKind.wrap .i64 (((BitVec.ofInt (IntKind.bits .i64) (at' (o_.set x19.toNat x20) at_.toNat) ^^^ BitVec.ofInt (IntKind.bits .i64) 1).toNat:Int)))∧(IntKind.wrap .i64 (((BitVec.ofInt (IntKind.bits .i64) (at' (o_.set x19.toNat x20) at_.toNat) ^^^ BitVec.ofInt (IntKind.bits .i64) 1).toNat:Int)))<(network.bP.length:Int))) (
 some (.next (least2,(at' network.bP ((IntKind.wrap .i64 (((BitVec.ofInt (IntKind.bits .i64) (at' (o_.set x19.toNat x20) at_.toNat) ^^^ BitVec.ofInt (IntKind.bits .i64) 1).toNat:Int))).toNat)).to_)))
 else
 some (.done (.brk least)))
def dh (x19:Int) (x20:Int) (o_:List Int) (least1:Int):((List bU) × Int)→Option (aY ((List bU) × Int) (Ex (List bU) (Nat × (List Int) × aN))):=
 fun zz=>match zz with
 |(o200,at_1)=>
 dF ((0:Int)≤at_1∧at_1<((o_.set x19.toNat x20).length:Int)) (
 bif (decide (0≤(at' (o_.set x19.toNat x20) at_1.toNat)))then
 dF (((0:Int)≤at_1∧at_1<((o_.set x19.toNat x20).length:Int))∧((0:Int)≤(at' (o_.set x19.toNat x20) at_1.toNat)∧(at' (o_.set x19.toNat x20) at_1.toNat)<(o200.length:Int))) (
 dF (((0:Int)≤at_1∧at_1<((o_.set x19.toNat x20).length:Int))∧((0:Int)≤(IntKind.wrap .i64 (((BitVec.ofInt (IntKind.bits .i64) (at' (o_.set x19.toNat x20) at_1.toNat) ^^^ BitVec.ofInt (IntKind.bits .i64) 1).toNat:Int)))∧(IntKind.wrap .i64 (((BitVec.ofInt (IntKind.bits .i64) (at' (o_.set x19.toNat x20) at_1.toNat) ^^^ BitVec.ofInt (IntKind.bits .i64) 1).toNat:Int)))<((o200.set ((at' (o_.set x19.toNat x20) at_1.toNat).toNat) (⟨(at' o200 ((at' (o_.set x19.toNat x20) at_1.toNat).toNat)).to_,IntKind.wrap .i64 (((at' o200 ((at' (o_.set x19.toNat x20) at_1.toNat).toNat)).left) - least1)⟩:bU)).length:Int))) (
 dF (((0:Int)≤at_1∧at_1<((o_.set x19.toNat x20).length:Int))∧((0:Int)≤(IntKind.wrap .i64 (((BitVec.ofInt (IntKind.bits .i64) (at' (o_.set x19.toNat x20) at_1.toNat) ^^^ BitVec.ofInt (IntKind.bits .i64) 1).toNat:Int)))∧(IntKind.wrap .i64 (((BitVec.ofInt (IntKind.bits .i64) (at' (o_.set x19.toNat x20) at_1.toNat) ^^^ BitVec.ofInt (IntKind.bits .i64) 1).toNat:Int)))<(((o200.set ((at' (o_.set x19.toNat x20) at_1.toNat).toNat) (⟨(at' o200 ((at' (o_.set x19.toNat x20) at_1.toNat).toNat)).to_,IntKind.wrap .i64 (((at' o200 ((at' (o_.set x19.toNat x20) at_1.toNat).toNat)).left) - least1)⟩:bU)).set ((IntKind.wrap .i64 (((BitVec.ofInt (IntKind.bits .i64) (at' (o_.set x19.toNat x20) at_1.toNat) ^^^ BitVec.ofInt (IntKind.bits .i64) 1).toNat:Int))).toNat) (⟨(at' (o200.set ((at' (o_.set x19.toNat x20) at_1.toNat).toNat) (⟨(at' o200 ((at' (o_.set x19.toNat x20) at_1.toNat).toNat)).to_,IntKind.wrap .i64 (((at' o200 ((at' (o_.set x19.toNat x20) at_1.toNat).toNat)).left) - least1)⟩:bU)) ((IntKind.wrap .i64 (((BitVec.ofInt (IntKind.bits .i64) (at' (o_.set x19.toNat x20) at_1.toNat) ^^^ BitVec.ofInt (IntKind.bits .i64) 1).toNat:Int))).toNat)).to_,IntKind.wrap .i64 (((at' (o200.set ((at' (o_.set x19.toNat x20) at_1.toNat).toNat) (⟨(at' o200 ((at' (o_.set x19.toNat x20) at_1.toNat).toNat)).to_,IntKind.wrap .i64 (((at' o200 ((at' (o_.set x19.toNat x20) at_1.toNat).toNat)).left) - least1)⟩:bU)) ((IntKind.wrap .i64 (((BitVec.ofInt (IntKind.bits .i64) (at' (o_.set x19.toNat x20) at_1.toNat) ^^^ BitVec.ofInt (IntKind.bits .i64) 1).toNat:Int))).toNat)).left)+least1)⟩:bU)).length:Int))) (
 some (.next ((o200.set ((at' (o_.set x19.toNat x20) at_1.toNat).toNat) (⟨(at' o200 ((at' (o_.set x19.toNat x20) at_1.toNat).toNat)).to_,IntKind.wrap .i64 (((at' o200 ((at' (o_.set x19.toNat x20) at_1.toNat).toNat)).left) - least1)⟩:bU)).set ((IntKind.wrap .i64 (((BitVec.ofInt (IntKind.bits .i64) (at' (o_.set x19.toNat x20) at_1.toNat) ^^^ BitVec.ofInt (IntKind.bits .i64) 1).toNat:Int))).toNat) (⟨(at' (o200.set ((at' (o_.set x19.toNat x20) at_1.toNat).toNat) (⟨(at' o200 ((at' (o_.set x19.toNat x20) at_1.toNat).toNat)).to_,IntKind.wrap .i64 (((at' o200 ((at' (o_.set x19.toNat x20) at_1.toNat).toNat)).left) - least1)⟩:bU)) ((IntKind.wrap .i64 (((BitVec.ofInt (IntKind.bits .i64) (at' (o_.set x19.toNat x20) at_1.toNat) ^^^ BitVec.ofInt (IntKind.bits .i64) 1).toNat:Int))).toNat)).to_,IntKind.wrap .i64 (((at' (o200.set ((at' (o_.set x19.toNat x20) at_1.toNat).toNat) (⟨(at' o200 ((at' (o_.set x19.toNat x20) at_1.toNat).toNat)).to_,IntKind.wrap .i64 (((at' o200 ((at' (o_.set x19.toNat x20) at_1.toNat).toNat)).left) - least1)⟩:bU)) ((IntKind.wrap .i64 (((BitVec.ofInt (IntKind.bits .i64) (at' (o_.set x19.toNat x20) at_1.toNat) ^^^ BitVec.ofInt (IntKind.bits .i64) 1).toNat:Int))).toNat)).left)+least1)⟩:bU),(at' ((o200.set ((at' (o_.set x19.toNat x20) at_1.toNat).toNat) (⟨(at' o200 ((at' (o_.set x19.toNat x20) at_1.toNat).toNat)).to_,IntKind.wrap .i64 (((at' o200 ((at' (o_.set x19.toNat x20) at_1.toNat).toNat)).left) - least1)⟩:bU)).set ((IntKind.wrap .i64 (((BitVec.ofInt (IntKind.bits .i64) (at' (o_.set x19.toNat x20) at_1.toNat) ^^^ BitVec.ofInt (IntKind.bits .i64) 1).toNat:Int))).toNat) (⟨(at' (o200.set ((at' (o_.set x19.toNat x20) at_1.toNat).toNat) (⟨(at' o200 ((at' (o_.set x19.toNat x20) at_1.toNat).toNat)).to_,IntKind.wrap .i64 (((at' o200 ((at' (o_.set x19.toNat x20) at_1.toNat).toNat)).left) - least1)⟩:bU)) ((IntKind.wrap .i64 (((BitVec.ofInt (IntKind.bits .i64) (at' (o_.set x19.toNat x20) at_1.toNat) ^^^ BitVec.ofInt (IntKind.bits .i64) 1).toNat:Int))).toNat)).to_,IntKind.wrap .i64 (((at' (o200.set ((at' (o_.set x19.toNat x20) at_1.toNat).toNat) (⟨(at' o200 ((at' (o_.set x19.toNat x20) at_1.toNat).toNat)).to_,IntKind.wrap .i64 (((at' o200 ((at' (o_.set x19.toNat x20) at_1.toNat).toNat)).left) - least1)⟩:bU)) ((IntKind.wrap .i64 (((BitVec.ofInt (IntKind.bits .i64) (at' (o_.set x19.toNat x20) at_1.toNat) ^^^ BitVec.ofInt (IntKind.bits .i64) 1).toNat:Int))).toNat)).left)+least1)⟩:bU)) ((IntKind.wrap .i64 (((BitVec.ofInt (IntKind.bits .i64) (at' (o_.set x19.toNat x20) at_1.toNat) ^^^ BitVec.ofInt (IntKind.bits .i64) 1).toNat:Int))).toNat)).to_)))))
 else
 some (.done (.brk o200)))
def dO (x19:Int) (x20:Int) (int:Int) (o_:List Int) (network:aN):Option (Nat × (List Int) × aN):=
 dF ((0:Int)≤x19∧x19<(o_.length:Int)) (
 bif (!decide (x19=int))then
 some (0,o_.set x19.toNat x20,network)
 else
 Option.bind (bB (cZ x19 x20 o_ network) FUEL (-1,int)) fun o=>match o with
 | .ret v=>some v
 | .brk least1=>
 Option.bind (bB (dh x19 x20 o_ least1) FUEL (network.bP,int)) fun o=>match o with
 | .ret v=>some v
 | .brk o2001=>
 some (2,o_.set x19.toNat x20,(⟨o2001,network.from_⟩:aN)))
def jF (x:aj) (o_:bK):Option bK:=
 dF (((o_.l.length+[x].length)*16≤140737488355328)∧(o_.l.length+[x].length≤4611686018427387904)) (
 some (⟨o_.l++[x]⟩:bK))
def je (o_:bK):Option (aj × Bool × bK):=
 bif (decide ((o_.l.length:Int)=0))then
 some ((⟨0,0⟩:aj),false,o_)
 else
 dF (((0:Int)≤0∧0<(o_.l.length:Int))∧((0:Int)≤(1:Int)∧(1:Int)≤(o_.l.length:Int))) (
 some (at' o_.l 0,true,(⟨o_.l.drop 1⟩:bK)))
def dQ (at0:Int) (r_:Nat × (List Int) × aN):((List Bool) × (List aj) × Int)→Option (aY ((List Bool) × (List aj) × Int) (Ex ((List Bool) × (List aj)) (aY ((List bU) × (List (List Int)) × (List Int) × (List Bool) × (List aj) × Int × Int) (Ex Unit (Nat × (List Int) × aN))))):=
 fun zz=>match zz with
 |(seen1,q01,t36)=>
 bif (decide (t36<((at' r_.2.2.from_ at0.toNat).length:Int)))then
 dF ((0:Int)≤t36∧t36<((at' r_.2.2.from_ at0.toNat).length:Int)) (
 dF ((0:Int)≤(at' (at' r_.2.2.from_ at0.toNat) t36.toNat)∧(at' (at' r_.2.2.from_ at0.toNat) t36.toNat)<(r_.2.2.bP.length:Int)) (
 dF (gB [(decide (0<((at' r_.2.2.bP ((at' (at' r_.2.2.from_ at0.toNat) t36.toNat).toNat)).left)),true)]=true→(0:Int)≤(at' r_.2.2.bP ((at' (at' r_.2.2.from_ at0.toNat) t36.toNat).toNat)).to_∧(at' r_.2.2.bP ((at' (at' r_.2.2.from_ at0.toNat) t36.toNat).toNat)).to_<(seen1.length:Int)) (
 bif (bif (decide (0<((at' r_.2.2.bP ((at' (at' r_.2.2.from_ at0.toNat) t36.toNat).toNat)).left)))then(!(at' seen1 (((at' r_.2.2.bP ((at' (at' r_.2.2.from_ at0.toNat) t36.toNat).toNat)).to_).toNat)))else false)then
 dF ((0:Int)≤(at' r_.2.2.bP ((at' (at' r_.2.2.from_ at0.toNat) t36.toNat).toNat)).to_∧(at' r_.2.2.bP ((at' (at' r_.2.2.from_ at0.toNat) t36.toNat).toNat)).to_<(seen1.length:Int)) (
 (jF (⟨(at' r_.2.2.bP ((at' (at' r_.2.2.from_ at0.toNat) t36.toNat).toNat)).to_,at' (at' r_.2.2.from_ at0.toNat) t36.toNat⟩:aj) (⟨q01⟩:bK)).bind fun r_1=>
 some (.next (seen1.set (((at' r_.2.2.bP ((at' (at' r_.2.2.from_ at0.toNat) t36.toNat).toNat)).to_).toNat) true,r_1.l,IntKind.wrap .i64 (t36+1))))
 else
 some (.next (seen1,q01,IntKind.wrap .i64 (t36+1))))))
 else
 some (.done (.brk (seen1,q01)))
def gT (int:Int):((List bU) × (List (List Int)) × (List Int) × (List Bool) × (List aj) × Int × Int)→Option (aY ((List bU) × (List (List Int)) × (List Int) × (List Bool) × (List aj) × Int × Int) (Ex Unit (Nat × (List Int) × aN))):=
 fun zz=>match zz with
 |(o200,o201,o40,seen,q0,at0,at1)=>
 (dO at0 at1 int o40 (⟨o200,o201⟩:aN)).bind fun r_=>
 bif (Nat.beq r_.1 0)then
 dF ((0:Int)≤at0∧at0<(r_.2.2.from_.length:Int)) (
 Option.bind (bB (dQ at0 r_) FUEL (seen,q0,0)) fun o=>match o with
 | .ret v=>some v
 | .brk (seen2,q02)=>
 (je (⟨q02⟩:bK)).bind fun r_2=>
 bif (!r_2.2.1)then
 some (.done (.ret (0,r_.2.1,r_.2.2)))
 else
 some (.next (r_.2.2.bP,r_.2.2.from_,r_.2.1,seen2,r_2.2.2.l,r_2.1.e0,r_2.1.e1)))
 else
 some (.done (.ret (r_.1,r_.2.1,r_.2.2)))
def gG (int:Int) (o_:List Int) (network:aN):Option (Nat × (List Int) × aN):=
 dF (((0:Int)≤(network.from_.length:Int))∧((1:Int)*(network.from_.length:Int)≤281474976710656)∧(((network.from_.length:Int):Int)≤9223372036854775807)) (
 dF ((0:Int)≤0∧0<((List.replicate ((network.from_.length:Int).toNat) (false:Bool)).length:Int)) (
 Option.bind (bB (gT int) FUEL (network.bP,network.from_,o_,(List.replicate ((network.from_.length:Int).toNat) (false:Bool)).set 0 true,([]:List aj),0,-1)) fun o=>match o with
 | .ret v=>some v
 | .brk _=>none))
def jA (sink:Int):((List bU) × (List (List Int)))→Option (aY ((List bU) × (List (List Int))) (Ex Unit aN)):=
 fun zz=>match zz with
 |(o0,o1)=>
 dF (((0:Int)≤(o1.length:Int))∧((8:Int)*(o1.length:Int)≤281474976710656)∧(((o1.length:Int):Int)≤9223372036854775807)) (
 (fJ (⟨o0,o1⟩:aN)).bind fun r_=>
 (gG sink (List.replicate ((o1.length:Int).toNat) (0:Int)) (⟨o0,o1⟩:aN)).bind fun r_1=>
 bif Nat.beq r_1.1 0 then
 some (.done (.ret r_1.2.2))
 else
 dF (r_1.1=2) (
 some (.next (r_1.2.2.bP,r_1.2.2.from_))))
def jo (sink:Int) (network:aN):Option aN:=
 Option.bind (bB (jA sink) FUEL (network.bP,network.from_)) fun o=>match o with
 | .ret v=>some v
 | .brk _=>none
def kE (x236:Int) (x237:Int) (plant:au) (o_:List Bool):Option (List Bool):=
 bif (bif (decide (0<x236))then(decide (x236≤plant.ax))else false)then
 dF ((0:Int)≤(IntKind.wrap .i64 (x236 - 1))∧(IntKind.wrap .i64 (x236 - 1))<(o_.length:Int)) (
 some (o_.set ((IntKind.wrap .i64 (x236 - 1)).toNat) true))
 else
 some o_
def dJ (x1:List bU) (x11:List (List Int)) (at0:Int):((List Bool) × (List aj) × Int)→Option (aY ((List Bool) × (List aj) × Int) (Ex ((List Bool) × (List aj)) (aY ((List Bool) × (List Bool) × (List aj) × Int × Int) (Ex Unit (List Bool))))):=
 fun zz=>match zz with
 |(seen1,q01,t36)=>
 bif (decide (t36<((at' x11 at0.toNat).length:Int)))then
 dF ((0:Int)≤t36∧t36<((at' x11 at0.toNat).length:Int)) (
 dF ((0:Int)≤(at' (at' x11 at0.toNat) t36.toNat)∧(at' (at' x11 at0.toNat) t36.toNat)<(x1.length:Int)) (
 dF (gB [(decide (0<((at' x1 ((at' (at' x11 at0.toNat) t36.toNat).toNat)).left)),true)]=true→(0:Int)≤(at' x1 ((at' (at' x11 at0.toNat) t36.toNat).toNat)).to_∧(at' x1 ((at' (at' x11 at0.toNat) t36.toNat).toNat)).to_<(seen1.length:Int)) (
 bif (bif (decide (0<((at' x1 ((at' (at' x11 at0.toNat) t36.toNat).toNat)).left)))then(!(at' seen1 (((at' x1 ((at' (at' x11 at0.toNat) t36.toNat).toNat)).to_).toNat)))else false)then
 dF ((0:Int)≤(at' x1 ((at' (at' x11 at0.toNat) t36.toNat).toNat)).to_∧(at' x1 ((at' (at' x11 at0.toNat) t36.toNat).toNat)).to_<(seen1.length:Int)) (
 (jF (⟨(at' x1 ((at' (at' x11 at0.toNat) t36.toNat).toNat)).to_,at' (at' x11 at0.toNat) t36.toNat⟩:aj) (⟨q01⟩:bK)).bind fun r_1=>
 some (.next (seen1.set (((at' x1 ((at' (at' x11 at0.toNat) t36.toNat).toNat)).to_).toNat) true,r_1.l,IntKind.wrap .i64 (t36+1))))
 else
 some (.next (seen1,q01,IntKind.wrap .i64 (t36+1))))))
 else
 some (.done (.brk (seen1,q01)))
def fH (x1:List bU) (x11:List (List Int)) (plant:au):((List Bool) × (List Bool) × (List aj) × Int × Int)→Option (aY ((List Bool) × (List Bool) × (List aj) × Int × Int) (Ex Unit (List Bool))):=
 fun zz=>match zz with
 |(o280,seen,q0,at0,at1)=>
 (kE at0 at1 plant o280).bind fun r_=>
 dF ((0:Int)≤at0∧at0<(x11.length:Int)) (
 Option.bind (bB (dJ x1 x11 at0) FUEL (seen,q0,0)) fun o=>match o with
 | .ret v=>some v
 | .brk (seen2,q02)=>
 (je (⟨q02⟩:bK)).bind fun r_2=>
 bif (!r_2.2.1)then
 some (.done (.ret r_))
 else
 some (.next (r_,seen2,r_2.2.2.l,r_2.1.e0,r_2.1.e1)))
def dP (x1:List bU) (x11:List (List Int)) (plant:au) (o_:List Bool):Option (List Bool):=
 dF (((0:Int)≤(x11.length:Int))∧((1:Int)*(x11.length:Int)≤281474976710656)∧(((x11.length:Int):Int)≤9223372036854775807)) (
 dF ((0:Int)≤0∧0<((List.replicate ((x11.length:Int).toNat) (false:Bool)).length:Int)) (
 Option.bind (bB (fH x1 x11 plant) FUEL (o_,(List.replicate ((x11.length:Int).toNat) (false:Bool)).set 0 true,([]:List aj),0,-1)) fun o=>match o with
 | .ret v=>some v
 | .brk _=>none))
def kD (p:au) (s_:aA):((List bU) × (List (List Int)) × (List (Int × Int)) × Int)→Option (aY ((List bU) × (List (List Int)) × (List (Int × Int)) × Int) (Ex ((List ay) × (List bU) × (List (List Int)) × (List Int) × (List (Int × Int))) (aD × (List Bool) × Int))):=
 fun zz=>match zz with
 |(n0,n1,ah,t68)=>
 bif (decide (t68<(p.ah.length:Int)))then
 dF ((0:Int)≤t68∧t68<(p.ah.length:Int)) (
 (iP p s_ t68).bind fun r_1=>
 bif r_1 then
 (eF 0 (IntKind.wrap .i64 ((1:Int)+((at' p.ah t68.toNat).bus))) ((at' p.ah t68.toNat).aV) 0 (⟨n0,n1⟩:aN)).bind fun r_2=>
 some (.next (r_2.2.bP,r_2.2.from_,kP TU t68 r_2.1 ah,IntKind.wrap .i64 (t68+1)))
 else
 some (.next (n0,n1,ah,IntKind.wrap .i64 (t68+1))))
 else
 some (.done (.brk (p.ah,n0,n1,List.replicate ((p.ah.length:Int).toNat) (0:Int),ah)))
def ku (p:au) (s_:aA) (p1:List ay):((List bU) × (List (List Int)) × (List (Int × Int)) × Int)→Option (aY ((List bU) × (List (List Int)) × (List (Int × Int)) × Int) (Ex ((List aH) × (List bU) × (List (List Int)) × (List Int) × (List (Int × Int))) (aD × (List Bool) × Int))):=
 fun zz=>match zz with
 |(n02,n12,ai,t90)=>
 bif (decide (t90<(p.ai.length:Int)))then
 dF ((0:Int)≤t90∧t90<(p.ai.length:Int)) (
 (eH (⟨p.ax,p1,p.ai,p.af⟩:au) s_ t90).bind fun r_3=>
 bif r_3 then
 (eF (IntKind.wrap .i64 ((1:Int)+((at' p.ai t90.toNat).a))) (IntKind.wrap .i64 ((1:Int)+((at' p.ai t90.toNat).b))) ((at' p.ai t90.toNat).most) ((at' p.ai t90.toNat).most) (⟨n02,n12⟩:aN)).bind fun r_4=>
 some (.next (r_4.2.bP,r_4.2.from_,kP TU t90 r_4.1 ai,IntKind.wrap .i64 (t90+1)))
 else
 some (.next (n02,n12,ai,IntKind.wrap .i64 (t90+1))))
 else
 some (.done (.brk (p.ai,n02,n12,List.replicate ((p.ai.length:Int).toNat) (0:Int),ai)))
def iC (p:au) (s_:aA) (t115:List aK) (t117:Int):((List bU) × (List (List Int)) × (List (aj × Int)) × Int)→Option (aY ((List bU) × (List (List Int)) × (List (aj × Int)) × Int) (Ex ((List bU) × (List (List Int)) × (List (aj × Int))) (aY ((List aK) × Int × (List bU) × (List (List Int)) × (List aj) × (List (aj × Int)) × (List aK) × Int × Int) (Ex ((List aK) × Int × (List bU) × (List (List Int)) × (List aj) × (List (aj × Int))) (aD × (List Bool) × Int))))):=
 fun zz=>match zz with
 |(n06,n16,racks2,t134)=>
 bif (decide (t134<2))then
 dF ((0:Int)≤t134∧t134<((2:Nat):Int)) (
 (jP s_ (at' [((at' t115 t117.toNat).aC).e0,((at' t115 t117.toNat).aC).e1] t134.toNat)).bind fun r_6=>
 bif r_6 then
 (eF (IntKind.wrap .i64 ((1:Int)+(at' [((at' t115 t117.toNat).aC).e0,((at' t115 t117.toNat).aC).e1] t134.toNat))) (IntKind.wrap .i64 ((IntKind.wrap .i64 ((1:Int)+p.ax))+t117)) ((at' t115 t117.toNat).aV) 0 (⟨n06,n16⟩:aN)).bind fun r_7=>
 some (.next (r_7.2.bP,r_7.2.from_,kP (fun a b=>(decide (a.e0=b.e0) && (decide (a.e1=b.e1) && true))) (⟨t117,t134⟩:aj) r_7.1 racks2,IntKind.wrap .i64 (t134+1)))
 else
 some (.next (n06,n16,racks2,IntKind.wrap .i64 (t134+1))))
 else
 some (.done (.brk (n06,n16,racks2)))
def kC (p:au) (s_:aA):((List aK) × Int × (List bU) × (List (List Int)) × (List aj) × (List (aj × Int)) × (List aK) × Int × Int)→Option (aY ((List aK) × Int × (List bU) × (List (List Int)) × (List aj) × (List (aj × Int)) × (List aK) × Int × Int) (Ex ((List aK) × Int × (List bU) × (List (List Int)) × (List aj) × (List (aj × Int))) (aD × (List Bool) × Int))):=
 fun zz=>match zz with
 |(p3,sink,n04,n14,x2,af,t115,t116,t117)=>
 bif (decide (t117<t116))then
 dF ((0:Int)≤t117∧t117<(t115.length:Int)) (
 (eF (IntKind.wrap .i64 ((IntKind.wrap .i64 ((1:Int)+p.ax))+t117)) sink ((at' t115 t117.toNat).aV) 0 (⟨n04,n14⟩:aN)).bind fun r_5=>
 Option.bind (bB (iC p s_ t115 t117) FUEL (r_5.2.bP,r_5.2.from_,af,0)) fun o=>match o with
 | .ret v=>some v
 | .brk (n07,n17,racks3)=>
 some (.next (p3,sink,n07,n17,x2,racks3,t115,t116,IntKind.wrap .i64 (t117+1))))
 else
 some (.done (.brk (p3,sink,n04,n14,x2,af)))
def ny (sources1:List (Int × Int)) (r_8:aN):(List Int)→Nat→Option (List Int):=
 fun x01 i=>
 dF (((0:Int)≤(IntKind.wrap .i64 (((BitVec.ofInt (IntKind.bits .i64) (at' (sources1.map Prod.snd) i) ^^^ BitVec.ofInt (IntKind.bits .i64) 1).toNat:Int)))∧(IntKind.wrap .i64 (((BitVec.ofInt (IntKind.bits .i64) (at' (sources1.map Prod.snd) i) ^^^ BitVec.ofInt (IntKind.bits .i64) 1).toNat:Int)))<(r_8.bP.length:Int))∧((0:Int)≤(at' (sources1.map Prod.fst) i)∧(at' (sources1.map Prod.fst) i)<(x01.length:Int))) (
 some (x01.set ((at' (sources1.map Prod.fst) i).toNat) ((at' r_8.bP ((IntKind.wrap .i64 (((BitVec.ofInt (IntKind.bits .i64) (at' (sources1.map Prod.snd) i) ^^^ BitVec.ofInt (IntKind.bits .i64) 1).toNat:Int))).toNat)).left)))
def nD (p2:List aH) (links1:List (Int × Int)) (r_8:aN):(List Int)→Nat→Option (List Int):=
 fun x11 i1=>
 dF (((0:Int)≤(at' (links1.map Prod.fst) i1)∧(at' (links1.map Prod.fst) i1)<(p2.length:Int))∧((0:Int)≤(at' (links1.map Prod.snd) i1)∧(at' (links1.map Prod.snd) i1)<(r_8.bP.length:Int))∧((0:Int)≤(at' (links1.map Prod.fst) i1)∧(at' (links1.map Prod.fst) i1)<(x11.length:Int))) (
 some (x11.set ((at' (links1.map Prod.fst) i1).toNat) (IntKind.wrap .i64 (((at' p2 ((at' (links1.map Prod.fst) i1).toNat)).most) - ((at' r_8.bP ((at' (links1.map Prod.snd) i1).toNat)).left)))))
def nA (racks1:List (aj × Int)) (r_8:aN):(List aj)→Nat→Option (List aj):=
 fun x22 i2=>
 bif (decide ((at' (racks1.map Prod.fst) i2).e1=0))then
 dF (((0:Int)≤(IntKind.wrap .i64 (((BitVec.ofInt (IntKind.bits .i64) (at' (racks1.map Prod.snd) i2) ^^^ BitVec.ofInt (IntKind.bits .i64) 1).toNat:Int)))∧(IntKind.wrap .i64 (((BitVec.ofInt (IntKind.bits .i64) (at' (racks1.map Prod.snd) i2) ^^^ BitVec.ofInt (IntKind.bits .i64) 1).toNat:Int)))<(r_8.bP.length:Int))∧((0:Int)≤(at' (racks1.map Prod.fst) i2).e0∧(at' (racks1.map Prod.fst) i2).e0<(x22.length:Int))) (
 some (x22.set (((at' (racks1.map Prod.fst) i2).e0).toNat) (⟨(at' r_8.bP ((IntKind.wrap .i64 (((BitVec.ofInt (IntKind.bits .i64) (at' (racks1.map Prod.snd) i2) ^^^ BitVec.ofInt (IntKind.bits .i64) 1).toNat:Int))).toNat)).left,(at' x22 (((at' (racks1.map Prod.fst) i2).e0).toNat)).e1⟩:aj)))
 else
 dF ((at' (racks1.map Prod.fst) i2).e1=1) (
 dF (((0:Int)≤(IntKind.wrap .i64 (((BitVec.ofInt (IntKind.bits .i64) (at' (racks1.map Prod.snd) i2) ^^^ BitVec.ofInt (IntKind.bits .i64) 1).toNat:Int)))∧(IntKind.wrap .i64 (((BitVec.ofInt (IntKind.bits .i64) (at' (racks1.map Prod.snd) i2) ^^^ BitVec.ofInt (IntKind.bits .i64) 1).toNat:Int)))<(r_8.bP.length:Int))∧((0:Int)≤(at' (racks1.map Prod.fst) i2).e0∧(at' (racks1.map Prod.fst) i2).e0<(x22.length:Int))) (
 some (x22.set (((at' (racks1.map Prod.fst) i2).e0).toNat) (⟨(at' x22 (((at' (racks1.map Prod.fst) i2).e0).toNat)).e0,(at' r_8.bP ((IntKind.wrap .i64 (((BitVec.ofInt (IntKind.bits .i64) (at' (racks1.map Prod.snd) i2) ^^^ BitVec.ofInt (IntKind.bits .i64) 1).toNat:Int))).toNat)).left⟩:aj))))
def dW (p:au) (s_:aA):Option (aD × (List Bool) × Int):=
 (fC p s_).bind fun r_=>
 bif (!decide (r_=0))then
 some ((⟨([]:List Int),([]:List Int),([]:List aj)⟩:aD),([]:List Bool),r_)
 else
 dF (((0:Int)≤(IntKind.wrap .i64 ((IntKind.wrap .i64 ((IntKind.wrap .i64 ((1:Int)+p.ax))+(p.af.length:Int)))+1)))∧((24:Int)*(IntKind.wrap .i64 ((IntKind.wrap .i64 ((IntKind.wrap .i64 ((1:Int)+p.ax))+(p.af.length:Int)))+1))≤281474976710656)∧(((IntKind.wrap .i64 ((IntKind.wrap .i64 ((IntKind.wrap .i64 ((1:Int)+p.ax))+(p.af.length:Int)))+1)):Int)≤9223372036854775807)) (
 dF (((0:Int)≤(p.ah.length:Int))∧((8:Int)*(p.ah.length:Int)≤281474976710656)∧(((p.ah.length:Int):Int)≤9223372036854775807)∧((0:Int)≤(p.ai.length:Int))∧((8:Int)*(p.ai.length:Int)≤281474976710656)∧(((p.ai.length:Int):Int)≤9223372036854775807)∧((0:Int)≤(p.af.length:Int))∧((16:Int)*(p.af.length:Int)≤281474976710656)∧(((p.af.length:Int):Int)≤9223372036854775807)) (
 Option.bind (bB (kD p s_) FUEL (([]:List bU),List.replicate ((IntKind.wrap .i64 ((IntKind.wrap .i64 ((IntKind.wrap .i64 ((1:Int)+p.ax))+(p.af.length:Int)))+1)).toNat) (([]:List Int):(List Int)),([]:(List (Int × Int))),0)) fun o=>match o with
 | .ret v=>some v
 | .brk (p1,n01,n11,x0,sources1)=>
 Option.bind (bB (ku p s_ p1) FUEL (n01,n11,([]:(List (Int × Int))),0)) fun o=>match o with
 | .ret v=>some v
 | .brk (p2,n03,n13,x1,links1)=>
 Option.bind (bB (kC p s_) FUEL (p.af,IntKind.wrap .i64 ((IntKind.wrap .i64 ((1:Int)+p.ax))+(p.af.length:Int)),n03,n13,List.replicate ((p.af.length:Int).toNat) ((⟨0,0⟩:aj):aj),([]:(List (aj × Int))),p.af,(p.af.length:Int),0)) fun o=>match o with
 | .ret v=>some v
 | .brk (p31,sink1,n05,n15,x21,racks1)=>
 (jo sink1 (⟨n05,n15⟩:aN)).bind fun r_8=>
 Option.bind (zW (ny sources1 r_8) sources1.length (List.range sources1.length) (x0)) fun x02=>
 Option.bind (zW (nD p2 links1 r_8) links1.length (List.range links1.length) (x1)) fun x12=>
 Option.bind (zW (nA racks1 r_8) racks1.length (List.range racks1.length) (x21)) fun x23=>
 dF (((0:Int)≤p.ax)∧((1:Int)*p.ax≤281474976710656)∧((p.ax:Int)≤9223372036854775807)) (
 (fJ r_8).bind fun r_9=>
 (dP r_8.bP r_8.from_ (⟨p.ax,p1,p2,p31⟩:au) (List.replicate p.ax.toNat (false:Bool))).bind fun r_10=>
 some ((⟨x02,x12,x23⟩:aD),r_10,0))))
def oU (p:au) (s_:aA) (cut:List Bool):Option (Int × (List ay) × (List aH) × (List aK) × (List Bool) × (List Bool) × (List Bool) × (List Bool) × (List Bool) × (List Bool) × (List Bool) × (List Bool)):=
 some (p.ax,p.ah,p.ai,p.af,s_.bH,s_.bZ,s_.bN,s_.on_,s_.bD,s_.cK,s_.aW,cut)
def fV (x25:Int) (x251:Int) (x26:Int) (part:List aM):Option (List aM):=
 bif (!decide (x25=0))then
 dF (((part.length+[(⟨x25,x251⟩:aM)].length)*16≤140737488355328)∧(part.length+[(⟨x25,x251⟩:aM)].length≤4611686018427387904)) (
 some (part++[(⟨x25,x251⟩:aM)]))
 else
 some part
def mO (b:Int) (x1:List Bool):Option Bool:=
 dF (gB [(decide (0≤b),true)]=true→(0:Int)≤b∧b<(x1.length:Int)) (
 some (bif (decide (0≤b))then(at' x1 b.toNat)else false))
def gU (s_:List Int) (f_:List Bool):Int→Option (aY Int (Ex Unit Int)):=
 fun t8=>
 bif (decide (t8<(s_.length:Int)))then
 (mO (at' s_ t8.toNat) f_).bind fun r_=>
 dF ((0:Int)≤t8∧t8<(s_.length:Int)) (
 bif r_ then
 some (.done (.ret t8))
 else
 some (.next (IntKind.wrap .i64 (t8+1))))
 else
 some (.done (.brk ()))
def iQ (s_:List Int) (f_:List Bool):Option Int:=
 Option.bind (bB (gU s_ f_) FUEL (0)) fun o=>match o with
 | .ret v=>some v
 | .brk _=>
 some (-1)
def dX (s_:List Int) (f_:List Bool):Option Bool:=
 (iQ s_ f_).bind fun r_=>
 some (decide (0≤r_))
def kR (x1:Int) (x11:List ay) (x12:List aH) (x13:List aK) (x2:List Bool) (x21:List Bool) (x22:List Bool) (x23:List Bool) (x24:List Bool) (x25:List Bool) (x26:List Bool) (x3:List Bool):((List aM) × Int)→Option (aY ((List aM) × Int) (Ex (List aM) (List aM))):=
 fun zz=>match zz with
 |(o90,t15)=>
 bif (decide (t15<(x11.length:Int)))then
 dF ((0:Int)≤t15∧t15<(x11.length:Int)) (
 (iP (⟨x1,x11,x12,x13⟩:au) (⟨x2,x21,x22,x23,x24,x25,x26⟩:aA) t15).bind fun r_=>
 bif (bif r_ then(!(at' x3 (((at' x11 t15.toNat).bus).toNat)))else false)then
 (fV 2 t15 ((at' x11 t15.toNat).aV) o90).bind fun r_1=>
 dF (gB [(r_,true)]=true→(0:Int)≤(at' x11 t15.toNat).bus∧(at' x11 t15.toNat).bus<(x3.length:Int)) (
 some (.next (r_1,IntKind.wrap .i64 (t15+1))))
 else
 dF (gB [(r_,true)]=true→(0:Int)≤(at' x11 t15.toNat).bus∧(at' x11 t15.toNat).bus<(x3.length:Int)) (
 some (.next (o90,IntKind.wrap .i64 (t15+1)))))
 else
 some (.done (.brk o90))
def kT (x1:Int) (x11:List ay) (x12:List aH) (x13:List aK) (x2:List Bool) (x21:List Bool) (x22:List Bool) (x23:List Bool) (x24:List Bool) (x25:List Bool) (x26:List Bool) (x3:List Bool):((List aM) × Int)→Option (aY ((List aM) × Int) (Ex (List aM) (List aM))):=
 fun zz=>match zz with
 |(o902,t45)=>
 bif (decide (t45<(x12.length:Int)))then
 dF ((0:Int)≤t45∧t45<(x12.length:Int)) (
 (eH (⟨x1,x11,x12,x13⟩:au) (⟨x2,x21,x22,x23,x24,x25,x26⟩:aA) t45).bind fun r_2=>
 bif (bif r_2 then(!((at' x3 (((at' x12 t45.toNat).a).toNat))==(at' x3 (((at' x12 t45.toNat).b).toNat))))else false)then
 (fV 3 t45 ((at' x12 t45.toNat).most) o902).bind fun r_3=>
 dF ((gB [(r_2,true)]=true→(0:Int)≤(at' x12 t45.toNat).a∧(at' x12 t45.toNat).a<(x3.length:Int))∧(gB [(r_2,true)]=true→(0:Int)≤(at' x12 t45.toNat).b∧(at' x12 t45.toNat).b<(x3.length:Int))) (
 some (.next (r_3,IntKind.wrap .i64 (t45+1))))
 else
 dF ((gB [(r_2,true)]=true→(0:Int)≤(at' x12 t45.toNat).a∧(at' x12 t45.toNat).a<(x3.length:Int))∧(gB [(r_2,true)]=true→(0:Int)≤(at' x12 t45.toNat).b∧(at' x12 t45.toNat).b<(x3.length:Int))) (
 some (.next (o902,IntKind.wrap .i64 (t45+1)))))
 else
 some (.done (.brk o902))
def jq (x13:List aK) (x3:List Bool):((List aM) × Int)→Option (aY ((List aM) × Int) (Ex (List aM) (List aM))):=
 fun zz=>match zz with
 |(o904,t80)=>
 bif (decide (t80<(x13.length:Int)))then
 dF ((0:Int)≤t80∧t80<(x13.length:Int)) (
 (dX [((at' x13 t80.toNat).aC).e0,((at' x13 t80.toNat).aC).e1] x3).bind fun r_4=>
 bif r_4 then
 (fV 0 t80 ((at' x13 t80.toNat).aV) o904).bind fun r_5=>
 some (.next (r_5,IntKind.wrap .i64 (t80+1)))
 else
 some (.next (o904,IntKind.wrap .i64 (t80+1))))
 else
 some (.done (.brk o904))
def lF (x1:Int) (x11:List ay) (x12:List aH) (x13:List aK) (x2:List Bool) (x21:List Bool) (x22:List Bool) (x23:List Bool) (x24:List Bool) (x25:List Bool) (x26:List Bool) (x3:List Bool) (part:List aM):Option (List aM):=
 Option.bind (bB (kR x1 x11 x12 x13 x2 x21 x22 x23 x24 x25 x26 x3) FUEL (part,0)) fun o=>match o with
 | .ret v=>some v
 | .brk o901=>
 Option.bind (bB (kT x1 x11 x12 x13 x2 x21 x22 x23 x24 x25 x26 x3) FUEL (o901,0)) fun o=>match o with
 | .ret v=>some v
 | .brk o903=>
 Option.bind (bB (jq x13 x3) FUEL (o903,0)) fun o=>match o with
 | .ret v=>some v
 | .brk o905=>
 some o905
def kI (p:au) (s_:aA):Option ((List aM) × Int):=
 (dW p s_).bind fun r_=>
 bif (!decide (r_.2.2=0))then
 some (([]:List aM),r_.2.2)
 else
 (oU p s_ r_.2.1).bind fun r_1=>
 (lF r_1.1 r_1.2.1 r_1.2.2.1 r_1.2.2.2.1 r_1.2.2.2.2.1 r_1.2.2.2.2.2.1 r_1.2.2.2.2.2.2.1 r_1.2.2.2.2.2.2.2.1 r_1.2.2.2.2.2.2.2.2.1 r_1.2.2.2.2.2.2.2.2.2.1 r_1.2.2.2.2.2.2.2.2.2.2.1 r_1.2.2.2.2.2.2.2.2.2.2.2 ([]:List aM)).bind fun r_2=>
 some (r_2,0)
def jH (x:aD):(Int × Int)→Option (aY (Int × Int) (Ex Int Int)):=
 fun zz=>match zz with
 |(n,t9)=>
 bif (decide (t9<(x.af.length:Int)))then
 dF ((0:Int)≤t9∧t9<(x.af.length:Int)) (
 some (.next (IntKind.wrap .i64 (n+(IntKind.wrap .i64 (((at' x.af t9.toNat).e0)+((at' x.af t9.toNat).e1)))),IntKind.wrap .i64 (t9+1))))
 else
 some (.done (.brk n))
def gW (x:aD):Option Int:=
 Option.bind (bB (jH x) FUEL (0,0)) fun o=>match o with
 | .ret v=>some v
 | .brk n1=>
 some n1
def rO (p:au):(Int × Int)→Option (aY (Int × Int) (Ex Int (Bool × Int))):=
 fun zz=>match zz with
 |(n,t25)=>
 bif (decide (t25<(p.af.length:Int)))then
 dF ((0:Int)≤t25∧t25<(p.af.length:Int)) (
 some (.next (IntKind.wrap .i64 (n+((at' p.af t25.toNat).aV)),IntKind.wrap .i64 (t25+1))))
 else
 some (.done (.brk n))
def mF (p:au) (s_:aA):Option (Bool × Int):=
 (dW p s_).bind fun r_=>
 bif (!decide (r_.2.2=0))then
 some (false,r_.2.2)
 else
 Option.bind (bB (rO p) FUEL (0,0)) fun o=>match o with
 | .ret v=>some v
 | .brk n1=>
 (gW r_.1).bind fun r_1=>
 some (decide (r_1=n1),0)
def jN (a:List aM) (b:List aM):Int→Option (aY Int (Ex Unit Bool)):=
 fun i=>
 bif (decide (i<(a.length:Int)))then
 dF (((0:Int)≤i∧i<(a.length:Int))∧((0:Int)≤i∧i<(b.length:Int))) (
 bif (!((decide (((at' a i.toNat).kind)=((at' b i.toNat).kind))) && ((decide (((at' a i.toNat).index)=((at' b i.toNat).index))) && true)))then
 some (.done (.ret false))
 else
 some (.next (IntKind.wrap .i64 (i+1))))
 else
 some (.done (.brk ()))
def jh (a:List aM) (b:List aM):Option Bool:=
 bif (!decide ((a.length:Int)=(b.length:Int)))then
 some false
 else
 Option.bind (bB (jN a b) FUEL (0)) fun o=>match o with
 | .ret v=>some v
 | .brk _=>
 some true
def iX (x45:Int) (x451:Int) (x46:Int) (int:Int):Option Int:=
 some (IntKind.wrap .i64 (int+x46))
def sW (x1:Int) (x11:List ay) (x12:List aH) (x13:List aK) (x2:List Bool) (x21:List Bool) (x22:List Bool) (x23:List Bool) (x24:List Bool) (x25:List Bool) (x26:List Bool) (x3:List Bool):(Int × Int)→Option (aY (Int × Int) (Ex Int Int)):=
 fun zz=>match zz with
 |(o110,t15)=>
 bif (decide (t15<(x11.length:Int)))then
 dF ((0:Int)≤t15∧t15<(x11.length:Int)) (
 (iP (⟨x1,x11,x12,x13⟩:au) (⟨x2,x21,x22,x23,x24,x25,x26⟩:aA) t15).bind fun r_=>
 bif (bif r_ then(!(at' x3 (((at' x11 t15.toNat).bus).toNat)))else false)then
 (iX 2 t15 ((at' x11 t15.toNat).aV) o110).bind fun r_1=>
 dF (gB [(r_,true)]=true→(0:Int)≤(at' x11 t15.toNat).bus∧(at' x11 t15.toNat).bus<(x3.length:Int)) (
 some (.next (r_1,IntKind.wrap .i64 (t15+1))))
 else
 dF (gB [(r_,true)]=true→(0:Int)≤(at' x11 t15.toNat).bus∧(at' x11 t15.toNat).bus<(x3.length:Int)) (
 some (.next (o110,IntKind.wrap .i64 (t15+1)))))
 else
 some (.done (.brk o110))
def su (x1:Int) (x11:List ay) (x12:List aH) (x13:List aK) (x2:List Bool) (x21:List Bool) (x22:List Bool) (x23:List Bool) (x24:List Bool) (x25:List Bool) (x26:List Bool) (x3:List Bool):(Int × Int)→Option (aY (Int × Int) (Ex Int Int)):=
 fun zz=>match zz with
 |(o1102,t45)=>
 bif (decide (t45<(x12.length:Int)))then
 dF ((0:Int)≤t45∧t45<(x12.length:Int)) (
 (eH (⟨x1,x11,x12,x13⟩:au) (⟨x2,x21,x22,x23,x24,x25,x26⟩:aA) t45).bind fun r_2=>
 bif (bif r_2 then(!((at' x3 (((at' x12 t45.toNat).a).toNat))==(at' x3 (((at' x12 t45.toNat).b).toNat))))else false)then
 (iX 3 t45 ((at' x12 t45.toNat).most) o1102).bind fun r_3=>
 dF ((gB [(r_2,true)]=true→(0:Int)≤(at' x12 t45.toNat).a∧(at' x12 t45.toNat).a<(x3.length:Int))∧(gB [(r_2,true)]=true→(0:Int)≤(at' x12 t45.toNat).b∧(at' x12 t45.toNat).b<(x3.length:Int))) (
 some (.next (r_3,IntKind.wrap .i64 (t45+1))))
 else
 dF ((gB [(r_2,true)]=true→(0:Int)≤(at' x12 t45.toNat).a∧(at' x12 t45.toNat).a<(x3.length:Int))∧(gB [(r_2,true)]=true→(0:Int)≤(at' x12 t45.toNat).b∧(at' x12 t45.toNat).b<(x3.length:Int))) (
 some (.next (o1102,IntKind.wrap .i64 (t45+1)))))
 else
 some (.done (.brk o1102))
def rM (x13:List aK) (x3:List Bool):(Int × Int)→Option (aY (Int × Int) (Ex Int Int)):=
 fun zz=>match zz with
 |(o1104,t80)=>
 bif (decide (t80<(x13.length:Int)))then
 dF ((0:Int)≤t80∧t80<(x13.length:Int)) (
 (dX [((at' x13 t80.toNat).aC).e0,((at' x13 t80.toNat).aC).e1] x3).bind fun r_4=>
 bif r_4 then
 (iX 0 t80 ((at' x13 t80.toNat).aV) o1104).bind fun r_5=>
 some (.next (r_5,IntKind.wrap .i64 (t80+1)))
 else
 some (.next (o1104,IntKind.wrap .i64 (t80+1))))
 else
 some (.done (.brk o1104))
def qj (x1:Int) (x11:List ay) (x12:List aH) (x13:List aK) (x2:List Bool) (x21:List Bool) (x22:List Bool) (x23:List Bool) (x24:List Bool) (x25:List Bool) (x26:List Bool) (x3:List Bool) (int:Int):Option Int:=
 Option.bind (bB (sW x1 x11 x12 x13 x2 x21 x22 x23 x24 x25 x26 x3) FUEL (int,0)) fun o=>match o with
 | .ret v=>some v
 | .brk o1101=>
 Option.bind (bB (su x1 x11 x12 x13 x2 x21 x22 x23 x24 x25 x26 x3) FUEL (o1101,0)) fun o=>match o with
 | .ret v=>some v
 | .brk o1103=>
 Option.bind (bB (rM x13 x3) FUEL (o1103,0)) fun o=>match o with
 | .ret v=>some v
 | .brk o1105=>
 some o1105
def zq (s_:aA) (cut:List Bool):Int→Option (aY Int (Ex Unit (Int × Int))):=
 fun t27=>
 bif (decide (t27<(cut.length:Int)))then
 dF ((0:Int)≤t27∧t27<(cut.length:Int)) (
 dF (gB [(at' cut t27.toNat,true)]=true→(0:Int)≤t27∧t27<(s_.aW.length:Int)) (
 bif (bif (at' cut t27.toNat)then(at' s_.aW t27.toNat)else false)then
 some (.done (.ret (0,1)))
 else
 some (.next (IntKind.wrap .i64 (t27+1)))))
 else
 some (.done (.brk ()))
def qQ (p:au) (s_:aA) (cut:List Bool):Option (Int × Int):=
 (fC p s_).bind fun r_=>
 bif (!decide (r_=0))then
 some (0,r_)
 else
 bif (!decide ((cut.length:Int)=p.ax))then
 some (0,1)
 else
 Option.bind (bB (zq s_ cut) FUEL (0)) fun o=>match o with
 | .ret v=>some v
 | .brk _=>
 (oU p s_ cut).bind fun r_1=>
 (qj r_1.1 r_1.2.1 r_1.2.2.1 r_1.2.2.2.1 r_1.2.2.2.2.1 r_1.2.2.2.2.2.1 r_1.2.2.2.2.2.2.1 r_1.2.2.2.2.2.2.2.1 r_1.2.2.2.2.2.2.2.2.1 r_1.2.2.2.2.2.2.2.2.2.1 r_1.2.2.2.2.2.2.2.2.2.2.1 r_1.2.2.2.2.2.2.2.2.2.2.2 0).bind fun r_2=>
 some (r_2,0)
def Dc  :Option Unit:=
 some ()
def Ap (p:au) (s_:aA) (x:aD):Int→Option (aY Int (Ex Unit Bool)):=
 fun t14=>
 bif (decide (t14<(x.ah.length:Int)))then
 dF ((0:Int)≤t14∧t14<(x.ah.length:Int)) (
 (bif gB [(decide (0<(at' x.ah t14.toNat)),true),((bif (decide ((at' x.ah t14.toNat)<0))then true else(decide (((at' p.ah t14.toNat).aV)<(at' x.ah t14.toNat)))),false)]then iP p s_ t14 else some default).bind fun r_=>
 dF (gB [(decide ((at' x.ah t14.toNat)<0),false)]=true→(0:Int)≤t14∧t14<(p.ah.length:Int)) (
 bif (bif (bif (decide ((at' x.ah t14.toNat)<0))then true else(decide (((at' p.ah t14.toNat).aV)<(at' x.ah t14.toNat))))then true else(bif (decide (0<(at' x.ah t14.toNat)))then(!r_)else false))then
 some (.done (.ret false))
 else
 some (.next (IntKind.wrap .i64 (t14+1)))))
 else
 some (.done (.brk ()))
def Ai (p:au) (s_:aA) (x:aD):Int→Option (aY Int (Ex Unit Bool)):=
 fun t46=>
 bif (decide (t46<(x.ai.length:Int)))then
 dF ((0:Int)≤t46∧t46<(x.ai.length:Int)) (
 (bif gB [(!decide ((at' x.ai t46.toNat)=0),true),((bif (decide ((at' x.ai t46.toNat)<(IntKind.wrap .i64 (0 - ((at' p.ai t46.toNat).most)))))then true else(decide (((at' p.ai t46.toNat).most)<(at' x.ai t46.toNat)))),false)]then eH p s_ t46 else some default).bind fun r_1=>
 dF (((0:Int)≤t46∧t46<(p.ai.length:Int))∧(gB [(decide ((at' x.ai t46.toNat)<(IntKind.wrap .i64 (0 - ((at' p.ai t46.toNat).most)))),false)]=true→(0:Int)≤t46∧t46<(p.ai.length:Int))) (
 bif (bif (bif (decide ((at' x.ai t46.toNat)<(IntKind.wrap .i64 (0 - ((at' p.ai t46.toNat).most)))))then true else(decide (((at' p.ai t46.toNat).most)<(at' x.ai t46.toNat))))then true else(bif (!decide ((at' x.ai t46.toNat)=0))then(!r_1)else false))then
 some (.done (.ret false))
 else
 some (.next (IntKind.wrap .i64 (t46+1)))))
 else
 some (.done (.brk ()))
def yH (p:au) (s_:aA) (x:aD):Option Bool:=
 Option.bind (bB (Ap p s_ x) FUEL (0)) fun o=>match o with
 | .ret v=>some v
 | .brk _=>
 Option.bind (bB (Ai p s_ x) FUEL (0)) fun o=>match o with
 | .ret v=>some v
 | .brk _=>
 some true
def D6 (p:au) (s_:aA) (x:aD) (t14:Int):Int→Option (aY Int (Ex Unit (aY Int (Ex Unit Bool)))):=
 fun t20=>
 bif (decide (t20<2))then
 dF ((0:Int)≤t20∧t20<((2:Nat):Int)) (
 bif (decide (t20=0))then
 (bif gB [(decide (0<(at' [(at' x.af t14.toNat).e0,(at' x.af t14.toNat).e1] t20.toNat)),true),((bif (decide ((at' [(at' x.af t14.toNat).e0,(at' x.af t14.toNat).e1] t20.toNat)<0))then true else(decide (((at' p.af t14.toNat).aV)<(at' [(at' x.af t14.toNat).e0,(at' x.af t14.toNat).e1] t20.toNat)))),false)]then jP s_ (((at' p.af t14.toNat).aC).e0)else some default).bind fun r_=>
 dF ((gB [(decide ((at' [(at' x.af t14.toNat).e0,(at' x.af t14.toNat).e1] t20.toNat)<0),false)]=true→(0:Int)≤t14∧t14<(p.af.length:Int))∧(gB [(decide (0<(at' [(at' x.af t14.toNat).e0,(at' x.af t14.toNat).e1] t20.toNat)),true),((bif (decide ((at' [(at' x.af t14.toNat).e0,(at' x.af t14.toNat).e1] t20.toNat)<0))then true else(decide (((at' p.af t14.toNat).aV)<(at' [(at' x.af t14.toNat).e0,(at' x.af t14.toNat).e1] t20.toNat)))),false)]=true→(0:Int)≤t14∧t14<(p.af.length:Int))) (
 bif (bif (bif (decide ((at' [(at' x.af t14.toNat).e0,(at' x.af t14.toNat).e1] t20.toNat)<0))then true else(decide (((at' p.af t14.toNat).aV)<(at' [(at' x.af t14.toNat).e0,(at' x.af t14.toNat).e1] t20.toNat))))then true else(bif (decide (0<(at' [(at' x.af t14.toNat).e0,(at' x.af t14.toNat).e1] t20.toNat)))then(!r_)else false))then
 some (.done (.ret (.done (.ret false))))
 else
 some (.next 1))
 else
 dF (t20=1) (
 (bif gB [(decide (0<(at' [(at' x.af t14.toNat).e0,(at' x.af t14.toNat).e1] t20.toNat)),true),((bif (decide ((at' [(at' x.af t14.toNat).e0,(at' x.af t14.toNat).e1] t20.toNat)<0))then true else(decide (((at' p.af t14.toNat).aV)<(at' [(at' x.af t14.toNat).e0,(at' x.af t14.toNat).e1] t20.toNat)))),false)]then jP s_ (((at' p.af t14.toNat).aC).e1)else some default).bind fun r_1=>
 dF ((gB [(decide ((at' [(at' x.af t14.toNat).e0,(at' x.af t14.toNat).e1] t20.toNat)<0),false)]=true→(0:Int)≤t14∧t14<(p.af.length:Int))∧(gB [(decide (0<(at' [(at' x.af t14.toNat).e0,(at' x.af t14.toNat).e1] t20.toNat)),true),((bif (decide ((at' [(at' x.af t14.toNat).e0,(at' x.af t14.toNat).e1] t20.toNat)<0))then true else(decide (((at' p.af t14.toNat).aV)<(at' [(at' x.af t14.toNat).e0,(at' x.af t14.toNat).e1] t20.toNat)))),false)]=true→(0:Int)≤t14∧t14<(p.af.length:Int))) (
 bif (bif (bif (decide ((at' [(at' x.af t14.toNat).e0,(at' x.af t14.toNat).e1] t20.toNat)<0))then true else(decide (((at' p.af t14.toNat).aV)<(at' [(at' x.af t14.toNat).e0,(at' x.af t14.toNat).e1] t20.toNat))))then true else(bif (decide (0<(at' [(at' x.af t14.toNat).e0,(at' x.af t14.toNat).e1] t20.toNat)))then(!r_1)else false))then
 some (.done (.ret (.done (.ret false))))
 else
 some (.next 2))))
 else
 some (.done (.brk ()))
def DC (p:au) (s_:aA) (x:aD):Int→Option (aY Int (Ex Unit Bool)):=
 fun t14=>
 bif (decide (t14<(x.af.length:Int)))then
 dF ((0:Int)≤t14∧t14<(x.af.length:Int)) (
 Option.bind (bB (D6 p s_ x t14) FUEL (0)) fun o=>match o with
 | .ret v=>some v
 | .brk _=>
 dF ((0:Int)≤t14∧t14<(p.af.length:Int)) (
 bif (decide (((at' p.af t14.toNat).aV)<(IntKind.wrap .i64 (((at' x.af t14.toNat).e0)+((at' x.af t14.toNat).e1)))))then
 some (.done (.ret false))
 else
 some (.next (IntKind.wrap .i64 (t14+1)))))
 else
 some (.done (.brk ()))
def CY (p:au) (s_:aA) (x:aD):Option Bool:=
 Option.bind (bB (DC p s_ x) FUEL (0)) fun o=>match o with
 | .ret v=>some v
 | .brk _=>
 some true
def rU (n:Int):Option Bool:=
 some (!decide (n=0))
def oJ (s_:List Int):Int→Option (aY Int (Ex Unit Int)):=
 fun t8=>
 bif (decide (t8<(s_.length:Int)))then
 (rU (at' s_ t8.toNat)).bind fun r_=>
 dF ((0:Int)≤t8∧t8<(s_.length:Int)) (
 bif r_ then
 some (.done (.ret t8))
 else
 some (.next (IntKind.wrap .i64 (t8+1))))
 else
 some (.done (.brk ()))
def kN (s_:List Int):Option Int:=
 Option.bind (bB (oJ s_) FUEL (0)) fun o=>match o with
 | .ret v=>some v
 | .brk _=>
 some (-1)
def jJ (s_:List Int):Option Bool:=
 (kN s_).bind fun r_=>
 some (decide (0≤r_))
def xY (p:au) (x:aD):((List Int) × Int)→Option (aY ((List Int) × Int) (Ex (List Int) Bool)):=
 fun zz=>match zz with
 |(left,t22)=>
 bif (decide (t22<(x.ah.length:Int)))then
 dF ((0:Int)≤t22∧t22<(x.ah.length:Int)) (
 dF (((0:Int)≤t22∧t22<(p.ah.length:Int))∧((0:Int)≤(at' p.ah t22.toNat).bus∧(at' p.ah t22.toNat).bus<(left.length:Int))) (
 some (.next (left.set (((at' p.ah t22.toNat).bus).toNat) (IntKind.wrap .i64 ((at' left (((at' p.ah t22.toNat).bus).toNat))+(at' x.ah t22.toNat))),IntKind.wrap .i64 (t22+1)))))
 else
 some (.done (.brk left))
def yw (p:au) (x:aD):((List Int) × Int)→Option (aY ((List Int) × Int) (Ex (List Int) Bool)):=
 fun zz=>match zz with
 |(left2,t43)=>
 bif (decide (t43<(x.ai.length:Int)))then
 dF ((0:Int)≤t43∧t43<(x.ai.length:Int)) (
 dF (((0:Int)≤t43∧t43<(p.ai.length:Int))∧((0:Int)≤(at' p.ai t43.toNat).a∧(at' p.ai t43.toNat).a<(left2.length:Int))) (
 dF (((0:Int)≤t43∧t43<(p.ai.length:Int))∧((0:Int)≤(at' p.ai t43.toNat).b∧(at' p.ai t43.toNat).b<((left2.set (((at' p.ai t43.toNat).a).toNat) (IntKind.wrap .i64 ((at' left2 (((at' p.ai t43.toNat).a).toNat)) - (at' x.ai t43.toNat)))).length:Int))) (
 some (.next ((left2.set (((at' p.ai t43.toNat).a).toNat) (IntKind.wrap .i64 ((at' left2 (((at' p.ai t43.toNat).a).toNat)) - (at' x.ai t43.toNat)))).set (((at' p.ai t43.toNat).b).toNat) (IntKind.wrap .i64 ((at' (left2.set (((at' p.ai t43.toNat).a).toNat) (IntKind.wrap .i64 ((at' left2 (((at' p.ai t43.toNat).a).toNat)) - (at' x.ai t43.toNat)))) (((at' p.ai t43.toNat).b).toNat))+(at' x.ai t43.toNat))),IntKind.wrap .i64 (t43+1))))))
 else
 some (.done (.brk left2))
def yE (p:au) (x:aD) (t76:Int):((List Int) × Int)→Option (aY ((List Int) × Int) (Ex (List Int) (aY ((List Int) × Int) (Ex (List Int) Bool)))):=
 fun zz=>match zz with
 |(left6,t87)=>
 bif (decide (t87<2))then
 dF ((0:Int)≤t87∧t87<((2:Nat):Int)) (
 bif (decide (0≤(at' [((at' p.af t76.toNat).aC).e0,((at' p.af t76.toNat).aC).e1] t87.toNat)))then
 bif (decide (t87=0))then
 dF ((0:Int)≤(at' [((at' p.af t76.toNat).aC).e0,((at' p.af t76.toNat).aC).e1] t87.toNat)∧(at' [((at' p.af t76.toNat).aC).e0,((at' p.af t76.toNat).aC).e1] t87.toNat)<(left6.length:Int)) (
 some (.next (left6.set ((at' [((at' p.af t76.toNat).aC).e0,((at' p.af t76.toNat).aC).e1] t87.toNat).toNat) (IntKind.wrap .i64 ((at' left6 ((at' [((at' p.af t76.toNat).aC).e0,((at' p.af t76.toNat).aC).e1] t87.toNat).toNat)) - ((at' x.af t76.toNat).e0))),1)))
 else
 dF (t87=1) (
 dF ((0:Int)≤(at' [((at' p.af t76.toNat).aC).e0,((at' p.af t76.toNat).aC).e1] t87.toNat)∧(at' [((at' p.af t76.toNat).aC).e0,((at' p.af t76.toNat).aC).e1] t87.toNat)<(left6.length:Int)) (
 some (.next (left6.set ((at' [((at' p.af t76.toNat).aC).e0,((at' p.af t76.toNat).aC).e1] t87.toNat).toNat) (IntKind.wrap .i64 ((at' left6 ((at' [((at' p.af t76.toNat).aC).e0,((at' p.af t76.toNat).aC).e1] t87.toNat).toNat)) - ((at' x.af t76.toNat).e1))),2))))
 else
 some (.next (left6,IntKind.wrap .i64 (t87+1))))
 else
 some (.done (.brk left6))
def yP (p:au) (x:aD):((List Int) × Int)→Option (aY ((List Int) × Int) (Ex (List Int) Bool)):=
 fun zz=>match zz with
 |(left4,t76)=>
 bif (decide (t76<(x.af.length:Int)))then
 dF ((0:Int)≤t76∧t76<(x.af.length:Int)) (
 dF ((0:Int)≤t76∧t76<(p.af.length:Int)) (
 Option.bind (bB (yE p x t76) FUEL (left4,0)) fun o=>match o with
 | .ret v=>some v
 | .brk left7=>
 some (.next (left7,IntKind.wrap .i64 (t76+1)))))
 else
 some (.done (.brk left4))
def wm (p:au) (s_:aA) (x:aD):Option Bool:=
 dF (((0:Int)≤p.ax)∧((8:Int)*p.ax≤281474976710656)∧((p.ax:Int)≤9223372036854775807)) (
 Option.bind (bB (xY p x) FUEL (List.replicate p.ax.toNat (0:Int),0)) fun o=>match o with
 | .ret v=>some v
 | .brk left1=>
 Option.bind (bB (yw p x) FUEL (left1,0)) fun o=>match o with
 | .ret v=>some v
 | .brk left3=>
 Option.bind (bB (yP p x) FUEL (left3,0)) fun o=>match o with
 | .ret v=>some v
 | .brk left5=>
 (jJ left5).bind fun r_=>
 some (!r_))
def ql (p:au) (s_:aA) (x:aD):Option Int:=
 (fC p s_).bind fun r_=>
 bif (!decide (r_=0))then
 some r_
 else
 bif (bif (bif (!decide ((x.ah.length:Int)=(p.ah.length:Int)))then true else(!decide ((x.ai.length:Int)=(p.ai.length:Int))))then true else(!decide ((x.af.length:Int)=(p.af.length:Int))))then
 some 20
 else
 (Dc).bind fun r_1=>
 dF ((0:Int)≤0∧0<(3:Int)) (
 (yH p s_ x).bind fun r_2=>
 bif (!r_2)then
 some 20
 else
 dF ((0:Int)≤1∧1<(3:Int)) (
 (CY p s_ x).bind fun r_3=>
 bif (!r_3)then
 some 20
 else
 dF ((0:Int)≤2∧2<(3:Int)) (
 (wm p s_ x).bind fun r_4=>
 bif (!r_4)then
 some 20
 else
 some 0)))
def lY (p:au) (s_:aA) (x:aD) (cut:List Bool):Option Int:=
 (ql p s_ x).bind fun r_=>
 bif (!decide (r_=0))then
 some r_
 else
 (qQ p s_ cut).bind fun r_1=>
 (bif gB [(decide (r_1.2=0),true)]then gW x else some default).bind fun r_2=>
 bif (bif (decide (r_1.2=0))then(!decide (r_1.1=r_2))else false)then
 some 7
 else
 some r_1.2
def zZ (a:List Int) (b:List Int):Int→Option (aY Int (Ex Unit Bool)):=
 fun i=>
 bif (decide (i<(a.length:Int)))then
 dF (((0:Int)≤i∧i<(a.length:Int))∧((0:Int)≤i∧i<(b.length:Int))) (
 bif (!decide ((at' a i.toNat)=(at' b i.toNat)))then
 some (.done (.ret false))
 else
 some (.next (IntKind.wrap .i64 (i+1))))
 else
 some (.done (.brk ()))
def fB (a:List Int) (b:List Int):Option Bool:=
 bif (!decide ((a.length:Int)=(b.length:Int)))then
 some false
 else
 Option.bind (bB (zZ a b) FUEL (0)) fun o=>match o with
 | .ret v=>some v
 | .brk _=>
 some true
def uI (a:List aJ) (b:List aJ):Int→Option (aY Int (Ex Unit Bool)):=
 fun i=>
 bif (decide (i<(a.length:Int)))then
 (bif gB [((bif (bif (!decide (((at' a i.toNat).source)=((at' b i.toNat).source)))then true else(!decide (((at' a i.toNat).gM)=((at' b i.toNat).gM))))then true else(!decide (((at' a i.toNat).amps)=((at' b i.toNat).amps)))),false)]then fB ((at' a i.toNat).ai) ((at' b i.toNat).ai)else some default).bind fun r_=>
 dF (((0:Int)≤i∧i<(a.length:Int))∧((0:Int)≤i∧i<(b.length:Int))∧(gB [(!decide (((at' a i.toNat).source)=((at' b i.toNat).source)),false)]=true→(0:Int)≤i∧i<(a.length:Int))∧(gB [(!decide (((at' a i.toNat).source)=((at' b i.toNat).source)),false)]=true→(0:Int)≤i∧i<(b.length:Int))∧(gB [((bif (!decide (((at' a i.toNat).source)=((at' b i.toNat).source)))then true else(!decide (((at' a i.toNat).gM)=((at' b i.toNat).gM)))),false)]=true→(0:Int)≤i∧i<(a.length:Int))∧(gB [((bif (!decide (((at' a i.toNat).source)=((at' b i.toNat).source)))then true else(!decide (((at' a i.toNat).gM)=((at' b i.toNat).gM)))),false)]=true→(0:Int)≤i∧i<(b.length:Int))∧(gB [((bif (bif (!decide (((at' a i.toNat).source)=((at' b i.toNat).source)))then true else(!decide (((at' a i.toNat).gM)=((at' b i.toNat).gM))))then true else(!decide (((at' a i.toNat).amps)=((at' b i.toNat).amps)))),false)]=true→(0:Int)≤i∧i<(a.length:Int))∧(gB [((bif (bif (!decide (((at' a i.toNat).source)=((at' b i.toNat).source)))then true else(!decide (((at' a i.toNat).gM)=((at' b i.toNat).gM))))then true else(!decide (((at' a i.toNat).amps)=((at' b i.toNat).amps)))),false)]=true→(0:Int)≤i∧i<(b.length:Int))) (
 bif (bif (bif (bif (!decide (((at' a i.toNat).source)=((at' b i.toNat).source)))then true else(!decide (((at' a i.toNat).gM)=((at' b i.toNat).gM))))then true else(!decide (((at' a i.toNat).amps)=((at' b i.toNat).amps))))then true else(!r_))then
 some (.done (.ret false))
 else
 some (.next (IntKind.wrap .i64 (i+1))))
 else
 some (.done (.brk ()))
def iJ (a:List aJ) (b:List aJ):Option Bool:=
 bif (!decide ((a.length:Int)=(b.length:Int)))then
 some false
 else
 Option.bind (bB (uI a b) FUEL (0)) fun o=>match o with
 | .ret v=>some v
 | .brk _=>
 some true
def zx (af:List Int):((List aK) × Int)→Option (aY ((List aK) × Int) (Ex (List aK) (au × aA))):=
 fun zz=>match zz with
 |(p3,i)=>
 bif (decide (i<(af.length:Int)))then
 dF (((0:Int)≤i∧i<(af.length:Int))∧((p3.length+[(⟨(⟨1,-1⟩:aj),at' af i.toNat,1⟩:aK)].length)*32≤140737488355328)∧(p3.length+[(⟨(⟨1,-1⟩:aj),at' af i.toNat,1⟩:aK)].length≤4611686018427387904)) (
 some (.next (p3++[(⟨(⟨1,-1⟩:aj),at' af i.toNat,1⟩:aK)],IntKind.wrap .i64 (i+1))))
 else
 some (.done (.brk p3))
def qR (af:List Int):Option (au × aA):=
 Option.bind (bB (zx af) FUEL (([]:List aK),0)) fun o=>match o with
 | .ret v=>some v
 | .brk p31=>
 dF (((0:Int)≤2)∧((1:Int)*2≤281474976710656)∧((2:Int)≤9223372036854775807)∧((0:Int)≤3)∧((1:Int)*3≤281474976710656)∧((3:Int)≤9223372036854775807)) (
 some ((⟨3,[(⟨0,1,500,0,20⟩:ay),(⟨2,2,300,0,40⟩:ay)],[(⟨0,1,3,400,10,([]:List dV)⟩:aH),(⟨1,2,3,400,10,([]:List dV)⟩:aH)],p31⟩:au),(⟨[true,true],List.replicate 2 (false:Bool),List.replicate 2 (false:Bool),[true,true],List.replicate 2 (false:Bool),List.replicate 3 (false:Bool),List.replicate 3 (false:Bool)⟩:aA)))
def nL  :Option Bool:=
 (qR [100]).bind fun r_=>
 (dW r_.1 r_.2).bind fun r_1=>
 (mF r_.1 r_.2).bind fun r_2=>
 (bif gB [((bif (!decide (r_1.2.2=0))then true else(!decide (r_2.2=0))),false)]then gW r_1.1 else some default).bind fun r_3=>
 bif (bif (bif (bif (!decide (r_1.2.2=0))then true else(!decide (r_2.2=0)))then true else(!decide (r_3=100)))then true else(!r_2.1))then
 some false
 else
 (dD r_1.2.1 [true,true,true]).bind fun r_4=>
 bif (!r_4)then
 some false
 else
 (qR [300,600]).bind fun r_5=>
 (dW r_5.1 r_5.2).bind fun r_6=>
 (qQ r_5.1 r_5.2 r_6.2.1).bind fun r_7=>
 (kI r_5.1 r_5.2).bind fun r_8=>
 (bif gB [((bif (bif (!decide (r_6.2.2=0))then true else(!decide (r_7.2=0)))then true else(!decide (r_8.2=0))),false)]then gW r_6.1 else some default).bind fun r_9=>
 bif (bif (bif (bif (bif (!decide (r_6.2.2=0))then true else(!decide (r_7.2=0)))then true else(!decide (r_8.2=0)))then true else(!decide (r_9=700)))then true else(!decide (r_7.1=700)))then
 bif (bif (bif (bif (bif (bif (!decide (r_6.2.2=0))then true else(!decide (r_7.2=0)))then true else(!decide (r_8.2=0)))then true else(!decide (r_9=700)))then true else(!decide (r_7.1=700)))then true else false)then
 (bif gB [((bif (bif (bif (bif (bif (bif (!decide (r_6.2.2=0))then true else(!decide (r_7.2=0)))then true else(!decide (r_8.2=0)))then true else(!decide (r_9=700)))then true else(!decide (r_7.1=700)))then true else false)then true else false),false)]then lY r_5.1 r_5.2 r_6.1 r_6.2.1 else some default).bind fun r_10=>
 bif (bif (bif (bif (bif (bif (bif (bif (!decide (r_6.2.2=0))then true else(!decide (r_7.2=0)))then true else(!decide (r_8.2=0)))then true else(!decide (r_9=700)))then true else(!decide (r_7.1=700)))then true else false)then true else false)then true else(!decide (r_10=0)))then
 some false
 else
 (nJ r_5.1 r_5.2 1).bind fun r_11=>
 (lX r_5.1 r_11.1).bind fun r_12=>
 bif (bif (decide (r_11.2=0))then(decide (r_12.2.2=0))else false)then
 (iJ r_11.1 [(⟨0,30,13334,[0]⟩:aJ),(⟨1,50,8000,[1]⟩:aJ)]).bind fun r_13=>
 bif (bif (bif (decide (r_11.2=0))then(decide (r_12.2.2=0))else false)then r_13 else false)then
 (fB r_12.1 [13334,8000]).bind fun r_14=>
 some r_14
 else
 some false
 else
 bif (bif (bif (decide (r_11.2=0))then(decide (r_12.2.2=0))else false)then false else false)then
 (fB r_12.1 [13334,8000]).bind fun r_15=>
 some r_15
 else
 some false
 else
 (jh r_8.1 [(⟨2,1⟩:aM),(⟨3,0⟩:aM)]).bind fun r_16=>
 (bif gB [((bif (bif (bif (bif (bif (bif (!decide (r_6.2.2=0))then true else(!decide (r_7.2=0)))then true else(!decide (r_8.2=0)))then true else(!decide (r_9=700)))then true else(!decide (r_7.1=700)))then true else false)then true else(!r_16)),false)]then lY r_5.1 r_5.2 r_6.1 r_6.2.1 else some default).bind fun r_17=>
 bif (bif (bif (bif (bif (bif (bif (bif (!decide (r_6.2.2=0))then true else(!decide (r_7.2=0)))then true else(!decide (r_8.2=0)))then true else(!decide (r_9=700)))then true else(!decide (r_7.1=700)))then true else false)then true else(!r_16))then true else(!decide (r_17=0)))then
 some false
 else
 (nJ r_5.1 r_5.2 1).bind fun r_18=>
 (lX r_5.1 r_18.1).bind fun r_19=>
 bif (bif (decide (r_18.2=0))then(decide (r_19.2.2=0))else false)then
 (iJ r_18.1 [(⟨0,30,13334,[0]⟩:aJ),(⟨1,50,8000,[1]⟩:aJ)]).bind fun r_20=>
 bif (bif (bif (decide (r_18.2=0))then(decide (r_19.2.2=0))else false)then r_20 else false)then
 (fB r_19.1 [13334,8000]).bind fun r_21=>
 some r_21
 else
 some false
 else
 bif (bif (bif (decide (r_18.2=0))then(decide (r_19.2.2=0))else false)then false else false)then
 (fB r_19.1 [13334,8000]).bind fun r_22=>
 some r_22
 else
 some false
 else
 (dD r_6.2.1 [true,false,false]).bind fun r_23=>
 bif (bif (bif (bif (bif (bif (!decide (r_6.2.2=0))then true else(!decide (r_7.2=0)))then true else(!decide (r_8.2=0)))then true else(!decide (r_9=700)))then true else(!decide (r_7.1=700)))then true else(!r_23))then
 (bif gB [((bif (bif (bif (bif (bif (bif (!decide (r_6.2.2=0))then true else(!decide (r_7.2=0)))then true else(!decide (r_8.2=0)))then true else(!decide (r_9=700)))then true else(!decide (r_7.1=700)))then true else(!r_23))then true else false),false)]then lY r_5.1 r_5.2 r_6.1 r_6.2.1 else some default).bind fun r_24=>
 bif (bif (bif (bif (bif (bif (bif (bif (!decide (r_6.2.2=0))then true else(!decide (r_7.2=0)))then true else(!decide (r_8.2=0)))then true else(!decide (r_9=700)))then true else(!decide (r_7.1=700)))then true else(!r_23))then true else false)then true else(!decide (r_24=0)))then
 some false
 else
 (nJ r_5.1 r_5.2 1).bind fun r_25=>
 (lX r_5.1 r_25.1).bind fun r_26=>
 bif (bif (decide (r_25.2=0))then(decide (r_26.2.2=0))else false)then
 (iJ r_25.1 [(⟨0,30,13334,[0]⟩:aJ),(⟨1,50,8000,[1]⟩:aJ)]).bind fun r_27=>
 bif (bif (bif (decide (r_25.2=0))then(decide (r_26.2.2=0))else false)then r_27 else false)then
 (fB r_26.1 [13334,8000]).bind fun r_28=>
 some r_28
 else
 some false
 else
 bif (bif (bif (decide (r_25.2=0))then(decide (r_26.2.2=0))else false)then false else false)then
 (fB r_26.1 [13334,8000]).bind fun r_29=>
 some r_29
 else
 some false
 else
 (jh r_8.1 [(⟨2,1⟩:aM),(⟨3,0⟩:aM)]).bind fun r_30=>
 (bif gB [((bif (bif (bif (bif (bif (bif (!decide (r_6.2.2=0))then true else(!decide (r_7.2=0)))then true else(!decide (r_8.2=0)))then true else(!decide (r_9=700)))then true else(!decide (r_7.1=700)))then true else(!r_23))then true else(!r_30)),false)]then lY r_5.1 r_5.2 r_6.1 r_6.2.1 else some default).bind fun r_31=>
 bif (bif (bif (bif (bif (bif (bif (bif (!decide (r_6.2.2=0))then true else(!decide (r_7.2=0)))then true else(!decide (r_8.2=0)))then true else(!decide (r_9=700)))then true else(!decide (r_7.1=700)))then true else(!r_23))then true else(!r_30))then true else(!decide (r_31=0)))then
 some false
 else
 (nJ r_5.1 r_5.2 1).bind fun r_32=>
 (lX r_5.1 r_32.1).bind fun r_33=>
 bif (bif (decide (r_32.2=0))then(decide (r_33.2.2=0))else false)then
 (iJ r_32.1 [(⟨0,30,13334,[0]⟩:aJ),(⟨1,50,8000,[1]⟩:aJ)]).bind fun r_34=>
 bif (bif (bif (decide (r_32.2=0))then(decide (r_33.2.2=0))else false)then r_34 else false)then
 (fB r_33.1 [13334,8000]).bind fun r_35=>
 some r_35
 else
 some false
 else
 bif (bif (bif (decide (r_32.2=0))then(decide (r_33.2.2=0))else false)then false else false)then
 (fB r_33.1 [13334,8000]).bind fun r_36=>
 some r_36
 else
 some false
def ol (l:List ay):Option (List ay):=
 dF ((l.length*40≤140737488355328)∧(l.length≤4611686018427387904)) (
 some l)
def qU (l:List dV):Option (List dV):=
 dF ((l.length*16≤140737488355328)∧(l.length≤4611686018427387904)) (
 some l)
def pu (x:aH):Option aH:=
 (qU x.trip).bind fun r_=>
 some (⟨x.a,x.b,x.kind,x.most,x.gM,r_⟩:aH)
def gK (l:List aH):((List aH) × Int)→Option (aY ((List aH) × Int) (Ex (List aH) (List aH))):=
 fun zz=>match zz with
 |(out,i)=>
 bif (decide (i<(l.length:Int)))then
 (pu (at' l i.toNat)).bind fun r_=>
 dF (((0:Int)≤i∧i<(l.length:Int))∧((out.length+[r_].length)*64≤140737488355328)∧(out.length+[r_].length≤4611686018427387904)) (
 some (.next (out++[r_],IntKind.wrap .i64 (i+1))))
 else
 some (.done (.brk out))
def qO (l:List aH):Option (List aH):=
 Option.bind (bB (gK l) FUEL (([]:List aH),0)) fun o=>match o with
 | .ret v=>some v
 | .brk out1=>
 some out1
def qM (l:List aK):Option (List aK):=
 dF ((l.length*32≤140737488355328)∧(l.length≤4611686018427387904)) (
 some l)
def nC (x:au):Option au:=
 (ol x.ah).bind fun r_=>
 (qO x.ai).bind fun r_1=>
 (qM x.af).bind fun r_2=>
 some (⟨x.ax,r_,r_1,r_2⟩:au)
def lG (p:au) (s_:aA):Int→Option (aY Int (Ex Unit Bool)):=
 fun i=>
 bif (decide (i<(p.ai.length:Int)))then
 dF (((0:Int)≤i∧i<(p.ai.length:Int))∧(gB [(decide (((at' p.ai i.toNat).kind)=1),true)]=true→(0:Int)≤i∧i<(s_.bH.length:Int))∧(gB [(!(at' s_.bH i.toNat),false),(decide (((at' p.ai i.toNat).kind)=1),true)]=true→(0:Int)≤i∧i<(s_.bZ.length:Int))) (
 bif (bif (decide (((at' p.ai i.toNat).kind)=1))then(bif (!(at' s_.bH i.toNat))then true else(at' s_.bZ i.toNat))else false)then
 some (.done (.ret false))
 else
 some (.next (IntKind.wrap .i64 (i+1))))
 else
 some (.done (.brk ()))
def qD (p:au) (s_:aA):Option Bool:=
 bif (bif (bif (bif (bif (bif (bif (!decide ((s_.bH.length:Int)=(p.ai.length:Int)))then true else(!decide ((s_.bZ.length:Int)=(p.ai.length:Int))))then true else(!decide ((s_.bN.length:Int)=(p.ai.length:Int))))then true else(!decide ((s_.on_.length:Int)=(p.ah.length:Int))))then true else(!decide ((s_.bD.length:Int)=(p.ah.length:Int))))then true else(!decide ((s_.cK.length:Int)=p.ax)))then true else(!decide ((s_.aW.length:Int)=p.ax)))then
 some false
 else
 Option.bind (bB (lG p s_) FUEL (0)) fun o=>match o with
 | .ret v=>some v
 | .brk _=>
 some true
def fq (p:au) (s_:aA):Option Int:=
 (nM p).bind fun r_=>
 (bif gB [(decide (r_=0),true)]then qD p s_ else some default).bind fun r_1=>
 bif (bif (decide (r_=0))then(!r_1)else false)then
 some 9
 else
 some r_
def kL (p:au) (s_:aA) (k:Int):Option Bool:=
 dF (((0:Int)≤k∧k<(s_.on_.length:Int))∧(gB [(at' s_.on_ k.toNat,true)]=true→(0:Int)≤k∧k<(s_.bD.length:Int))∧(gB [((bif (at' s_.on_ k.toNat)then(!(at' s_.bD k.toNat))else false),true)]=true→(0:Int)≤k∧k<(p.ah.length:Int))∧(gB [((bif (at' s_.on_ k.toNat)then(!(at' s_.bD k.toNat))else false),true)]=true→(0:Int)≤(at' p.ah k.toNat).bus∧(at' p.ah k.toNat).bus<(s_.aW.length:Int))) (
 some (bif (bif (at' s_.on_ k.toNat)then(!(at' s_.bD k.toNat))else false)then(!(at' s_.aW (((at' p.ah k.toNat).bus).toNat)))else false))
def iK (p:au) (s_:aA) (i:Int):Option Bool:=
 dF (((0:Int)≤i∧i<(s_.bH.length:Int))∧(gB [(at' s_.bH i.toNat,true)]=true→(0:Int)≤i∧i<(s_.bN.length:Int))∧(gB [((bif (at' s_.bH i.toNat)then(!(at' s_.bN i.toNat))else false),true)]=true→(0:Int)≤i∧i<(p.ai.length:Int))∧(gB [((bif (at' s_.bH i.toNat)then(!(at' s_.bN i.toNat))else false),true)]=true→(0:Int)≤(at' p.ai i.toNat).a∧(at' p.ai i.toNat).a<(s_.aW.length:Int))∧(gB [((bif (bif (at' s_.bH i.toNat)then(!(at' s_.bN i.toNat))else false)then(!(at' s_.aW (((at' p.ai i.toNat).a).toNat)))else false),true)]=true→(0:Int)≤i∧i<(p.ai.length:Int))∧(gB [((bif (bif (at' s_.bH i.toNat)then(!(at' s_.bN i.toNat))else false)then(!(at' s_.aW (((at' p.ai i.toNat).a).toNat)))else false),true)]=true→(0:Int)≤(at' p.ai i.toNat).b∧(at' p.ai i.toNat).b<(s_.aW.length:Int))) (
 some (bif (bif (bif (at' s_.bH i.toNat)then(!(at' s_.bN i.toNat))else false)then(!(at' s_.aW (((at' p.ai i.toNat).a).toNat)))else false)then(!(at' s_.aW (((at' p.ai i.toNat).b).toNat)))else false))
def kX (p:au) (s_:aA) (cut:List Bool):(Int × Int)→Option (aY (Int × Int) (Ex Int Int)):=
 fun zz=>match zz with
 |(n,k)=>
 bif (decide (k<(p.ah.length:Int)))then
 (kL p s_ k).bind fun r_=>
 dF ((gB [(r_,true)]=true→(0:Int)≤k∧k<(p.ah.length:Int))∧(gB [(r_,true)]=true→(0:Int)≤(at' p.ah k.toNat).bus∧(at' p.ah k.toNat).bus<(cut.length:Int))) (
 bif (bif r_ then(!(at' cut (((at' p.ah k.toNat).bus).toNat)))else false)then
 dF ((0:Int)≤k∧k<(p.ah.length:Int)) (
 some (.next (IntKind.wrap .i64 (n+((at' p.ah k.toNat).aV)),IntKind.wrap .i64 (k+1))))
 else
 some (.next (n,IntKind.wrap .i64 (k+1))))
 else
 some (.done (.brk n))
def kY (p:au) (s_:aA) (cut:List Bool):(Int × Int)→Option (aY (Int × Int) (Ex Int Int)):=
 fun zz=>match zz with
 |(n2,i)=>
 bif (decide (i<(p.ai.length:Int)))then
 (iK p s_ i).bind fun r_1=>
 dF ((gB [(r_1,true)]=true→(0:Int)≤i∧i<(p.ai.length:Int))∧(gB [(r_1,true)]=true→(0:Int)≤(at' p.ai i.toNat).a∧(at' p.ai i.toNat).a<(cut.length:Int))∧(gB [(r_1,true)]=true→(0:Int)≤(at' p.ai i.toNat).b∧(at' p.ai i.toNat).b<(cut.length:Int))) (
 bif (bif r_1 then(!((at' cut (((at' p.ai i.toNat).a).toNat))==(at' cut (((at' p.ai i.toNat).b).toNat))))else false)then
 dF ((0:Int)≤i∧i<(p.ai.length:Int)) (
 some (.next (IntKind.wrap .i64 (n2+((at' p.ai i.toNat).most)),IntKind.wrap .i64 (i+1))))
 else
 some (.next (n2,IntKind.wrap .i64 (i+1))))
 else
 some (.done (.brk n2))
def kS (p:au) (cut:List Bool):(Int × Int)→Option (aY (Int × Int) (Ex Int Int)):=
 fun zz=>match zz with
 |(n4,r_2)=>
 bif (decide (r_2<(p.af.length:Int)))then
 dF ((0:Int)≤r_2∧r_2<(p.af.length:Int)) (
 dF (((0:Int)≤((at' p.af r_2.toNat).aC).e0∧((at' p.af r_2.toNat).aC).e0<(cut.length:Int))∧(gB [(decide (0≤(((at' p.af r_2.toNat).aC).e1)),true),(at' cut ((((at' p.af r_2.toNat).aC).e0).toNat),false)]=true→(0:Int)≤(if((at' p.af r_2.toNat).aC).e1<0 then 0 else((at' p.af r_2.toNat).aC).e1)∧(if((at' p.af r_2.toNat).aC).e1<0 then 0 else((at' p.af r_2.toNat).aC).e1)<(cut.length:Int))) (
 bif (bif (at' cut ((((at' p.af r_2.toNat).aC).e0).toNat))then true else(bif (decide (0≤(((at' p.af r_2.toNat).aC).e1)))then(at' cut ((if((at' p.af r_2.toNat).aC).e1<0 then 0 else((at' p.af r_2.toNat).aC).e1).toNat))else false))then
 dF ((0:Int)≤r_2∧r_2<(p.af.length:Int)) (
 some (.next (IntKind.wrap .i64 (n4+((at' p.af r_2.toNat).aV)),IntKind.wrap .i64 (r_2+1))))
 else
 some (.next (n4,IntKind.wrap .i64 (r_2+1)))))
 else
 some (.done (.brk n4))
def jE (p:au) (s_:aA) (cut:List Bool):Option Int:=
 Option.bind (bB (kX p s_ cut) FUEL (0,0)) fun o=>match o with
 | .ret v=>some v
 | .brk n1=>
 Option.bind (bB (kY p s_ cut) FUEL (n1,0)) fun o=>match o with
 | .ret v=>some v
 | .brk n3=>
 Option.bind (bB (kS p cut) FUEL (n3,0)) fun o=>match o with
 | .ret v=>some v
 | .brk n5=>
 some n5
def lJ (p:au) (s_:aA) (n:Int):((List Bool) × Bool × Int)→Option (aY ((List Bool) × Bool × Int) (Ex ((List Bool) × Bool) (Int × (List Bool)))):=
 fun zz=>match zz with
 |(cut,right,b)=>
 bif (decide (b<p.ax))then
 dF (((0:Int)≤b)∧(2≠(0:Int))∧((0:Int)≤b∧b<(cut.length:Int))) (
 dF ((gB [(right,true)]=true→(0:Int)≤b∧b<((cut.set b.toNat (decide ((Int.tmod (Int.fdiv n (2 ^ min b.toNat (IntKind.bits .i64))) 2)=1))).length:Int))∧(gB [(at' (cut.set b.toNat (decide ((Int.tmod (Int.fdiv n (2 ^ min b.toNat (IntKind.bits .i64))) 2)=1))) b.toNat,true),(right,true)]=true→(0:Int)≤b∧b<(s_.aW.length:Int))) (
 some (.next (cut.set b.toNat (decide ((Int.tmod (Int.fdiv n (2 ^ min b.toNat (IntKind.bits .i64))) 2)=1)),(bif right then(!(bif (at' (cut.set b.toNat (decide ((Int.tmod (Int.fdiv n (2 ^ min b.toNat (IntKind.bits .i64))) 2)=1))) b.toNat)then(at' s_.aW b.toNat)else false))else false),IntKind.wrap .i64 (b+1)))))
 else
 some (.done (.brk (cut,right)))
def lS (p:au) (cut1:List Bool):((List Bool) × Int)→Option (aY ((List Bool) × Int) (Ex (List Bool) (Int × (List Bool)))):=
 fun zz=>match zz with
 |(out3,b1)=>
 bif (decide (b1<p.ax))then
 dF (((0:Int)≤b1∧b1<(out3.length:Int))∧(gB [(at' out3 b1.toNat,true)]=true→(0:Int)≤b1∧b1<(cut1.length:Int))) (
 some (.next (out3.set b1.toNat (bif (at' out3 b1.toNat)then(at' cut1 b1.toNat)else false),IntKind.wrap .i64 (b1+1))))
 else
 some (.done (.brk out3))
def iL (p:au) (s_:aA):(Int × (List Bool) × Int)→Option (aY (Int × (List Bool) × Int) (Ex (Int × (List Bool)) (Int × (List Bool)))):=
 fun zz=>match zz with
 |(least,out,n)=>
 dF ((0:Int)≤p.ax) (
 bif (decide (n<(IntKind.wrap .i64 ((1:Int)*2 ^ min p.ax.toNat (IntKind.bits .i64)))))then
 Option.bind (α:=(Int × (List Bool))) (
 dF (((0:Int)≤p.ax)∧((1:Int)*p.ax≤281474976710656)∧((p.ax:Int)≤9223372036854775807)) (
 Option.bind (bB (lJ p s_ n) FUEL (List.replicate p.ax.toNat (false:Bool),true,0)) fun o=>match o with
 | .ret v=>some v
 | .brk (cut1,right1)=>
 bif (!right1)then
 some (least,out)
 else
 (jE p s_ cut1).bind fun r_=>
 bif (bif (decide (least<0))then true else(decide (r_<least)))then
 some (r_,cut1)
 else
 bif (decide (r_=least))then
 Option.bind (bB (lS p cut1) FUEL (out,0)) fun o=>match o with
 | .ret v=>some v
 | .brk out4=>
 some (least,out4)
 else
 some (least,out))) fun(least2,out2)=>
 some (.next (least2,out2,IntKind.wrap .i64 (n+1)))
 else
 some (.done (.brk (least,out))))
def kK (p:au) (s_:aA):Option (Int × (List Bool)):=
 dF (((0:Int)≤p.ax)∧((1:Int)*p.ax≤281474976710656)∧((p.ax:Int)≤9223372036854775807)) (
 Option.bind (bB (iL p s_) FUEL (-1,List.replicate p.ax.toNat (false:Bool),0)) fun o=>match o with
 | .ret v=>some v
 | .brk (least1,out1)=>
 some (least1,out1))
def pR (p:au) (s_:aA) (r_1:Int × (List Bool)):((List aM) × Int)→Option (aY ((List aM) × Int) (Ex (List aM) ((List aM) × Int))):=
 fun zz=>match zz with
 |(out,k)=>
 bif (decide (k<(p.ah.length:Int)))then
 (kL p s_ k).bind fun r_2=>
 dF ((gB [(r_2,true)]=true→(0:Int)≤k∧k<(p.ah.length:Int))∧(gB [(r_2,true)]=true→(0:Int)≤(at' p.ah k.toNat).bus∧(at' p.ah k.toNat).bus<(r_1.2.length:Int))) (
 bif (bif r_2 then(!(at' r_1.2 (((at' p.ah k.toNat).bus).toNat)))else false)then
 dF (((out.length+[(⟨2,k⟩:aM)].length)*16≤140737488355328)∧(out.length+[(⟨2,k⟩:aM)].length≤4611686018427387904)) (
 some (.next (out++[(⟨2,k⟩:aM)],IntKind.wrap .i64 (k+1))))
 else
 some (.next (out,IntKind.wrap .i64 (k+1))))
 else
 some (.done (.brk out))
def pX (p:au) (s_:aA) (r_1:Int × (List Bool)):((List aM) × Int)→Option (aY ((List aM) × Int) (Ex (List aM) ((List aM) × Int))):=
 fun zz=>match zz with
 |(out2,i)=>
 bif (decide (i<(p.ai.length:Int)))then
 (iK p s_ i).bind fun r_3=>
 dF ((gB [(r_3,true)]=true→(0:Int)≤i∧i<(p.ai.length:Int))∧(gB [(r_3,true)]=true→(0:Int)≤(at' p.ai i.toNat).a∧(at' p.ai i.toNat).a<(r_1.2.length:Int))∧(gB [(r_3,true)]=true→(0:Int)≤(at' p.ai i.toNat).b∧(at' p.ai i.toNat).b<(r_1.2.length:Int))) (
 bif (bif r_3 then(!((at' r_1.2 (((at' p.ai i.toNat).a).toNat))==(at' r_1.2 (((at' p.ai i.toNat).b).toNat))))else false)then
 dF (((out2.length+[(⟨3,i⟩:aM)].length)*16≤140737488355328)∧(out2.length+[(⟨3,i⟩:aM)].length≤4611686018427387904)) (
 some (.next (out2++[(⟨3,i⟩:aM)],IntKind.wrap .i64 (i+1))))
 else
 some (.next (out2,IntKind.wrap .i64 (i+1))))
 else
 some (.done (.brk out2))
def kM (p:au) (s_:aA):Option ((List aM) × Int):=
 (fq p s_).bind fun r_=>
 bif (!decide (r_=0))then
 some (([]:List aM),r_)
 else
 (kK p s_).bind fun r_1=>
 Option.bind (bB (pR p s_ r_1) FUEL (([]:List aM),0)) fun o=>match o with
 | .ret v=>some v
 | .brk out1=>
 Option.bind (bB (pX p s_ r_1) FUEL (out1,0)) fun o=>match o with
 | .ret v=>some v
 | .brk out3=>
 some (out3,0)
def qP (p:au):(Int × Int)→Option (aY (Int × Int) (Ex Int (Bool × Int))):=
 fun zz=>match zz with
 |(all,r_1)=>
 bif (decide (r_1<(p.af.length:Int)))then
 dF ((0:Int)≤r_1∧r_1<(p.af.length:Int)) (
 some (.next (IntKind.wrap .i64 (all+((at' p.af r_1.toNat).aV)),IntKind.wrap .i64 (r_1+1))))
 else
 some (.done (.brk all))
def mG (p:au) (s_:aA):Option (Bool × Int):=
 (fq p s_).bind fun r_=>
 bif (!decide (r_=0))then
 some (false,r_)
 else
 Option.bind (bB (qP p) FUEL (0,0)) fun o=>match o with
 | .ret v=>some v
 | .brk all1=>
 (kK p s_).bind fun r_2=>
 some (decide (r_2.1=all1),0)
def iT (a:List ay) (b:List ay):Int→Option (aY Int (Ex Unit Bool)):=
 fun i=>
 bif (decide (i<(a.length:Int)))then
 dF (((0:Int)≤i∧i<(a.length:Int))∧((0:Int)≤i∧i<(b.length:Int))) (
 bif (!((decide (((at' a i.toNat).bus)=((at' b i.toNat).bus))) && ((decide (((at' a i.toNat).kind)=((at' b i.toNat).kind))) && ((decide (((at' a i.toNat).aV)=((at' b i.toNat).aV))) && ((decide (((at' a i.toNat).sync)=((at' b i.toNat).sync))) && ((decide (((at' a i.toNat).gM)=((at' b i.toNat).gM))) && true))))))then
 some (.done (.ret false))
 else
 some (.next (IntKind.wrap .i64 (i+1))))
 else
 some (.done (.brk ()))
def kF (a:List ay) (b:List ay):Option Bool:=
 bif (!decide ((a.length:Int)=(b.length:Int)))then
 some false
 else
 Option.bind (bB (iT a b) FUEL (0)) fun o=>match o with
 | .ret v=>some v
 | .brk _=>
 some true
def jL (a:List dV) (b:List dV):Int→Option (aY Int (Ex Unit Bool)):=
 fun i=>
 bif (decide (i<(a.length:Int)))then
 dF (((0:Int)≤i∧i<(a.length:Int))∧((0:Int)≤i∧i<(b.length:Int))) (
 bif (!((decide (((at' a i.toNat).amps)=((at' b i.toNat).amps))) && ((decide (((at' a i.toNat).jd)=((at' b i.toNat).jd))) && true)))then
 some (.done (.ret false))
 else
 some (.next (IntKind.wrap .i64 (i+1))))
 else
 some (.done (.brk ()))
def ng (a:List dV) (b:List dV):Option Bool:=
 bif (!decide ((a.length:Int)=(b.length:Int)))then
 some false
 else
 Option.bind (bB (jL a b) FUEL (0)) fun o=>match o with
 | .ret v=>some v
 | .brk _=>
 some true
def o9 (a:aH) (b:aH):Option Bool:=
 (bif gB [((bif (bif (bif (bif (decide (a.a=b.a))then(decide (a.b=b.b))else false)then(decide (a.kind=b.kind))else false)then(decide (a.most=b.most))else false)then(decide (a.gM=b.gM))else false),true)]then ng a.trip b.trip else some default).bind fun r_=>
 some (bif (bif (bif (bif (bif (decide (a.a=b.a))then(decide (a.b=b.b))else false)then(decide (a.kind=b.kind))else false)then(decide (a.most=b.most))else false)then(decide (a.gM=b.gM))else false)then r_ else false)
def jT (a:List aH) (b:List aH):Int→Option (aY Int (Ex Unit Bool)):=
 fun i=>
 bif (decide (i<(a.length:Int)))then
 (o9 (at' a i.toNat) (at' b i.toNat)).bind fun r_=>
 dF (((0:Int)≤i∧i<(a.length:Int))∧((0:Int)≤i∧i<(b.length:Int))) (
 bif (!r_)then
 some (.done (.ret false))
 else
 some (.next (IntKind.wrap .i64 (i+1))))
 else
 some (.done (.brk ()))
def nH (a:List aH) (b:List aH):Option Bool:=
 bif (!decide ((a.length:Int)=(b.length:Int)))then
 some false
 else
 Option.bind (bB (jT a b) FUEL (0)) fun o=>match o with
 | .ret v=>some v
 | .brk _=>
 some true
def jQ (a:List aK) (b:List aK):Int→Option (aY Int (Ex Unit Bool)):=
 fun i=>
 bif (decide (i<(a.length:Int)))then
 dF (((0:Int)≤i∧i<(a.length:Int))∧((0:Int)≤i∧i<(b.length:Int))) (
 bif (!((decide ((((at' a i.toNat).aC).e0)=(((at' b i.toNat).aC).e0))) && ((decide ((((at' a i.toNat).aC).e1)=(((at' b i.toNat).aC).e1))) && ((decide (((at' a i.toNat).aV)=((at' b i.toNat).aV))) && ((decide (((at' a i.toNat).kJ)=((at' b i.toNat).kJ))) && true)))))then
 some (.done (.ret false))
 else
 some (.next (IntKind.wrap .i64 (i+1))))
 else
 some (.done (.brk ()))
def mW (a:List aK) (b:List aK):Option Bool:=
 bif (!decide ((a.length:Int)=(b.length:Int)))then
 some false
 else
 Option.bind (bB (jQ a b) FUEL (0)) fun o=>match o with
 | .ret v=>some v
 | .brk _=>
 some true
def nE (a:au) (b:au):Option Bool:=
 (bif gB [(decide (a.ax=b.ax),true)]then kF a.ah b.ah else some default).bind fun r_=>
 (bif gB [((bif (decide (a.ax=b.ax))then r_ else false),true)]then nH a.ai b.ai else some default).bind fun r_1=>
 (bif gB [((bif (bif (decide (a.ax=b.ax))then r_ else false)then r_1 else false),true)]then mW a.af b.af else some default).bind fun r_2=>
 some (bif (bif (bif (decide (a.ax=b.ax))then r_ else false)then r_1 else false)then r_2 else false)
def mM (p:au) (x:aD) (b:Int):(Int × Int)→Option (aY (Int × Int) (Ex Int Int)):=
 fun zz=>match zz with
 |(n,k)=>
 bif (decide (k<(x.ah.length:Int)))then
 dF ((0:Int)≤k∧k<(p.ah.length:Int)) (
 bif (decide (((at' p.ah k.toNat).bus)=b))then
 dF ((0:Int)≤k∧k<(x.ah.length:Int)) (
 some (.next (IntKind.wrap .i64 (n+(at' x.ah k.toNat)),IntKind.wrap .i64 (k+1))))
 else
 some (.next (n,IntKind.wrap .i64 (k+1))))
 else
 some (.done (.brk n))
def mI (p:au) (x:aD) (b:Int):(Int × Int)→Option (aY (Int × Int) (Ex Int Int)):=
 fun zz=>match zz with
 |(n2,i)=>
 bif (decide (i<(x.ai.length:Int)))then
 Option.bind (α:=Int) (
 dF ((0:Int)≤i∧i<(p.ai.length:Int)) (
 bif (decide (((at' p.ai i.toNat).a)=b))then
 dF ((0:Int)≤i∧i<(x.ai.length:Int)) (
 dF ((0:Int)≤i∧i<(p.ai.length:Int)) (
 bif (decide (((at' p.ai i.toNat).b)=b))then
 dF ((0:Int)≤i∧i<(x.ai.length:Int)) (
 some (IntKind.wrap .i64 ((IntKind.wrap .i64 (n2 - (at' x.ai i.toNat)))+(at' x.ai i.toNat))))
 else
 some (IntKind.wrap .i64 (n2 - (at' x.ai i.toNat)))))
 else
 dF ((0:Int)≤i∧i<(p.ai.length:Int)) (
 bif (decide (((at' p.ai i.toNat).b)=b))then
 dF ((0:Int)≤i∧i<(x.ai.length:Int)) (
 some (IntKind.wrap .i64 (n2+(at' x.ai i.toNat))))
 else
 some n2))) fun n4=>
 some (.next (n4,IntKind.wrap .i64 (i+1)))
 else
 some (.done (.brk n2))
def fD (p:au) (x:aD) (b:Int) (r_:Int):(Int × Int)→Option (aY (Int × Int) (Ex Int (aY (Int × Int) (Ex Int Int)))):=
 fun zz=>match zz with
 |(n7,k1)=>
 bif (decide (k1<2))then
 bif (decide (k1=0))then
 dF ((0:Int)≤r_∧r_<(p.af.length:Int)) (
 bif (decide ((((at' p.af r_.toNat).aC).e0)=b))then
 dF ((0:Int)≤r_∧r_<(x.af.length:Int)) (
 some (.next (IntKind.wrap .i64 (n7 - ((at' x.af r_.toNat).e0)),1)))
 else
 some (.next (n7,1)))
 else
 dF (k1=1) (
 dF ((0:Int)≤r_∧r_<(p.af.length:Int)) (
 bif (decide ((((at' p.af r_.toNat).aC).e1)=b))then
 dF ((0:Int)≤r_∧r_<(x.af.length:Int)) (
 some (.next (IntKind.wrap .i64 (n7 - ((at' x.af r_.toNat).e1)),2)))
 else
 some (.next (n7,2))))
 else
 some (.done (.brk n7))
def mR (p:au) (x:aD) (b:Int):(Int × Int)→Option (aY (Int × Int) (Ex Int Int)):=
 fun zz=>match zz with
 |(n5,r_)=>
 bif (decide (r_<(x.af.length:Int)))then
 Option.bind (bB (fD p x b r_) FUEL (n5,0)) fun o=>match o with
 | .ret v=>some v
 | .brk n8=>
 some (.next (n8,IntKind.wrap .i64 (r_+1)))
 else
 some (.done (.brk n5))
def nk (p:au) (x:aD) (b:Int):Option Int:=
 Option.bind (bB (mM p x b) FUEL (0,0)) fun o=>match o with
 | .ret v=>some v
 | .brk n1=>
 Option.bind (bB (mI p x b) FUEL (n1,0)) fun o=>match o with
 | .ret v=>some v
 | .brk n3=>
 Option.bind (bB (mR p x b) FUEL (n3,0)) fun o=>match o with
 | .ret v=>some v
 | .brk n6=>
 some n6
def kZ (p:au) (s_:aA) (x:aD):Int→Option (aY Int (Ex Unit Bool)):=
 fun k=>
 bif (decide (k<(x.ah.length:Int)))then
 (kL p s_ k).bind fun r_=>
 bif r_ then
 dF ((0:Int)≤k∧k<(p.ah.length:Int)) (
 dF (((0:Int)≤k∧k<(x.ah.length:Int))∧(gB [(decide ((at' x.ah k.toNat)<0),false)]=true→(0:Int)≤k∧k<(x.ah.length:Int))) (
 bif (bif (decide ((at' x.ah k.toNat)<0))then true else(decide (((at' p.ah k.toNat).aV)<(at' x.ah k.toNat))))then
 some (.done (.ret false))
 else
 some (.next (IntKind.wrap .i64 (k+1)))))
 else
 dF (((0:Int)≤k∧k<(x.ah.length:Int))∧(gB [(decide ((at' x.ah k.toNat)<0),false)]=true→(0:Int)≤k∧k<(x.ah.length:Int))) (
 bif (bif (decide ((at' x.ah k.toNat)<0))then true else(decide (0<(at' x.ah k.toNat))))then
 some (.done (.ret false))
 else
 some (.next (IntKind.wrap .i64 (k+1))))
 else
 some (.done (.brk ()))
def kW (p:au) (s_:aA) (x:aD):Int→Option (aY Int (Ex Unit Bool)):=
 fun i=>
 bif (decide (i<(x.ai.length:Int)))then
 (iK p s_ i).bind fun r_1=>
 bif r_1 then
 dF ((0:Int)≤i∧i<(p.ai.length:Int)) (
 dF (((0:Int)≤i∧i<(x.ai.length:Int))∧(gB [(decide ((at' x.ai i.toNat)<(IntKind.wrap .i64 (0 - ((at' p.ai i.toNat).most)))),false)]=true→(0:Int)≤i∧i<(x.ai.length:Int))) (
 bif (bif (decide ((at' x.ai i.toNat)<(IntKind.wrap .i64 (0 - ((at' p.ai i.toNat).most)))))then true else(decide (((at' p.ai i.toNat).most)<(at' x.ai i.toNat))))then
 some (.done (.ret false))
 else
 some (.next (IntKind.wrap .i64 (i+1)))))
 else
 dF (((0:Int)≤i∧i<(x.ai.length:Int))∧(gB [(decide ((at' x.ai i.toNat)<(IntKind.wrap .i64 (0 - 0))),false)]=true→(0:Int)≤i∧i<(x.ai.length:Int))) (
 bif (bif (decide ((at' x.ai i.toNat)<(IntKind.wrap .i64 (0 - 0))))then true else(decide (0<(at' x.ai i.toNat))))then
 some (.done (.ret false))
 else
 some (.next (IntKind.wrap .i64 (i+1))))
 else
 some (.done (.brk ()))
def dG (p:au) (s_:aA) (x:aD) (r_2:Int):(Int × Int)→Option (aY (Int × Int) (Ex Int (aY Int (Ex Unit Bool)))):=
 fun zz=>match zz with
 |(total,k1)=>
 bif (decide (k1<2))then
 bif (decide (k1=0))then
 dF ((0:Int)≤r_2∧r_2<(p.af.length:Int)) (
 dF (gB [(decide (0≤(((at' p.af r_2.toNat).aC).e0)),true)]=true→(0:Int)≤(if((at' p.af r_2.toNat).aC).e0<0 then 0 else((at' p.af r_2.toNat).aC).e0)∧(if((at' p.af r_2.toNat).aC).e0<0 then 0 else((at' p.af r_2.toNat).aC).e0)<(s_.aW.length:Int)) (
 bif (bif (decide (0≤(((at' p.af r_2.toNat).aC).e0)))then(!(at' s_.aW ((if((at' p.af r_2.toNat).aC).e0<0 then 0 else((at' p.af r_2.toNat).aC).e0).toNat)))else false)then
 dF ((0:Int)≤r_2∧r_2<(p.af.length:Int)) (
 dF (((0:Int)≤r_2∧r_2<(x.af.length:Int))∧(gB [(decide (((at' x.af r_2.toNat).e0)<0),false)]=true→(0:Int)≤r_2∧r_2<(x.af.length:Int))) (
 bif (bif (decide (((at' x.af r_2.toNat).e0)<0))then true else(decide (((at' p.af r_2.toNat).aV)<((at' x.af r_2.toNat).e0))))then
 some (.done (.ret (.done (.ret false))))
 else
 dF ((0:Int)≤r_2∧r_2<(x.af.length:Int)) (
 some (.next (IntKind.wrap .i64 (total+((at' x.af r_2.toNat).e0)),1)))))
 else
 dF (((0:Int)≤r_2∧r_2<(x.af.length:Int))∧(gB [(decide (((at' x.af r_2.toNat).e0)<0),false)]=true→(0:Int)≤r_2∧r_2<(x.af.length:Int))) (
 bif (bif (decide (((at' x.af r_2.toNat).e0)<0))then true else(decide (0<((at' x.af r_2.toNat).e0))))then
 some (.done (.ret (.done (.ret false))))
 else
 dF ((0:Int)≤r_2∧r_2<(x.af.length:Int)) (
 some (.next (IntKind.wrap .i64 (total+((at' x.af r_2.toNat).e0)),1))))))
 else
 dF (k1=1) (
 dF ((0:Int)≤r_2∧r_2<(p.af.length:Int)) (
 dF (gB [(decide (0≤(((at' p.af r_2.toNat).aC).e1)),true)]=true→(0:Int)≤(if((at' p.af r_2.toNat).aC).e1<0 then 0 else((at' p.af r_2.toNat).aC).e1)∧(if((at' p.af r_2.toNat).aC).e1<0 then 0 else((at' p.af r_2.toNat).aC).e1)<(s_.aW.length:Int)) (
 bif (bif (decide (0≤(((at' p.af r_2.toNat).aC).e1)))then(!(at' s_.aW ((if((at' p.af r_2.toNat).aC).e1<0 then 0 else((at' p.af r_2.toNat).aC).e1).toNat)))else false)then
 dF ((0:Int)≤r_2∧r_2<(p.af.length:Int)) (
 dF (((0:Int)≤r_2∧r_2<(x.af.length:Int))∧(gB [(decide (((at' x.af r_2.toNat).e1)<0),false)]=true→(0:Int)≤r_2∧r_2<(x.af.length:Int))) (
 bif (bif (decide (((at' x.af r_2.toNat).e1)<0))then true else(decide (((at' p.af r_2.toNat).aV)<((at' x.af r_2.toNat).e1))))then
 some (.done (.ret (.done (.ret false))))
 else
 dF ((0:Int)≤r_2∧r_2<(x.af.length:Int)) (
 some (.next (IntKind.wrap .i64 (total+((at' x.af r_2.toNat).e1)),2)))))
 else
 dF (((0:Int)≤r_2∧r_2<(x.af.length:Int))∧(gB [(decide (((at' x.af r_2.toNat).e1)<0),false)]=true→(0:Int)≤r_2∧r_2<(x.af.length:Int))) (
 bif (bif (decide (((at' x.af r_2.toNat).e1)<0))then true else(decide (0<((at' x.af r_2.toNat).e1))))then
 some (.done (.ret (.done (.ret false))))
 else
 dF ((0:Int)≤r_2∧r_2<(x.af.length:Int)) (
 some (.next (IntKind.wrap .i64 (total+((at' x.af r_2.toNat).e1)),2)))))))
 else
 some (.done (.brk total))
def kU (p:au) (s_:aA) (x:aD):Int→Option (aY Int (Ex Unit Bool)):=
 fun r_2=>
 bif (decide (r_2<(x.af.length:Int)))then
 Option.bind (bB (dG p s_ x r_2) FUEL (0,0)) fun o=>match o with
 | .ret v=>some v
 | .brk total1=>
 dF ((0:Int)≤r_2∧r_2<(p.af.length:Int)) (
 bif (decide (((at' p.af r_2.toNat).aV)<total1))then
 some (.done (.ret false))
 else
 some (.next (IntKind.wrap .i64 (r_2+1))))
 else
 some (.done (.brk ()))
def kV (p:au) (x:aD):Int→Option (aY Int (Ex Unit Bool)):=
 fun b=>
 bif (decide (b<p.ax))then
 (nk p x b).bind fun r_3=>
 bif (!decide (r_3=0))then
 some (.done (.ret false))
 else
 some (.next (IntKind.wrap .i64 (b+1)))
 else
 some (.done (.brk ()))
def lK (p:au) (s_:aA) (x:aD):Option Bool:=
 bif (bif (bif (!decide ((x.ah.length:Int)=(p.ah.length:Int)))then true else(!decide ((x.ai.length:Int)=(p.ai.length:Int))))then true else(!decide ((x.af.length:Int)=(p.af.length:Int))))then
 some false
 else
 Option.bind (bB (kZ p s_ x) FUEL (0)) fun o=>match o with
 | .ret v=>some v
 | .brk _=>
 Option.bind (bB (kW p s_ x) FUEL (0)) fun o=>match o with
 | .ret v=>some v
 | .brk _=>
 Option.bind (bB (kU p s_ x) FUEL (0)) fun o=>match o with
 | .ret v=>some v
 | .brk _=>
 Option.bind (bB (kV p x) FUEL (0)) fun o=>match o with
 | .ret v=>some v
 | .brk _=>
 some true
def iY (p:au) (s_:aA) (x:aD):Option Int:=
 (fq p s_).bind fun r_=>
 (bif gB [(decide (r_=0),true)]then lK p s_ x else some default).bind fun r_1=>
 bif (bif (decide (r_=0))then(!r_1)else false)then
 some 20
 else
 some r_
def jS (p:au) (s_:aA):Option Bool:=
 (Ay p).bind fun r_=>
 bif r_ then
 (nL).bind fun r_1=>
 some r_1
 else
 (nC p).bind fun r_2=>
 (nG s_).bind fun r_3=>
 (dW r_2 r_3).bind fun r_4=>
 (kI r_2 r_3).bind fun r_5=>
 (mF r_2 r_3).bind fun r_6=>
 (kM p s_).bind fun r_7=>
 (mG p s_).bind fun r_8=>
 (fq p s_).bind fun r_9=>
 (bif gB [((bif (bif (!decide (r_4.2.2=r_9))then true else(!decide (r_5.2=r_7.2)))then true else(!decide (r_6.2=r_8.2))),false)]then jh r_5.1 r_7.1 else some default).bind fun r_10=>
 (bif gB [((bif (bif (bif (bif (!decide (r_4.2.2=r_9))then true else(!decide (r_5.2=r_7.2)))then true else(!decide (r_6.2=r_8.2)))then true else(!r_10))then true else(!(r_6.1==r_8.1))),false)]then nE p r_2 else some default).bind fun r_11=>
 (bif gB [((bif (bif (bif (bif (bif (!decide (r_4.2.2=r_9))then true else(!decide (r_5.2=r_7.2)))then true else(!decide (r_6.2=r_8.2)))then true else(!r_10))then true else(!(r_6.1==r_8.1)))then true else(!r_11)),false)]then mY s_ r_3 else some default).bind fun r_12=>
 bif (bif (bif (bif (bif (bif (bif (!decide (r_4.2.2=r_9))then true else(!decide (r_5.2=r_7.2)))then true else(!decide (r_6.2=r_8.2)))then true else(!r_10))then true else(!(r_6.1==r_8.1)))then true else(!r_11))then true else(!r_12))then
 some false
 else
 bif (!decide (r_4.2.2=0))then
 (bif gB [(decide ((IntKind.wrap .i64 ((IntKind.wrap .i64 ((IntKind.wrap .i64 ((r_4.1.ah.length:Int)+(r_4.1.ai.length:Int)))+(r_4.1.af.length:Int)))+(r_4.2.1.length:Int)))=0),true)]then nL else some default).bind fun r_13=>
 some (bif (decide ((IntKind.wrap .i64 ((IntKind.wrap .i64 ((IntKind.wrap .i64 ((r_4.1.ah.length:Int)+(r_4.1.ai.length:Int)))+(r_4.1.af.length:Int)))+(r_4.2.1.length:Int)))=0))then r_13 else false)
 else
 (kK p s_).bind fun r_14=>
 (gW r_4.1).bind fun r_15=>
 (bif gB [(decide (r_15=r_14.1),true)]then dD r_4.2.1 r_14.2 else some default).bind fun r_16=>
 (bif gB [((bif (decide (r_15=r_14.1))then r_16 else false),true)]then iY p s_ r_4.1 else some default).bind fun r_17=>
 (bif gB [((bif (bif (decide (r_15=r_14.1))then r_16 else false)then(decide (r_17=0))else false),true)]then nL else some default).bind fun r_18=>
 some (bif (bif (bif (decide (r_15=r_14.1))then r_16 else false)then(decide (r_17=0))else false)then r_18 else false)
end Sg
