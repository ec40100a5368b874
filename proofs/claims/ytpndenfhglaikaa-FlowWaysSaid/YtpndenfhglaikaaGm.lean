import Derived.Test.YtpndenfhglaikaaLc
set_option linter.all false
namespace Sg
open Go
structure ay where
 bK:(List Bool)
 fe:(List Bool)
 bG:(List Bool)
 on_:(List Bool)
 bL:(List Bool)
 fq:(List Bool)
 aG:(List Bool)
instance:Inhabited ay:=⟨⟨default,default,default,default,default,default,default⟩⟩
def ay.cell (x:ay):Nat→DV
 |0=>(bg none 1 aD x.bK)
 |1=>(bg none 1 aD x.fe)
 |2=>(bg none 1 aD x.bG)
 |3=>(bg none 1 aD x.on_)
 |4=>(bg none 1 aD x.bL)
 |5=>(bg none 1 aD x.fq)
 |6=>(bg none 1 aD x.aG)
 |_=> .nilp
structure aj where
 bus:Int
 kind:Int
 cK:Int
 sync:Int
 bU:Int
instance:Inhabited aj:=⟨⟨default,default,default,default,default⟩⟩
def aj.cell (x:aj):Nat→DV
 |0=>(.int .i64 x.bus)
 |1=>(.int .i64 x.kind)
 |2=>(.int .i64 x.cK)
 |3=>(.int .i64 x.sync)
 |4=>(.int .i64 x.bU)
 |_=> .nilp
structure ic where
 amps:Int
 nE:Int
instance:Inhabited ic:=⟨⟨default,default⟩⟩
def ic.cell (x:ic):Nat→DV
 |0=>(.int .i64 x.amps)
 |1=>(.int .i64 x.nE)
 |_=> .nilp
structure aM where
 a:Int
 b:Int
 kind:Int
 most:Int
 bU:Int
 trip:(List ic)
instance:Inhabited aM:=⟨⟨default,default,default,default,default,default⟩⟩
def aM.cell (x:aM):Nat→DV
 |0=>(.int .i64 x.a)
 |1=>(.int .i64 x.b)
 |2=>(.int .i64 x.kind)
 |3=>(.int .i64 x.most)
 |4=>(.int .i64 x.bU)
 |5=>(bg none 2 ic.cell x.trip)
 |_=> .nilp
structure ah where
 e0:Int
 e1:Int
instance:Inhabited ah:=⟨⟨default,default⟩⟩
def ah.cell (x:ah):Nat→DV
 |0=>(.int .i64 x.e0)
 |1=>(.int .i64 x.e1)
 |_=> .nilp
structure aK where
 bY:ah
 cK:Int
 uT:Int
instance:Inhabited aK:=⟨⟨default,default,default⟩⟩
def aK.cell (x:aK):Nat→DV
 |0=>(.int .i64 x.bY.e0)
 |1=>(.int .i64 x.bY.e1)
 |2=>(.int .i64 x.cK)
 |3=>(.int .i64 x.uT)
 |_=> .nilp
structure au where
 ax:Int
 ai:(List aj)
 af:(List aM)
 aF:(List aK)
instance:Inhabited au:=⟨⟨default,default,default,default⟩⟩
def au.cell (x:au):Nat→DV
 |0=>(.int .i64 x.ax)
 |1=>(bg none 5 aj.cell x.ai)
 |2=>(bg none 6 aM.cell x.af)
 |3=>(bg none 4 aK.cell x.aF)
 |_=> .nilp
structure dS where
 l:(List Bool)
 n:Int
instance:Inhabited dS:=⟨⟨default,default⟩⟩
def dS.cell (x:dS):Nat→DV
 |0=>(bg none 1 aD x.l)
 |1=>(.int .i64 x.n)
 |_=> .nilp
structure Way where
 there:Bool
 bU:Int
 af:(List Int)
instance:Inhabited Way:=⟨⟨default,default,default⟩⟩
def Way.cell (x:Way):Nat→DV
 |0=>(.bool x.there)
 |1=>(.int .i64 x.bU)
 |2=>(bg none 1 (aC .i64) x.af)
 |_=> .nilp
structure aA where
 source:Int
 bU:Int
 amps:Int
 af:(List Int)
instance:Inhabited aA:=⟨⟨default,default,default,default⟩⟩
def aA.cell (x:aA):Nat→DV
 |0=>(.int .i64 x.source)
 |1=>(.int .i64 x.bU)
 |2=>(.int .i64 x.amps)
 |3=>(bg none 1 (aC .i64) x.af)
 |_=> .nilp
structure cO where
 to_:Int
 left:Int
instance:Inhabited cO:=⟨⟨default,default⟩⟩
def cO.cell (x:cO):Nat→DV
 |0=>(.int .i64 x.to_)
 |1=>(.int .i64 x.left)
 |_=> .nilp
structure aH where
 bO:(List cO)
 from_:(List (List Int))
instance:Inhabited aH:=⟨⟨default,default⟩⟩
def aH.cell (x:aH):Nat→DV
 |0=>(bg none 2 cO.cell x.bO)
 |1=>(bg none 1 (Na 1 (aC .i64)) x.from_)
 |_=> .nilp
structure bA where
 l:(List ah)
instance:Inhabited bA:=⟨⟨default⟩⟩
def bA.cell (x:bA):Nat→DV
 |0=>(bg none 2 ah.cell x.l)
 |_=> .nilp
structure aS where
 ai:(List Int)
 af:(List Int)
 aF:(List ah)
instance:Inhabited aS:=⟨⟨default,default,default⟩⟩
def aS.cell (x:aS):Nat→DV
 |0=>(bg none 1 (aC .i64) x.ai)
 |1=>(bg none 1 (aC .i64) x.af)
 |2=>(bg none 2 ah.cell x.aF)
 |_=> .nilp
structure aZ where
 kind:Int
 index:Int
instance:Inhabited aZ:=⟨⟨default,default⟩⟩
def aZ.cell (x:aZ):Nat→DV
 |0=>(.int .i64 x.kind)
 |1=>(.int .i64 x.index)
 |_=> .nilp
structure aW where
 head:(List (Int × Int))
instance:Inhabited aW:=⟨⟨default⟩⟩
def aW.cell (x:aW):Nat→DV
 |0=> .nilp
 |_=> .nilp
structure aU where
 ax:(List Int)
 ai:(List Int)
instance:Inhabited aU:=⟨⟨default,default⟩⟩
def aU.cell (x:aU):Nat→DV
 |0=>(bg none 1 (aC .i64) x.ax)
 |1=>(bg none 1 (aC .i64) x.ai)
 |_=> .nilp
def aU.ev (x:aU):Nat→EV
 |0=> .row 3 1 x.ax.length (aN (aC .i64) x.ax)
 |1=> .row 3 1 x.ai.length (aN (aC .i64) x.ai)
 |_=> .d .nilp
instance:DecidableEq ah:=fun a b=>if h:a.e0=b.e0∧a.e1=b.e1 then .isTrue (match a,b,h with|⟨_,_⟩,⟨_,_⟩,⟨h0,h1⟩=>by cases h0;cases h1;rfl)else .isFalse fun q=>h (by cases q;exact⟨rfl,rfl⟩)
def uo (x:List Int):Nat→EV
 |0=> .row 3 1 x.length (aN (aC .i64) x)
 |_=> .d .nilp
def uN (a:(List Bool)) (b:(List Bool)):Int→Option (bn Int (Ex Unit Bool)):=
 fun i=>
 bif (decide (i<(a.length:Int)))then
 dL (((0:Int)≤i∧i<(a.length:Int))∧((0:Int)≤i∧i<(b.length:Int))) (
 bif (!((at' a i.toNat)==(at' b i.toNat)))then
 some (.done (.ret false))
 else
 some (.next (IntKind.wrap .i64 (i+1))))
 else
 some (.done (.brk ()))
def nJ (a:(List Bool)) (b:(List Bool)):Option Bool:=
 bif (!decide ((a.length:Int)=(b.length:Int)))then
 some false
 else
 Option.bind (bH (uN a b) FUEL (0)) fun o=>match o with
 | .ret v=>some v
 | .brk _=>
 some true
def bQ (n:Int) (first:Int) (last:Int):Option Bool:=
 some (bif (decide (first≤n))then(decide (n≤last))else false)
def qo (p:au):Option (Int × (List aj) × (List aM) × (List aK)):=
 some (p.ax,p.ai,p.af,p.aF)
def uZ (p:au):Option (Int × (List aj) × (List aM) × (List aK)):=
 some (p.ax,p.ai,p.af,p.aF)
def vk (p:au):Option (Int × (List aj) × (List aM) × (List aK)):=
 some (p.ax,p.ai,p.af,p.aF)
def jQ (x:aj) (x1:Int) (x11:(List aj)) (x12:(List aM)) (x13:(List aK)):Option Bool:=
 (bQ x.bus 0 (IntKind.wrap .i64 (x1 - 1))).bind fun r_=>
 (bif gB [(r_,true)]then bQ x.kind 1 3 else some default).bind fun r_1=>
 (bif gB [((bif r_ then r_1 else false),true)]then bQ x.cK 1 100000 else some default).bind fun r_2=>
 (bif gB [((bif (bif r_ then r_1 else false)then r_2 else false),true)]then bQ x.sync 0 8 else some default).bind fun r_3=>
 (bif gB [((bif (bif (bif r_ then r_1 else false)then r_2 else false)then r_3 else false),true)]then bQ x.bU 10 100000 else some default).bind fun r_4=>
 some (bif (bif (bif (bif r_ then r_1 else false)then r_2 else false)then r_3 else false)then r_4 else false)
def qj (x:aj) (x1:Int) (x11:(List aj)) (x12:(List aM)) (x13:(List aK)):Option Bool:=
 (jQ x x1 x11 x12 x13).bind fun r_=>
 some (!r_)
def jk (s_:(List aj)) (f_:Int) (f_1:(List aj)) (f_2:(List aM)) (f_3:(List aK)):Int→Option (bn Int (Ex Unit Int)):=
 fun t8=>
 bif (decide (t8<(s_.length:Int)))then
 (qj (at' s_ t8.toNat) f_ f_1 f_2 f_3).bind fun r_=>
 dL ((0:Int)≤t8∧t8<(s_.length:Int)) (
 bif r_ then
 some (.done (.ret t8))
 else
 some (.next (IntKind.wrap .i64 (t8+1))))
 else
 some (.done (.brk ()))
def kX (s_:(List aj)) (f_:Int) (f_1:(List aj)) (f_2:(List aM)) (f_3:(List aK)):Option Int:=
 Option.bind (bH (jk s_ f_ f_1 f_2 f_3) FUEL (0)) fun o=>match o with
 | .ret v=>some v
 | .brk _=>
 some (-1)
def gM (s_:(List aj)) (f_:Int) (f_1:(List aj)) (f_2:(List aM)) (f_3:(List aK)):Option Bool:=
 (kX s_ f_ f_1 f_2 f_3).bind fun r_=>
 some (decide (0≤r_))
def qF (l:(List aj)) (most:Int) (right:Int) (right1:(List aj)) (right2:(List aM)) (right3:(List aK)):Option Bool:=
 (bif gB [((decide ((l.length:Int)≤most)),true)]then gM l right right1 right2 right3 else some default).bind fun r_=>
 some (bif (decide ((l.length:Int)≤most))then(!r_)else false)
def jB (x:aM):Int→Option (bn Int (Ex Unit Bool)):=
 fun t50=>
 bif (decide (t50<(x.trip.length:Int)))then
 dL ((0:Int)≤t50∧t50<(x.trip.length:Int)) (
 (bQ ((at' x.trip t50.toNat).amps) 1 1000000).bind fun r_5=>
 (bif gB [((!r_5),false)]then bQ ((at' x.trip t50.toNat).nE) 1 100000 else some default).bind fun r_6=>
 dL ((gB [((decide (0<t50)),true),((bif (!r_5)then true else(!r_6)),false)]=true→(0:Int)≤(IntKind.wrap .i64 (t50 - 1))∧(IntKind.wrap .i64 (t50 - 1))<(x.trip.length:Int))∧(gB [((decide (((at' x.trip t50.toNat).amps)≤((at' x.trip ((IntKind.wrap .i64 (t50 - 1)).toNat)).amps))),false),((decide (0<t50)),true),((bif (!r_5)then true else(!r_6)),false)]=true→(0:Int)≤(IntKind.wrap .i64 (t50 - 1))∧(IntKind.wrap .i64 (t50 - 1))<(x.trip.length:Int))) (
 bif (bif (bif (!r_5)then true else(!r_6))then true else(bif (decide (0<t50))then(bif (decide (((at' x.trip t50.toNat).amps)≤((at' x.trip ((IntKind.wrap .i64 (t50 - 1)).toNat)).amps)))then true else(decide (((at' x.trip ((IntKind.wrap .i64 (t50 - 1)).toNat)).nE)≤((at' x.trip t50.toNat).nE))))else false))then
 some (.done (.ret false))
 else
 some (.next (IntKind.wrap .i64 (t50+1)))))
 else
 some (.done (.brk ()))
def mU (x:aM) (x1:Int) (x11:(List aj)) (x12:(List aM)) (x13:(List aK)):Option Bool:=
 (bQ x.a 0 (IntKind.wrap .i64 (x1 - 1))).bind fun r_=>
 (bif gB [((!r_),false)]then bQ x.b 0 (IntKind.wrap .i64 (x1 - 1))else some default).bind fun r_1=>
 (bif gB [((bif (bif (!r_)then true else(!r_1))then true else(decide (x.a=x.b))),false)]then bQ x.kind 1 3 else some default).bind fun r_2=>
 (bif gB [((bif (bif (bif (!r_)then true else(!r_1))then true else(decide (x.a=x.b)))then true else(!r_2)),false)]then bQ x.most 1 100000 else some default).bind fun r_3=>
 (bif gB [((bif (bif (bif (bif (!r_)then true else(!r_1))then true else(decide (x.a=x.b)))then true else(!r_2))then true else(!r_3)),false)]then bQ x.bU 10 100000 else some default).bind fun r_4=>
 bif (bif (bif (bif (bif (bif (!r_)then true else(!r_1))then true else(decide (x.a=x.b)))then true else(!r_2))then true else(!r_3))then true else(!r_4))then
 some false
 else
 Option.bind (bH (jB x) FUEL (0)) fun o=>match o with
 | .ret v=>some v
 | .brk _=>
 some (bif (decide ((x.trip.length:Int)≤6))then(bif (decide ((x.trip.length:Int)=0))then true else(decide (x.kind=3)))else false)
def lM (x:aM) (x1:Int) (x11:(List aj)) (x12:(List aM)) (x13:(List aK)):Option Bool:=
 (mU x x1 x11 x12 x13).bind fun r_=>
 some (!r_)
def gZ (s_:(List aM)) (f_:Int) (f_1:(List aj)) (f_2:(List aM)) (f_3:(List aK)):Int→Option (bn Int (Ex Unit Int)):=
 fun t8=>
 bif (decide (t8<(s_.length:Int)))then
 (lM (at' s_ t8.toNat) f_ f_1 f_2 f_3).bind fun r_=>
 dL ((0:Int)≤t8∧t8<(s_.length:Int)) (
 bif r_ then
 some (.done (.ret t8))
 else
 some (.next (IntKind.wrap .i64 (t8+1))))
 else
 some (.done (.brk ()))
def ji (s_:(List aM)) (f_:Int) (f_1:(List aj)) (f_2:(List aM)) (f_3:(List aK)):Option Int:=
 Option.bind (bH (gZ s_ f_ f_1 f_2 f_3) FUEL (0)) fun o=>match o with
 | .ret v=>some v
 | .brk _=>
 some (-1)
def fD (s_:(List aM)) (f_:Int) (f_1:(List aj)) (f_2:(List aM)) (f_3:(List aK)):Option Bool:=
 (ji s_ f_ f_1 f_2 f_3).bind fun r_=>
 some (decide (0≤r_))
def nu (l:(List aM)) (most:Int) (right:Int) (right1:(List aj)) (right2:(List aM)) (right3:(List aK)):Option Bool:=
 (bif gB [((decide ((l.length:Int)≤most)),true)]then fD l right right1 right2 right3 else some default).bind fun r_=>
 some (bif (decide ((l.length:Int)≤most))then(!r_)else false)
def oG (x:aK):Option Int:=
 bif (decide (x.bY.e1=(-1)))then
 some 1
 else
 some 2
def mV (x:aK) (x1:Int) (x11:(List aj)) (x12:(List aM)) (x13:(List aK)):Option Bool:=
 (bQ x.bY.e0 0 (IntKind.wrap .i64 (x1 - 1))).bind fun r_=>
 (bif gB [(r_,true)]then bQ x.bY.e1 (-1) (IntKind.wrap .i64 (x1 - 1))else some default).bind fun r_1=>
 (bif gB [((bif (bif r_ then r_1 else false)then(!decide (x.bY.e0=x.bY.e1))else false),true)]then bQ x.cK 1 100000 else some default).bind fun r_2=>
 (bif gB [((bif (bif (bif r_ then r_1 else false)then(!decide (x.bY.e0=x.bY.e1))else false)then r_2 else false),true)]then oG x else some default).bind fun r_3=>
 (bif gB [((bif (bif (bif r_ then r_1 else false)then(!decide (x.bY.e0=x.bY.e1))else false)then r_2 else false),true)]then bQ x.uT 0 r_3 else some default).bind fun r_4=>
 some (bif (bif (bif (bif r_ then r_1 else false)then(!decide (x.bY.e0=x.bY.e1))else false)then r_2 else false)then r_4 else false)
def l9 (x:aK) (x1:Int) (x11:(List aj)) (x12:(List aM)) (x13:(List aK)):Option Bool:=
 (mV x x1 x11 x12 x13).bind fun r_=>
 some (!r_)
def ig (s_:(List aK)) (f_:Int) (f_1:(List aj)) (f_2:(List aM)) (f_3:(List aK)):Int→Option (bn Int (Ex Unit Int)):=
 fun t8=>
 bif (decide (t8<(s_.length:Int)))then
 (l9 (⟨((at' s_ t8.toNat).bY),(at' s_ t8.toNat).cK,(at' s_ t8.toNat).uT⟩:aK) f_ f_1 f_2 f_3).bind fun r_=>
 dL ((0:Int)≤t8∧t8<(s_.length:Int)) (
 bif r_ then
 some (.done (.ret t8))
 else
 some (.next (IntKind.wrap .i64 (t8+1))))
 else
 some (.done (.brk ()))
def jl (s_:(List aK)) (f_:Int) (f_1:(List aj)) (f_2:(List aM)) (f_3:(List aK)):Option Int:=
 Option.bind (bH (ig s_ f_ f_1 f_2 f_3) FUEL (0)) fun o=>match o with
 | .ret v=>some v
 | .brk _=>
 some (-1)
def fE (s_:(List aK)) (f_:Int) (f_1:(List aj)) (f_2:(List aM)) (f_3:(List aK)):Option Bool:=
 (jl s_ f_ f_1 f_2 f_3).bind fun r_=>
 some (decide (0≤r_))
def ny (l:(List aK)) (most:Int) (right:Int) (right1:(List aj)) (right2:(List aM)) (right3:(List aK)):Option Bool:=
 (bif gB [((decide ((l.length:Int)≤most)),true)]then fE l right right1 right2 right3 else some default).bind fun r_=>
 some (bif (decide ((l.length:Int)≤most))then(!r_)else false)
def lD (p:au):Option Int:=
 (bQ p.ax 1 24).bind fun r_=>
 bif (!r_)then
 some 10
 else
 (qo p).bind fun r_1=>
 (qF p.ai 8 r_1.1 r_1.2.1 r_1.2.2.1 r_1.2.2.2).bind fun r_2=>
 bif (!r_2)then
 some 11
 else
 (uZ p).bind fun r_3=>
 (nu p.af 40 r_3.1 r_3.2.1 r_3.2.2.1 r_3.2.2.2).bind fun r_4=>
 bif (!r_4)then
 some 12
 else
 (vk p).bind fun r_5=>
 (ny p.aF 24 r_5.1 r_5.2.1 r_5.2.2.1 r_5.2.2.2).bind fun r_6=>
 bif (!r_6)then
 some 13
 else
 some 0
def gK (p:au) (s_:ay):Int→Option (bn Int (Ex Unit Int)):=
 fun t55=>
 bif (decide (t55<([(⟨s_.bK,(p.af.length:Int)⟩:dS),(⟨s_.fe,(p.af.length:Int)⟩:dS),(⟨s_.bG,(p.af.length:Int)⟩:dS),(⟨s_.on_,(p.ai.length:Int)⟩:dS),(⟨s_.bL,(p.ai.length:Int)⟩:dS),(⟨s_.fq,p.ax⟩:dS),(⟨s_.aG,p.ax⟩:dS)].length:Int)))then
 dL ((0:Int)≤t55∧t55<([(⟨s_.bK,(p.af.length:Int)⟩:dS),(⟨s_.fe,(p.af.length:Int)⟩:dS),(⟨s_.bG,(p.af.length:Int)⟩:dS),(⟨s_.on_,(p.ai.length:Int)⟩:dS),(⟨s_.bL,(p.ai.length:Int)⟩:dS),(⟨s_.fq,p.ax⟩:dS),(⟨s_.aG,p.ax⟩:dS)].length:Int)) (
 bif (!decide ((((at' [(⟨s_.bK,(p.af.length:Int)⟩:dS),(⟨s_.fe,(p.af.length:Int)⟩:dS),(⟨s_.bG,(p.af.length:Int)⟩:dS),(⟨s_.on_,(p.ai.length:Int)⟩:dS),(⟨s_.bL,(p.ai.length:Int)⟩:dS),(⟨s_.fq,p.ax⟩:dS),(⟨s_.aG,p.ax⟩:dS)] t55.toNat).l).length:Int)=((at' [(⟨s_.bK,(p.af.length:Int)⟩:dS),(⟨s_.fe,(p.af.length:Int)⟩:dS),(⟨s_.bG,(p.af.length:Int)⟩:dS),(⟨s_.on_,(p.ai.length:Int)⟩:dS),(⟨s_.bL,(p.ai.length:Int)⟩:dS),(⟨s_.fq,p.ax⟩:dS),(⟨s_.aG,p.ax⟩:dS)] t55.toNat).n)))then
 some (.done (.ret 9))
 else
 some (.next (IntKind.wrap .i64 (t55+1))))
 else
 some (.done (.brk ()))
def gL (p:au) (s_:ay):Int→Option (bn Int (Ex Unit Int)):=
 fun t69=>
 bif (decide (t69<(p.af.length:Int)))then
 dL ((0:Int)≤t69∧t69<(p.af.length:Int)) (
 dL ((gB [((decide (((at' p.af t69.toNat).kind)=1)),true)]=true→(0:Int)≤t69∧t69<(s_.bK.length:Int))∧(gB [((!(at' s_.bK t69.toNat)),false),((decide (((at' p.af t69.toNat).kind)=1)),true)]=true→(0:Int)≤t69∧t69<(s_.fe.length:Int))) (
 bif (bif (decide (((at' p.af t69.toNat).kind)=1))then(bif (!(at' s_.bK t69.toNat))then true else(at' s_.fe t69.toNat))else false)then
 some (.done (.ret 9))
 else
 some (.next (IntKind.wrap .i64 (t69+1)))))
 else
 some (.done (.brk ()))
def dF (p:au) (s_:ay):Option Int:=
 (lD p).bind fun r_=>
 bif (!decide (r_=0))then
 some r_
 else
 Option.bind (bH (gK p s_) FUEL (0)) fun o=>match o with
 | .ret v=>some v
 | .brk _=>
 Option.bind (bH (gL p s_) FUEL (0)) fun o=>match o with
 | .ret v=>some v
 | .brk _=>
 some 0
def iP (p:au) (s_:ay) (k:Int):Option Bool:=
 dL (((0:Int)≤k∧k<(s_.on_.length:Int))∧(gB [((at' s_.on_ k.toNat),true)]=true→(0:Int)≤k∧k<(s_.bL.length:Int))∧(gB [((bif (at' s_.on_ k.toNat)then(!(at' s_.bL k.toNat))else false),true)]=true→(0:Int)≤k∧k<(p.ai.length:Int))∧(gB [((bif (at' s_.on_ k.toNat)then(!(at' s_.bL k.toNat))else false),true)]=true→(0:Int)≤(at' p.ai k.toNat).bus∧(at' p.ai k.toNat).bus<(s_.aG.length:Int))) (
 some (bif (bif (at' s_.on_ k.toNat)then(!(at' s_.bL k.toNat))else false)then(!(at' s_.aG (((at' p.ai k.toNat).bus).toNat)))else false))
def fG (p:au) (s_:ay) (i:Int):Option Bool:=
 dL ((0:Int)≤i∧i<(p.af.length:Int)) (
 dL (((0:Int)≤i∧i<(s_.bK.length:Int))∧(gB [((at' s_.bK i.toNat),true)]=true→(0:Int)≤i∧i<(s_.bG.length:Int))∧(gB [((bif (at' s_.bK i.toNat)then(!(at' s_.bG i.toNat))else false),true)]=true→(0:Int)≤(at' p.af i.toNat).a∧(at' p.af i.toNat).a<(s_.aG.length:Int))∧(gB [((bif (bif (at' s_.bK i.toNat)then(!(at' s_.bG i.toNat))else false)then(!(at' s_.aG (((at' p.af i.toNat).a).toNat)))else false),true)]=true→(0:Int)≤(at' p.af i.toNat).b∧(at' p.af i.toNat).b<(s_.aG.length:Int))) (
 some (bif (bif (bif (at' s_.bK i.toNat)then(!(at' s_.bG i.toNat))else false)then(!(at' s_.aG (((at' p.af i.toNat).a).toNat)))else false)then(!(at' s_.aG (((at' p.af i.toNat).b).toNat)))else false)))
def lI (s_:(List Int)) (s_nn:Bool):Option (List Int):=
 bif (!s_nn)then
 some ([]:List Int)
 else
 dL (((([]:List Int).length+s_.length)*8≤140737488355328)∧(([]:List Int).length+s_.length≤4611686018427387904)) (
 some (([]:List Int)++s_))
def iH (s:(List Int)):Option (List Int):=lI s true
def sH (x:Int):Option Bool:=
 some (!decide (x=x))
def oq (x:Int) (y:Int):Option Int:=
 (sH x).bind fun r_=>
 (sH y).bind fun r_1=>
 bif r_ then
 bif r_1 then
 some 0
 else
 some (-1)
 else
 bif r_1 then
 some 1
 else
 bif (decide (x<y))then
 some (-1)
 else
 bif (decide (y<x))then
 some 1
 else
 some 0
def bV (s1:(List Int)) (s2:(List Int)):Int→Option (bn Int (Ex Unit Int)):=
 fun t11=>
 bif (decide (t11<(s1.length:Int)))then
 dL ((0:Int)≤t11∧t11<(s1.length:Int)) (
 bif (decide ((s2.length:Int)≤t11))then
 some (.done (.ret 1))
 else
 dL ((0:Int)≤t11∧t11<(s2.length:Int)) (
 (oq (at' s1 t11.toNat) (at' s2 t11.toNat)).bind fun r_=>
 bif (!decide (r_=0))then
 some (.done (.ret r_))
 else
 some (.next (IntKind.wrap .i64 (t11+1)))))
 else
 some (.done (.brk ()))
def nN (s1:(List Int)) (s2:(List Int)):Option Int:=
 Option.bind (bH (bV s1 s2) FUEL (0)) fun o=>match o with
 | .ret v=>some v
 | .brk _=>
 bif (decide ((s1.length:Int)<(s2.length:Int)))then
 some (-1)
 else
 some 0
def yt (vals:(List Int)):Int→Option (bn Int (Ex Unit Int)):=
 fun t8=>
 bif (decide (t8<(vals.length:Int)))then
 dL ((0:Int)≤t8∧t8<(vals.length:Int)) (
 bif (!decide ((at' vals t8.toNat)=0))then
 some (.done (.ret (at' vals t8.toNat)))
 else
 some (.next (IntKind.wrap .i64 (t8+1))))
 else
 some (.done (.brk ()))
def Cw (vals:(List Int)):Option Int:=
 Option.bind (bH (yt vals) FUEL (0)) fun o=>match o with
 | .ret v=>some v
 | .brk _=>
 some 0
def iU (a:Way) (b:Way):Option Bool:=
 bif (!b.there)then
 some true
 else
 (nN a.af b.af).bind fun r_=>
 (Cw [(IntKind.wrap .i64 (a.bU - b.bU)),(IntKind.wrap .i64 ((a.af.length:Int) - (b.af.length:Int))),r_]).bind fun r_1=>
 some (decide (r_1<0))
def ja (p:au) (t28:Int):((List Way) × Bool × Int)→Option (bn ((List Way) × Bool × Int) (Ex ((List Way) × Bool) (bn ((List Way) × Bool × Int) (Ex ((List Way) × Bool) (bn ((List Way) × Bool) (Ex (List Way) (List Way))))))):=
 fun zz=>match zz with
 |(out4,changed3,t49)=>
 bif (decide (t49<2))then
 dL ((0:Int)≤t49∧t49<((2:Nat):Int)) (
 dL ((0:Int)≤(at' [(⟨(at' p.af t28.toNat).a,(at' p.af t28.toNat).b⟩:ah),(⟨(at' p.af t28.toNat).b,(at' p.af t28.toNat).a⟩:ah)] t49.toNat).e0∧(at' [(⟨(at' p.af t28.toNat).a,(at' p.af t28.toNat).b⟩:ah),(⟨(at' p.af t28.toNat).b,(at' p.af t28.toNat).a⟩:ah)] t49.toNat).e0<(out4.length:Int)) (
 bif (!((at' out4 (((at' [(⟨(at' p.af t28.toNat).a,(at' p.af t28.toNat).b⟩:ah),(⟨(at' p.af t28.toNat).b,(at' p.af t28.toNat).a⟩:ah)] t49.toNat).e0).toNat)).there))then
 some (.next (out4,changed3,(IntKind.wrap .i64 (t49+1))))
 else
 (iH ((at' out4 (((at' [(⟨(at' p.af t28.toNat).a,(at' p.af t28.toNat).b⟩:ah),(⟨(at' p.af t28.toNat).b,(at' p.af t28.toNat).a⟩:ah)] t49.toNat).e0).toNat)).af)).bind fun r_1=>
 dL (((r_1.length+[t28].length)*8≤140737488355328)∧(r_1.length+[t28].length≤4611686018427387904)) (
 (iU (⟨true,(IntKind.wrap .i64 (((at' out4 (((at' [(⟨(at' p.af t28.toNat).a,(at' p.af t28.toNat).b⟩:ah),(⟨(at' p.af t28.toNat).b,(at' p.af t28.toNat).a⟩:ah)] t49.toNat).e0).toNat)).bU)+((at' p.af t28.toNat).bU))),(r_1++[t28])⟩:Way) (at' out4 (((at' [(⟨(at' p.af t28.toNat).a,(at' p.af t28.toNat).b⟩:ah),(⟨(at' p.af t28.toNat).b,(at' p.af t28.toNat).a⟩:ah)] t49.toNat).e1).toNat))).bind fun r_2=>
 dL ((0:Int)≤(at' [(⟨(at' p.af t28.toNat).a,(at' p.af t28.toNat).b⟩:ah),(⟨(at' p.af t28.toNat).b,(at' p.af t28.toNat).a⟩:ah)] t49.toNat).e1∧(at' [(⟨(at' p.af t28.toNat).a,(at' p.af t28.toNat).b⟩:ah),(⟨(at' p.af t28.toNat).b,(at' p.af t28.toNat).a⟩:ah)] t49.toNat).e1<(out4.length:Int)) (
 bif r_2 then
 dL ((0:Int)≤(at' [(⟨(at' p.af t28.toNat).a,(at' p.af t28.toNat).b⟩:ah),(⟨(at' p.af t28.toNat).b,(at' p.af t28.toNat).a⟩:ah)] t49.toNat).e1∧(at' [(⟨(at' p.af t28.toNat).a,(at' p.af t28.toNat).b⟩:ah),(⟨(at' p.af t28.toNat).b,(at' p.af t28.toNat).a⟩:ah)] t49.toNat).e1<(out4.length:Int)) (
 some (.next ((out4.set (((at' [(⟨(at' p.af t28.toNat).a,(at' p.af t28.toNat).b⟩:ah),(⟨(at' p.af t28.toNat).b,(at' p.af t28.toNat).a⟩:ah)] t49.toNat).e1).toNat) (⟨true,(IntKind.wrap .i64 (((at' out4 (((at' [(⟨(at' p.af t28.toNat).a,(at' p.af t28.toNat).b⟩:ah),(⟨(at' p.af t28.toNat).b,(at' p.af t28.toNat).a⟩:ah)] t49.toNat).e0).toNat)).bU)+((at' p.af t28.toNat).bU))),(r_1++[t28])⟩:Way)),true,(IntKind.wrap .i64 (t49+1)))))
 else
 some (.next (out4,changed3,(IntKind.wrap .i64 (t49+1))))))))
 else
 some (.done (.brk (out4,changed3)))
def mW (p:au) (s_:ay):((List Way) × Bool × Int)→Option (bn ((List Way) × Bool × Int) (Ex ((List Way) × Bool) (bn ((List Way) × Bool) (Ex (List Way) (List Way))))):=
 fun zz=>match zz with
 |(out2,changed1,t28)=>
 bif (decide (t28<(p.af.length:Int)))then
 dL ((0:Int)≤t28∧t28<(p.af.length:Int)) (
 (fG p s_ t28).bind fun r_=>
 bif (!r_)then
 some (.next (out2,changed1,(IntKind.wrap .i64 (t28+1))))
 else
 Option.bind (bH (ja p t28) FUEL (out2,changed1,0)) fun o=>match o with
 | .ret v=>some v
 | .brk (out5,changed4)=>
 some (.next (out5,changed4,(IntKind.wrap .i64 (t28+1)))))
 else
 some (.done (.brk (out2,changed1)))
def j6 (p:au) (s_:ay):((List Way) × Bool)→Option (bn ((List Way) × Bool) (Ex (List Way) (List Way))):=
 fun zz=>match zz with
 |(out,changed)=>
 bif changed then
 Option.bind (bH (mW p s_) FUEL (out,false,0)) fun o=>match o with
 | .ret v=>some v
 | .brk (out3,changed2)=>
 some (.next (out3,changed2))
 else
 some (.done (.brk out))
def mO (p:au) (s_:ay) (bus:Int):Option (List Way):=
 dL (((0:Int)≤p.ax)∧((40:Int)*p.ax≤281474976710656)∧((p.ax:Int)≤9223372036854775807)) (
 dL ((0:Int)≤bus∧bus<((List.replicate p.ax.toNat ((⟨false,0,([]:List Int)⟩:Way):Way)).length:Int)) (
 Option.bind (bH (j6 p s_) FUEL (((List.replicate p.ax.toNat ((⟨false,0,([]:List Int)⟩:Way):Way)).set bus.toNat (⟨true,(at' (List.replicate p.ax.toNat ((⟨false,0,([]:List Int)⟩:Way):Way)) bus.toNat).bU,(at' (List.replicate p.ax.toNat ((⟨false,0,([]:List Int)⟩:Way):Way)) bus.toNat).af⟩:Way)),true)) fun o=>match o with
 | .ret v=>some v
 | .brk out1=>
 some out1))
def jY (p:au) (s_:ay) (bus:Int):((List aA) × Int)→Option (bn ((List aA) × Int) (Ex (List aA) ((List aA) × Int))):=
 fun zz=>match zz with
 |(out,t31)=>
 bif (decide (t31<(p.ai.length:Int)))then
 dL ((0:Int)≤t31∧t31<(p.ai.length:Int)) (
 (bif gB [((at' s_.aG bus.toNat),false)]then iP p s_ t31 else some default).bind fun r_1=>
 dL ((0:Int)≤bus∧bus<(s_.aG.length:Int)) (
 bif (bif (at' s_.aG bus.toNat)then true else(!r_1))then
 some (.next (out,(IntKind.wrap .i64 (t31+1))))
 else
 (mO p s_ ((at' p.ai t31.toNat).bus)).bind fun r_2=>
 dL ((0:Int)≤bus∧bus<(r_2.length:Int)) (
 bif ((at' r_2 bus.toNat).there)then
 dL (((IntKind.wrap .i64 (((at' p.ai t31.toNat).bU)+((at' r_2 bus.toNat).bU)))≠(0:Int))∧((out.length+[(⟨t31,(IntKind.wrap .i64 (((at' p.ai t31.toNat).bU)+((at' r_2 bus.toNat).bU))),(IntKind.wrap .i64 (Int.tdiv (IntKind.wrap .i64 ((IntKind.wrap .i64 ((400000:Int)+(IntKind.wrap .i64 (((at' p.ai t31.toNat).bU)+((at' r_2 bus.toNat).bU))))) - 1)) (IntKind.wrap .i64 (((at' p.ai t31.toNat).bU)+((at' r_2 bus.toNat).bU))))),(at' r_2 bus.toNat).af⟩:aA)].length)*48≤140737488355328)∧(out.length+[(⟨t31,(IntKind.wrap .i64 (((at' p.ai t31.toNat).bU)+((at' r_2 bus.toNat).bU))),(IntKind.wrap .i64 (Int.tdiv (IntKind.wrap .i64 ((IntKind.wrap .i64 ((400000:Int)+(IntKind.wrap .i64 (((at' p.ai t31.toNat).bU)+((at' r_2 bus.toNat).bU))))) - 1)) (IntKind.wrap .i64 (((at' p.ai t31.toNat).bU)+((at' r_2 bus.toNat).bU))))),(at' r_2 bus.toNat).af⟩:aA)].length≤4611686018427387904)) (
 some (.next ((out++[(⟨t31,(IntKind.wrap .i64 (((at' p.ai t31.toNat).bU)+((at' r_2 bus.toNat).bU))),(IntKind.wrap .i64 (Int.tdiv (IntKind.wrap .i64 ((IntKind.wrap .i64 ((400000:Int)+(IntKind.wrap .i64 (((at' p.ai t31.toNat).bU)+((at' r_2 bus.toNat).bU))))) - 1)) (IntKind.wrap .i64 (((at' p.ai t31.toNat).bU)+((at' r_2 bus.toNat).bU))))),(at' r_2 bus.toNat).af⟩:aA)]),(IntKind.wrap .i64 (t31+1)))))
 else
 some (.next (out,(IntKind.wrap .i64 (t31+1)))))))
 else
 some (.done (.brk out))
def fF (p:au) (s_:ay) (bus:Int):Option ((List aA) × Int):=
 (dF p s_).bind fun r_=>
 bif (!decide (r_=0))then
 some (([]:List aA),r_)
 else
 bif (bif (decide (bus<0))then true else(decide (p.ax≤bus)))then
 some (([]:List aA),1)
 else
 Option.bind (bH (jY p s_ bus) FUEL (([]:List aA),0)) fun o=>match o with
 | .ret v=>some v
 | .brk out1=>
 some (out1,0)
def yH (s_:(List Int)) (v_:Int):Int→Option (bn Int (Ex Unit Int)):=
 fun t8=>
 bif (decide (t8<(s_.length:Int)))then
 dL ((0:Int)≤t8∧t8<(s_.length:Int)) (
 bif (decide (v_=(at' s_ t8.toNat)))then
 some (.done (.ret t8))
 else
 some (.next (IntKind.wrap .i64 (t8+1))))
 else
 some (.done (.brk ()))
def wU (s_:(List Int)) (v_:Int):Option Int:=
 Option.bind (bH (yH s_ v_) FUEL (0)) fun o=>match o with
 | .ret v=>some v
 | .brk _=>
 some (-1)
def p8 (s_:(List Int)) (v_:Int):Option Bool:=
 (wU s_ v_).bind fun r_=>
 some (decide (0≤r_))
def q9 (i:Int) (o_:(List Int)):Option Bool:=
 some (bif (decide (i<0))then true else(decide ((o_.length:Int)≤i)))
def oJ (s_:(List Int)) (o_:(List Int)):Int→Option (bn Int (Ex Unit Int)):=
 fun t8=>
 bif (decide (t8<(s_.length:Int)))then
 (q9 (at' s_ t8.toNat) o_).bind fun r_=>
 dL ((0:Int)≤t8∧t8<(s_.length:Int)) (
 bif r_ then
 some (.done (.ret t8))
 else
 some (.next (IntKind.wrap .i64 (t8+1))))
 else
 some (.done (.brk ()))
def lG (s_:(List Int)) (o_:(List Int)):Option Int:=
 Option.bind (bH (oJ s_ o_) FUEL (0)) fun o=>match o with
 | .ret v=>some v
 | .brk _=>
 some (-1)
def jV (s_:(List Int)) (o_:(List Int)):Option Bool:=
 (lG s_ o_).bind fun r_=>
 some (decide (0≤r_))
def yF (l:(List aA)) (out0:(List Int)) (t25:Int):((List Int) × Int)→Option (bn ((List Int) × Int) (Ex (List Int) (bn ((List Int) × Int) (Ex (List Int) ((List Int) × Bool × Int))))):=
 fun zz=>match zz with
 |(out02,t45)=>
 bif (decide (t45<(out0.length:Int)))then
 (p8 ((at' l t25.toNat).af) t45).bind fun r_2=>
 bif r_2 then
 dL ((0:Int)≤t45∧t45<(out02.length:Int)) (
 some (.next ((out02.set t45.toNat (IntKind.wrap .i64 ((at' out02 t45.toNat)+((at' l t25.toNat).amps)))),(IntKind.wrap .i64 (t45+1)))))
 else
 some (.next (out02,(IntKind.wrap .i64 (t45+1))))
 else
 some (.done (.brk out02))
def yj (l:(List aA)):((List Int) × Int)→Option (bn ((List Int) × Int) (Ex (List Int) ((List Int) × Bool × Int))):=
 fun zz=>match zz with
 |(out0,t25)=>
 bif (decide (t25<(l.length:Int)))then
 dL ((0:Int)≤t25∧t25<(l.length:Int)) (
 (bif gB [((bif (decide (((at' l t25.toNat).amps)<0))then true else(decide (1000000<((at' l t25.toNat).amps)))),false)]then jV ((at' l t25.toNat).af) out0 else some default).bind fun r_1=>
 bif (bif (bif (decide (((at' l t25.toNat).amps)<0))then true else(decide (1000000<((at' l t25.toNat).amps))))then true else r_1)then
 some (.done (.ret (([]:List Int),false,1)))
 else
 Option.bind (bH (yF l out0 t25) FUEL (out0,0)) fun o=>match o with
 | .ret v=>some v
 | .brk out03=>
 some (.next (out03,(IntKind.wrap .i64 (t25+1)))))
 else
 some (.done (.brk out0))
def jT (p:au) (l:(List aA)):Option ((List Int) × Bool × Int):=
 (lD p).bind fun r_=>
 bif (!decide (r_=0))then
 some (([]:List Int),false,r_)
 else
 bif (decide (8<(l.length:Int)))then
 some (([]:List Int),false,1)
 else
 dL (((0:Int)≤(p.af.length:Int))∧((8:Int)*(p.af.length:Int)≤281474976710656)∧(((p.af.length:Int):Int)≤9223372036854775807)) (
 Option.bind (bH (yj l) FUEL ((List.replicate ((p.af.length:Int).toNat) (0:Int)),0)) fun o=>match o with
 | .ret v=>some v
 | .brk out01=>
 some (out01,true,0))
def mY (s_:ay) (b:Int):Option Bool:=
 dL (gB [((decide (0≤b)),true)]=true→(0:Int)≤b∧b<(s_.aG.length:Int)) (
 some (bif (decide (0≤b))then(!(at' s_.aG b.toNat))else false))
def gU (a:Int) (b:Int) (there:Int) (back:Int) (network:aH):Option (Int × aH):=
 dL (((network.bO.length+[(⟨b,there⟩:cO),(⟨a,back⟩:cO)].length)*16≤140737488355328)∧(network.bO.length+[(⟨b,there⟩:cO),(⟨a,back⟩:cO)].length≤4611686018427387904)) (
 dL (((0:Int)≤a∧a<(network.from_.length:Int))∧(((at' network.from_ a.toNat).length+[(network.bO.length:Int)].length)*8≤140737488355328)∧((at' network.from_ a.toNat).length+[(network.bO.length:Int)].length≤4611686018427387904)) (
 dL (((0:Int)≤b∧b<((network.from_.set a.toNat ((at' network.from_ a.toNat)++[(network.bO.length:Int)])).length:Int))∧(((at' (network.from_.set a.toNat ((at' network.from_ a.toNat)++[(network.bO.length:Int)])) b.toNat).length+[(IntKind.wrap .i64 ((network.bO.length:Int)+1))].length)*8≤140737488355328)∧((at' (network.from_.set a.toNat ((at' network.from_ a.toNat)++[(network.bO.length:Int)])) b.toNat).length+[(IntKind.wrap .i64 ((network.bO.length:Int)+1))].length≤4611686018427387904)) (
 some ((network.bO.length:Int),(⟨(network.bO++[(⟨b,there⟩:cO),(⟨a,back⟩:cO)]),((network.from_.set a.toNat ((at' network.from_ a.toNat)++[(network.bO.length:Int)])).set b.toNat ((at' (network.from_.set a.toNat ((at' network.from_ a.toNat)++[(network.bO.length:Int)])) b.toNat)++[(IntKind.wrap .i64 ((network.bO.length:Int)+1))]))⟩:aH)))))
def iR (network:aH):Option Unit:=
 some ()
def mI (x19:Int) (x20:Int) (o_:(List Int)) (network:aH):(Int × Int)→Option (bn (Int × Int) (Ex Int (Nat × (List Int) × aH))):=
 fun zz=>match zz with
 |(least,at_)=>
 dL ((0:Int)≤at_∧at_<((o_.set x19.toNat x20).length:Int)) (
 bif (decide (0≤(at' (o_.set x19.toNat x20) at_.toNat)))then
 Option.bind (α:=Int) (
 dL (((0:Int)≤at_∧at_<((o_.set x19.toNat x20).length:Int))∧((0:Int)≤(at' (o_.set x19.toNat x20) at_.toNat)∧(at' (o_.set x19.toNat x20) at_.toNat)<(network.bO.length:Int))) (
 bif (bif (decide (least<0))then true else(decide (((at' network.bO ((at' (o_.set x19.toNat x20) at_.toNat).toNat)).left)<least)))then
 some ((at' network.bO ((at' (o_.set x19.toNat x20) at_.toNat).toNat)).left)
 else
 some least)) fun least2=>
 dL (((0:Int)≤at_∧at_<((o_.set x19.toNat x20).length:Int))∧((0:Int)≤(IntKind.wrap .i64 (((BitVec.ofInt (IntKind.bits .i64) (at' (o_.set x19.toNat x20) at_.toNat) ^^^ BitVec.ofInt (IntKind.bits .i64) 1).toNat:Int)))∧(IntKind.wrap .i64 (((BitVec.ofInt (IntKind.bits .i64) (at' (o_.set x19.toNat x20) at_.toNat) ^^^ BitVec.ofInt (IntKind.bits .i64) 1).toNat:Int)))<(network.bO.length:Int))) (
 some (.next (least2,(at' network.bO ((IntKind.wrap .i64 (((BitVec.ofInt (IntKind.bits .i64) (at' (o_.set x19.toNat x20) at_.toNat) ^^^ BitVec.ofInt (IntKind.bits .i64) 1).toNat:Int))).toNat)).to_)))
 else
 some (.done (.brk least)))
def mh (x19:Int) (x20:Int) (o_:(List Int)) (least1:Int):((List cO) × Int)→Option (bn ((List cO) × Int) (Ex (List cO) (Nat × (List Int) × aH))):=
 fun zz=>match zz with
 |(o200,at_1)=>
 dL ((0:Int)≤at_1∧at_1<((o_.set x19.toNat x20).length:Int)) (
 bif (decide (0≤(at' (o_.set x19.toNat x20) at_1.toNat)))then
 dL (((0:Int)≤at_1∧at_1<((o_.set x19.toNat x20).length:Int))∧((0:Int)≤(at' (o_.set x19.toNat x20) at_1.toNat)∧(at' (o_.set x19.toNat x20) at_1.toNat)<(o200.length:Int))) (
 dL (((0:Int)≤at_1∧at_1<((o_.set x19.toNat x20).length:Int))∧((0:Int)≤(IntKind.wrap .i64 (((BitVec.ofInt (IntKind.bits .i64) (at' (o_.set x19.toNat x20) at_1.toNat) ^^^ BitVec.ofInt (IntKind.bits .i64) 1).toNat:Int)))∧(IntKind.wrap .i64 (((BitVec.ofInt (IntKind.bits .i64) (at' (o_.set x19.toNat x20) at_1.toNat) ^^^ BitVec.ofInt (IntKind.bits .i64) 1).toNat:Int)))<((o200.set ((at' (o_.set x19.toNat x20) at_1.toNat).toNat) (⟨(at' o200 ((at' (o_.set x19.toNat x20) at_1.toNat).toNat)).to_,(IntKind.wrap .i64 (((at' o200 ((at' (o_.set x19.toNat x20) at_1.toNat).toNat)).left) - least1))⟩:cO)).length:Int))) (
 dL (((0:Int)≤at_1∧at_1<((o_.set x19.toNat x20).length:Int))∧((0:Int)≤(IntKind.wrap .i64 (((BitVec.ofInt (IntKind.bits .i64) (at' (o_.set x19.toNat x20) at_1.toNat) ^^^ BitVec.ofInt (IntKind.bits .i64) 1).toNat:Int)))∧(IntKind.wrap .i64 (((BitVec.ofInt (IntKind.bits .i64) (at' (o_.set x19.toNat x20) at_1.toNat) ^^^ BitVec.ofInt (IntKind.bits .i64) 1).toNat:Int)))<(((o200.set ((at' (o_.set x19.toNat x20) at_1.toNat).toNat) (⟨(at' o200 ((at' (o_.set x19.toNat x20) at_1.toNat).toNat)).to_,(IntKind.wrap .i64 (((at' o200 ((at' (o_.set x19.toNat x20) at_1.toNat).toNat)).left) - least1))⟩:cO)).set ((IntKind.wrap .i64 (((BitVec.ofInt (IntKind.bits .i64) (at' (o_.set x19.toNat x20) at_1.toNat) ^^^ BitVec.ofInt (IntKind.bits .i64) 1).toNat:Int))).toNat) (⟨(at' (o200.set ((at' (o_.set x19.toNat x20) at_1.toNat).toNat) (⟨(at' o200 ((at' (o_.set x19.toNat x20) at_1.toNat).toNat)).to_,(IntKind.wrap .i64 (((at' o200 ((at' (o_.set x19.toNat x20) at_1.toNat).toNat)).left) - least1))⟩:cO)) ((IntKind.wrap .i64 (((BitVec.ofInt (IntKind.bits .i64) (at' (o_.set x19.toNat x20) at_1.toNat) ^^^ BitVec.ofInt (IntKind.bits .i64) 1).toNat:Int))).toNat)).to_,(IntKind.wrap .i64 (((at' (o200.set ((at' (o_.set x19.toNat x20) at_1.toNat).toNat) (⟨(at' o200 ((at' (o_.set x19.toNat x20) at_1.toNat).toNat)).to_,(IntKind.wrap .i64 (((at' o200 ((at' (o_.set x19.toNat x20) at_1.toNat).toNat)).left) - least1))⟩:cO)) ((IntKind.wrap .i64 (((BitVec.ofInt (IntKind.bits .i64) (at' (o_.set x19.toNat x20) at_1.toNat) ^^^ BitVec.ofInt (IntKind.bits .i64) 1).toNat:Int))).toNat)).left)+least1))⟩:cO)).length:Int))) (
 some (.next (((o200.set ((at' (o_.set x19.toNat x20) at_1.toNat).toNat) (⟨(at' o200 ((at' (o_.set x19.toNat x20) at_1.toNat).toNat)).to_,(IntKind.wrap .i64 (((at' o200 ((at' (o_.set x19.toNat x20) at_1.toNat).toNat)).left) - least1))⟩:cO)).set ((IntKind.wrap .i64 (((BitVec.ofInt (IntKind.bits .i64) (at' (o_.set x19.toNat x20) at_1.toNat) ^^^ BitVec.ofInt (IntKind.bits .i64) 1).toNat:Int))).toNat) (⟨(at' (o200.set ((at' (o_.set x19.toNat x20) at_1.toNat).toNat) (⟨(at' o200 ((at' (o_.set x19.toNat x20) at_1.toNat).toNat)).to_,(IntKind.wrap .i64 (((at' o200 ((at' (o_.set x19.toNat x20) at_1.toNat).toNat)).left) - least1))⟩:cO)) ((IntKind.wrap .i64 (((BitVec.ofInt (IntKind.bits .i64) (at' (o_.set x19.toNat x20) at_1.toNat) ^^^ BitVec.ofInt (IntKind.bits .i64) 1).toNat:Int))).toNat)).to_,(IntKind.wrap .i64 (((at' (o200.set ((at' (o_.set x19.toNat x20) at_1.toNat).toNat) (⟨(at' o200 ((at' (o_.set x19.toNat x20) at_1.toNat).toNat)).to_,(IntKind.wrap .i64 (((at' o200 ((at' (o_.set x19.toNat x20) at_1.toNat).toNat)).left) - least1))⟩:cO)) ((IntKind.wrap .i64 (((BitVec.ofInt (IntKind.bits .i64) (at' (o_.set x19.toNat x20) at_1.toNat) ^^^ BitVec.ofInt (IntKind.bits .i64) 1).toNat:Int))).toNat)).left)+least1))⟩:cO)),(at' ((o200.set ((at' (o_.set x19.toNat x20) at_1.toNat).toNat) (⟨(at' o200 ((at' (o_.set x19.toNat x20) at_1.toNat).toNat)).to_,(IntKind.wrap .i64 (((at' o200 ((at' (o_.set x19.toNat x20) at_1.toNat).toNat)).left) - least1))⟩:cO)).set ((IntKind.wrap .i64 (((BitVec.ofInt (IntKind.bits .i64) (at' (o_.set x19.toNat x20) at_1.toNat) ^^^ BitVec.ofInt (IntKind.bits .i64) 1).toNat:Int))).toNat) (⟨(at' (o200.set ((at' (o_.set x19.toNat x20) at_1.toNat).toNat) (⟨(at' o200 ((at' (o_.set x19.toNat x20) at_1.toNat).toNat)).to_,(IntKind.wrap .i64 (((at' o200 ((at' (o_.set x19.toNat x20) at_1.toNat).toNat)).left) - least1))⟩:cO)) ((IntKind.wrap .i64 (((BitVec.ofInt (IntKind.bits .i64) (at' (o_.set x19.toNat x20) at_1.toNat) ^^^ BitVec.ofInt (IntKind.bits .i64) 1).toNat:Int))).toNat)).to_,(IntKind.wrap .i64 (((at' (o200.set ((at' (o_.set x19.toNat x20) at_1.toNat).toNat) (⟨(at' o200 ((at' (o_.set x19.toNat x20) at_1.toNat).toNat)).to_,(IntKind.wrap .i64 (((at' o200 ((at' (o_.set x19.toNat x20) at_1.toNat).toNat)).left) - least1))⟩:cO)) ((IntKind.wrap .i64 (((BitVec.ofInt (IntKind.bits .i64) (at' (o_.set x19.toNat x20) at_1.toNat) ^^^ BitVec.ofInt (IntKind.bits .i64) 1).toNat:Int))).toNat)).left)+least1))⟩:cO)) ((IntKind.wrap .i64 (((BitVec.ofInt (IntKind.bits .i64) (at' (o_.set x19.toNat x20) at_1.toNat) ^^^ BitVec.ofInt (IntKind.bits .i64) 1).toNat:Int))).toNat)).to_)))))
 else
 some (.done (.brk o200)))
def jI (x19:Int) (x20:Int) (int:Int) (o_:(List Int)) (network:aH):Option (Nat × (List Int) × aH):=
 dL ((0:Int)≤x19∧x19<(o_.length:Int)) (
 bif (!decide (x19=int))then
 some (0,(o_.set x19.toNat x20),network)
 else
 Option.bind (bH (mI x19 x20 o_ network) FUEL ((-1),int)) fun o=>match o with
 | .ret v=>some v
 | .brk least1=>
 Option.bind (bH (mh x19 x20 o_ least1) FUEL (network.bO,int)) fun o=>match o with
 | .ret v=>some v
 | .brk o2001=>
 some (2,(o_.set x19.toNat x20),(⟨o2001,network.from_⟩:aH)))
def nQ (x:ah) (o_:bA):Option bA:=
 dL (((o_.l.length+[x].length)*16≤140737488355328)∧(o_.l.length+[x].length≤4611686018427387904)) (
 some (⟨(o_.l++[x])⟩:bA))
def mH (o_:bA):Option (ah × Bool × bA):=
 bif (decide ((o_.l.length:Int)=0))then
 some ((⟨0,0⟩:ah),false,o_)
 else
 dL (((0:Int)≤0∧0<(o_.l.length:Int))∧((0:Int)≤(1:Int)∧(1:Int)≤(o_.l.length:Int))) (
 some ((at' o_.l 0),true,(⟨(o_.l.drop 1)⟩:bA)))
def mD (at0:Int) (r_:(Nat × (List Int) × aH)):((List Bool) × (List ah) × Int)→Option (bn ((List Bool) × (List ah) × Int) (Ex ((List Bool) × (List ah)) (bn ((List cO) × (List (List Int)) × (List Int) × (List Bool) × (List ah) × Int × Int) (Ex Unit (Nat × (List Int) × aH))))):=
 fun zz=>match zz with
 |(seen1,q01,t36)=>
 bif (decide (t36<((at' r_.2.2.from_ at0.toNat).length:Int)))then
 dL ((0:Int)≤t36∧t36<((at' r_.2.2.from_ at0.toNat).length:Int)) (
 dL ((0:Int)≤(at' (at' r_.2.2.from_ at0.toNat) t36.toNat)∧(at' (at' r_.2.2.from_ at0.toNat) t36.toNat)<(r_.2.2.bO.length:Int)) (
 dL (gB [((decide (0<((at' r_.2.2.bO ((at' (at' r_.2.2.from_ at0.toNat) t36.toNat).toNat)).left))),true)]=true→(0:Int)≤(at' r_.2.2.bO ((at' (at' r_.2.2.from_ at0.toNat) t36.toNat).toNat)).to_∧(at' r_.2.2.bO ((at' (at' r_.2.2.from_ at0.toNat) t36.toNat).toNat)).to_<(seen1.length:Int)) (
 bif (bif (decide (0<((at' r_.2.2.bO ((at' (at' r_.2.2.from_ at0.toNat) t36.toNat).toNat)).left)))then(!(at' seen1 (((at' r_.2.2.bO ((at' (at' r_.2.2.from_ at0.toNat) t36.toNat).toNat)).to_).toNat)))else false)then
 dL ((0:Int)≤(at' r_.2.2.bO ((at' (at' r_.2.2.from_ at0.toNat) t36.toNat).toNat)).to_∧(at' r_.2.2.bO ((at' (at' r_.2.2.from_ at0.toNat) t36.toNat).toNat)).to_<(seen1.length:Int)) (
 (nQ (⟨(at' r_.2.2.bO ((at' (at' r_.2.2.from_ at0.toNat) t36.toNat).toNat)).to_,(at' (at' r_.2.2.from_ at0.toNat) t36.toNat)⟩:ah) (⟨q01⟩:bA)).bind fun r_1=>
 some (.next ((seen1.set (((at' r_.2.2.bO ((at' (at' r_.2.2.from_ at0.toNat) t36.toNat).toNat)).to_).toNat) true),r_1.l,(IntKind.wrap .i64 (t36+1)))))
 else
 some (.next (seen1,q01,(IntKind.wrap .i64 (t36+1)))))))
 else
 some (.done (.brk (seen1,q01)))
def mr (int:Int):((List cO) × (List (List Int)) × (List Int) × (List Bool) × (List ah) × Int × Int)→Option (bn ((List cO) × (List (List Int)) × (List Int) × (List Bool) × (List ah) × Int × Int) (Ex Unit (Nat × (List Int) × aH))):=
 fun zz=>match zz with
 |(o200,o201,o40,seen,q0,at0,at1)=>
 (jI at0 at1 int o40 (⟨o200,o201⟩:aH)).bind fun r_=>
 bif (Nat.beq r_.1 0)then
 dL ((0:Int)≤at0∧at0<(r_.2.2.from_.length:Int)) (
 Option.bind (bH (mD at0 r_) FUEL (seen,q0,0)) fun o=>match o with
 | .ret v=>some v
 | .brk (seen2,q02)=>
 (mH (⟨q02⟩:bA)).bind fun r_2=>
 bif (!r_2.2.1)then
 some (.done (.ret (0,r_.2.1,r_.2.2)))
 else
 some (.next (r_.2.2.bO,r_.2.2.from_,r_.2.1,seen2,r_2.2.2.l,r_2.1.e0,r_2.1.e1)))
 else
 some (.done (.ret (r_.1,r_.2.1,r_.2.2)))
def jJ (int:Int) (o_:(List Int)) (network:aH):Option (Nat × (List Int) × aH):=
 dL (((0:Int)≤(network.from_.length:Int))∧((1:Int)*(network.from_.length:Int)≤281474976710656)∧(((network.from_.length:Int):Int)≤9223372036854775807)) (
 dL ((0:Int)≤0∧0<((List.replicate ((network.from_.length:Int).toNat) (false:Bool)).length:Int)) (
 Option.bind (bH (mr int) FUEL (network.bO,network.from_,o_,((List.replicate ((network.from_.length:Int).toNat) (false:Bool)).set 0 true),([]:List ah),0,(-1))) fun o=>match o with
 | .ret v=>some v
 | .brk _=>none))
def pQ (sink:Int):((List cO) × (List (List Int)))→Option (bn ((List cO) × (List (List Int))) (Ex Unit aH)):=
 fun zz=>match zz with
 |(o0,o1)=>
 dL (((0:Int)≤(o1.length:Int))∧((8:Int)*(o1.length:Int)≤281474976710656)∧(((o1.length:Int):Int)≤9223372036854775807)) (
 (iR (⟨o0,o1⟩:aH)).bind fun r_=>
 (jJ sink (List.replicate ((o1.length:Int).toNat) (0:Int)) (⟨o0,o1⟩:aH)).bind fun r_1=>
 bif Nat.beq r_1.1 0 then
 some (.done (.ret r_1.2.2))
 else
 dL (r_1.1=2) (
 some (.next (r_1.2.2.bO,r_1.2.2.from_))))
def nR (sink:Int) (network:aH):Option aH:=
 Option.bind (bH (pQ sink) FUEL (network.bO,network.from_)) fun o=>match o with
 | .ret v=>some v
 | .brk _=>none
def qC (x236:Int) (x237:Int) (plant:au) (o_:(List Bool)):Option (List Bool):=
 bif (bif (decide (0<x236))then(decide (x236≤plant.ax))else false)then
 dL ((0:Int)≤(IntKind.wrap .i64 (x236 - 1))∧(IntKind.wrap .i64 (x236 - 1))<(o_.length:Int)) (
 some (o_.set ((IntKind.wrap .i64 (x236 - 1)).toNat) true))
 else
 some o_
def kC (x1:(List cO)) (x11:(List (List Int))) (at0:Int):((List Bool) × (List ah) × Int)→Option (bn ((List Bool) × (List ah) × Int) (Ex ((List Bool) × (List ah)) (bn ((List Bool) × (List Bool) × (List ah) × Int × Int) (Ex Unit (List Bool))))):=
 fun zz=>match zz with
 |(seen1,q01,t36)=>
 bif (decide (t36<((at' x11 at0.toNat).length:Int)))then
 dL ((0:Int)≤t36∧t36<((at' x11 at0.toNat).length:Int)) (
 dL ((0:Int)≤(at' (at' x11 at0.toNat) t36.toNat)∧(at' (at' x11 at0.toNat) t36.toNat)<(x1.length:Int)) (
 dL (gB [((decide (0<((at' x1 ((at' (at' x11 at0.toNat) t36.toNat).toNat)).left))),true)]=true→(0:Int)≤(at' x1 ((at' (at' x11 at0.toNat) t36.toNat).toNat)).to_∧(at' x1 ((at' (at' x11 at0.toNat) t36.toNat).toNat)).to_<(seen1.length:Int)) (
 bif (bif (decide (0<((at' x1 ((at' (at' x11 at0.toNat) t36.toNat).toNat)).left)))then(!(at' seen1 (((at' x1 ((at' (at' x11 at0.toNat) t36.toNat).toNat)).to_).toNat)))else false)then
 dL ((0:Int)≤(at' x1 ((at' (at' x11 at0.toNat) t36.toNat).toNat)).to_∧(at' x1 ((at' (at' x11 at0.toNat) t36.toNat).toNat)).to_<(seen1.length:Int)) (
 (nQ (⟨(at' x1 ((at' (at' x11 at0.toNat) t36.toNat).toNat)).to_,(at' (at' x11 at0.toNat) t36.toNat)⟩:ah) (⟨q01⟩:bA)).bind fun r_1=>
 some (.next ((seen1.set (((at' x1 ((at' (at' x11 at0.toNat) t36.toNat).toNat)).to_).toNat) true),r_1.l,(IntKind.wrap .i64 (t36+1)))))
 else
 some (.next (seen1,q01,(IntKind.wrap .i64 (t36+1)))))))
 else
 some (.done (.brk (seen1,q01)))
def j5 (x1:(List cO)) (x11:(List (List Int))) (plant:au):((List Bool) × (List Bool) × (List ah) × Int × Int)→Option (bn ((List Bool) × (List Bool) × (List ah) × Int × Int) (Ex Unit (List Bool))):=
 fun zz=>match zz with
 |(o280,seen,q0,at0,at1)=>
 (qC at0 at1 plant o280).bind fun r_=>
 dL ((0:Int)≤at0∧at0<(x11.length:Int)) (
 Option.bind (bH (kC x1 x11 at0) FUEL (seen,q0,0)) fun o=>match o with
 | .ret v=>some v
 | .brk (seen2,q02)=>
 (mH (⟨q02⟩:bA)).bind fun r_2=>
 bif (!r_2.2.1)then
 some (.done (.ret r_))
 else
 some (.next (r_,seen2,r_2.2.2.l,r_2.1.e0,r_2.1.e1)))
def iT (x1:(List cO)) (x11:(List (List Int))) (plant:au) (o_:(List Bool)):Option (List Bool):=
 dL (((0:Int)≤(x11.length:Int))∧((1:Int)*(x11.length:Int)≤281474976710656)∧(((x11.length:Int):Int)≤9223372036854775807)) (
 dL ((0:Int)≤0∧0<((List.replicate ((x11.length:Int).toNat) (false:Bool)).length:Int)) (
 Option.bind (bH (j5 x1 x11 plant) FUEL (o_,((List.replicate ((x11.length:Int).toNat) (false:Bool)).set 0 true),([]:List ah),0,(-1))) fun o=>match o with
 | .ret v=>some v
 | .brk _=>none))
def sN (p:au) (s_:ay):((List cO) × (List (List Int)) × (List (Int × Int)) × Int)→Option (bn ((List cO) × (List (List Int)) × (List (Int × Int)) × Int) (Ex ((List aj) × (List cO) × (List (List Int)) × (List Int) × (List (Int × Int))) (aS × (List Bool) × Int))):=
 fun zz=>match zz with
 |(n0,n1,ai,t68)=>
 bif (decide (t68<(p.ai.length:Int)))then
 dL ((0:Int)≤t68∧t68<(p.ai.length:Int)) (
 (iP p s_ t68).bind fun r_1=>
 bif r_1 then
 (gU 0 (IntKind.wrap .i64 ((1:Int)+((at' p.ai t68.toNat).bus))) ((at' p.ai t68.toNat).cK) 0 (⟨n0,n1⟩:aH)).bind fun r_2=>
 some (.next (r_2.2.bO,r_2.2.from_,(dZ gm t68 r_2.1 ai),(IntKind.wrap .i64 (t68+1))))
 else
 some (.next (n0,n1,ai,(IntKind.wrap .i64 (t68+1)))))
 else
 some (.done (.brk (p.ai,n0,n1,(List.replicate ((p.ai.length:Int).toNat) (0:Int)),ai)))
def sQ (p:au) (s_:ay) (p1:(List aj)):((List cO) × (List (List Int)) × (List (Int × Int)) × Int)→Option (bn ((List cO) × (List (List Int)) × (List (Int × Int)) × Int) (Ex ((List aM) × (List cO) × (List (List Int)) × (List Int) × (List (Int × Int))) (aS × (List Bool) × Int))):=
 fun zz=>match zz with
 |(n02,n12,af,t90)=>
 bif (decide (t90<(p.af.length:Int)))then
 dL ((0:Int)≤t90∧t90<(p.af.length:Int)) (
 (fG (⟨p.ax,p1,p.af,p.aF⟩:au) s_ t90).bind fun r_3=>
 bif r_3 then
 (gU (IntKind.wrap .i64 ((1:Int)+((at' p.af t90.toNat).a))) (IntKind.wrap .i64 ((1:Int)+((at' p.af t90.toNat).b))) ((at' p.af t90.toNat).most) ((at' p.af t90.toNat).most) (⟨n02,n12⟩:aH)).bind fun r_4=>
 some (.next (r_4.2.bO,r_4.2.from_,(dZ gm t90 r_4.1 af),(IntKind.wrap .i64 (t90+1))))
 else
 some (.next (n02,n12,af,(IntKind.wrap .i64 (t90+1)))))
 else
 some (.done (.brk (p.af,n02,n12,(List.replicate ((p.af.length:Int).toNat) (0:Int)),af)))
def sK (p:au) (s_:ay) (t115:(List aK)) (t117:Int):((List cO) × (List (List Int)) × (List (ah × Int)) × Int)→Option (bn ((List cO) × (List (List Int)) × (List (ah × Int)) × Int) (Ex ((List cO) × (List (List Int)) × (List (ah × Int))) (bn ((List aK) × Int × (List cO) × (List (List Int)) × (List ah) × (List (ah × Int)) × (List aK) × Int × Int) (Ex ((List aK) × Int × (List cO) × (List (List Int)) × (List ah) × (List (ah × Int))) (aS × (List Bool) × Int))))):=
 fun zz=>match zz with
 |(n06,n16,racks2,t134)=>
 bif (decide (t134<2))then
 dL ((0:Int)≤t134∧t134<((2:Nat):Int)) (
 (mY s_ (at' [((at' t115 t117.toNat).bY).e0,((at' t115 t117.toNat).bY).e1] t134.toNat)).bind fun r_6=>
 bif r_6 then
 (gU (IntKind.wrap .i64 ((1:Int)+(at' [((at' t115 t117.toNat).bY).e0,((at' t115 t117.toNat).bY).e1] t134.toNat))) (IntKind.wrap .i64 ((IntKind.wrap .i64 ((1:Int)+p.ax))+t117)) ((at' t115 t117.toNat).cK) 0 (⟨n06,n16⟩:aH)).bind fun r_7=>
 some (.next (r_7.2.bO,r_7.2.from_,(dZ (fun a b=>(decide (a.e0=b.e0) && (decide (a.e1=b.e1) && true))) (⟨t117,t134⟩:ah) r_7.1 racks2),(IntKind.wrap .i64 (t134+1))))
 else
 some (.next (n06,n16,racks2,(IntKind.wrap .i64 (t134+1)))))
 else
 some (.done (.brk (n06,n16,racks2)))
def sU (p:au) (s_:ay):((List aK) × Int × (List cO) × (List (List Int)) × (List ah) × (List (ah × Int)) × (List aK) × Int × Int)→Option (bn ((List aK) × Int × (List cO) × (List (List Int)) × (List ah) × (List (ah × Int)) × (List aK) × Int × Int) (Ex ((List aK) × Int × (List cO) × (List (List Int)) × (List ah) × (List (ah × Int))) (aS × (List Bool) × Int))):=
 fun zz=>match zz with
 |(p3,sink,n04,n14,x2,aF,t115,t116,t117)=>
 bif (decide (t117<t116))then
 dL ((0:Int)≤t117∧t117<(t115.length:Int)) (
 (gU (IntKind.wrap .i64 ((IntKind.wrap .i64 ((1:Int)+p.ax))+t117)) sink ((at' t115 t117.toNat).cK) 0 (⟨n04,n14⟩:aH)).bind fun r_5=>
 Option.bind (bH (sK p s_ t115 t117) FUEL (r_5.2.bO,r_5.2.from_,aF,0)) fun o=>match o with
 | .ret v=>some v
 | .brk (n07,n17,racks3)=>
 some (.next (p3,sink,n07,n17,x2,racks3,t115,t116,(IntKind.wrap .i64 (t117+1)))))
 else
 some (.done (.brk (p3,sink,n04,n14,x2,aF)))
def tC (sources1:(List (Int × Int))) (r_8:aH):(List Int)→Nat→Option (List Int):=
 fun x01 i=>
 dL (((0:Int)≤(IntKind.wrap .i64 (((BitVec.ofInt (IntKind.bits .i64) (at' (sources1.map Prod.snd) i) ^^^ BitVec.ofInt (IntKind.bits .i64) 1).toNat:Int)))∧(IntKind.wrap .i64 (((BitVec.ofInt (IntKind.bits .i64) (at' (sources1.map Prod.snd) i) ^^^ BitVec.ofInt (IntKind.bits .i64) 1).toNat:Int)))<(r_8.bO.length:Int))∧((0:Int)≤(at' (sources1.map Prod.fst) i)∧(at' (sources1.map Prod.fst) i)<(x01.length:Int))) (
 some (x01.set ((at' (sources1.map Prod.fst) i).toNat) ((at' r_8.bO ((IntKind.wrap .i64 (((BitVec.ofInt (IntKind.bits .i64) (at' (sources1.map Prod.snd) i) ^^^ BitVec.ofInt (IntKind.bits .i64) 1).toNat:Int))).toNat)).left)))
def sW (p2:(List aM)) (links1:(List (Int × Int))) (r_8:aH):(List Int)→Nat→Option (List Int):=
 fun x11 i1=>
 dL (((0:Int)≤(at' (links1.map Prod.fst) i1)∧(at' (links1.map Prod.fst) i1)<(p2.length:Int))∧((0:Int)≤(at' (links1.map Prod.snd) i1)∧(at' (links1.map Prod.snd) i1)<(r_8.bO.length:Int))∧((0:Int)≤(at' (links1.map Prod.fst) i1)∧(at' (links1.map Prod.fst) i1)<(x11.length:Int))) (
 some (x11.set ((at' (links1.map Prod.fst) i1).toNat) (IntKind.wrap .i64 (((at' p2 ((at' (links1.map Prod.fst) i1).toNat)).most) - ((at' r_8.bO ((at' (links1.map Prod.snd) i1).toNat)).left)))))
def tH (racks1:(List (ah × Int))) (r_8:aH):(List ah)→Nat→Option (List ah):=
 fun x22 i2=>
 bif (decide ((at' (racks1.map Prod.fst) i2).e1=0))then
 dL (((0:Int)≤(IntKind.wrap .i64 (((BitVec.ofInt (IntKind.bits .i64) (at' (racks1.map Prod.snd) i2) ^^^ BitVec.ofInt (IntKind.bits .i64) 1).toNat:Int)))∧(IntKind.wrap .i64 (((BitVec.ofInt (IntKind.bits .i64) (at' (racks1.map Prod.snd) i2) ^^^ BitVec.ofInt (IntKind.bits .i64) 1).toNat:Int)))<(r_8.bO.length:Int))∧((0:Int)≤(at' (racks1.map Prod.fst) i2).e0∧(at' (racks1.map Prod.fst) i2).e0<(x22.length:Int))) (
 some (x22.set (((at' (racks1.map Prod.fst) i2).e0).toNat) (⟨(at' r_8.bO ((IntKind.wrap .i64 (((BitVec.ofInt (IntKind.bits .i64) (at' (racks1.map Prod.snd) i2) ^^^ BitVec.ofInt (IntKind.bits .i64) 1).toNat:Int))).toNat)).left,(at' x22 (((at' (racks1.map Prod.fst) i2).e0).toNat)).e1⟩:ah)))
 else
 dL ((at' (racks1.map Prod.fst) i2).e1=1) (
 dL (((0:Int)≤(IntKind.wrap .i64 (((BitVec.ofInt (IntKind.bits .i64) (at' (racks1.map Prod.snd) i2) ^^^ BitVec.ofInt (IntKind.bits .i64) 1).toNat:Int)))∧(IntKind.wrap .i64 (((BitVec.ofInt (IntKind.bits .i64) (at' (racks1.map Prod.snd) i2) ^^^ BitVec.ofInt (IntKind.bits .i64) 1).toNat:Int)))<(r_8.bO.length:Int))∧((0:Int)≤(at' (racks1.map Prod.fst) i2).e0∧(at' (racks1.map Prod.fst) i2).e0<(x22.length:Int))) (
 some (x22.set (((at' (racks1.map Prod.fst) i2).e0).toNat) (⟨(at' x22 (((at' (racks1.map Prod.fst) i2).e0).toNat)).e0,(at' r_8.bO ((IntKind.wrap .i64 (((BitVec.ofInt (IntKind.bits .i64) (at' (racks1.map Prod.snd) i2) ^^^ BitVec.ofInt (IntKind.bits .i64) 1).toNat:Int))).toNat)).left⟩:ah))))
def jC (p:au) (s_:ay):Option (aS × (List Bool) × Int):=
 (dF p s_).bind fun r_=>
 bif (!decide (r_=0))then
 some ((⟨([]:List Int),([]:List Int),([]:List ah)⟩:aS),([]:List Bool),r_)
 else
 dL (((0:Int)≤(IntKind.wrap .i64 ((IntKind.wrap .i64 ((IntKind.wrap .i64 ((1:Int)+p.ax))+(p.aF.length:Int)))+1)))∧((24:Int)*(IntKind.wrap .i64 ((IntKind.wrap .i64 ((IntKind.wrap .i64 ((1:Int)+p.ax))+(p.aF.length:Int)))+1))≤281474976710656)∧(((IntKind.wrap .i64 ((IntKind.wrap .i64 ((IntKind.wrap .i64 ((1:Int)+p.ax))+(p.aF.length:Int)))+1)):Int)≤9223372036854775807)) (
 dL (((0:Int)≤(p.ai.length:Int))∧((8:Int)*(p.ai.length:Int)≤281474976710656)∧(((p.ai.length:Int):Int)≤9223372036854775807)∧((0:Int)≤(p.af.length:Int))∧((8:Int)*(p.af.length:Int)≤281474976710656)∧(((p.af.length:Int):Int)≤9223372036854775807)∧((0:Int)≤(p.aF.length:Int))∧((16:Int)*(p.aF.length:Int)≤281474976710656)∧(((p.aF.length:Int):Int)≤9223372036854775807)) (
 Option.bind (bH (sN p s_) FUEL (([]:List cO),(List.replicate ((IntKind.wrap .i64 ((IntKind.wrap .i64 ((IntKind.wrap .i64 ((1:Int)+p.ax))+(p.aF.length:Int)))+1)).toNat) (([]:List Int):(List Int))),([]:(List (Int × Int))),0)) fun o=>match o with
 | .ret v=>some v
 | .brk (p1,n01,n11,x0,sources1)=>
 Option.bind (bH (sQ p s_ p1) FUEL (n01,n11,([]:(List (Int × Int))),0)) fun o=>match o with
 | .ret v=>some v
 | .brk (p2,n03,n13,x1,links1)=>
 Option.bind (bH (sU p s_) FUEL (p.aF,(IntKind.wrap .i64 ((IntKind.wrap .i64 ((1:Int)+p.ax))+(p.aF.length:Int))),n03,n13,(List.replicate ((p.aF.length:Int).toNat) ((⟨0,0⟩:ah):ah)),([]:(List (ah × Int))),p.aF,(p.aF.length:Int),0)) fun o=>match o with
 | .ret v=>some v
 | .brk (p31,sink1,n05,n15,x21,racks1)=>
 (nR sink1 (⟨n05,n15⟩:aH)).bind fun r_8=>
 Option.bind (Eh (tC sources1 r_8) sources1.length (List.range sources1.length) (x0)) fun x02=>
 Option.bind (Eh (sW p2 links1 r_8) links1.length (List.range links1.length) (x1)) fun x12=>
 Option.bind (Eh (tH racks1 r_8) racks1.length (List.range racks1.length) (x21)) fun x23=>
 dL (((0:Int)≤p.ax)∧((1:Int)*p.ax≤281474976710656)∧((p.ax:Int)≤9223372036854775807)) (
 (iR r_8).bind fun r_9=>
 (iT r_8.bO r_8.from_ (⟨p.ax,p1,p2,p31⟩:au) (List.replicate p.ax.toNat (false:Bool))).bind fun r_10=>
 some ((⟨x02,x12,x23⟩:aS),r_10,0))))
def pU (p:au) (s_:ay) (cut:(List Bool)):Option (Int × (List aj) × (List aM) × (List aK) × (List Bool) × (List Bool) × (List Bool) × (List Bool) × (List Bool) × (List Bool) × (List Bool) × (List Bool)):=
 some (p.ax,p.ai,p.af,p.aF,s_.bK,s_.fe,s_.bG,s_.on_,s_.bL,s_.fq,s_.aG,cut)
def jH (x25:Int) (x251:Int) (x26:Int) (part:(List aZ)):Option (List aZ):=
 bif (!decide (x25=0))then
 dL (((part.length+[(⟨x25,x251⟩:aZ)].length)*16≤140737488355328)∧(part.length+[(⟨x25,x251⟩:aZ)].length≤4611686018427387904)) (
 some (part++[(⟨x25,x251⟩:aZ)]))
 else
 some part
def oU (b:Int) (x1:(List Bool)):Option Bool:=
 dL (gB [((decide (0≤b)),true)]=true→(0:Int)≤b∧b<(x1.length:Int)) (
 some (bif (decide (0≤b))then(at' x1 b.toNat)else false))
def lV (s_:(List Int)) (f_:(List Bool)):Int→Option (bn Int (Ex Unit Int)):=
 fun t8=>
 bif (decide (t8<(s_.length:Int)))then
 (oU (at' s_ t8.toNat) f_).bind fun r_=>
 dL ((0:Int)≤t8∧t8<(s_.length:Int)) (
 bif r_ then
 some (.done (.ret t8))
 else
 some (.next (IntKind.wrap .i64 (t8+1))))
 else
 some (.done (.brk ()))
def jM (s_:(List Int)) (f_:(List Bool)):Option Int:=
 Option.bind (bH (lV s_ f_) FUEL (0)) fun o=>match o with
 | .ret v=>some v
 | .brk _=>
 some (-1)
def gq (s_:(List Int)) (f_:(List Bool)):Option Bool:=
 (jM s_ f_).bind fun r_=>
 some (decide (0≤r_))
def uK (x1:Int) (x11:(List aj)) (x12:(List aM)) (x13:(List aK)) (x2:(List Bool)) (x21:(List Bool)) (x22:(List Bool)) (x23:(List Bool)) (x24:(List Bool)) (x25:(List Bool)) (x26:(List Bool)) (x3:(List Bool)):((List aZ) × Int)→Option (bn ((List aZ) × Int) (Ex (List aZ) (List aZ))):=
 fun zz=>match zz with
 |(o90,t15)=>
 bif (decide (t15<(x11.length:Int)))then
 dL ((0:Int)≤t15∧t15<(x11.length:Int)) (
 (iP (⟨x1,x11,x12,x13⟩:au) (⟨x2,x21,x22,x23,x24,x25,x26⟩:ay) t15).bind fun r_=>
 bif (bif r_ then(!(at' x3 (((at' x11 t15.toNat).bus).toNat)))else false)then
 (jH 2 t15 ((at' x11 t15.toNat).cK) o90).bind fun r_1=>
 dL (gB [(r_,true)]=true→(0:Int)≤(at' x11 t15.toNat).bus∧(at' x11 t15.toNat).bus<(x3.length:Int)) (
 some (.next (r_1,(IntKind.wrap .i64 (t15+1)))))
 else
 dL (gB [(r_,true)]=true→(0:Int)≤(at' x11 t15.toNat).bus∧(at' x11 t15.toNat).bus<(x3.length:Int)) (
 some (.next (o90,(IntKind.wrap .i64 (t15+1))))))
 else
 some (.done (.brk o90))
def uS (x1:Int) (x11:(List aj)) (x12:(List aM)) (x13:(List aK)) (x2:(List Bool)) (x21:(List Bool)) (x22:(List Bool)) (x23:(List Bool)) (x24:(List Bool)) (x25:(List Bool)) (x26:(List Bool)) (x3:(List Bool)):((List aZ) × Int)→Option (bn ((List aZ) × Int) (Ex (List aZ) (List aZ))):=
 fun zz=>match zz with
 |(o902,t45)=>
 bif (decide (t45<(x12.length:Int)))then
 dL ((0:Int)≤t45∧t45<(x12.length:Int)) (
 (fG (⟨x1,x11,x12,x13⟩:au) (⟨x2,x21,x22,x23,x24,x25,x26⟩:ay) t45).bind fun r_2=>
 bif (bif r_2 then(!((at' x3 (((at' x12 t45.toNat).a).toNat))==(at' x3 (((at' x12 t45.toNat).b).toNat))))else false)then
 (jH 3 t45 ((at' x12 t45.toNat).most) o902).bind fun r_3=>
 dL ((gB [(r_2,true)]=true→(0:Int)≤(at' x12 t45.toNat).a∧(at' x12 t45.toNat).a<(x3.length:Int))∧(gB [(r_2,true)]=true→(0:Int)≤(at' x12 t45.toNat).b∧(at' x12 t45.toNat).b<(x3.length:Int))) (
 some (.next (r_3,(IntKind.wrap .i64 (t45+1)))))
 else
 dL ((gB [(r_2,true)]=true→(0:Int)≤(at' x12 t45.toNat).a∧(at' x12 t45.toNat).a<(x3.length:Int))∧(gB [(r_2,true)]=true→(0:Int)≤(at' x12 t45.toNat).b∧(at' x12 t45.toNat).b<(x3.length:Int))) (
 some (.next (o902,(IntKind.wrap .i64 (t45+1))))))
 else
 some (.done (.brk o902))
def uF (x13:(List aK)) (x3:(List Bool)):((List aZ) × Int)→Option (bn ((List aZ) × Int) (Ex (List aZ) (List aZ))):=
 fun zz=>match zz with
 |(o904,t80)=>
 bif (decide (t80<(x13.length:Int)))then
 dL ((0:Int)≤t80∧t80<(x13.length:Int)) (
 (gq [((at' x13 t80.toNat).bY).e0,((at' x13 t80.toNat).bY).e1] x3).bind fun r_4=>
 bif r_4 then
 (jH 0 t80 ((at' x13 t80.toNat).cK) o904).bind fun r_5=>
 some (.next (r_5,(IntKind.wrap .i64 (t80+1))))
 else
 some (.next (o904,(IntKind.wrap .i64 (t80+1)))))
 else
 some (.done (.brk o904))
def rD (x1:Int) (x11:(List aj)) (x12:(List aM)) (x13:(List aK)) (x2:(List Bool)) (x21:(List Bool)) (x22:(List Bool)) (x23:(List Bool)) (x24:(List Bool)) (x25:(List Bool)) (x26:(List Bool)) (x3:(List Bool)) (part:(List aZ)):Option (List aZ):=
 Option.bind (bH (uK x1 x11 x12 x13 x2 x21 x22 x23 x24 x25 x26 x3) FUEL (part,0)) fun o=>match o with
 | .ret v=>some v
 | .brk o901=>
 Option.bind (bH (uS x1 x11 x12 x13 x2 x21 x22 x23 x24 x25 x26 x3) FUEL (o901,0)) fun o=>match o with
 | .ret v=>some v
 | .brk o903=>
 Option.bind (bH (uF x13 x3) FUEL (o903,0)) fun o=>match o with
 | .ret v=>some v
 | .brk o905=>
 some o905
def AV (p:au) (s_:ay):Option ((List aZ) × Int):=
 (jC p s_).bind fun r_=>
 bif (!decide (r_.2.2=0))then
 some (([]:List aZ),r_.2.2)
 else
 (pU p s_ r_.2.1).bind fun r_1=>
 (rD r_1.1 r_1.2.1 r_1.2.2.1 r_1.2.2.2.1 r_1.2.2.2.2.1 r_1.2.2.2.2.2.1 r_1.2.2.2.2.2.2.1 r_1.2.2.2.2.2.2.2.1 r_1.2.2.2.2.2.2.2.2.1 r_1.2.2.2.2.2.2.2.2.2.1 r_1.2.2.2.2.2.2.2.2.2.2.1 r_1.2.2.2.2.2.2.2.2.2.2.2 ([]:List aZ)).bind fun r_2=>
 some (r_2,0)
def zG (x:aS):(Int × Int)→Option (bn (Int × Int) (Ex Int Int)):=
 fun zz=>match zz with
 |(n,t9)=>
 bif (decide (t9<(x.aF.length:Int)))then
 dL ((0:Int)≤t9∧t9<(x.aF.length:Int)) (
 some (.next ((IntKind.wrap .i64 (n+(IntKind.wrap .i64 (((at' x.aF t9.toNat).e0)+((at' x.aF t9.toNat).e1))))),(IntKind.wrap .i64 (t9+1)))))
 else
 some (.done (.brk n))
def lu (x:aS):Option Int:=
 Option.bind (bH (zG x) FUEL (0,0)) fun o=>match o with
 | .ret v=>some v
 | .brk n1=>
 some n1
def Cu (p:au):(Int × Int)→Option (bn (Int × Int) (Ex Int (Bool × Int))):=
 fun zz=>match zz with
 |(n,t25)=>
 bif (decide (t25<(p.aF.length:Int)))then
 dL ((0:Int)≤t25∧t25<(p.aF.length:Int)) (
 some (.next ((IntKind.wrap .i64 (n+((at' p.aF t25.toNat).cK))),(IntKind.wrap .i64 (t25+1)))))
 else
 some (.done (.brk n))
def Co (p:au) (s_:ay):Option (Bool × Int):=
 (jC p s_).bind fun r_=>
 bif (!decide (r_.2.2=0))then
 some (false,r_.2.2)
 else
 Option.bind (bH (Cu p) FUEL (0,0)) fun o=>match o with
 | .ret v=>some v
 | .brk n1=>
 (lu r_.1).bind fun r_1=>
 some ((decide (r_1=n1)),0)
def wX (a:(List aZ)) (b:(List aZ)):Int→Option (bn Int (Ex Unit Bool)):=
 fun i=>
 bif (decide (i<(a.length:Int)))then
 dL (((0:Int)≤i∧i<(a.length:Int))∧((0:Int)≤i∧i<(b.length:Int))) (
 bif (!((decide (((at' a i.toNat).kind)=((at' b i.toNat).kind))) && ((decide (((at' a i.toNat).index)=((at' b i.toNat).index))) && true)))then
 some (.done (.ret false))
 else
 some (.next (IntKind.wrap .i64 (i+1))))
 else
 some (.done (.brk ()))
def oM (a:(List aZ)) (b:(List aZ)):Option Bool:=
 bif (!decide ((a.length:Int)=(b.length:Int)))then
 some false
 else
 Option.bind (bH (wX a b) FUEL (0)) fun o=>match o with
 | .ret v=>some v
 | .brk _=>
 some true
def iq (x45:Int) (x451:Int) (x46:Int) (int:Int):Option Int:=
 some (IntKind.wrap .i64 (int+x46))
def qG (x1:Int) (x11:(List aj)) (x12:(List aM)) (x13:(List aK)) (x2:(List Bool)) (x21:(List Bool)) (x22:(List Bool)) (x23:(List Bool)) (x24:(List Bool)) (x25:(List Bool)) (x26:(List Bool)) (x3:(List Bool)):(Int × Int)→Option (bn (Int × Int) (Ex Int Int)):=
 fun zz=>match zz with
 |(o110,t15)=>
 bif (decide (t15<(x11.length:Int)))then
 dL ((0:Int)≤t15∧t15<(x11.length:Int)) (
 (iP (⟨x1,x11,x12,x13⟩:au) (⟨x2,x21,x22,x23,x24,x25,x26⟩:ay) t15).bind fun r_=>
 bif (bif r_ then(!(at' x3 (((at' x11 t15.toNat).bus).toNat)))else false)then
 (iq 2 t15 ((at' x11 t15.toNat).cK) o110).bind fun r_1=>
 dL (gB [(r_,true)]=true→(0:Int)≤(at' x11 t15.toNat).bus∧(at' x11 t15.toNat).bus<(x3.length:Int)) (
 some (.next (r_1,(IntKind.wrap .i64 (t15+1)))))
 else
 dL (gB [(r_,true)]=true→(0:Int)≤(at' x11 t15.toNat).bus∧(at' x11 t15.toNat).bus<(x3.length:Int)) (
 some (.next (o110,(IntKind.wrap .i64 (t15+1))))))
 else
 some (.done (.brk o110))
def pK (x1:Int) (x11:(List aj)) (x12:(List aM)) (x13:(List aK)) (x2:(List Bool)) (x21:(List Bool)) (x22:(List Bool)) (x23:(List Bool)) (x24:(List Bool)) (x25:(List Bool)) (x26:(List Bool)) (x3:(List Bool)):(Int × Int)→Option (bn (Int × Int) (Ex Int Int)):=
 fun zz=>match zz with
 |(o1102,t45)=>
 bif (decide (t45<(x12.length:Int)))then
 dL ((0:Int)≤t45∧t45<(x12.length:Int)) (
 (fG (⟨x1,x11,x12,x13⟩:au) (⟨x2,x21,x22,x23,x24,x25,x26⟩:ay) t45).bind fun r_2=>
 bif (bif r_2 then(!((at' x3 (((at' x12 t45.toNat).a).toNat))==(at' x3 (((at' x12 t45.toNat).b).toNat))))else false)then
 (iq 3 t45 ((at' x12 t45.toNat).most) o1102).bind fun r_3=>
 dL ((gB [(r_2,true)]=true→(0:Int)≤(at' x12 t45.toNat).a∧(at' x12 t45.toNat).a<(x3.length:Int))∧(gB [(r_2,true)]=true→(0:Int)≤(at' x12 t45.toNat).b∧(at' x12 t45.toNat).b<(x3.length:Int))) (
 some (.next (r_3,(IntKind.wrap .i64 (t45+1)))))
 else
 dL ((gB [(r_2,true)]=true→(0:Int)≤(at' x12 t45.toNat).a∧(at' x12 t45.toNat).a<(x3.length:Int))∧(gB [(r_2,true)]=true→(0:Int)≤(at' x12 t45.toNat).b∧(at' x12 t45.toNat).b<(x3.length:Int))) (
 some (.next (o1102,(IntKind.wrap .i64 (t45+1))))))
 else
 some (.done (.brk o1102))
def qp (x13:(List aK)) (x3:(List Bool)):(Int × Int)→Option (bn (Int × Int) (Ex Int Int)):=
 fun zz=>match zz with
 |(o1104,t80)=>
 bif (decide (t80<(x13.length:Int)))then
 dL ((0:Int)≤t80∧t80<(x13.length:Int)) (
 (gq [((at' x13 t80.toNat).bY).e0,((at' x13 t80.toNat).bY).e1] x3).bind fun r_4=>
 bif r_4 then
 (iq 0 t80 ((at' x13 t80.toNat).cK) o1104).bind fun r_5=>
 some (.next (r_5,(IntKind.wrap .i64 (t80+1))))
 else
 some (.next (o1104,(IntKind.wrap .i64 (t80+1)))))
 else
 some (.done (.brk o1104))
def nU (x1:Int) (x11:(List aj)) (x12:(List aM)) (x13:(List aK)) (x2:(List Bool)) (x21:(List Bool)) (x22:(List Bool)) (x23:(List Bool)) (x24:(List Bool)) (x25:(List Bool)) (x26:(List Bool)) (x3:(List Bool)) (int:Int):Option Int:=
 Option.bind (bH (qG x1 x11 x12 x13 x2 x21 x22 x23 x24 x25 x26 x3) FUEL (int,0)) fun o=>match o with
 | .ret v=>some v
 | .brk o1101=>
 Option.bind (bH (pK x1 x11 x12 x13 x2 x21 x22 x23 x24 x25 x26 x3) FUEL (o1101,0)) fun o=>match o with
 | .ret v=>some v
 | .brk o1103=>
 Option.bind (bH (qp x13 x3) FUEL (o1103,0)) fun o=>match o with
 | .ret v=>some v
 | .brk o1105=>
 some o1105
def vQ (s_:ay) (cut:(List Bool)):Int→Option (bn Int (Ex Unit (Int × Int))):=
 fun t27=>
 bif (decide (t27<(cut.length:Int)))then
 dL ((0:Int)≤t27∧t27<(cut.length:Int)) (
 dL (gB [((at' cut t27.toNat),true)]=true→(0:Int)≤t27∧t27<(s_.aG.length:Int)) (
 bif (bif (at' cut t27.toNat)then(at' s_.aG t27.toNat)else false)then
 some (.done (.ret (0,1)))
 else
 some (.next (IntKind.wrap .i64 (t27+1)))))
 else
 some (.done (.brk ()))
def oL (p:au) (s_:ay) (cut:(List Bool)):Option (Int × Int):=
 (dF p s_).bind fun r_=>
 bif (!decide (r_=0))then
 some (0,r_)
 else
 bif (!decide ((cut.length:Int)=p.ax))then
 some (0,1)
 else
 Option.bind (bH (vQ s_ cut) FUEL (0)) fun o=>match o with
 | .ret v=>some v
 | .brk _=>
 (pU p s_ cut).bind fun r_1=>
 (nU r_1.1 r_1.2.1 r_1.2.2.1 r_1.2.2.2.1 r_1.2.2.2.2.1 r_1.2.2.2.2.2.1 r_1.2.2.2.2.2.2.1 r_1.2.2.2.2.2.2.2.1 r_1.2.2.2.2.2.2.2.2.1 r_1.2.2.2.2.2.2.2.2.2.1 r_1.2.2.2.2.2.2.2.2.2.2.1 r_1.2.2.2.2.2.2.2.2.2.2.2 0).bind fun r_2=>
 some (r_2,0)
def Bb  :Option Unit:=
 some ()
def yJ (p:au) (s_:ay) (x:aS):Int→Option (bn Int (Ex Unit Bool)):=
 fun t14=>
 bif (decide (t14<(x.ai.length:Int)))then
 dL ((0:Int)≤t14∧t14<(x.ai.length:Int)) (
 (bif gB [((decide (0<(at' x.ai t14.toNat))),true),((bif (decide ((at' x.ai t14.toNat)<0))then true else(decide (((at' p.ai t14.toNat).cK)<(at' x.ai t14.toNat)))),false)]then iP p s_ t14 else some default).bind fun r_=>
 dL (gB [((decide ((at' x.ai t14.toNat)<0)),false)]=true→(0:Int)≤t14∧t14<(p.ai.length:Int)) (
 bif (bif (bif (decide ((at' x.ai t14.toNat)<0))then true else(decide (((at' p.ai t14.toNat).cK)<(at' x.ai t14.toNat))))then true else(bif (decide (0<(at' x.ai t14.toNat)))then(!r_)else false))then
 some (.done (.ret false))
 else
 some (.next (IntKind.wrap .i64 (t14+1)))))
 else
 some (.done (.brk ()))
def yE (p:au) (s_:ay) (x:aS):Int→Option (bn Int (Ex Unit Bool)):=
 fun t46=>
 bif (decide (t46<(x.af.length:Int)))then
 dL ((0:Int)≤t46∧t46<(x.af.length:Int)) (
 (bif gB [((!decide ((at' x.af t46.toNat)=0)),true),((bif (decide ((at' x.af t46.toNat)<(IntKind.wrap .i64 (0 - ((at' p.af t46.toNat).most)))))then true else(decide (((at' p.af t46.toNat).most)<(at' x.af t46.toNat)))),false)]then fG p s_ t46 else some default).bind fun r_1=>
 dL (((0:Int)≤t46∧t46<(p.af.length:Int))∧(gB [((decide ((at' x.af t46.toNat)<(IntKind.wrap .i64 (0 - ((at' p.af t46.toNat).most))))),false)]=true→(0:Int)≤t46∧t46<(p.af.length:Int))) (
 bif (bif (bif (decide ((at' x.af t46.toNat)<(IntKind.wrap .i64 (0 - ((at' p.af t46.toNat).most)))))then true else(decide (((at' p.af t46.toNat).most)<(at' x.af t46.toNat))))then true else(bif (!decide ((at' x.af t46.toNat)=0))then(!r_1)else false))then
 some (.done (.ret false))
 else
 some (.next (IntKind.wrap .i64 (t46+1)))))
 else
 some (.done (.brk ()))
def wB (p:au) (s_:ay) (x:aS):Option Bool:=
 Option.bind (bH (yJ p s_ x) FUEL (0)) fun o=>match o with
 | .ret v=>some v
 | .brk _=>
 Option.bind (bH (yE p s_ x) FUEL (0)) fun o=>match o with
 | .ret v=>some v
 | .brk _=>
 some true
def Br (p:au) (s_:ay) (x:aS) (t14:Int):Int→Option (bn Int (Ex Unit (bn Int (Ex Unit Bool)))):=
 fun t20=>
 bif (decide (t20<2))then
 dL ((0:Int)≤t20∧t20<((2:Nat):Int)) (
 bif (decide (t20=0))then
 (bif gB [((decide (0<(at' [(at' x.aF t14.toNat).e0,(at' x.aF t14.toNat).e1] t20.toNat))),true),((bif (decide ((at' [(at' x.aF t14.toNat).e0,(at' x.aF t14.toNat).e1] t20.toNat)<0))then true else(decide (((at' p.aF t14.toNat).cK)<(at' [(at' x.aF t14.toNat).e0,(at' x.aF t14.toNat).e1] t20.toNat)))),false)]then mY s_ (((at' p.aF t14.toNat).bY).e0)else some default).bind fun r_=>
 dL ((gB [((decide ((at' [(at' x.aF t14.toNat).e0,(at' x.aF t14.toNat).e1] t20.toNat)<0)),false)]=true→(0:Int)≤t14∧t14<(p.aF.length:Int))∧(gB [((decide (0<(at' [(at' x.aF t14.toNat).e0,(at' x.aF t14.toNat).e1] t20.toNat))),true),((bif (decide ((at' [(at' x.aF t14.toNat).e0,(at' x.aF t14.toNat).e1] t20.toNat)<0))then true else(decide (((at' p.aF t14.toNat).cK)<(at' [(at' x.aF t14.toNat).e0,(at' x.aF t14.toNat).e1] t20.toNat)))),false)]=true→(0:Int)≤t14∧t14<(p.aF.length:Int))) (
 bif (bif (bif (decide ((at' [(at' x.aF t14.toNat).e0,(at' x.aF t14.toNat).e1] t20.toNat)<0))then true else(decide (((at' p.aF t14.toNat).cK)<(at' [(at' x.aF t14.toNat).e0,(at' x.aF t14.toNat).e1] t20.toNat))))then true else(bif (decide (0<(at' [(at' x.aF t14.toNat).e0,(at' x.aF t14.toNat).e1] t20.toNat)))then(!r_)else false))then
 some (.done (.ret (.done (.ret false))))
 else
 some (.next 1))
 else
 dL (t20=1) (
 (bif gB [((decide (0<(at' [(at' x.aF t14.toNat).e0,(at' x.aF t14.toNat).e1] t20.toNat))),true),((bif (decide ((at' [(at' x.aF t14.toNat).e0,(at' x.aF t14.toNat).e1] t20.toNat)<0))then true else(decide (((at' p.aF t14.toNat).cK)<(at' [(at' x.aF t14.toNat).e0,(at' x.aF t14.toNat).e1] t20.toNat)))),false)]then mY s_ (((at' p.aF t14.toNat).bY).e1)else some default).bind fun r_1=>
 dL ((gB [((decide ((at' [(at' x.aF t14.toNat).e0,(at' x.aF t14.toNat).e1] t20.toNat)<0)),false)]=true→(0:Int)≤t14∧t14<(p.aF.length:Int))∧(gB [((decide (0<(at' [(at' x.aF t14.toNat).e0,(at' x.aF t14.toNat).e1] t20.toNat))),true),((bif (decide ((at' [(at' x.aF t14.toNat).e0,(at' x.aF t14.toNat).e1] t20.toNat)<0))then true else(decide (((at' p.aF t14.toNat).cK)<(at' [(at' x.aF t14.toNat).e0,(at' x.aF t14.toNat).e1] t20.toNat)))),false)]=true→(0:Int)≤t14∧t14<(p.aF.length:Int))) (
 bif (bif (bif (decide ((at' [(at' x.aF t14.toNat).e0,(at' x.aF t14.toNat).e1] t20.toNat)<0))then true else(decide (((at' p.aF t14.toNat).cK)<(at' [(at' x.aF t14.toNat).e0,(at' x.aF t14.toNat).e1] t20.toNat))))then true else(bif (decide (0<(at' [(at' x.aF t14.toNat).e0,(at' x.aF t14.toNat).e1] t20.toNat)))then(!r_1)else false))then
 some (.done (.ret (.done (.ret false))))
 else
 some (.next 2))))
 else
 some (.done (.brk ()))
def Bl (p:au) (s_:ay) (x:aS):Int→Option (bn Int (Ex Unit Bool)):=
 fun t14=>
 bif (decide (t14<(x.aF.length:Int)))then
 dL ((0:Int)≤t14∧t14<(x.aF.length:Int)) (
 Option.bind (bH (Br p s_ x t14) FUEL (0)) fun o=>match o with
 | .ret v=>some v
 | .brk _=>
 dL ((0:Int)≤t14∧t14<(p.aF.length:Int)) (
 bif (decide (((at' p.aF t14.toNat).cK)<(IntKind.wrap .i64 (((at' x.aF t14.toNat).e0)+((at' x.aF t14.toNat).e1)))))then
 some (.done (.ret false))
 else
 some (.next (IntKind.wrap .i64 (t14+1)))))
 else
 some (.done (.brk ()))
def A7 (p:au) (s_:ay) (x:aS):Option Bool:=
 Option.bind (bH (Bl p s_ x) FUEL (0)) fun o=>match o with
 | .ret v=>some v
 | .brk _=>
 some true
def qw (n:Int):Option Bool:=
 some (!decide (n=0))
def mg (s_:(List Int)):Int→Option (bn Int (Ex Unit Int)):=
 fun t8=>
 bif (decide (t8<(s_.length:Int)))then
 (qw (at' s_ t8.toNat)).bind fun r_=>
 dL ((0:Int)≤t8∧t8<(s_.length:Int)) (
 bif r_ then
 some (.done (.ret t8))
 else
 some (.next (IntKind.wrap .i64 (t8+1))))
 else
 some (.done (.brk ()))
def jK (s_:(List Int)):Option Int:=
 Option.bind (bH (mg s_) FUEL (0)) fun o=>match o with
 | .ret v=>some v
 | .brk _=>
 some (-1)
def jb (s_:(List Int)):Option Bool:=
 (jK s_).bind fun r_=>
 some (decide (0≤r_))
def wD (p:au) (x:aS):((List Int) × Int)→Option (bn ((List Int) × Int) (Ex (List Int) Bool)):=
 fun zz=>match zz with
 |(left,t22)=>
 bif (decide (t22<(x.ai.length:Int)))then
 dL ((0:Int)≤t22∧t22<(x.ai.length:Int)) (
 dL (((0:Int)≤t22∧t22<(p.ai.length:Int))∧((0:Int)≤(at' p.ai t22.toNat).bus∧(at' p.ai t22.toNat).bus<(left.length:Int))) (
 some (.next ((left.set (((at' p.ai t22.toNat).bus).toNat) (IntKind.wrap .i64 ((at' left (((at' p.ai t22.toNat).bus).toNat))+(at' x.ai t22.toNat)))),(IntKind.wrap .i64 (t22+1))))))
 else
 some (.done (.brk left))
def xw (p:au) (x:aS):((List Int) × Int)→Option (bn ((List Int) × Int) (Ex (List Int) Bool)):=
 fun zz=>match zz with
 |(left2,t43)=>
 bif (decide (t43<(x.af.length:Int)))then
 dL ((0:Int)≤t43∧t43<(x.af.length:Int)) (
 dL (((0:Int)≤t43∧t43<(p.af.length:Int))∧((0:Int)≤(at' p.af t43.toNat).a∧(at' p.af t43.toNat).a<(left2.length:Int))) (
 dL (((0:Int)≤t43∧t43<(p.af.length:Int))∧((0:Int)≤(at' p.af t43.toNat).b∧(at' p.af t43.toNat).b<((left2.set (((at' p.af t43.toNat).a).toNat) (IntKind.wrap .i64 ((at' left2 (((at' p.af t43.toNat).a).toNat)) - (at' x.af t43.toNat)))).length:Int))) (
 some (.next (((left2.set (((at' p.af t43.toNat).a).toNat) (IntKind.wrap .i64 ((at' left2 (((at' p.af t43.toNat).a).toNat)) - (at' x.af t43.toNat)))).set (((at' p.af t43.toNat).b).toNat) (IntKind.wrap .i64 ((at' (left2.set (((at' p.af t43.toNat).a).toNat) (IntKind.wrap .i64 ((at' left2 (((at' p.af t43.toNat).a).toNat)) - (at' x.af t43.toNat)))) (((at' p.af t43.toNat).b).toNat))+(at' x.af t43.toNat)))),(IntKind.wrap .i64 (t43+1)))))))
 else
 some (.done (.brk left2))
def wS (p:au) (x:aS) (t76:Int):((List Int) × Int)→Option (bn ((List Int) × Int) (Ex (List Int) (bn ((List Int) × Int) (Ex (List Int) Bool)))):=
 fun zz=>match zz with
 |(left6,t87)=>
 bif (decide (t87<2))then
 dL ((0:Int)≤t87∧t87<((2:Nat):Int)) (
 bif (decide (0≤(at' [((at' p.aF t76.toNat).bY).e0,((at' p.aF t76.toNat).bY).e1] t87.toNat)))then
 bif (decide (t87=0))then
 dL ((0:Int)≤(at' [((at' p.aF t76.toNat).bY).e0,((at' p.aF t76.toNat).bY).e1] t87.toNat)∧(at' [((at' p.aF t76.toNat).bY).e0,((at' p.aF t76.toNat).bY).e1] t87.toNat)<(left6.length:Int)) (
 some (.next ((left6.set ((at' [((at' p.aF t76.toNat).bY).e0,((at' p.aF t76.toNat).bY).e1] t87.toNat).toNat) (IntKind.wrap .i64 ((at' left6 ((at' [((at' p.aF t76.toNat).bY).e0,((at' p.aF t76.toNat).bY).e1] t87.toNat).toNat)) - ((at' x.aF t76.toNat).e0)))),1)))
 else
 dL (t87=1) (
 dL ((0:Int)≤(at' [((at' p.aF t76.toNat).bY).e0,((at' p.aF t76.toNat).bY).e1] t87.toNat)∧(at' [((at' p.aF t76.toNat).bY).e0,((at' p.aF t76.toNat).bY).e1] t87.toNat)<(left6.length:Int)) (
 some (.next ((left6.set ((at' [((at' p.aF t76.toNat).bY).e0,((at' p.aF t76.toNat).bY).e1] t87.toNat).toNat) (IntKind.wrap .i64 ((at' left6 ((at' [((at' p.aF t76.toNat).bY).e0,((at' p.aF t76.toNat).bY).e1] t87.toNat).toNat)) - ((at' x.aF t76.toNat).e1)))),2))))
 else
 some (.next (left6,(IntKind.wrap .i64 (t87+1)))))
 else
 some (.done (.brk left6))
def vM (p:au) (x:aS):((List Int) × Int)→Option (bn ((List Int) × Int) (Ex (List Int) Bool)):=
 fun zz=>match zz with
 |(left4,t76)=>
 bif (decide (t76<(x.aF.length:Int)))then
 dL ((0:Int)≤t76∧t76<(x.aF.length:Int)) (
 dL ((0:Int)≤t76∧t76<(p.aF.length:Int)) (
 Option.bind (bH (wS p x t76) FUEL (left4,0)) fun o=>match o with
 | .ret v=>some v
 | .brk left7=>
 some (.next (left7,(IntKind.wrap .i64 (t76+1))))))
 else
 some (.done (.brk left4))
def tK (p:au) (s_:ay) (x:aS):Option Bool:=
 dL (((0:Int)≤p.ax)∧((8:Int)*p.ax≤281474976710656)∧((p.ax:Int)≤9223372036854775807)) (
 Option.bind (bH (wD p x) FUEL ((List.replicate p.ax.toNat (0:Int)),0)) fun o=>match o with
 | .ret v=>some v
 | .brk left1=>
 Option.bind (bH (xw p x) FUEL (left1,0)) fun o=>match o with
 | .ret v=>some v
 | .brk left3=>
 Option.bind (bH (vM p x) FUEL (left3,0)) fun o=>match o with
 | .ret v=>some v
 | .brk left5=>
 (jb left5).bind fun r_=>
 some (!r_))
def nT (p:au) (s_:ay) (x:aS):Option Int:=
 (dF p s_).bind fun r_=>
 bif (!decide (r_=0))then
 some r_
 else
 bif (bif (bif (!decide ((x.ai.length:Int)=(p.ai.length:Int)))then true else(!decide ((x.af.length:Int)=(p.af.length:Int))))then true else(!decide ((x.aF.length:Int)=(p.aF.length:Int))))then
 some 20
 else
 (Bb).bind fun r_1=>
 dL ((0:Int)≤0∧0<(3:Int)) (
 (wB p s_ x).bind fun r_2=>
 bif (!r_2)then
 some 20
 else
 dL ((0:Int)≤1∧1<(3:Int)) (
 (A7 p s_ x).bind fun r_3=>
 bif (!r_3)then
 some 20
 else
 dL ((0:Int)≤2∧2<(3:Int)) (
 (tK p s_ x).bind fun r_4=>
 bif (!r_4)then
 some 20
 else
 some 0)))
def ko (p:au) (s_:ay) (x:aS) (cut:(List Bool)):Option Int:=
 (nT p s_ x).bind fun r_=>
 bif (!decide (r_=0))then
 some r_
 else
 (oL p s_ cut).bind fun r_1=>
 (bif gB [((decide (r_1.2=0)),true)]then lu x else some default).bind fun r_2=>
 bif (bif (decide (r_1.2=0))then(!decide (r_1.1=r_2))else false)then
 some 7
 else
 some r_1.2
def yQ (a:(List Int)) (b:(List Int)):Int→Option (bn Int (Ex Unit Bool)):=
 fun i=>
 bif (decide (i<(a.length:Int)))then
 dL (((0:Int)≤i∧i<(a.length:Int))∧((0:Int)≤i∧i<(b.length:Int))) (
 bif (!decide ((at' a i.toNat)=(at' b i.toNat)))then
 some (.done (.ret false))
 else
 some (.next (IntKind.wrap .i64 (i+1))))
 else
 some (.done (.brk ()))
def eO (a:(List Int)) (b:(List Int)):Option Bool:=
 bif (!decide ((a.length:Int)=(b.length:Int)))then
 some false
 else
 Option.bind (bH (yQ a b) FUEL (0)) fun o=>match o with
 | .ret v=>some v
 | .brk _=>
 some true
def qW (a:(List aA)) (b:(List aA)):Int→Option (bn Int (Ex Unit Bool)):=
 fun i=>
 bif (decide (i<(a.length:Int)))then
 (bif gB [((bif (bif (!decide (((at' a i.toNat).source)=((at' b i.toNat).source)))then true else(!decide (((at' a i.toNat).bU)=((at' b i.toNat).bU))))then true else(!decide (((at' a i.toNat).amps)=((at' b i.toNat).amps)))),false)]then eO ((at' a i.toNat).af) ((at' b i.toNat).af)else some default).bind fun r_=>
 dL (((0:Int)≤i∧i<(a.length:Int))∧((0:Int)≤i∧i<(b.length:Int))∧(gB [((!decide (((at' a i.toNat).source)=((at' b i.toNat).source))),false)]=true→(0:Int)≤i∧i<(a.length:Int))∧(gB [((!decide (((at' a i.toNat).source)=((at' b i.toNat).source))),false)]=true→(0:Int)≤i∧i<(b.length:Int))∧(gB [((bif (!decide (((at' a i.toNat).source)=((at' b i.toNat).source)))then true else(!decide (((at' a i.toNat).bU)=((at' b i.toNat).bU)))),false)]=true→(0:Int)≤i∧i<(a.length:Int))∧(gB [((bif (!decide (((at' a i.toNat).source)=((at' b i.toNat).source)))then true else(!decide (((at' a i.toNat).bU)=((at' b i.toNat).bU)))),false)]=true→(0:Int)≤i∧i<(b.length:Int))∧(gB [((bif (bif (!decide (((at' a i.toNat).source)=((at' b i.toNat).source)))then true else(!decide (((at' a i.toNat).bU)=((at' b i.toNat).bU))))then true else(!decide (((at' a i.toNat).amps)=((at' b i.toNat).amps)))),false)]=true→(0:Int)≤i∧i<(a.length:Int))∧(gB [((bif (bif (!decide (((at' a i.toNat).source)=((at' b i.toNat).source)))then true else(!decide (((at' a i.toNat).bU)=((at' b i.toNat).bU))))then true else(!decide (((at' a i.toNat).amps)=((at' b i.toNat).amps)))),false)]=true→(0:Int)≤i∧i<(b.length:Int))) (
 bif (bif (bif (bif (!decide (((at' a i.toNat).source)=((at' b i.toNat).source)))then true else(!decide (((at' a i.toNat).bU)=((at' b i.toNat).bU))))then true else(!decide (((at' a i.toNat).amps)=((at' b i.toNat).amps))))then true else(!r_))then
 some (.done (.ret false))
 else
 some (.next (IntKind.wrap .i64 (i+1))))
 else
 some (.done (.brk ()))
def gV (a:(List aA)) (b:(List aA)):Option Bool:=
 bif (!decide ((a.length:Int)=(b.length:Int)))then
 some false
 else
 Option.bind (bH (qW a b) FUEL (0)) fun o=>match o with
 | .ret v=>some v
 | .brk _=>
 some true
def wM (aF:(List Int)):((List aK) × Int)→Option (bn ((List aK) × Int) (Ex (List aK) (au × ay))):=
 fun zz=>match zz with
 |(p3,i)=>
 bif (decide (i<(aF.length:Int)))then
 dL (((0:Int)≤i∧i<(aF.length:Int))∧((p3.length+[(⟨(⟨1,(-1)⟩:ah),(at' aF i.toNat),1⟩:aK)].length)*32≤140737488355328)∧(p3.length+[(⟨(⟨1,(-1)⟩:ah),(at' aF i.toNat),1⟩:aK)].length≤4611686018427387904)) (
 some (.next ((p3++[(⟨(⟨1,(-1)⟩:ah),(at' aF i.toNat),1⟩:aK)]),(IntKind.wrap .i64 (i+1)))))
 else
 some (.done (.brk p3))
def oN (aF:(List Int)):Option (au × ay):=
 Option.bind (bH (wM aF) FUEL (([]:List aK),0)) fun o=>match o with
 | .ret v=>some v
 | .brk p31=>
 dL (((0:Int)≤2)∧((1:Int)*2≤281474976710656)∧((2:Int)≤9223372036854775807)∧((0:Int)≤3)∧((1:Int)*3≤281474976710656)∧((3:Int)≤9223372036854775807)) (
 some ((⟨3,[(⟨0,1,500,0,20⟩:aj),(⟨2,2,300,0,40⟩:aj)],[(⟨0,1,3,400,10,([]:List ic)⟩:aM),(⟨1,2,3,400,10,([]:List ic)⟩:aM)],p31⟩:au),(⟨[true,true],(List.replicate 2 (false:Bool)),(List.replicate 2 (false:Bool)),[true,true],(List.replicate 2 (false:Bool)),(List.replicate 3 (false:Bool)),(List.replicate 3 (false:Bool))⟩:ay)))
def oC  :Option Bool:=
 (oN [100]).bind fun r_=>
 (jC r_.1 r_.2).bind fun r_1=>
 (Co r_.1 r_.2).bind fun r_2=>
 (bif gB [((bif (!decide (r_1.2.2=0))then true else(!decide (r_2.2=0))),false)]then lu r_1.1 else some default).bind fun r_3=>
 bif (bif (bif (bif (!decide (r_1.2.2=0))then true else(!decide (r_2.2=0)))then true else(!decide (r_3=100)))then true else(!r_2.1))then
 some false
 else
 (nJ r_1.2.1 [true,true,true]).bind fun r_4=>
 bif (!r_4)then
 some false
 else
 (oN [300,600]).bind fun r_5=>
 (jC r_5.1 r_5.2).bind fun r_6=>
 (oL r_5.1 r_5.2 r_6.2.1).bind fun r_7=>
 (AV r_5.1 r_5.2).bind fun r_8=>
 (bif gB [((bif (bif (!decide (r_6.2.2=0))then true else(!decide (r_7.2=0)))then true else(!decide (r_8.2=0))),false)]then lu r_6.1 else some default).bind fun r_9=>
 bif (bif (bif (bif (bif (!decide (r_6.2.2=0))then true else(!decide (r_7.2=0)))then true else(!decide (r_8.2=0)))then true else(!decide (r_9=700)))then true else(!decide (r_7.1=700)))then
 bif (bif (bif (bif (bif (bif (!decide (r_6.2.2=0))then true else(!decide (r_7.2=0)))then true else(!decide (r_8.2=0)))then true else(!decide (r_9=700)))then true else(!decide (r_7.1=700)))then true else false)then
 (bif gB [((bif (bif (bif (bif (bif (bif (!decide (r_6.2.2=0))then true else(!decide (r_7.2=0)))then true else(!decide (r_8.2=0)))then true else(!decide (r_9=700)))then true else(!decide (r_7.1=700)))then true else false)then true else false),false)]then ko r_5.1 r_5.2 r_6.1 r_6.2.1 else some default).bind fun r_10=>
 bif (bif (bif (bif (bif (bif (bif (bif (!decide (r_6.2.2=0))then true else(!decide (r_7.2=0)))then true else(!decide (r_8.2=0)))then true else(!decide (r_9=700)))then true else(!decide (r_7.1=700)))then true else false)then true else false)then true else(!decide (r_10=0)))then
 some false
 else
 (fF r_5.1 r_5.2 1).bind fun r_11=>
 (jT r_5.1 r_11.1).bind fun r_12=>
 bif (bif (decide (r_11.2=0))then(decide (r_12.2.2=0))else false)then
 (gV r_11.1 [(⟨0,30,13334,[0]⟩:aA),(⟨1,50,8000,[1]⟩:aA)]).bind fun r_13=>
 bif (bif (bif (decide (r_11.2=0))then(decide (r_12.2.2=0))else false)then r_13 else false)then
 (eO r_12.1 [13334,8000]).bind fun r_14=>
 some r_14
 else
 some false
 else
 bif (bif (bif (decide (r_11.2=0))then(decide (r_12.2.2=0))else false)then false else false)then
 (eO r_12.1 [13334,8000]).bind fun r_15=>
 some r_15
 else
 some false
 else
 (oM r_8.1 [(⟨2,1⟩:aZ),(⟨3,0⟩:aZ)]).bind fun r_16=>
 (bif gB [((bif (bif (bif (bif (bif (bif (!decide (r_6.2.2=0))then true else(!decide (r_7.2=0)))then true else(!decide (r_8.2=0)))then true else(!decide (r_9=700)))then true else(!decide (r_7.1=700)))then true else false)then true else(!r_16)),false)]then ko r_5.1 r_5.2 r_6.1 r_6.2.1 else some default).bind fun r_17=>
 bif (bif (bif (bif (bif (bif (bif (bif (!decide (r_6.2.2=0))then true else(!decide (r_7.2=0)))then true else(!decide (r_8.2=0)))then true else(!decide (r_9=700)))then true else(!decide (r_7.1=700)))then true else false)then true else(!r_16))then true else(!decide (r_17=0)))then
 some false
 else
 (fF r_5.1 r_5.2 1).bind fun r_18=>
 (jT r_5.1 r_18.1).bind fun r_19=>
 bif (bif (decide (r_18.2=0))then(decide (r_19.2.2=0))else false)then
 (gV r_18.1 [(⟨0,30,13334,[0]⟩:aA),(⟨1,50,8000,[1]⟩:aA)]).bind fun r_20=>
 bif (bif (bif (decide (r_18.2=0))then(decide (r_19.2.2=0))else false)then r_20 else false)then
 (eO r_19.1 [13334,8000]).bind fun r_21=>
 some r_21
 else
 some false
 else
 bif (bif (bif (decide (r_18.2=0))then(decide (r_19.2.2=0))else false)then false else false)then
 (eO r_19.1 [13334,8000]).bind fun r_22=>
 some r_22
 else
 some false
 else
 (nJ r_6.2.1 [true,false,false]).bind fun r_23=>
 bif (bif (bif (bif (bif (bif (!decide (r_6.2.2=0))then true else(!decide (r_7.2=0)))then true else(!decide (r_8.2=0)))then true else(!decide (r_9=700)))then true else(!decide (r_7.1=700)))then true else(!r_23))then
 (bif gB [((bif (bif (bif (bif (bif (bif (!decide (r_6.2.2=0))then true else(!decide (r_7.2=0)))then true else(!decide (r_8.2=0)))then true else(!decide (r_9=700)))then true else(!decide (r_7.1=700)))then true else(!r_23))then true else false),false)]then ko r_5.1 r_5.2 r_6.1 r_6.2.1 else some default).bind fun r_24=>
 bif (bif (bif (bif (bif (bif (bif (bif (!decide (r_6.2.2=0))then true else(!decide (r_7.2=0)))then true else(!decide (r_8.2=0)))then true else(!decide (r_9=700)))then true else(!decide (r_7.1=700)))then true else(!r_23))then true else false)then true else(!decide (r_24=0)))then
 some false
 else
 (fF r_5.1 r_5.2 1).bind fun r_25=>
 (jT r_5.1 r_25.1).bind fun r_26=>
 bif (bif (decide (r_25.2=0))then(decide (r_26.2.2=0))else false)then
 (gV r_25.1 [(⟨0,30,13334,[0]⟩:aA),(⟨1,50,8000,[1]⟩:aA)]).bind fun r_27=>
 bif (bif (bif (decide (r_25.2=0))then(decide (r_26.2.2=0))else false)then r_27 else false)then
 (eO r_26.1 [13334,8000]).bind fun r_28=>
 some r_28
 else
 some false
 else
 bif (bif (bif (decide (r_25.2=0))then(decide (r_26.2.2=0))else false)then false else false)then
 (eO r_26.1 [13334,8000]).bind fun r_29=>
 some r_29
 else
 some false
 else
 (oM r_8.1 [(⟨2,1⟩:aZ),(⟨3,0⟩:aZ)]).bind fun r_30=>
 (bif gB [((bif (bif (bif (bif (bif (bif (!decide (r_6.2.2=0))then true else(!decide (r_7.2=0)))then true else(!decide (r_8.2=0)))then true else(!decide (r_9=700)))then true else(!decide (r_7.1=700)))then true else(!r_23))then true else(!r_30)),false)]then ko r_5.1 r_5.2 r_6.1 r_6.2.1 else some default).bind fun r_31=>
 bif (bif (bif (bif (bif (bif (bif (bif (!decide (r_6.2.2=0))then true else(!decide (r_7.2=0)))then true else(!decide (r_8.2=0)))then true else(!decide (r_9=700)))then true else(!decide (r_7.1=700)))then true else(!r_23))then true else(!r_30))then true else(!decide (r_31=0)))then
 some false
 else
 (fF r_5.1 r_5.2 1).bind fun r_32=>
 (jT r_5.1 r_32.1).bind fun r_33=>
 bif (bif (decide (r_32.2=0))then(decide (r_33.2.2=0))else false)then
 (gV r_32.1 [(⟨0,30,13334,[0]⟩:aA),(⟨1,50,8000,[1]⟩:aA)]).bind fun r_34=>
 bif (bif (bif (decide (r_32.2=0))then(decide (r_33.2.2=0))else false)then r_34 else false)then
 (eO r_33.1 [13334,8000]).bind fun r_35=>
 some r_35
 else
 some false
 else
 bif (bif (bif (decide (r_32.2=0))then(decide (r_33.2.2=0))else false)then false else false)then
 (eO r_33.1 [13334,8000]).bind fun r_36=>
 some r_36
 else
 some false
def wz (x:Int) (n:Int):Option Int:=
 bif (decide (n<1))then
 some 0
 else
 dL (n≠(0:Int)) (
 bif (decide ((Int.tmod x n)<0))then
 some (IntKind.wrap .i64 ((Int.tmod x n)+n))
 else
 some (Int.tmod x n))
def kT (p:au) (s_:ay):Option (Int × (List aj) × (List aM) × (List aK) × (List Bool) × (List Bool) × (List Bool) × (List Bool) × (List Bool) × (List Bool) × (List Bool)):=
 some (p.ax,p.ai,p.af,p.aF,s_.bK,s_.fe,s_.bG,s_.on_,s_.bL,s_.fq,s_.aG)
def eu (g:aW):Int→Option (bn Int (Ex Unit Int)):=
 fun x1=>
 bif (!((dh gm x1 g.head).isSome))then
 some (.done (.ret x1))
 else
 some (.next ((dh gm x1 g.head).getD 0))
def dB (g:aW) (x:Int):Option Int:=
 Option.bind (bH (eu g) FUEL (x)) fun o=>match o with
 | .ret v=>some v
 | .brk _=>none
def iN (g:aW) (a:Int) (b:Int):Option (List (Int × Int)):=
 (dB g a).bind fun r_=>
 (dB g b).bind fun r_1=>
 bif (!decide (r_=r_1))then
 some (dZ gm r_ r_1 g.head)
 else
 some g.head
def jD (x22:Int) (x221:Int) (x222:Int) (x223:Int) (x224:Int) (x225:(List ic)) (o_:aW):Option aW:=
 (iN o_ x22 x221).bind fun r_=>
 some (⟨r_⟩:aW)
def dJ (x12:(List aM)) (x2:(List Bool)) (x22:(List Bool)) (x26:(List Bool)):((List (Int × Int)) × Int)→Option (bn ((List (Int × Int)) × Int) (Ex (List (Int × Int)) aW)):=
 fun zz=>match zz with
 |(o50,t9)=>
 bif (decide (t9<(x12.length:Int)))then
 dL ((0:Int)≤t9∧t9<(x12.length:Int)) (
 bif (bif (bif (bif (at' x2 t9.toNat)then(!(at' x22 t9.toNat))else false)then(!(at' x26 (((at' x12 t9.toNat).a).toNat)))else false)then(!(at' x26 (((at' x12 t9.toNat).b).toNat)))else false)then
 (jD ((at' x12 t9.toNat).a) ((at' x12 t9.toNat).b) ((at' x12 t9.toNat).kind) ((at' x12 t9.toNat).most) ((at' x12 t9.toNat).bU) ((at' x12 t9.toNat).trip) (⟨o50⟩:aW)).bind fun r_=>
 dL (((0:Int)≤t9∧t9<(x2.length:Int))∧(gB [((at' x2 t9.toNat),true)]=true→(0:Int)≤t9∧t9<(x22.length:Int))∧(gB [((bif (at' x2 t9.toNat)then(!(at' x22 t9.toNat))else false),true)]=true→(0:Int)≤(at' x12 t9.toNat).a∧(at' x12 t9.toNat).a<(x26.length:Int))∧(gB [((bif (bif (at' x2 t9.toNat)then(!(at' x22 t9.toNat))else false)then(!(at' x26 (((at' x12 t9.toNat).a).toNat)))else false),true)]=true→(0:Int)≤(at' x12 t9.toNat).b∧(at' x12 t9.toNat).b<(x26.length:Int))) (
 some (.next (r_.head,(IntKind.wrap .i64 (t9+1)))))
 else
 dL (((0:Int)≤t9∧t9<(x2.length:Int))∧(gB [((at' x2 t9.toNat),true)]=true→(0:Int)≤t9∧t9<(x22.length:Int))∧(gB [((bif (at' x2 t9.toNat)then(!(at' x22 t9.toNat))else false),true)]=true→(0:Int)≤(at' x12 t9.toNat).a∧(at' x12 t9.toNat).a<(x26.length:Int))∧(gB [((bif (bif (at' x2 t9.toNat)then(!(at' x22 t9.toNat))else false)then(!(at' x26 (((at' x12 t9.toNat).a).toNat)))else false),true)]=true→(0:Int)≤(at' x12 t9.toNat).b∧(at' x12 t9.toNat).b<(x26.length:Int))) (
 some (.next (o50,(IntKind.wrap .i64 (t9+1))))))
 else
 some (.done (.brk o50))
def jF (x1:Int) (x11:(List aj)) (x12:(List aM)) (x13:(List aK)) (x2:(List Bool)) (x21:(List Bool)) (x22:(List Bool)) (x23:(List Bool)) (x24:(List Bool)) (x25:(List Bool)) (x26:(List Bool)) (o_:aW):Option aW:=
 Option.bind (bH (dJ x12 x2 x22 x26) FUEL (o_.head,0)) fun o=>match o with
 | .ret v=>some v
 | .brk o501=>
 some (⟨o501⟩:aW)
def fP (p:au) (s_:ay) (r_1:aW):((List aU) × (List (Int × Int)) × Int)→Option (bn ((List aU) × (List (Int × Int)) × Int) (Ex ((List aU) × (List (Int × Int))) (List aU))):=
 fun zz=>match zz with
 |(out,at_,t32)=>
 bif (decide (t32<p.ax))then
 dL ((0:Int)≤t32∧t32<(s_.aG.length:Int)) (
 bif (at' s_.aG t32.toNat)then
 some (.next (out,at_,(IntKind.wrap .i64 (t32+1))))
 else
 (dB r_1 t32).bind fun r_2=>
 bif (!((dh gm r_2 at_).isSome))then
 dL (((out.length+[(⟨([]:List Int),([]:List Int)⟩:aU)].length)*48≤140737488355328)∧(out.length+[(⟨([]:List Int),([]:List Int)⟩:aU)].length≤4611686018427387904)) (
 dL (((0:Int)≤((dh gm r_2 (dZ gm r_2 (out.length:Int) at_)).getD 0)∧((dh gm r_2 (dZ gm r_2 (out.length:Int) at_)).getD 0)<((out++[(⟨([]:List Int),([]:List Int)⟩:aU)]).length:Int))∧((((at' (out++[(⟨([]:List Int),([]:List Int)⟩:aU)]) (((dh gm r_2 (dZ gm r_2 (out.length:Int) at_)).getD 0).toNat)).ax).length+[t32].length)*8≤140737488355328)∧(((at' (out++[(⟨([]:List Int),([]:List Int)⟩:aU)]) (((dh gm r_2 (dZ gm r_2 (out.length:Int) at_)).getD 0).toNat)).ax).length+[t32].length≤4611686018427387904)) (
 some (.next (((out++[(⟨([]:List Int),([]:List Int)⟩:aU)]).set (((dh gm r_2 (dZ gm r_2 (out.length:Int) at_)).getD 0).toNat) (⟨(((at' (out++[(⟨([]:List Int),([]:List Int)⟩:aU)]) (((dh gm r_2 (dZ gm r_2 (out.length:Int) at_)).getD 0).toNat)).ax)++[t32]),(at' (out++[(⟨([]:List Int),([]:List Int)⟩:aU)]) (((dh gm r_2 (dZ gm r_2 (out.length:Int) at_)).getD 0).toNat)).ai⟩:aU)),(dZ gm r_2 (out.length:Int) at_),(IntKind.wrap .i64 (t32+1))))))
 else
 dL (((0:Int)≤((dh gm r_2 at_).getD 0)∧((dh gm r_2 at_).getD 0)<(out.length:Int))∧((((at' out (((dh gm r_2 at_).getD 0).toNat)).ax).length+[t32].length)*8≤140737488355328)∧(((at' out (((dh gm r_2 at_).getD 0).toNat)).ax).length+[t32].length≤4611686018427387904)) (
 some (.next ((out.set (((dh gm r_2 at_).getD 0).toNat) (⟨(((at' out (((dh gm r_2 at_).getD 0).toNat)).ax)++[t32]),(at' out (((dh gm r_2 at_).getD 0).toNat)).ai⟩:aU)),at_,(IntKind.wrap .i64 (t32+1))))))
 else
 some (.done (.brk (out,at_)))
def fQ (p:au) (s_:ay) (r_1:aW) (at_1:(List (Int × Int))):((List aU) × Int)→Option (bn ((List aU) × Int) (Ex (List aU) (List aU))):=
 fun zz=>match zz with
 |(out2,t78)=>
 bif (decide (t78<(p.ai.length:Int)))then
 dL ((0:Int)≤t78∧t78<(p.ai.length:Int)) (
 dL (((0:Int)≤t78∧t78<(s_.on_.length:Int))∧(gB [((at' s_.on_ t78.toNat),true)]=true→(0:Int)≤t78∧t78<(s_.bL.length:Int))∧(gB [((bif (at' s_.on_ t78.toNat)then(!(at' s_.bL t78.toNat))else false),true)]=true→(0:Int)≤(at' p.ai t78.toNat).bus∧(at' p.ai t78.toNat).bus<(s_.aG.length:Int))) (
 bif (bif (bif (at' s_.on_ t78.toNat)then(!(at' s_.bL t78.toNat))else false)then(!(at' s_.aG (((at' p.ai t78.toNat).bus).toNat)))else false)then
 (dB r_1 ((at' p.ai t78.toNat).bus)).bind fun r_3=>
 dL (((0:Int)≤((dh gm r_3 at_1).getD 0)∧((dh gm r_3 at_1).getD 0)<(out2.length:Int))∧((((at' out2 (((dh gm r_3 at_1).getD 0).toNat)).ai).length+[t78].length)*8≤140737488355328)∧(((at' out2 (((dh gm r_3 at_1).getD 0).toNat)).ai).length+[t78].length≤4611686018427387904)) (
 some (.next ((out2.set (((dh gm r_3 at_1).getD 0).toNat) (⟨(at' out2 (((dh gm r_3 at_1).getD 0).toNat)).ax,(((at' out2 (((dh gm r_3 at_1).getD 0).toNat)).ai)++[t78])⟩:aU)),(IntKind.wrap .i64 (t78+1)))))
 else
 some (.next (out2,(IntKind.wrap .i64 (t78+1))))))
 else
 some (.done (.brk out2))
def kZ (p:au) (s_:ay):Option (List aU):=
 (kT p s_).bind fun r_=>
 (jF r_.1 r_.2.1 r_.2.2.1 r_.2.2.2.1 r_.2.2.2.2.1 r_.2.2.2.2.2.1 r_.2.2.2.2.2.2.1 r_.2.2.2.2.2.2.2.1 r_.2.2.2.2.2.2.2.2.1 r_.2.2.2.2.2.2.2.2.2.1 r_.2.2.2.2.2.2.2.2.2.2 (⟨([]:(List (Int × Int)))⟩:aW)).bind fun r_1=>
 Option.bind (bH (fP p s_ r_1) FUEL (([]:List aU),([]:(List (Int × Int))),0)) fun o=>match o with
 | .ret v=>some v
 | .brk (out1,at_1)=>
 Option.bind (bH (fQ p s_ r_1 at_1) FUEL (out1,0)) fun o=>match o with
 | .ret v=>some v
 | .brk out3=>
 some out3
def lq (p:au) (s_:ay):Option ((List aU) × Int):=
 (dF p s_).bind fun r_=>
 bif (!decide (r_=0))then
 some (([]:List aU),r_)
 else
 (kZ p s_).bind fun r_1=>
 some (r_1,0)
def gH (r_2:Int) (r_4:((List aU) × Int)) (ai:(List Int)) (i:Int):((List Int) × Int)→Option (bn ((List Int) × Int) (Ex (List Int) (bn ((List aj) × (List Int) × Int) (Ex ((List aj) × (List Int)) Bool)))):=
 fun zz=>match zz with
 |(sources2,n)=>
 dL ((0:Int)≤i∧i<(r_4.1.length:Int)) (
 bif (decide (n<(((at' r_4.1 i.toNat).ax).length:Int)))then
 dL (((0:Int)≤i∧i<(r_4.1.length:Int))∧((0:Int)≤n∧n<(((at' r_4.1 i.toNat).ax).length:Int))) (
 bif (decide ((at' ((at' r_4.1 i.toNat).ax) n.toNat)=r_2))then
 dL ((0:Int)≤i∧i<(r_4.1.length:Int)) (
 some (.next ((at' r_4.1 i.toNat).ai,(IntKind.wrap .i64 (n+1)))))
 else
 some (.next (sources2,(IntKind.wrap .i64 (n+1)))))
 else
 some (.done (.brk sources2)))
def gG (r_2:Int) (r_4:((List aU) × Int)):((List aj) × (List Int) × Int)→Option (bn ((List aj) × (List Int) × Int) (Ex ((List aj) × (List Int)) Bool)):=
 fun zz=>match zz with
 |(p1,ai,i)=>
 bif (decide (i<(r_4.1.length:Int)))then
 Option.bind (bH (gH r_2 r_4 ai i) FUEL (ai,0)) fun o=>match o with
 | .ret v=>some v
 | .brk sources3=>
 some (.next (p1,sources3,(IntKind.wrap .i64 (i+1))))
 else
 some (.done (.brk (p1,ai)))
def iM (p:au) (s_:ay) (r_3:((List aA) × Int)) (i1:Int):(Int × Int × Int)→Option (bn (Int × Int × Int) (Ex (Int × Int) (bn Int (Ex Unit Bool)))):=
 fun zz=>match zz with
 |(at_,bU,n1)=>
 dL ((0:Int)≤i1∧i1<(r_3.1.length:Int)) (
 bif (decide (n1<(((at' r_3.1 i1.toNat).af).length:Int)))then
 dL (((0:Int)≤i1∧i1<(r_3.1.length:Int))∧((0:Int)≤n1∧n1<(((at' r_3.1 i1.toNat).af).length:Int))) (
 dL ((gB [((bif (decide ((at' ((at' r_3.1 i1.toNat).af) n1.toNat)<0))then true else(decide ((p.af.length:Int)≤(at' ((at' r_3.1 i1.toNat).af) n1.toNat)))),false)]=true→(0:Int)≤(at' ((at' r_3.1 i1.toNat).af) n1.toNat)∧(at' ((at' r_3.1 i1.toNat).af) n1.toNat)<(s_.bK.length:Int))∧(gB [((bif (bif (decide ((at' ((at' r_3.1 i1.toNat).af) n1.toNat)<0))then true else(decide ((p.af.length:Int)≤(at' ((at' r_3.1 i1.toNat).af) n1.toNat))))then true else(!(at' s_.bK ((at' ((at' r_3.1 i1.toNat).af) n1.toNat).toNat)))),false)]=true→(0:Int)≤(at' ((at' r_3.1 i1.toNat).af) n1.toNat)∧(at' ((at' r_3.1 i1.toNat).af) n1.toNat)<(s_.bG.length:Int))∧(gB [((bif (bif (bif (decide ((at' ((at' r_3.1 i1.toNat).af) n1.toNat)<0))then true else(decide ((p.af.length:Int)≤(at' ((at' r_3.1 i1.toNat).af) n1.toNat))))then true else(!(at' s_.bK ((at' ((at' r_3.1 i1.toNat).af) n1.toNat).toNat))))then true else(at' s_.bG ((at' ((at' r_3.1 i1.toNat).af) n1.toNat).toNat))),false)]=true→(0:Int)≤(at' ((at' r_3.1 i1.toNat).af) n1.toNat)∧(at' ((at' r_3.1 i1.toNat).af) n1.toNat)<(p.af.length:Int))∧(gB [((bif (bif (bif (decide ((at' ((at' r_3.1 i1.toNat).af) n1.toNat)<0))then true else(decide ((p.af.length:Int)≤(at' ((at' r_3.1 i1.toNat).af) n1.toNat))))then true else(!(at' s_.bK ((at' ((at' r_3.1 i1.toNat).af) n1.toNat).toNat))))then true else(at' s_.bG ((at' ((at' r_3.1 i1.toNat).af) n1.toNat).toNat))),false)]=true→(0:Int)≤(at' p.af ((at' ((at' r_3.1 i1.toNat).af) n1.toNat).toNat)).a∧(at' p.af ((at' ((at' r_3.1 i1.toNat).af) n1.toNat).toNat)).a<(s_.aG.length:Int))∧(gB [((bif (bif (bif (bif (decide ((at' ((at' r_3.1 i1.toNat).af) n1.toNat)<0))then true else(decide ((p.af.length:Int)≤(at' ((at' r_3.1 i1.toNat).af) n1.toNat))))then true else(!(at' s_.bK ((at' ((at' r_3.1 i1.toNat).af) n1.toNat).toNat))))then true else(at' s_.bG ((at' ((at' r_3.1 i1.toNat).af) n1.toNat).toNat)))then true else(at' s_.aG (((at' p.af ((at' ((at' r_3.1 i1.toNat).af) n1.toNat).toNat)).a).toNat))),false)]=true→(0:Int)≤(at' ((at' r_3.1 i1.toNat).af) n1.toNat)∧(at' ((at' r_3.1 i1.toNat).af) n1.toNat)<(p.af.length:Int))∧(gB [((bif (bif (bif (bif (decide ((at' ((at' r_3.1 i1.toNat).af) n1.toNat)<0))then true else(decide ((p.af.length:Int)≤(at' ((at' r_3.1 i1.toNat).af) n1.toNat))))then true else(!(at' s_.bK ((at' ((at' r_3.1 i1.toNat).af) n1.toNat).toNat))))then true else(at' s_.bG ((at' ((at' r_3.1 i1.toNat).af) n1.toNat).toNat)))then true else(at' s_.aG (((at' p.af ((at' ((at' r_3.1 i1.toNat).af) n1.toNat).toNat)).a).toNat))),false)]=true→(0:Int)≤(at' p.af ((at' ((at' r_3.1 i1.toNat).af) n1.toNat).toNat)).b∧(at' p.af ((at' ((at' r_3.1 i1.toNat).af) n1.toNat).toNat)).b<(s_.aG.length:Int))∧(gB [((bif (bif (bif (bif (bif (decide ((at' ((at' r_3.1 i1.toNat).af) n1.toNat)<0))then true else(decide ((p.af.length:Int)≤(at' ((at' r_3.1 i1.toNat).af) n1.toNat))))then true else(!(at' s_.bK ((at' ((at' r_3.1 i1.toNat).af) n1.toNat).toNat))))then true else(at' s_.bG ((at' ((at' r_3.1 i1.toNat).af) n1.toNat).toNat)))then true else(at' s_.aG (((at' p.af ((at' ((at' r_3.1 i1.toNat).af) n1.toNat).toNat)).a).toNat)))then true else(at' s_.aG (((at' p.af ((at' ((at' r_3.1 i1.toNat).af) n1.toNat).toNat)).b).toNat))),false)]=true→(0:Int)≤(at' ((at' r_3.1 i1.toNat).af) n1.toNat)∧(at' ((at' r_3.1 i1.toNat).af) n1.toNat)<(p.af.length:Int))∧(gB [((!decide (((at' p.af ((at' ((at' r_3.1 i1.toNat).af) n1.toNat).toNat)).a)=at_)),true),((bif (bif (bif (bif (bif (decide ((at' ((at' r_3.1 i1.toNat).af) n1.toNat)<0))then true else(decide ((p.af.length:Int)≤(at' ((at' r_3.1 i1.toNat).af) n1.toNat))))then true else(!(at' s_.bK ((at' ((at' r_3.1 i1.toNat).af) n1.toNat).toNat))))then true else(at' s_.bG ((at' ((at' r_3.1 i1.toNat).af) n1.toNat).toNat)))then true else(at' s_.aG (((at' p.af ((at' ((at' r_3.1 i1.toNat).af) n1.toNat).toNat)).a).toNat)))then true else(at' s_.aG (((at' p.af ((at' ((at' r_3.1 i1.toNat).af) n1.toNat).toNat)).b).toNat))),false)]=true→(0:Int)≤(at' ((at' r_3.1 i1.toNat).af) n1.toNat)∧(at' ((at' r_3.1 i1.toNat).af) n1.toNat)<(p.af.length:Int))) (
 bif (bif (bif (bif (bif (bif (bif (decide ((at' ((at' r_3.1 i1.toNat).af) n1.toNat)<0))then true else(decide ((p.af.length:Int)≤(at' ((at' r_3.1 i1.toNat).af) n1.toNat))))then true else(!(at' s_.bK ((at' ((at' r_3.1 i1.toNat).af) n1.toNat).toNat))))then true else(at' s_.bG ((at' ((at' r_3.1 i1.toNat).af) n1.toNat).toNat)))then true else(at' s_.aG (((at' p.af ((at' ((at' r_3.1 i1.toNat).af) n1.toNat).toNat)).a).toNat)))then true else(at' s_.aG (((at' p.af ((at' ((at' r_3.1 i1.toNat).af) n1.toNat).toNat)).b).toNat)))then true else(bif (!decide (((at' p.af ((at' ((at' r_3.1 i1.toNat).af) n1.toNat).toNat)).a)=at_))then(!decide (((at' p.af ((at' ((at' r_3.1 i1.toNat).af) n1.toNat).toNat)).b)=at_))else false))then
 some (.done (.ret (.done (.ret false))))
 else
 dL ((0:Int)≤(at' ((at' r_3.1 i1.toNat).af) n1.toNat)∧(at' ((at' r_3.1 i1.toNat).af) n1.toNat)<(p.af.length:Int)) (
 dL ((0:Int)≤(at' ((at' r_3.1 i1.toNat).af) n1.toNat)∧(at' ((at' r_3.1 i1.toNat).af) n1.toNat)<(p.af.length:Int)) (
 some (.next ((IntKind.wrap .i64 ((IntKind.wrap .i64 (((at' p.af ((at' ((at' r_3.1 i1.toNat).af) n1.toNat).toNat)).a)+((at' p.af ((at' ((at' r_3.1 i1.toNat).af) n1.toNat).toNat)).b))) - at_)),(IntKind.wrap .i64 (bU+((at' p.af ((at' ((at' r_3.1 i1.toNat).af) n1.toNat).toNat)).bU))),(IntKind.wrap .i64 (n1+1))))))))
 else
 some (.done (.brk (at_,bU))))
def iO (p:au) (s_:ay) (bus:Int) (r_2:Int) (r_3:((List aA) × Int)) (p11:(List aj)) (sources1:(List Int)):Int→Option (bn Int (Ex Unit Bool)):=
 fun i1=>
 bif (decide (i1<(r_3.1.length:Int)))then
 dL (((0:Int)≤i1∧i1<(r_3.1.length:Int))∧((0:Int)≤i1∧i1<(sources1.length:Int))∧(gB [((!decide (((at' r_3.1 i1.toNat).source)=(at' sources1 i1.toNat))),false)]=true→(0:Int)≤i1∧i1<(r_3.1.length:Int))∧(gB [((bif (!decide (((at' r_3.1 i1.toNat).source)=(at' sources1 i1.toNat)))then true else(decide (((at' r_3.1 i1.toNat).bU)<1))),false)]=true→(0:Int)≤i1∧i1<(r_3.1.length:Int))∧(gB [((bif (bif (!decide (((at' r_3.1 i1.toNat).source)=(at' sources1 i1.toNat)))then true else(decide (((at' r_3.1 i1.toNat).bU)<1)))then true else(decide (((at' r_3.1 i1.toNat).amps)<1))),false)]=true→(0:Int)≤i1∧i1<(r_3.1.length:Int))∧(gB [((bif (bif (bif (!decide (((at' r_3.1 i1.toNat).source)=(at' sources1 i1.toNat)))then true else(decide (((at' r_3.1 i1.toNat).bU)<1)))then true else(decide (((at' r_3.1 i1.toNat).amps)<1)))then true else(decide ((IntKind.wrap .i64 (((at' r_3.1 i1.toNat).amps)*((at' r_3.1 i1.toNat).bU)))<400000))),false)]=true→(0:Int)≤i1∧i1<(r_3.1.length:Int))) (
 bif (bif (bif (bif (bif (!decide (((at' r_3.1 i1.toNat).source)=(at' sources1 i1.toNat)))then true else(decide (((at' r_3.1 i1.toNat).bU)<1)))then true else(decide (((at' r_3.1 i1.toNat).amps)<1)))then true else(decide ((IntKind.wrap .i64 (((at' r_3.1 i1.toNat).amps)*((at' r_3.1 i1.toNat).bU)))<400000)))then true else(decide (400000≤(IntKind.wrap .i64 ((IntKind.wrap .i64 (((at' r_3.1 i1.toNat).amps) - 1))*((at' r_3.1 i1.toNat).bU))))))then
 some (.done (.ret false))
 else
 dL (((0:Int)≤i1∧i1<(r_3.1.length:Int))∧((0:Int)≤(at' r_3.1 i1.toNat).source∧(at' r_3.1 i1.toNat).source<(p11.length:Int))) (
 Option.bind (bH (iM p s_ r_3 i1) FUEL ((at' p11 (((at' r_3.1 i1.toNat).source).toNat)).bus,(at' p11 (((at' r_3.1 i1.toNat).source).toNat)).bU,0)) fun o=>match o with
 | .ret v=>some v
 | .brk (at_1,ohm1)=>
 dL (gB [((!decide (at_1=r_2)),false)]=true→(0:Int)≤i1∧i1<(r_3.1.length:Int)) (
 bif (bif (!decide (at_1=r_2))then true else(!decide (ohm1=((at' r_3.1 i1.toNat).bU))))then
 some (.done (.ret false))
 else
 some (.next (IntKind.wrap .i64 (i1+1))))))
 else
 some (.done (.brk ()))
def iJ (p:au) (r_3:((List aA) × Int)) (k:Int) (r_5:((List aA) × Int)):Int→Option (bn Int (Ex Unit (bn Int (Ex Unit Bool)))):=
 fun i2=>
 bif (decide (i2<(r_3.1.length:Int)))then
 dL (((0:Int)≤i2∧i2<(r_5.1.length:Int))∧((0:Int)≤i2∧i2<(r_3.1.length:Int))∧(gB [((decide ((IntKind.wrap .i64 (((at' r_3.1 i2.toNat).bU)+((at' p.af k.toNat).bU)))<((at' r_5.1 i2.toNat).bU))),false)]=true→(0:Int)≤i2∧i2<(r_3.1.length:Int))∧(gB [((decide ((IntKind.wrap .i64 (((at' r_3.1 i2.toNat).bU)+((at' p.af k.toNat).bU)))<((at' r_5.1 i2.toNat).bU))),false)]=true→(0:Int)≤i2∧i2<(r_5.1.length:Int))) (
 bif (bif (decide ((IntKind.wrap .i64 (((at' r_3.1 i2.toNat).bU)+((at' p.af k.toNat).bU)))<((at' r_5.1 i2.toNat).bU)))then true else(decide ((IntKind.wrap .i64 (((at' r_5.1 i2.toNat).bU)+((at' p.af k.toNat).bU)))<((at' r_3.1 i2.toNat).bU))))then
 some (.done (.ret (.done (.ret false))))
 else
 some (.next (IntKind.wrap .i64 (i2+1))))
 else
 some (.done (.brk ()))
def iI (p:au) (s_:ay) (r_2:Int) (r_3:((List aA) × Int)) (p11:(List aj)):Int→Option (bn Int (Ex Unit Bool)):=
 fun k=>
 bif (decide (k<(p.af.length:Int)))then
 dL ((0:Int)≤k∧k<(p.af.length:Int)) (
 dL (((0:Int)≤k∧k<(s_.bK.length:Int))∧(gB [((!(at' s_.bK k.toNat)),false)]=true→(0:Int)≤k∧k<(s_.bG.length:Int))∧(gB [((bif (!(at' s_.bK k.toNat))then true else(at' s_.bG k.toNat)),false)]=true→(0:Int)≤(at' p.af k.toNat).a∧(at' p.af k.toNat).a<(s_.aG.length:Int))∧(gB [((bif (bif (!(at' s_.bK k.toNat))then true else(at' s_.bG k.toNat))then true else(at' s_.aG (((at' p.af k.toNat).a).toNat))),false)]=true→(0:Int)≤(at' p.af k.toNat).b∧(at' p.af k.toNat).b<(s_.aG.length:Int))) (
 bif (bif (bif (bif (bif (!(at' s_.bK k.toNat))then true else(at' s_.bG k.toNat))then true else(at' s_.aG (((at' p.af k.toNat).a).toNat)))then true else(at' s_.aG (((at' p.af k.toNat).b).toNat)))then true else(bif (!decide (((at' p.af k.toNat).a)=r_2))then(!decide (((at' p.af k.toNat).b)=r_2))else false))then
 some (.next (IntKind.wrap .i64 (k+1)))
 else
 (fF (⟨p.ax,p11,p.af,p.aF⟩:au) s_ (IntKind.wrap .i64 ((IntKind.wrap .i64 (((at' p.af k.toNat).a)+((at' p.af k.toNat).b))) - r_2))).bind fun r_5=>
 bif (bif (!decide (r_5.2=0))then true else(!decide ((r_5.1.length:Int)=(r_3.1.length:Int))))then
 some (.done (.ret false))
 else
 Option.bind (bH (iJ p r_3 k r_5) FUEL (0)) fun o=>match o with
 | .ret v=>some v
 | .brk _=>
 some (.next (IntKind.wrap .i64 (k+1)))))
 else
 some (.done (.brk ()))
def ku (p:au) (s_:ay) (bus:Int):Option Bool:=
 (bif gB [((bif (bif (decide (60<(p.ai.length:Int)))then true else(decide (60<(p.af.length:Int))))then true else(decide (60<(p.aF.length:Int)))),false)]then dF p s_ else some default).bind fun r_=>
 bif (bif (bif (bif (decide (60<(p.ai.length:Int)))then true else(decide (60<(p.af.length:Int))))then true else(decide (60<(p.aF.length:Int))))then true else(!decide (r_=0)))then
 (oC).bind fun r_1=>
 some r_1
 else
 (wz bus p.ax).bind fun r_2=>
 (fF p s_ r_2).bind fun r_3=>
 (lq p s_).bind fun r_4=>
 bif (bif (!decide (r_3.2=0))then true else(!decide (r_4.2=0)))then
 some false
 else
 Option.bind (bH (gG r_2 r_4) FUEL (p.ai,([]:List Int),0)) fun o=>match o with
 | .ret v=>some v
 | .brk (p11,sources1)=>
 bif (!decide ((r_3.1.length:Int)=(sources1.length:Int)))then
 some false
 else
 Option.bind (bH (iO p s_ bus r_2 r_3 p11 sources1) FUEL (0)) fun o=>match o with
 | .ret v=>some v
 | .brk _=>
 Option.bind (bH (iI p s_ r_2 r_3 p11) FUEL (0)) fun o=>match o with
 | .ret v=>some v
 | .brk _=>
 (oC).bind fun r_6=>
 some r_6
end Sg
